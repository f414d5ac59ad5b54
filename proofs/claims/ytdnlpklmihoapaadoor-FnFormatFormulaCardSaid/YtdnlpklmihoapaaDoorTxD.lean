/- The reference's texts of formulas and graphs, in memory: contracts. Conditions: bounds. -/
import Derived.Test.YtdnlpklmihoapaaDoorTxC
import Derived.Test.YtdnlpklmihoapaaDoorPlJ
import Derived.Test.YtdnlpklmihoapaaDoorSpecThree
namespace Go.Proofs.YtdnlpklmihoapaaDoor
open Go.RowKit
theorem fldF (A : Option Addr) (n c : Nat) (w : World) : (Instr.field 39 (.agg #[.slice A n c]) 0).run Tryd.prog w = .ok (.slice A n c) w := by kernel_rfl
theorem ts_fit {a b : Sg.Txt} (h : a.length + b.length ≤ 2000) : ¬ ((ts a).size + (ts b).size > 9223372036854775807) := by rw [ts_size, ts_size]; omega
set_option maxRecDepth 100000 in
set_option maxHeartbeats 1000000 in
theorem s_ordered (A : Option Addr) (c : Nat) (f : List Sg.Part) (w : World) (hv : Sg.validF f = true) (h : Rd w 5 A f.length (parts f)) :
  Calls Tryd.prog 63 #[.agg #[.slice A f.length c], .int .i64 ((f.length : Int) - 1)] w fun e w' => ∃ A1 c1, e = .returned (.agg #[.slice A1 (Sg.orderF f).length c1]) ∧ Ext w w' ∧
   Own w' w.heap.size 73 5 A1 (Sg.orderF f).length c1 (parts (Sg.orderF f)) := by
 have hl := Sg.validF_len hv
 have hi : ((f.length - 1 : Nat) : Int) = (f.length : Int) - 1 := by omega
 have hO : Sg.orderF f = Sg.postF f f.length ((f.length - 1 : Nat) : Int) [] := by rw [hi]; unfold Sg.orderF; rw [if_pos hv]
 have hz := Sg.tree_size hv
 rw [← hi] at hz
 have HP := lh fun Ao co rs w' => s_post w A c f (Sg.validF_goods hv) h f.length (f.length - 1) [] Ao co rs w' (by omega) (by omega) (by simp; omega)
 rw [← hO, hi] at HP
 clear hz hO hi h hv
 generalize Sg.orderF f = l at *
 go_enter Tryd.func63, Tryd.ntmps63
 go_wp2_with fail
 have S1 := Sep.add (B := w.heap.size) (ts := []) (W := World.alloc w (.cells #[.slice A f.length c] 39)) trivial ((Ext.rfl' _).al (.cells #[.slice none 0 0] 39)) (Th.box w.heap.size (w.heap.size + 1) [.slice none 0 0]) ⟨by have := Bx.new (World.alloc w (.cells #[.slice A f.length c] 39)) #[.slice none 0 0] 39; simpa [go_sem] using this, by omega⟩ (fun b e => by have e2 : b = w.heap.size + 1 := e; simp [go_sem]; omega)
 have S2 := Sep.add S1 ((Ext.rfl' _).al (.cells #[] 73)) (Th.own w.heap.size 73 5 (some ⟨w.heap.size + 1 + 1, 0, none⟩) 0 0 (parts [])) (by have := Own.new (World.alloc (World.alloc w (.cells #[.slice A f.length c] 39)) (.cells #[.slice none 0 0] 39)) (B := w.heap.size) 73 5 #[] 0 (by simp [go_sem]; omega) (by decide) rfl; show Own _ _ _ _ _ 0 0 []; simpa [go_sem] using this) (fun b e => by simp [Th.own, blk] at e; simp [go_sem]; omega)
 refine (HP.out _ 0 _ _ ((((Ext.rfl' w).al _).al _).al _) S2).mono ?_
 rintro e w2 ⟨A1, c1, rfl, he, hS⟩
 have HE := lh he
 have HS := lh hS
 have hb : Bx w2 (w.heap.size + 1) [.slice none 0 0] := (Sep.get hS 1 rfl : Bx _ _ _ ∧ _).1
 have q0 := hb.cell (j := 0) rfl
 have f0 := hb.free 0
 have l0 := hb.lt
 clear S1 S2 he hS hb
 go_wp2
 have hS2 := Sep.st HS.out 1 rfl ⟨w.heap.size + 1, 0, none⟩ (.slice A1 l.length c1) rfl (Th.box w.heap.size (w.heap.size + 1) [.slice A1 l.length c1]) ⟨(Sep.get HS.out 1 rfl : Bx _ _ _ ∧ _).1.set 0 _, by omega⟩ (fun _ e => e)
 have s0 := ((Sep.get hS2 1 rfl : Bx _ _ _ ∧ _).1).cell (j := 0) rfl
 have hE2 := HE.out.set (p := ⟨w.heap.size + 1, 0, none⟩) (by simp) (.slice A1 l.length c1)
 refine bodyPost_ret (v := .agg #[.slice A1 l.length c1]) (by simp [results, Tryd.results63, go_sem, s0]; try rfl) rfl ?_
 exact ⟨A1, c1, rfl, hE2, Sep.get hS2 0 rfl⟩

set_option maxRecDepth 100000 in
set_option maxHeartbeats 1000000 in
theorem s_showFormula (A : Option Addr) (c : Nat) (f : List Sg.Part) (w : World) (hv : Sg.validF f = true) (h : Rd w 5 A f.length (parts f)) :
  Calls Tryd.prog 30 #[.agg #[.slice A f.length c]] w fun e w' => e = .returned (.string (ts (Sg.fmtF f))) ∧ Ext w w' := by
 have hl := Sg.validF_len hv
 have HF := lh (Sg.fmtF_to hv)
 have HOK := lh (Sg.order_ok hv)
 have HLN := lh (Sg.fmtTo_len (Sg.order_ok hv))
 have hol := Sg.order_len hv
 have HO := lh fun w' (e : Ext w w') => s_ordered A c f w' hv (h.ext e)
 have iw : IntKind.i64.wrap ((f.length : Int) - 1) = (f.length : Int) - 1 := IntWalk.i64_in _ (by omega)
 clear h hv
 generalize Sg.orderF f = l at *
 go_enter Tryd.func30, Tryd.ntmps30
 go_wp2_with fail
 refine (HO.out _ ((Ext.rfl' w).al _)).mono ?_
 rintro e w2 ⟨A1, c1, rfl, he, hown⟩
 have E := lh (((Ext.rfl' w).al _).tr he)
 have HR := lh hown.rd
 clear he hown
 have hfd := fun w => fldF A1 l.length c1 w
 rw [hol] at hfd
 go_wp2_with fail
 go_loopw [3, 5] (fun s3 s5 wr => ∃ j : Nat, j ≤ l.length ∧ s3 = .string (ts (Sg.fmtTo l j)) ∧ s5 = .int .i64 j ∧ Hid (Ext w wr) ∧ Hid (Rd wr 5 A1 l.length (parts l))) (fun _ s5 _ => l.length - (intOf s5).toNat)
 case atStart => exact ⟨0, Nat.zero_le _, rfl, rfl, E, HR⟩
 case round =>
  clear E HR
  obtain ⟨j, hj, rfl, rfl, E, HR⟩ := hrel
  by_cases hlt : j < l.length
  ·obtain ⟨b, o, p, hAe, hp, h0, h1, h2, h3, h4⟩ := HR.out.atP hlt
   subst hAe
   have HSP := lh fun w => s_showPart p (HOK.out p (List.mem_of_getElem? hp)) w
   have bh0 := blt h0
   have bh1 := blt h1
   have bh2 := blt h2
   have bh3 := blt h3
   have bh4 := blt h4
   have hln := HLN.out j
   have hpl := Sg.partT_len (HOK.out p (List.mem_of_getElem? hp))
   have hjx : (j : Int) < (l.length : Int) := by omega
   by_cases hz : 0 < j
   ·have hzx : (j : Int) > 0 := by omega
    have hT := lh (Sg.fmtTo_succ hp hz)
    have s1 := ts_fit (a := Sg.fmtTo l j) (b := [32]) (by simp; omega)
    have s2 := ts_fit (a := Sg.fmtTo l j ++ [32]) (b := Sg.partT p) (by simp; omega)
    rw [← ts_app] at s2
    clear hp
    generalize Sg.fmtTo l j = x at *
    obtain ⟨pk, pa, pb, pc, pn⟩ := p
    dsimp only at *
    go_wp2_with fail
    refine (HSP.out _).mono ?_
    rintro e w3 ⟨rfl, he3⟩
    have E3 := lh (E.out.tr he3)
    have HR3 := lh (HR.out.ext he3)
    clear he3 h0 h1 h2 h3 h4 bh0 bh1 bh2 bh3 bh4
    go_wp2
    go_roundw
    case rel => exact ⟨j + 1, by omega, by rw [hT.out, ← ts_app, ← ts_app], by go_num, E3, HR3⟩
    case measure => simp [intOf]; omega
   ·have hzx : ¬ (j : Int) > 0 := by omega
    have hT : Hid (Sg.fmtTo l (j + 1) = Sg.fmtTo l j ++ Sg.partT p) := by
     obtain rfl : j = 0 := by omega
     exact lh (Sg.fmtTo_one hp)
    have s2 := ts_fit (a := Sg.fmtTo l j) (b := Sg.partT p) (by omega)
    clear hp
    generalize Sg.fmtTo l j = x at *
    obtain ⟨pk, pa, pb, pc, pn⟩ := p
    dsimp only at *
    go_wp2_with fail
    refine (HSP.out _).mono ?_
    rintro e w3 ⟨rfl, he3⟩
    have E3 := lh (E.out.tr he3)
    have HR3 := lh (HR.out.ext he3)
    clear he3 h0 h1 h2 h3 h4 bh0 bh1 bh2 bh3 bh4
    go_wp2
    go_roundw
    case rel => exact ⟨j + 1, by omega, by rw [hT.out, ← ts_app], by go_num, E3, HR3⟩
    case measure => simp [intOf]; omega
  ·obtain rfl : j = l.length := by omega
   go_wp2
   go_ret
   exact ⟨by rw [HF.out]; rfl, E.out⟩

set_option maxRecDepth 100000 in
set_option maxHeartbeats 1000000 in
theorem s_FormatFormula (A : Option Addr) (c : Nat) (f : List Sg.Part) (w : World) (h : Rd w 5 A f.length (parts f)) (hb : f.length ≤ 1048576) :
  Calls Tryd.prog 16 #[.agg #[.slice A f.length c]] w fun e w' => e = .returned (.string (ts (Sg.fmtF f))) ∧ Ext w w' := by
 have HV := lh fun w' (e : Ext w w') => s_validFormula A c f w' (h.ext e) hb
 have e0 := (Ext.rfl' w).al (.cells #[.slice A f.length c] 39)
 have E0 := lh e0
 have HR := lh h
 have q0 : World.cell? (World.alloc w (.cells #[.slice A f.length c] 39)) ⟨w.heap.size, 0, none⟩ = some (.slice A f.length c) := by simp [go_sem]
 clear h e0
 cases hv : Sg.validF f
 ·have HN : Hid (Sg.fmtF f = []) := lh (by unfold Sg.fmtF; rw [if_neg (by rw [hv]; decide)])
  have HVF := lh hv
  clear hv q0
  go_enter Tryd.func16, Tryd.ntmps16
  go_wp2_with fail
  refine (HV.out _ E0.out).mono ?_
  rintro e w2 ⟨rfl, he⟩
  rw [HVF.out]
  go_wp2
  go_ret
  exact ⟨by rw [HN.out]; rfl, E0.out.tr he⟩
 ·have HS := lh fun w' (e : Ext w w') => s_showFormula A c f w' hv (HR.out.ext e)
  have HVF := lh hv
  have Q0 := lh q0
  clear hv q0
  go_enter Tryd.func16, Tryd.ntmps16
  go_wp2_with fail
  refine (HV.out _ E0.out).mono ?_
  rintro e w2 ⟨rfl, he⟩
  rw [HVF.out]
  have E2 := lh (E0.out.tr he)
  have q2 := he.cellE Q0.out
  have bq2 := blt q2
  clear he
  go_wp2_with fail
  refine (HS.out _ E2.out).mono ?_
  rintro e w3 ⟨rfl, he3⟩
  go_wp2
  go_ret
  exact ⟨rfl, E2.out.tr he3⟩

set_option maxRecDepth 100000 in
set_option maxHeartbeats 2000000 in
theorem s_FormatGraph (A Ac : Option Addr) (c cc : Nat) (g : Sg.Graph) (l : List Int) (w : World) (h : RdN w A g) (hc : Rd w 1 Ac l.length (ints l)) :
  Calls Tryd.prog 8 #[.agg #[.slice A g.length c], .slice Ac l.length cc] w fun e w' => e = .returned (.string (ts (Sg.fmtG g l))) ∧ Ext w w' := by
 have hgl := h.1
 have hll := hc.big
 have HVG := lh fun w' (e : Ext w w') => s_validGraph A c g w' (h.ext e)
 have HVC := lh fun w' (e : Ext w w') => s_validCells A Ac c cc g l w' (h.ext e) (hc.ext e)
 have e0 := (Ext.rfl' w).al (.cells #[.slice A g.length c] 30)
 have E0 := lh e0
 have q0 : World.cell? (World.alloc w (.cells #[.slice A g.length c] 30)) ⟨w.heap.size, 0, none⟩ = some (.slice A g.length c) := by simp [go_sem]
 have Q0 := lh q0
 have H := lh h
 have HC := lh hc
 clear h hc e0 q0
 cases hv : Sg.validG g
 ·have HN : Hid (Sg.fmtG g l = []) := lh (Sg.fmtG_no (by rw [hv]; rfl))
  have HV := lh hv
  clear hv
  go_enter Tryd.func8, Tryd.ntmps8
  go_wp2_with fail
  refine (HVG.out _ E0.out).mono ?_
  rintro e w2 ⟨rfl, he⟩
  rw [HV.out]
  go_wp2
  go_ret
  exact ⟨by rw [HN.out]; rfl, E0.out.tr he⟩
 ·have HV := lh hv
  cases hw : Sg.validC g l
  ·have HN : Hid (Sg.fmtG g l = []) := lh (Sg.fmtG_no (by rw [hv, hw]; rfl))
   have HW := lh hw
   clear hv hw
   go_enter Tryd.func8, Tryd.ntmps8
   go_wp2_with fail
   refine (HVG.out _ E0.out).mono ?_
   rintro e w2 ⟨rfl, he⟩
   rw [HV.out]
   have E2 := lh (E0.out.tr he)
   have q2 := he.cellE Q0.out
   have bq2 := blt q2
   clear he
   go_wp2_with fail
   refine (HVC.out _ E2.out).mono ?_
   rintro e w3 ⟨rfl, he3⟩
   rw [HW.out]
   go_wp2
   go_ret
   exact ⟨by rw [HN.out]; rfl, E2.out.tr he3⟩
  ·have HF := lh (Sg.fmtG_yes hv hw)
   have hg10 := Sg.validG_ten hv
   have hlen := Sg.validC_len hw
   have HR := lh (Sg.validC_range hw)
   have HNC := lh fun (i : Nat) (n : Sg.Node) (hn : g[i]? = some n) => Sg.node_cases hv hn
   have HLS := lh fun (i : Nat) (n : Sg.Node) (x : Int) (hn : g[i]? = some n) (hx : l[i]? = some x) => Sg.linesTo_succ hlen hn hx
   have HLN := lh (Sg.linesTo_len hlen (fun x hx => (Sg.validC_range hw x hx).2))
   have HW := lh hw
   have HLE := lh hlen
   clear hv hw hlen
   go_enter Tryd.func8, Tryd.ntmps8
   go_wp2_with fail
   refine (HVG.out _ E0.out).mono ?_
   rintro e w2 ⟨rfl, he⟩
   rw [HV.out]
   have E2 := lh (E0.out.tr he)
   have q2 := he.cellE Q0.out
   have Q2 := lh q2
   have bq2 := blt q2
   clear he
   go_wp2_with fail
   refine (HVC.out _ E2.out).mono ?_
   rintro e w3 ⟨rfl, he3⟩
   rw [HW.out]
   have E3 := lh (E2.out.tr he3)
   have Q3 := lh (he3.cellE Q2.out)
   clear he3 q2 bq2 E2 Q2 E0 Q0
   go_wp2_with fail
   go_loopw [5, 6] (fun s5 s6 wr => ∃ j : Nat, j ≤ g.length ∧ s5 = .string (ts (Sg.linesTo g l j)) ∧ s6 = .int .i64 j ∧ Hid (Ext w wr) ∧ Hid (wr.cell? ⟨w.heap.size, 0, none⟩ = some (.slice A g.length c))) (fun _ s6 _ => g.length - (intOf s6).toNat)
   case atStart => exact ⟨0, Nat.zero_le _, rfl, rfl, E3, Q3⟩
   case round =>
    clear E3 Q3
    obtain ⟨j, hj, rfl, rfl, E, Q⟩ := hrel
    have q := Q.out
    have bq := blt q
    by_cases hlt : j < g.length
    ·obtain ⟨⟨nk, nf⟩, b, o, Ap, cp, hn, rfl, hkc, hs, hf, hfl⟩ := (H.out.ext E.out).at_ hlt
     obtain ⟨bc, oc, x, rfl, hx, hxc⟩ := (HC.out.ext E.out).at1 (show j < l.length by have := HLE.out; omega)
     have hxr := HR.out x (List.mem_of_getElem? hx)
     obtain ⟨y, rfl⟩ := Int.eq_ofNat_of_zero_le hxr.1
     have hjx : (j : Int) < (g.length : Int) := by omega
     have hjy : (j : Int) < (l.length : Int) := by have := HLE.out; omega
     have hln := HLN.out j
     have HT := lh (HLS.out j _ _ hn hx)
     have hnc := HNC.out j _ hn
     have hfm := Sg.fmtF_len nf
     have hyl := Sg.numT_len (n := y) (by omega)
     have HNU := lh fun w => s_number y (by omega) w
     have HSF := lh fun (hv : Sg.validF nf = true) w' (e : Ext wr w') => s_showFormula Ap cp nf w' hv (hf.ext e)
     clear hn hx hxr hf
     dsimp only at hnc hkc hs hfl
     have b1 := blt hkc
     have b2 := blt hs
     have b3 := blt hxc
     generalize Sg.linesTo g l j = x at *
     rcases hnc with ⟨rfl, hnf⟩ | ⟨rfl | rfl, hvf⟩
     ·have hL := lh (Sg.lineT_cell (n := ⟨0, nf⟩) rfl (y : Int))
      have s1 := ts_fit (a := x) (b := Sg.cellW ++ [32]) (by simp [Sg.cellW]; omega)
      have s2 := ts_fit (a := x ++ (Sg.cellW ++ [32])) (b := Sg.numT y) (by simp [Sg.cellW]; omega)
      have s3 := ts_fit (a := x ++ (Sg.cellW ++ [32]) ++ Sg.numT y) (b := [10]) (by simp [Sg.cellW]; omega)
      rw [← ts_app, ← ts_app] at s3
      rw [← ts_app] at s2
      go_wp2_with fail
      refine (HNU.out _).mono ?_
      rintro e w4 ⟨rfl, rfl⟩
      go_wp2
      go_roundw
      case rel => exact ⟨j + 1, by omega, by rw [HT.out, hL.out, ← ts_app, ← ts_app]; simp [← ts_app, ByteArray.append_assoc]; rfl, by go_num, E, Q⟩
      case measure => simp [intOf]; omega
     ·have hL := lh (Sg.lineT_der (n := ⟨1, nf⟩) rfl (y : Int))
      have s1 := ts_fit (a := x) (b := Sg.derW ++ [32]) (by simp [Sg.derW]; omega)
      have s2 := ts_fit (a := x ++ (Sg.derW ++ [32])) (b := Sg.fmtF nf) (by simp [Sg.derW]; omega)
      have s3 := ts_fit (a := x ++ (Sg.derW ++ [32]) ++ Sg.fmtF nf) (b := [10]) (by simp [Sg.derW]; omega)
      rw [← ts_app, ← ts_app] at s3
      rw [← ts_app] at s2
      go_wp2_with fail
      refine (HSF.out hvf _ (Ext.rfl' _)).mono ?_
      rintro e w4 ⟨rfl, he4⟩
      have E4 := lh (E.out.tr he4)
      have Q4 := lh (he4.cellE Q.out)
      clear he4
      go_wp2
      go_roundw
      case rel => exact ⟨j + 1, by omega, by rw [HT.out, hL.out, ← ts_app, ← ts_app]; simp [← ts_app, ByteArray.append_assoc]; rfl, by go_num, E4, Q4⟩
      case measure => simp [intOf]; omega
     ·have hL := lh (Sg.lineT_eff (n := ⟨2, nf⟩) rfl (y : Int))
      have s1 := ts_fit (a := x) (b := Sg.effW ++ [32]) (by simp [Sg.effW]; omega)
      have s2 := ts_fit (a := x ++ (Sg.effW ++ [32])) (b := Sg.fmtF nf) (by simp [Sg.effW]; omega)
      have s3 := ts_fit (a := x ++ (Sg.effW ++ [32]) ++ Sg.fmtF nf) (b := [10]) (by simp [Sg.effW]; omega)
      rw [← ts_app, ← ts_app] at s3
      rw [← ts_app] at s2
      go_wp2_with fail
      refine (HSF.out hvf _ (Ext.rfl' _)).mono ?_
      rintro e w4 ⟨rfl, he4⟩
      have E4 := lh (E.out.tr he4)
      have Q4 := lh (he4.cellE Q.out)
      clear he4
      go_wp2
      go_roundw
      case rel => exact ⟨j + 1, by omega, by rw [HT.out, hL.out, ← ts_app, ← ts_app]; simp [← ts_app, ByteArray.append_assoc]; rfl, by go_num, E4, Q4⟩
      case measure => simp [intOf]; omega
    ·obtain rfl : j = g.length := by omega
     go_wp2
     go_ret
     exact ⟨by rw [HF.out]; rfl, E.out⟩
end Go.Proofs.YtdnlpklmihoapaaDoor
