/- The program's reach and MayRun with its function values: contracts. Conditions: bounds on lengths; for reach a valid graph. -/
import Derived.Test.YtmkfjnkdaeoppaaGreatTy
import Derived.Test.YtmkfjnkdaeoppaaGreatImplS
import Derived.Test.YtmkfjnkdaeoppaaGreatImplTwo
import Derived.Test.YtmkfjnkdaeoppaaGreatModelT
import Derived.Test.YtmkfjnkdaeoppaaGreatImplThree
import Derived.Test.YtmkfjnkdaeoppaaGreatCellA
namespace Sg
theorem reads_ok {g : Graph} (hG : validG g = true) {i : Nat} {nk : Int} {nf : List Part} (hn : g[i]? = some ⟨nk, nf⟩) : ∀ p ∈ nf, p.kind = 1 → 0 ≤ p.n ∧ p.n ≤ 9 := by
 have hg := validG_node hG i (List.getElem?_eq_some_iff.1 hn).1
 unfold goodNode at hg
 rw [getD_of hn] at hg
 dsimp only at hg
 split at hg
 ·have hl : nf = [] := by simpa using hg
  rw [hl]
  intro p hp
  cases hp
 ·split at hg
  ·simp only [Bool.and_eq_true] at hg
   intro p hp hk
   exact mayRead_range (mem_mayRead hg.1 hp hk)
  ·cases hg
end Sg
namespace Go.Proofs.YtmkfjnkdaeoppaaGreat
open Go.RowKit

theorem bools_rep2 (n : Nat) : List.replicate n (Value.bool false) = bools (List.replicate n false) := by simp [bools]

set_option maxRecDepth 100000 in
set_option maxHeartbeats 4000000 in
theorem i_reach (A : Option Addr) (c : Nat) (g : Sg.Graph) (n : Nat) (w : World) (h : RdN w A g) (hG : Sg.validG g = true) (hn : n < g.length) :
  Calls Tryz.prog 95 #[.agg #[.slice A g.length c], .int .i64 n] w fun e w' => ∃ M, e = .returned (.slice (some ⟨M, 0, none⟩) g.length g.length) ∧ Own w' w.heap.size 4 1 (some ⟨M, 0, none⟩) g.length g.length (bools (Sg.marksTo g n g.length)) ∧ Ext w w' := by
 have hgl := h.1
 have hg10 := validG_len hG
 have q0 : (w.alloc (.cells #[.slice A g.length c] 25)).cell? ⟨w.heap.size, 0, none⟩ = some (.slice A g.length c) := by simp [go_sem]
 have e0 := (Ext.rfl' w).al (.cells #[.slice A g.length c] 25)
 have HG := lh hG
 have H := lh h
 have HN := lh hn
 have Q0 := lh q0
 have HE0 := lh e0
 clear hG h hn q0 e0
 go_enter Tryz.func95, Tryz.ntmps95
 go_wp2_with fail
 refine (i_size A g.length c _).mono ?_
 rintro e w3 ⟨rfl, he3⟩
 have E3 := lh he3
 have hs3 := he3.size
 simp only [World.size_alloc] at hs3
 clear he3
 go_upto_region 2 with (at_make; refine wpList_mk rfl rfl eiBool (B := w3.heap.size) rfl rfl (by omega) (by omega) (Nat.le_refl _) ?_; intro w4 hown hext; rw [made_one _ _ rfl, bools_rep2] at hown; have O4 := lh hown; have E4 := lh hext; clear hown hext)
 have k4 := lh ((E3.out.tr E4.out).cellE Q0.out)
 generalize hM : w3.heap.size = M at *
 have hc4 := O4.out.cell (j := n) (u := .bool false) (by rw [bools_at, List.getElem?_replicate]; simp [HN.out])
 have hf4 := O4.out.free n
 have bM := blt hc4
 have hng : (n : Int) < (g.length : Int) := by have := HN.out; omega
 go_upto_region 3 with fail
 have E5 := lh (((HE0.out.tr E3.out).tr E4.out).set (p := ⟨M, n, none⟩) (by dsimp only; omega) (.bool true))
 have k5 := lh (show (w4.setCell ⟨M, n, none⟩ (.bool true)).cell? ⟨w.heap.size, 0, none⟩ = some (.slice A g.length c) by rw [co]; exact k4.out)
 have O5 := lh (O4.out.st n (.bool true))
 rw [bools_set, Sg.marksTo_start HG.out HN.out] at O5
 clear hc4 hf4 k4 O4 E4 E3 hM
 generalize w4.setCell ⟨M, n, none⟩ (.bool true) = w5 at *
 clear bM
 go_wp2_with fail
 go_loopw [6] (fun i wr => ∃ k : Nat, n < k ∧ k ≤ g.length ∧ i = .int .i64 k ∧ Hid (Own wr M 4 1 (some ⟨M, 0, none⟩) g.length g.length (bools (Sg.marksTo g n k))) ∧ Hid (Ext w wr) ∧ Hid (wr.cell? ⟨w.heap.size, 0, none⟩ = some (.slice A g.length c))) (fun i _ => g.length - (intOf i).toNat)
 case atStart => exact ⟨n + 1, by omega, by have := HN.out; omega, by go_num, O5, E5, k5⟩
 case round =>
  clear O5 E5 k5
  obtain ⟨k, hnk, hk, rfl, ho, he, hb⟩ := hrel
  have hbx := hb.out
  by_cases hlt : k < g.length
  ·obtain ⟨⟨nk, nf⟩, b, o, Ap, cp, hn, rfl, hkc, hs, hf, hfl⟩ := (H.out.ext he.out).at_ hlt
   dsimp only at *
   have HM := lh (fun w h => i_mayRead Ap cp nf w h (by omega) (Sg.reads_ok HG.out hn))
   have HL := lh (show (g.getD k default).f = nf by rw [Sg.getD_of hn])
   have HR := lh (fun (x : Int) (hx : x ∈ Sg.mayRead nf) => Sg.may_ahead HG.out hlt (x := x) (by rw [HL.out]; exact hx))
   have Hf := lh hf
   have HSC := lh hs
   clear hn hf hs
   go_wp2_with fail
   refine (i_size (some ⟨b, o, none⟩) g.length c _).mono ?_
   rintro e w1 ⟨rfl, he1⟩
   have H1 := lh he1
   have hb1 := he1.cellE hbx
   have hk1 := he1.cellE hkc
   have hs1 := he1.cellE HSC.out
   clear he1
   go_wp2_with fail
   refine (HM.out _ (Hf.out.ext H1.out)).mono ?_
   rintro e w2 ⟨A3, c3, rfl, ho3, he2⟩
   have H2 := lh (H1.out.tr he2)
   have b12 := lh he2.size
   have OL := lh ho3
   have hm3 := ho3.rd.big
   have OM := lh (ho.out.ext H2.out)
   have EW := lh (he.out.tr H2.out)
   have K2 := lh (he2.cellE hb1)
   have hMw : M < w1.heap.size := Nat.lt_of_lt_of_le (ho.out.lt rfl).2 H1.out.size
   clear he2 ho3 hk1 hs1 hb1 hbx
   rw [← Sg.marksTo_zero] at OM
   go_wp2_with fail
   go_loopw [31] (fun i wi => ∃ m : Nat, m ≤ (Sg.mayRead nf).length ∧ i = .int .i64 m ∧ Hid (Own wi M 4 1 (some ⟨M, 0, none⟩) g.length g.length (bools ((Sg.marksTo g n k).set k (Sg.markIn g n k m)))) ∧ Hid (Own wi w1.heap.size 3 1 A3 (Sg.mayRead nf).length c3 (ints (Sg.mayRead nf))) ∧ Hid (Ext w wi) ∧ Hid (wi.cell? ⟨w.heap.size, 0, none⟩ = some (.slice (some ⟨b, o, none⟩) g.length c))) (fun i _ => (Sg.mayRead nf).length - (intOf i).toNat)
   case atStart => exact ⟨0, Nat.zero_le _, rfl, OM, OL, EW, K2⟩
   case round =>
    clear OM OL EW K2
    obtain ⟨m, hm, rfl, hom, hol, hei, hbi⟩ := hrel
    by_cases hlm : m < (Sg.mayRead nf).length
    ·obtain ⟨bl, ol, x, rfl, hx, hcx⟩ := hol.out.rd.at1 hlm
     obtain ⟨hx0, hxk⟩ := HR.out x (List.mem_of_getElem? hx)
     obtain ⟨X, rfl⟩ := Int.eq_ofNat_of_zero_le hx0
     have HMS := lh (Sg.markIn_succ (g := g) (n := n) (i := k) (m := m) (by rw [HL.out]; exact hx))
     have hXk : X < k := by omega
     have hck := lh (hom.out.cell (j := k) (u := .bool (Sg.markIn g n k m)) (by rw [bools_at, List.getElem?_set_self (by simpa using hlt)]; rfl))
     have hcX := lh (hom.out.cell (j := X) (u := .bool (Sg.useB g n X)) (by rw [bools_at, List.getElem?_set_ne (by omega), Sg.marksTo_at g n k X (by omega)]; simp [hXk]))
     have hfk := hom.out.free k
     generalize hmk : Sg.markIn g n k m = y at *
     generalize hmu : Sg.useB g n X = z at *
     have HY := lh hmk
     have HZ := lh hmu
     have ck := hck.out
     have cX := hcX.out
     have bck := blt ck
     have bcx := blt hcx
     have hkg : (k : Int) < (g.length : Int) := by omega
     have hXg : (X : Int) < (g.length : Int) := by omega
     clear hmk hmu hx hx0 hxk
     cases y
     ·go_wp2_with fail
      go_roundw
      case rel =>
       have hbl := (hol.out.lt (g := bl) rfl).1
       have o1 := hom.out.st k (.bool z)
       rw [bools_set, List.set_set] at o1
       exact ⟨m + 1, by omega, by go_num, lh (by rw [(show Sg.markIn g n k (m + 1) = z by rw [HMS.out, Int.toNat_natCast, HZ.out]; rfl)]; exact o1), lh (hol.out.set (by simp [blk]; omega) _), lh (hei.out.set (p := ⟨M, k, none⟩) (by dsimp only; omega) _), lh (by rw [co]; exact hbi.out)⟩
      case measure => simp [intOf]; omega
     ·go_wp2_with fail
      go_roundw
      case rel =>
       have hbl := (hol.out.lt (g := bl) rfl).1
       have o1 := hom.out.st k (.bool true)
       rw [bools_set, List.set_set] at o1
       exact ⟨m + 1, by omega, by go_num, lh (by rw [(show Sg.markIn g n k (m + 1) = true by rw [HMS.out]; rfl)]; exact o1), lh (hol.out.set (by simp [blk]; omega) _), lh (hei.out.set (p := ⟨M, k, none⟩) (by dsimp only; omega) _), lh (by rw [co]; exact hbi.out)⟩
      case measure => simp [intOf]; omega
    ·obtain rfl : m = (Sg.mayRead nf).length := by omega
     have hon := hom.out
     have hml : (Sg.mayRead nf).length = (Sg.mayRead (g.getD k default).f).length := by rw [HL.out]
     rw [hml, Sg.marksTo_next HG.out hlt hnk] at hon
     have HON := lh hon
     clear hon hml
     go_wp2
     go_roundw
     case rel => exact ⟨k + 1, by omega, by omega, by go_num, HON, hei, hbi⟩
     case measure => simp [intOf]; omega
  ·obtain rfl : k = g.length := by omega
   go_wp2_with fail
   refine (i_size A g.length c _).mono ?_
   rintro e w1 ⟨rfl, he1⟩
   have HO := lh (ho.out.ext he1)
   have HEE := lh (he.out.tr he1)
   go_wp2
   go_ret
   exact ⟨M, rfl, HO.out.mono (by omega), HEE.out⟩

def RInv (Bg Bi : Nat) (A : Option Addr) (c : Nat) (g : Sg.Graph) (i : Nat) (w : World) : Prop :=
 w.cell? ⟨Bg, 0, none⟩ = some (.slice A g.length c) ∧ w.cell? ⟨Bi, 0, none⟩ = some (.int .i64 i) ∧ RdN w A g
theorem RInv.ext {Bg Bi : Nat} {A : Option Addr} {c : Nat} {g : Sg.Graph} {i : Nat} {w w' : World} (h : RInv Bg Bi A c g i w) (e : Ext w w') : RInv Bg Bi A c g i w' := ⟨e.cellE h.1, e.cellE h.2.1, h.2.2.ext e⟩

set_option maxHeartbeats 1000000 in
theorem prd_may11 (Bg Bi : Nat) (A : Option Addr) (c : Nat) (g : Sg.Graph) (i : Nat) (hG : Sg.validG g = true) (hi : i < g.length) : Prd Tryz.prog 108 [.pointer (some ⟨Bg, 0, none⟩), .pointer (some ⟨Bi, 0, none⟩)] (RInv Bg Bi A c g i) (fun x => Sg.useB g x.toNat i) (fun x => 0 ≤ x ∧ x < g.length) where
 ent := ent_of Tryz.func108 rfl (by kernel_rfl)
 call := fun w x h hx => by
  obtain ⟨h1, h2, h3⟩ := h
  obtain ⟨n, rfl⟩ := Int.eq_ofNat_of_zero_le hx.1
  have hgl := h3.1
  have HR := lh (fun w h => i_reach A c g n w h hG (by omega))
  have HI := lh hi
  have H3 := lh h3
  have hb1 := blt h1
  have hb2 := blt h2
  have ed := lh (Ext.rfl' w).dr
  have higl : (i : Int) < (g.length : Int) := by omega
  clear hG h3 hx
  go_enter Tryz.func108, Tryz.ntmps108
  go_wp2_with fail
  refine wp_region_held_drew (S := (fun W => W.cell? ⟨Bg, 0, none⟩ = some (.slice A g.length c) ∧ W.cell? ⟨Bi, 0, none⟩ = some (.int .i64 i))) (by kernel_rfl) ?_ (fun hHeld => ?_)
  ·exact ⟨ed.out.cellE h1, ed.out.cellE h2⟩
  refine ty 0 ?_
  refine ty 1 ?_
  refine ty 3 ?_
  refine rd1 2 rfl fun K hK => ?_
  go_simp
  refine (HR.out _ (H3.out.ext ed.out)).mono ?_
  rintro e w1 ⟨M, rfl, ho, he1⟩
  have k1 := he1.cellE (ed.out.cellE h1)
  have k2 := he1.cellE (ed.out.cellE h2)
  have kc := ho.cell (j := i) (u := .bool (Sg.useB g n i)) (by rw [bools_at, Sg.marksTo_at g n _ i HI.out]; simp [HI.out])
  have he2 := lh (ed.out.tr he1)
  have bM := blt kc
  clear ho he1
  generalize hz : Sg.useB g n i = z at *
  have HZ := lh hz
  clear hz
  try go_wp2_with fail
  refine hK.out _ _ (by exact ⟨k1, k2⟩) fun hh2 => ?_; clear hK K hHeld; have hHeld := hh2; clear hh2
  try simp only [Act.put, pu]
  refine ty 4 ?_
  refine rd1 5 rfl fun K hK => ?_
  go_simp
  refine hK.out _ _ (by exact ⟨k1, k2⟩) fun hh2 => ?_; clear hK K hHeld; have hHeld := hh2; clear hh2
  try simp only [Act.put, pu]
  refine ty 6 ?_
  refine dn ?_
  go_wp2
  go_ret
  exact ⟨ret_bool (by rw [Int.toNat_natCast, HZ.out]), he2.out⟩
 ext := fun _ _ h e => h.ext e

def TInv (Bg Bn : Nat) (A An : Option Addr) (c cn : Nat) (g : Sg.Graph) (ns : List Int) (w : World) : Prop :=
 w.cell? ⟨Bg, 0, none⟩ = some (.slice A g.length c) ∧ w.cell? ⟨Bn, 0, none⟩ = some (.slice An ns.length cn) ∧ RdN w A g ∧ Rd w 1 An ns.length (ints ns)
theorem TInv.ext {Bg Bn : Nat} {A An : Option Addr} {c cn : Nat} {g : Sg.Graph} {ns : List Int} {w w' : World} (h : TInv Bg Bn A An c cn g ns w) (e : Ext w w') : TInv Bg Bn A An c cn g ns w' := ⟨e.cellE h.1, e.cellE h.2.1, h.2.2.1.ext e, h.2.2.2.ext e⟩

set_option maxHeartbeats 2000000 in
theorem prd_may1 (Bg Bn : Nat) (A An : Option Addr) (c cn : Nat) (g : Sg.Graph) (ns : List Int) (hG : Sg.validG g = true) (hns : ∀ x ∈ ns, 0 ≤ x ∧ x < (g.length : Int)) :
  Prd Tryz.prog 107 [.pointer (some ⟨Bg, 0, none⟩), .pointer (some ⟨Bn, 0, none⟩)] (TInv Bg Bn A An c cn g ns) (fun k => Sg.mayAt g ns k.toNat) (fun k => 0 ≤ k ∧ k < g.length) where
 ent := ent_of Tryz.func107 rfl (by kernel_rfl)
 call := fun w kk h hk => by
  obtain ⟨h1, h2, h3, h4⟩ := h
  obtain ⟨k, rfl⟩ := Int.eq_ofNat_of_zero_le hk.1
  have hlt : k < g.length := by omega
  have hgl := h3.1
  obtain ⟨⟨nk, nf⟩, b, o, Ap, cp, hn, rfl, hkc, hsc, hf, hfl⟩ := h3.at_ hlt
  dsimp only at *
  have HP := lh (show Sg.mayAt g ns k = ((nk != 0) && ns.any fun n => Sg.useB g n.toNat k) by unfold Sg.mayAt Sg.kindAt; rw [Int.toNat_natCast]; simp [hn])
  have HCF := lh (fun W h hi => i_ContainsFunc (prd_may11 Bg w.heap.size (some ⟨b, o, none⟩) c g k hG hlt) An ns.length cn ns W h hi hns)
  have e0 := lh ((Ext.rfl' w).al (.cells #[.int .i64 k] 3))
  have q1 := lh (show (w.alloc (.cells #[.int .i64 k] 3)).cell? ⟨w.heap.size, 0, none⟩ = some (.int .i64 k) by simp [go_sem])
  have H3 := lh h3
  have H4 := lh h4
  have h1' := e0.out.cellE h1
  have h2' := e0.out.cellE h2
  have hb1 := blt h1
  have hb2 := blt h2
  have hb3 := blt hkc
  have hkg : (k : Int) < (g.length : Int) := by omega
  clear hn hsc hf hfl hG hns hk h3 h4
  by_cases hz : nk = 0
  ·have z1 : (nk != 0) = false := by simp [hz]
   have HZ := lh z1
   go_enter Tryz.func107, Tryz.ntmps107
   go_wp2
   go_ret
   exact ⟨ret_bool (by rw [Int.toNat_natCast, HP.out, HZ.out]; rfl), e0.out⟩
  ·have z1 : (nk != 0) = true := by simp [hz]
   have HZ := lh z1
   go_enter Tryz.func107, Tryz.ntmps107
   go_wp2_with fail
   refine (HCF.out _ (H4.out.ext e0.out) ⟨h1', q1.out, H3.out.ext e0.out⟩).mono ?_
   rintro e w2 ⟨rfl, he2⟩
   have E2 := lh (e0.out.tr he2)
   clear he2
   go_wp2
   go_ret
   exact ⟨ret_bool (by rw [Int.toNat_natCast, HP.out, HZ.out]; rfl), E2.out⟩
 ext := fun _ _ h e => h.ext e

set_option maxHeartbeats 2000000 in
theorem i_MayRun (A An : Option Addr) (c cn : Nat) (g : Sg.Graph) (ns : List Int) (w : World) (h : RdN w A g) (hn : Rd w 1 An ns.length (ints ns)) (hc : ns.length ≤ cn) (hcm : cn ≤ maxLen) :
  Calls Tryz.prog 60 #[.agg #[.slice A g.length c], .slice An ns.length cn] w fun e w' => ∃ A1, e = .returned (.slice A1 (Sg.mayRunL g ns).length (Sg.mayRunL g ns).length) ∧ Own w' w.heap.size 3 1 A1 (Sg.mayRunL g ns).length (Sg.mayRunL g ns).length (ints (Sg.mayRunL g ns)) ∧ Ext w w' := by
 have hgl := h.1
 have e0 := lh (((Ext.rfl' w).al (.cells #[.slice A g.length c] 25)).al (.cells #[.slice An ns.length cn] 26))
 have HVG := lh (i_ValidGraph A c g)
 have HCD := lh (fun w h hl => i_cellsDiffer A An c cn g ns w h hl hc hcm)
 have q0 := lh (show ((w.alloc (.cells #[.slice A g.length c] 25)).alloc (.cells #[.slice An ns.length cn] 26)).cell? ⟨w.heap.size, 0, none⟩ = some (.slice A g.length c) by simp [go_sem])
 have q1 := lh (show ((w.alloc (.cells #[.slice A g.length c] 25)).alloc (.cells #[.slice An ns.length cn] 26)).cell? ⟨w.heap.size + 1, 0, none⟩ = some (.slice An ns.length cn) by simp [go_sem])
 have H := lh h
 have HN := lh hn
 clear h hn hc hcm
 cases hG : Sg.validG g
 ·have HS := lh (show Sg.mayRunL g ns = [] by unfold Sg.mayRunL; rw [hG]; rfl)
  have HG := lh hG
  clear hG
  go_enter Tryz.func60, Tryz.ntmps60
  go_wp2_with fail
  refine (HVG.out _ (H.out.ext e0.out)).mono ?_
  rintro e w1 ⟨rfl, he1⟩
  rw [HG.out]
  have E1 := lh (e0.out.tr he1)
  clear he1
  go_wp2
  go_ret
  rw [HS.out]
  exact ⟨none, rfl, Own.nil _ _ _ _, E1.out⟩
 ·have HG := lh hG
  cases hD : Sg.cellsDiffer g ns
  ·have HS := lh (show Sg.mayRunL g ns = [] by unfold Sg.mayRunL; rw [hG, hD]; rfl)
   have HD := lh hD
   clear hG hD
   go_enter Tryz.func60, Tryz.ntmps60
   go_wp2_with fail
   refine (HVG.out _ (H.out.ext e0.out)).mono ?_
   rintro e w1 ⟨rfl, he1⟩
   rw [HG.out]
   have p0 := he1.cellE q0.out
   have p1 := he1.cellE q1.out
   have E1 := lh (e0.out.tr he1)
   clear he1
   go_wp2_with fail
   refine (HCD.out _ (H.out.ext E1.out) (HN.out.ext E1.out)).mono ?_
   rintro e w2 ⟨rfl, he2⟩
   rw [HD.out]
   have E2 := lh (E1.out.tr he2)
   clear he2
   go_wp2
   go_ret
   rw [HS.out]
   exact ⟨none, rfl, Own.nil _ _ _ _, E2.out⟩
  ·have HS := lh (show Sg.mayRunL g ns = Sg.whichL (Sg.mayAt g ns) g.length by unfold Sg.mayRunL; rw [hG, hD]; rfl)
   have HD := lh hD
   have HNI := lh (show ∀ x ∈ ns, 0 ≤ x ∧ x < (g.length : Int) from fun x hx => by
    obtain ⟨j, n, rfl, h2, _⟩ := Sg.nodes_in hD x hx
    have := (List.getElem?_eq_some_iff.1 h2).1
    exact ⟨by omega, by omega⟩)
   clear hG hD
   go_enter Tryz.func60, Tryz.ntmps60
   go_wp2_with fail
   refine (HVG.out _ (H.out.ext e0.out)).mono ?_
   rintro e w1 ⟨rfl, he1⟩
   rw [HG.out]
   have p0 := he1.cellE q0.out
   have p1 := he1.cellE q1.out
   have E1 := lh (e0.out.tr he1)
   clear he1
   go_wp2_with fail
   refine (HCD.out _ (H.out.ext E1.out) (HN.out.ext E1.out)).mono ?_
   rintro e w2 ⟨rfl, he2⟩
   rw [HD.out]
   have p0 := he2.cellE p0
   have p1 := he2.cellE p1
   have E2 := lh (E1.out.tr he2)
   clear he2
   have HWH := i_which (prd_may1 w.heap.size (w.heap.size + 1) A An c cn g ns HG.out HNI.out) A g.length c w2 ⟨p0, p1, H.out.ext E2.out, HN.out.ext E2.out⟩ (fun k hk => ⟨by omega, by omega⟩) hgl
   simp only [Int.toNat_natCast] at HWH
   have HWW := lh HWH
   have z2 := E2.out.size
   clear HWH
   go_wp2_with fail
   refine HWW.out.mono ?_
   rintro e w7 ⟨A7, rfl, ho7, he7⟩
   have Ho7 := lh ho7
   have E7 := lh (E2.out.tr he7)
   clear ho7 he7
   go_wp2
   go_ret
   rw [HS.out]
   exact ⟨A7, rfl, Ho7.out.mono z2, E7.out⟩
end Go.Proofs.YtmkfjnkdaeoppaaGreat
