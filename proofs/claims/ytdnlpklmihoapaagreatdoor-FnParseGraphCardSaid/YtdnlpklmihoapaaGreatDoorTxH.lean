/- The program's FormatGraph, in memory: its contract. Conditions: the program's variables as they were laid (Gl). -/
import Derived.Test.YtdnlpklmihoapaaGreatDoorTxF
import Derived.Test.YtdnlpklmihoapaaGreatDoorTxG
import Derived.Test.YtdnlpklmihoapaaGreatDoorImplPX
namespace Go.Proofs.YtdnlpklmihoapaaGreatDoor
open Go.RowKit
theorem Bu.ext {w w' : World} {B b : Nat} {l : Sg.Txt} (h : Bu w B b l) (e : Ext w w') : Bu w' B b l := by
 have key : ∀ p, Lib.BuilderAt 65 5 B b p (Lib.byteCells l) w → Lib.BuilderAt 65 5 B b p (Lib.byteCells l) w' := fun p h => by
  have hlt := h.lt
  obtain ⟨hB, v, hb, hown, hne⟩ := h
  refine ⟨hB, v, (e.block b hlt).trans hb, hown.kept (row := none) ⟨e.os, e.tape, e.output, e.size, fun k hk _ => e.block k hk⟩ ?_, hne⟩
  cases v.ownBlock with
  | none => exact .inl rfl
  | some g => exact .inr (by simp)
 exact h.imp (key _) (key _)
theorem Bu.lt {w : World} {B b : Nat} {l : Sg.Txt} (h : Bu w B b l) : B ≤ b ∧ b < w.heap.size := h.elim (fun h => ⟨h.1, h.lt⟩) (fun h => ⟨h.1, h.lt⟩)
theorem i_WriteString (B b : Nat) (l s : Sg.Txt) (w : World) (h : Bu w B b l) (hlen : l.length + s.length ≤ 100000) :
  Calls Tryz.prog 36 #[.pointer (some ⟨b, 0, none⟩), .string (ts s)] w fun e w' => e = .returned (.tuple #[.int .i64 s.length, .nilIface]) ∧ Bu w' B b (l ++ s) ∧ Below B w w' := by
 have hlt := h.lt
 refine (b_Write B b _ (ts s) w h (by rw [Lib.byteCells_length, ts_size]; omega) (by omega)).mono ?_
 rintro e w' ⟨rfl, h1, h2⟩
 refine ⟨rfl, .inr ?_, h2⟩
 have e1 : Lib.byteCells (l ++ s) = Lib.byteCells l ++ Lib.strCells (ts s) := by simp [Lib.byteCells, Lib.strCells]
 rw [e1]
 exact h1
theorem i_BString (B b : Nat) (l : Sg.Txt) (w : World) (h : Bu w B b l) :
  Calls Tryz.prog 39 #[.pointer (some ⟨b, 0, none⟩)] w fun e w' => e = .returned (.string (ts l)) ∧ Below B w w' := by
 have hlt := h.lt
 exact Tryz.Builder_String_any B b l w h (by omega)
set_option maxRecDepth 100000 in
set_option maxHeartbeats 4000000 in
theorem i_FormatGraph (A Ac : Option Addr) (c cc : Nat) (g : Sg.Graph) (l : List Int) (w : World) (hG : Gl w) (h : RdN w A g) (hc : Rd w 1 Ac l.length (ints l)) :
  Calls Tryz.prog 17 #[.agg #[.slice A g.length c], .slice Ac l.length cc] w fun e w' => e = .returned (.string (ts (Sg.fmtG g l))) ∧ Ext w w' := by
 have hgl := h.1
 have hll := hc.big
 have HVC := lh fun w' (e : Ext w w') => i_ValidCells A Ac c cc g l w' (h.ext e) (hc.ext e)
 have E0 := lh ((Ext.rfl' w).al (.cells #[.slice A g.length c] 24))
 have Q0 := lh (show World.cell? (World.alloc w (.cells #[.slice A g.length c] 24)) ⟨w.heap.size, 0, none⟩ = some (.slice A g.length c) by simp [go_sem])
 have H := lh h
 have HC := lh hc
 have HG := lh hG
 clear h hc hG
 cases hv : (Sg.validG g && Sg.validC g l)
 ·have HN : Hid (Sg.fmtG g l = []) := lh (Sg.fmtG_no hv)
  have HV := lh hv
  clear hv
  go_enter Tryz.func17, Tryz.ntmps17
  go_wp2_with fail
  refine (HVC.out _ E0.out).mono ?_
  rintro e w2 ⟨rfl, he⟩
  rw [HV.out]
  go_wp2
  go_ret
  exact ⟨by rw [HN.out]; rfl, E0.out.tr he⟩
 ·have hvw := hv
  rw [Bool.and_eq_true] at hvw
  obtain ⟨hvg, hvc⟩ := hvw
  have HF := lh (Sg.fmtG_yes hvg hvc)
  have hg10 := Sg.validG_ten hvg
  have HLE := lh (Sg.validC_len hvc)
  have HR := lh (Sg.validC_range hvc)
  have HNC := lh fun (i : Nat) (n : Sg.Node) (hn : g[i]? = some n) => Sg.node_cases hvg hn
  have HLS := lh fun (i : Nat) (n : Sg.Node) (x : Int) (hn : g[i]? = some n) (hx : l[i]? = some x) => Sg.linesTo_succ (Sg.validC_len hvc) hn hx
  have HLN := lh (Sg.linesTo_len (Sg.validC_len hvc) (fun x hx => (Sg.validC_range hvc x hx).2))
  have HV := lh hv
  clear hv hvg hvc
  go_enter Tryz.func17, Tryz.ntmps17
  go_wp2_with fail
  refine (HVC.out _ E0.out).mono ?_
  rintro e w2 ⟨rfl, he⟩
  rw [HV.out]
  have EW := lh (E0.out.tr he)
  have q2 := he.cellE Q0.out
  have bq2 := blt q2
  have HB := lh (Lib.fresh_isBuilder 65 5 w2)
  have EB := lh ((Ext.rfl' w2).al (.cells #[.pointer none, .slice none 0 0] 65))
  have hbq : w.heap.size < w2.heap.size + 1 := by omega
  clear he E0 Q0
  go_wp2_with fail
  go_loopw [15] (fun s15 wr => ∃ j : Nat, j ≤ g.length ∧ s15 = .int .i64 j ∧ Hid (Ext w2 wr) ∧ Hid (Bu wr w2.heap.size w2.heap.size (Sg.linesTo g l j))) (fun s15 _ => g.length - (intOf s15).toNat)
  case atStart => exact ⟨0, Nat.zero_le _, rfl, EB, HB⟩
  case round =>
   clear EB HB q2 bq2 hbq
   obtain ⟨j, hj, rfl, E, BU⟩ := hrel
   by_cases hlt : j < g.length
   ·obtain ⟨⟨nk, nf⟩, b, o, Ap, cp, hn, rfl, hkc, hs, hf, hfl⟩ := (H.out.ext (EW.out.tr E.out)).at_ hlt
    obtain ⟨bc, oc, x, rfl, hx, hxc⟩ := (HC.out.ext (EW.out.tr E.out)).at1 (show j < l.length by have := HLE.out; omega)
    have hxr := HR.out x (List.mem_of_getElem? hx)
    obtain ⟨y, rfl⟩ := Int.eq_ofNat_of_zero_le hxr.1
    have hjx : (j : Int) < (g.length : Int) := by omega
    have hjy : (j : Int) < (l.length : Int) := by have := HLE.out; omega
    have hln := HLN.out j
    have HT := lh (HLS.out j _ _ hn hx)
    have hnc := HNC.out j _ hn
    have hfm := Sg.fmtF_len nf
    have hyl := Sg.numT_len (n := y) (by omega)
    have HXC := lh hxc
    have HFm := lh fun w' (e : Ext wr w') => i_FormatFormula Ap cp nf w' ((HG.out.ext (EW.out.tr E.out)).ext e) (hf.ext e) hfl
    have HIt := lh fun w' (e : Ext wr w') => i_Itoa y (by omega) w' ((HG.out.ext (EW.out.tr E.out)).ext e)
    clear hn hx hxr hf
    dsimp only at hnc hkc hs hfl
    have b1 := blt hkc
    have b2 := blt hs
    have b3 := blt hxc
    generalize Sg.linesTo g l j = x at *

    rcases hnc with ⟨rfl, hnf⟩ | ⟨rfl | rfl, hvf⟩
    ·clear hnf
     have hL := lh (Sg.lineT_cell (n := ⟨0, nf⟩) rfl (y : Int))
     have s1 := ts_fit (a := Sg.cellW ++ [32]) (b := Sg.numT y) (by simp [Sg.cellW]; omega)
     have e1 := lh ((Ext.rfl' wr).al (.cells #[.int .i64 0, .slice Ap nf.length cp] 50))
     have HW := fun w' (hB : Bu w' w2.heap.size w2.heap.size x) => i_WriteString w2.heap.size w2.heap.size x (Sg.cellW ++ [32] ++ Sg.numT y) w' hB (by simp [Sg.cellW]; omega)
     rw [← ts_app (Sg.cellW ++ [32])] at HW
     have HW := lh HW
     go_wp2_with fail
     refine (HIt.out _ e1.out).mono ?_
     rintro e w4 ⟨rfl, he4⟩
     have e4 := lh (e1.out.tr he4)
     clear he4
     go_wp2_with fail
     refine (HW.out _ (BU.out.ext e4.out)).mono ?_
     rintro e w5 ⟨rfl, hB5, hb5⟩
     have B5 := lh hB5
     have H5 := lh hb5
     clear hB5 hb5
     go_wp2_with fail
     refine (i_WriteString _ _ _ [10] _ B5.out (by simp [Sg.cellW]; omega)).mono ?_
     rintro e w6 ⟨rfl, hB6, hb6⟩
     have B6 := lh hB6
     have H6 := lh hb6
     clear hB6 hb6
     go_wp2
     go_roundw
     case rel => exact ⟨j + 1, by omega, by go_num, lh (((E.out.tr e4.out).trans H5.out).trans H6.out), lh (by rw [HT.out, hL.out]; exact B6.out)⟩
     case measure => simp [intOf]; omega
    ·have hL := lh (Sg.lineT_der (n := ⟨1, nf⟩) rfl (y : Int))
     have s1 := ts_fit (a := Sg.derW ++ [32]) (b := Sg.fmtF nf) (by simp [Sg.derW]; omega)
     have e1 := lh ((Ext.rfl' wr).al (.cells #[.int .i64 1, .slice Ap nf.length cp] 50))
     have HW := fun w' (hB : Bu w' w2.heap.size w2.heap.size x) => i_WriteString w2.heap.size w2.heap.size x (Sg.derW ++ [32] ++ Sg.fmtF nf) w' hB (by simp [Sg.derW]; omega)
     rw [← ts_app (Sg.derW ++ [32])] at HW
     have HW := lh HW
     go_wp2_with fail
     refine (HFm.out _ e1.out).mono ?_
     rintro e w4 ⟨rfl, he4⟩
     have e4 := lh (e1.out.tr he4)
     clear he4
     go_wp2_with fail
     refine (HW.out _ (BU.out.ext e4.out)).mono ?_
     rintro e w5 ⟨rfl, hB5, hb5⟩
     have B5 := lh hB5
     have H5 := lh hb5
     clear hB5 hb5
     go_wp2_with fail
     refine (i_WriteString _ _ _ [10] _ B5.out (by simp [Sg.derW]; omega)).mono ?_
     rintro e w6 ⟨rfl, hB6, hb6⟩
     have B6 := lh hB6
     have H6 := lh hb6
     clear hB6 hb6
     go_wp2
     go_roundw
     case rel => exact ⟨j + 1, by omega, by go_num, lh (((E.out.tr e4.out).trans H5.out).trans H6.out), lh (by rw [HT.out, hL.out]; exact B6.out)⟩
     case measure => simp [intOf]; omega
    ·have hL := lh (Sg.lineT_eff (n := ⟨2, nf⟩) rfl (y : Int))
     have s1 := ts_fit (a := Sg.effW ++ [32]) (b := Sg.fmtF nf) (by simp [Sg.effW]; omega)
     have e1 := lh ((Ext.rfl' wr).al (.cells #[.int .i64 2, .slice Ap nf.length cp] 50))
     have HW := fun w' (hB : Bu w' w2.heap.size w2.heap.size x) => i_WriteString w2.heap.size w2.heap.size x (Sg.effW ++ [32] ++ Sg.fmtF nf) w' hB (by simp [Sg.effW]; omega)
     rw [← ts_app (Sg.effW ++ [32])] at HW
     have HW := lh HW
     go_wp2_with fail
     refine (HFm.out _ e1.out).mono ?_
     rintro e w4 ⟨rfl, he4⟩
     have e4 := lh (e1.out.tr he4)
     clear he4
     go_wp2_with fail
     refine (HW.out _ (BU.out.ext e4.out)).mono ?_
     rintro e w5 ⟨rfl, hB5, hb5⟩
     have B5 := lh hB5
     have H5 := lh hb5
     clear hB5 hb5
     go_wp2_with fail
     refine (i_WriteString _ _ _ [10] _ B5.out (by simp [Sg.effW]; omega)).mono ?_
     rintro e w6 ⟨rfl, hB6, hb6⟩
     have B6 := lh hB6
     have H6 := lh hb6
     clear hB6 hb6
     go_wp2
     go_roundw
     case rel => exact ⟨j + 1, by omega, by go_num, lh (((E.out.tr e4.out).trans H5.out).trans H6.out), lh (by rw [HT.out, hL.out]; exact B6.out)⟩
     case measure => simp [intOf]; omega
   ·obtain rfl : j = g.length := by omega
    go_wp2_with fail
    refine (i_BString _ _ _ _ BU.out).mono ?_
    rintro e w3 ⟨rfl, he3⟩
    go_wp2
    go_ret
    exact ⟨by rw [HF.out]; rfl, EW.out.tr (E.out.trans he3)⟩
end Go.Proofs.YtdnlpklmihoapaaGreatDoor
