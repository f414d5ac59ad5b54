/- The program's MeaningOf: its contract at valid arguments. Conditions: bounds on lengths. -/
import Derived.Test.YtkbihkggneaeeaaImplZ
namespace Go.Proofs.Ytkbihkggneaeeaa
open Go.RowKit
set_option maxHeartbeats 1000000 in
theorem i_MeaningOf (A Aa : Option Addr) (c ca : Nat) (g : Sg.Graph) (a : List Int) (w : World) (h : RdN w A g) (ha : Rd w 1 Aa a.length (ints a)) (hG : Sg.validG g = true) (hC : Sg.validC g a = true) :
    Calls Try.prog 14 #[.agg #[.slice A g.length c], .slice Aa a.length ca] w fun e w' => ∃ A2, e = .returned (.slice A2 (Sg.mean g a).length g.length) ∧ Own w' w.heap.size 3 1 A2 (Sg.mean g a).length g.length (ints (Sg.mean g a)) ∧ Ext w w' := by
  have HVA := Lib.hid (i_ValidCells A Aa c ca g a)
  have HA := Lib.hid (show (Sg.validG g && Sg.validC g a) = true by rw [hG, hC]; rfl)
  have HMA := Lib.hid (fun w h hc => i_meaning A Aa c ca g a w h hc hG hC)
  have H := Lib.hid h
  have Ha := Lib.hid ha
  clear h ha hG hC
  have E0 := Lib.hid (((Ext.rfl' w).al (.cells #[.slice A g.length c] 25)) : Ext w (World.alloc w (.cells #[.slice A g.length c] 25)))
  have qlg : World.cell? (World.alloc w (.cells #[.slice A g.length c] 25)) ⟨w.heap.size, 0, none⟩ = some (.slice A g.length c) := by simp [go_sem]
  have Qlg := Lib.hid qlg
  clear qlg
  go_enter Try.func14, Try.ntmps14
  go_wp2_with fail
  refine (HVA.out _ (H.out.ext E0.out) (Ha.out.ext E0.out)).mono ?_
  rintro e w1 ⟨rfl, he1⟩
  rw [HA.out]
  have U1 := Lib.hid ((Ext.rfl' (World.alloc w (.cells #[.slice A g.length c] 25))).tr he1)
  have E1 := Lib.hid (E0.out.tr U1.out)
  have lg_1 := U1.out.cellE Qlg.out
  clear he1
  have blg_1 := blt lg_1
  go_wp2_with fail
  refine (HMA.out _ (H.out.ext E1.out) (Ha.out.ext E1.out)).mono ?_
  rintro e w2 ⟨Ax, Ar, hs, rfl, hox, hor, hdx, he2⟩
  have Hx := Lib.hid hox
  clear hox hor hdx
  have E2 := Lib.hid (E1.out.tr he2)
  clear he2 lg_1 blg_1
  have z1 := E1.out.size
  go_wp2
  go_ret
  exact ⟨Ax, by rw [Sg.length_mean]; rfl, by rw [Sg.length_mean]; exact Hx.out.mono z1, E2.out⟩
end Go.Proofs.Ytkbihkggneaeeaa
