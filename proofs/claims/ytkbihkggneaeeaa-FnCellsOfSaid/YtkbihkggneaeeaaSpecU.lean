/- The reference's CellsOf: its contract. Conditions: bounds on lengths. -/
import Derived.Test.YtkbihkggneaeeaaSpecT
namespace Go.Proofs.Ytkbihkggneaeeaa
open Go.RowKit

set_option maxRecDepth 100000 in
set_option maxHeartbeats 2000000 in
theorem s_CellsOf (A Av Ar : Option Addr) (c cv cr : Nat) (g : Sg.Graph) (v : List Int) (r : List (List Int)) (w : World) (h : RdN w A g) (hv : Rd w 1 Av v.length (ints v)) (hr : RdL w Ar r) (hvl : v.length ≤ 1048576) :
    Calls Try.prog 27 #[.agg #[.slice A g.length c], .agg #[.slice Av v.length cv, .slice Ar r.length cr]] w fun e w' => ∃ A' c', e = .returned (.slice A' (Sg.cellsE g ⟨v, r⟩).length c') ∧ Own w' w.heap.size 3 1 A' (Sg.cellsE g ⟨v, r⟩).length c' (ints (Sg.cellsE g ⟨v, r⟩)) ∧ Ext w w' := by
  have hgl := h.1
  have HV := Lib.hid (fun w h hv hr => s_validEager A Av Ar c cv cr g v r w h hv hr hvl)
  have H := Lib.hid h
  have Hv := Lib.hid hv
  have Hr := Lib.hid hr
  clear h hv hr
  have E0 := Lib.hid ((((Ext.rfl' w).al (.cells #[.slice A g.length c] 25)).al (.cells #[.slice Av v.length cv, .slice Ar r.length cr] 31)) : Ext w (World.alloc (World.alloc w (.cells #[.slice A g.length c] 25)) (.cells #[.slice Av v.length cv, .slice Ar r.length cr] 31)))
  have qlg : World.cell? (World.alloc (World.alloc w (.cells #[.slice A g.length c] 25)) (.cells #[.slice Av v.length cv, .slice Ar r.length cr] 31)) ⟨w.heap.size, 0, none⟩ = some (.slice A g.length c) := by simp [go_sem]
  have Qlg := Lib.hid qlg
  clear qlg
  have qlv : World.cell? (World.alloc (World.alloc w (.cells #[.slice A g.length c] 25)) (.cells #[.slice Av v.length cv, .slice Ar r.length cr] 31)) ⟨w.heap.size + 1, 0, none⟩ = some (.slice Av v.length cv) := by simp [go_sem]
  have Qlv := Lib.hid qlv
  clear qlv
  have qlr : World.cell? (World.alloc (World.alloc w (.cells #[.slice A g.length c] 25)) (.cells #[.slice Av v.length cv, .slice Ar r.length cr] 31)) ⟨w.heap.size + 1, 1, none⟩ = some (.slice Ar r.length cr) := by simp [go_sem]
  have Qlr := Lib.hid qlr
  clear qlr
  cases hE : Sg.validE g ⟨v, r⟩
  · have HE := Lib.hid hE
    have HS := Lib.hid (show Sg.cellsE g ⟨v, r⟩ = [] by unfold Sg.cellsE; rw [hE]; rfl)
    clear hE
    go_enter Try.func27, Try.ntmps27
    go_wp2_with fail
    refine (HV.out _ (H.out.ext E0.out) (Hv.out.ext E0.out) (Hr.out.ext E0.out)).mono ?_
    rintro e w1 ⟨rfl, he1⟩
    rw [HE.out]
    have U1 := Lib.hid ((Ext.rfl' (World.alloc (World.alloc w (.cells #[.slice A g.length c] 25)) (.cells #[.slice Av v.length cv, .slice Ar r.length cr] 31))).tr he1)
    have E1 := Lib.hid (E0.out.tr U1.out)
    have lg_1 := U1.out.cellE Qlg.out
    have lv_1 := U1.out.cellE Qlv.out
    have lr_1 := U1.out.cellE Qlr.out
    clear he1 
    have blg_1 := blt lg_1
    have blv_1 := blt lv_1
    have blr_1 := blt lr_1
    go_wp2
    go_ret
    rw [HS.out]
    exact ⟨none, 0, rfl, Own.nil _ _ _ _, E1.out⟩
  · have HE := Lib.hid hE
    have HS := Lib.hid (show Sg.cellsE g ⟨v, r⟩ = Sg.cellsOf g v by unfold Sg.cellsE; rw [hE]; rfl)
    have hvg : v.length = g.length := by unfold Sg.validE at hE; simp only [Bool.and_eq_true, decide_eq_true_eq] at hE; exact hE.1.1.1.2
    have HC := Lib.hid (fun w h hv => s_cellsOf A Av c cv g v w h hv hvg)
    clear hE hvg
    go_enter Try.func27, Try.ntmps27
    go_wp2_with fail
    refine (HV.out _ (H.out.ext E0.out) (Hv.out.ext E0.out) (Hr.out.ext E0.out)).mono ?_
    rintro e w1 ⟨rfl, he1⟩
    rw [HE.out]
    have U1 := Lib.hid ((Ext.rfl' (World.alloc (World.alloc w (.cells #[.slice A g.length c] 25)) (.cells #[.slice Av v.length cv, .slice Ar r.length cr] 31))).tr he1)
    have E1 := Lib.hid (E0.out.tr U1.out)
    have lg_1 := U1.out.cellE Qlg.out
    have lv_1 := U1.out.cellE Qlv.out
    have lr_1 := U1.out.cellE Qlr.out
    clear he1 
    have blg_1 := blt lg_1
    have blv_1 := blt lv_1
    have blr_1 := blt lr_1
    go_wp2_with fail
    refine (HC.out _ (H.out.ext E1.out) (Hv.out.ext E1.out)).mono ?_
    rintro e w2 ⟨A', c', rfl, ho, he2⟩
    have Ho := Lib.hid ho
    clear ho
    have U2 := Lib.hid ((Ext.rfl' w1).tr he2)
    have E2 := Lib.hid (E1.out.tr U2.out)
    have lg_2 := U2.out.cellE lg_1
    have lv_2 := U2.out.cellE lv_1
    have lr_2 := U2.out.cellE lr_1
    clear he2 lg_1 lv_1 lr_1 blg_1 blv_1 blr_1
    have blg_2 := blt lg_2
    have blv_2 := blt lv_2
    have blr_2 := blt lr_2
    have z1 := E1.out.size
    go_wp2
    go_ret
    rw [HS.out, Sg.length_cellsOf]
    exact ⟨A', _, rfl, Ho.out.mono z1, E2.out⟩
end Go.Proofs.Ytkbihkggneaeeaa
