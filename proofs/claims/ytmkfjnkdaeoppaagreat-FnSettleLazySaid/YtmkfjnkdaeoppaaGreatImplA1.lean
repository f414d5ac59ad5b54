/- The program's StaleOf and LazyCells: contracts. Conditions: bounds on lengths. -/
import Derived.Test.YtmkfjnkdaeoppaaGreatImplVW
import Derived.Test.YtmkfjnkdaeoppaaGreatImplPX
import Derived.Test.YtmkfjnkdaeoppaaGreatModelsA
namespace Go.Proofs.YtmkfjnkdaeoppaaGreat
open Go.RowKit

theorem prd_stale1 (B : Nat) (Aq : Option Addr) (cq n : Nat) (q : List Int) : Prd Tryz.prog 64 [.pointer (some ⟨B, 0, none⟩)] (fun w => w.cell? ⟨B, 2, none⟩ = some (.slice Aq n cq) ∧ Rd w 1 Aq n (ints q)) (fun k => Sg.rd q k != 0) (fun k => 0 ≤ k ∧ k < n) where
 ent := ent_of Tryz.func64 rfl (by kernel_rfl)
 call := fun w k h hk => by
  obtain ⟨h1, h3⟩ := h
  obtain ⟨j, rfl⟩ := Int.eq_ofNat_of_zero_le hk.1
  have hj : j < n := by omega
  have hb := h3.big
  obtain ⟨ba, oa, x, rfl, hx, hcx⟩ := h3.at1 hj
  have HP := lh (show (Sg.rd q j != 0) = (x != 0) by simp [Sg.rd, hx])
  have hb1 := blt h1
  clear hx h3 hk
  go_enter Tryz.func64, Tryz.ntmps64
  go_wp2
  go_ret
  exact ⟨ret_bool (by rw [HP.out]), Ext.rfl' _⟩
 ext := fun _ _ h e => ⟨e.cellE h.1, h.2.ext e⟩

set_option maxRecDepth 100000 in
set_option maxHeartbeats 2000000 in
theorem i_StaleOf (A Av Ar Aq : Option Addr) (c cv cr cq : Nat) (g : Sg.Graph) (v q : List Int) (r : List (List Int)) (w : World) (h : RdN w A g) (hv : Rd w 1 Av v.length (ints v)) (hr : RdLC w Ar r) (hq : Rd w 1 Aq q.length (ints q)) (hvl : v.length ≤ 1048576) (hql : q.length ≤ 1048576) :
  Calls Tryz.prog 18 #[.agg #[.slice A g.length c], .agg #[.slice Av v.length cv, .slice Ar r.length cr, .slice Aq q.length cq]] w fun e w' => ∃ A' c', e = .returned (.slice A' (Sg.staleOf g ⟨v, r, q⟩).length c') ∧ Own w' w.heap.size 3 1 A' (Sg.staleOf g ⟨v, r, q⟩).length c' (ints (Sg.staleOf g ⟨v, r, q⟩)) ∧ Ext w w' := by
 have hgl := h.1
 have HV := lh (fun w h hv hr hq => i_ValidLazy A Av Ar Aq c cv cr cq g v q r w h hv hr hq hvl hql)
 have H := lh h
 have Hv := lh hv
 have Hr := lh hr
 have Hq := lh hq
 clear h hv hr hq
 have E0 := lh ((((Ext.rfl' w).al (.cells #[.slice A g.length c] 25)).al (.cells #[.slice Av v.length cv, .slice Ar r.length cr, .slice Aq q.length cq] 29)) : Ext w (World.alloc (World.alloc w (.cells #[.slice A g.length c] 25)) (.cells #[.slice Av v.length cv, .slice Ar r.length cr, .slice Aq q.length cq] 29)))
 have qlg : World.cell? (World.alloc (World.alloc w (.cells #[.slice A g.length c] 25)) (.cells #[.slice Av v.length cv, .slice Ar r.length cr, .slice Aq q.length cq] 29)) ⟨w.heap.size, 0, none⟩ = some (.slice A g.length c) := by simp [go_sem]
 have Qlg := lh qlg
 clear qlg
 have qlv : World.cell? (World.alloc (World.alloc w (.cells #[.slice A g.length c] 25)) (.cells #[.slice Av v.length cv, .slice Ar r.length cr, .slice Aq q.length cq] 29)) ⟨w.heap.size + 1, 0, none⟩ = some (.slice Av v.length cv) := by simp [go_sem]
 have Qlv := lh qlv
 clear qlv
 have qlr : World.cell? (World.alloc (World.alloc w (.cells #[.slice A g.length c] 25)) (.cells #[.slice Av v.length cv, .slice Ar r.length cr, .slice Aq q.length cq] 29)) ⟨w.heap.size + 1, 1, none⟩ = some (.slice Ar r.length cr) := by simp [go_sem]
 have Qlr := lh qlr
 clear qlr
 have qlq : World.cell? (World.alloc (World.alloc w (.cells #[.slice A g.length c] 25)) (.cells #[.slice Av v.length cv, .slice Ar r.length cr, .slice Aq q.length cq] 29)) ⟨w.heap.size + 1, 2, none⟩ = some (.slice Aq q.length cq) := by simp [go_sem]
 have Qlq := lh qlq
 clear qlq
 cases hE : Sg.validL g ⟨v, r, q⟩
 ·have HE := lh hE
  have HS := lh (show Sg.staleOf g ⟨v, r, q⟩ = [] by unfold Sg.staleOf; rw [hE]; rfl)
  clear hE
  go_enter Tryz.func18, Tryz.ntmps18
  go_wp2_with fail
  refine (HV.out _ (H.out.ext E0.out) (Hv.out.ext E0.out) (Hr.out.ext E0.out) (Hq.out.ext E0.out)).mono ?_
  rintro e w1 ⟨rfl, he1⟩
  rw [HE.out]
  have U1 := lh ((Ext.rfl' (World.alloc (World.alloc w (.cells #[.slice A g.length c] 25)) (.cells #[.slice Av v.length cv, .slice Ar r.length cr, .slice Aq q.length cq] 29))).tr he1)
  have E1 := lh (E0.out.tr U1.out)
  have lg_1 := U1.out.cellE Qlg.out
  have lv_1 := U1.out.cellE Qlv.out
  have lr_1 := U1.out.cellE Qlr.out
  have lq_1 := U1.out.cellE Qlq.out
  clear he1 
  have blg_1 := blt lg_1
  have blv_1 := blt lv_1
  have blr_1 := blt lr_1
  have blq_1 := blt lq_1
  go_wp2
  go_ret
  rw [HS.out]
  exact ⟨none, 0, rfl, Own.nil _ _ _ _, E1.out⟩
 ·have HE := lh hE
  have HS := lh (show Sg.staleOf g ⟨v, r, q⟩ = Sg.whichL (fun i => Sg.rd q (i : Int) != 0) g.length by unfold Sg.staleOf; rw [hE]; rfl)
  have hqg : q.length = g.length := by unfold Sg.validL Sg.shapeL at hE; simp only [Bool.and_eq_true, decide_eq_true_eq] at hE; exact hE.1.1.2
  have Hqg := lh hqg
  clear hE hqg
  go_enter Tryz.func18, Tryz.ntmps18
  go_wp2_with fail
  refine (HV.out _ (H.out.ext E0.out) (Hv.out.ext E0.out) (Hr.out.ext E0.out) (Hq.out.ext E0.out)).mono ?_
  rintro e w1 ⟨rfl, he1⟩
  rw [HE.out]
  have U1 := lh ((Ext.rfl' (World.alloc (World.alloc w (.cells #[.slice A g.length c] 25)) (.cells #[.slice Av v.length cv, .slice Ar r.length cr, .slice Aq q.length cq] 29))).tr he1)
  have E1 := lh (E0.out.tr U1.out)
  have lg_1 := U1.out.cellE Qlg.out
  have lv_1 := U1.out.cellE Qlv.out
  have lr_1 := U1.out.cellE Qlr.out
  have lq_1 := U1.out.cellE Qlq.out
  clear he1 
  have blg_1 := blt lg_1
  have blv_1 := blt lv_1
  have blr_1 := blt lr_1
  have blq_1 := blt lq_1
  go_wp2_with fail
  refine (i_which (prd_stale1 (w.heap.size + 1) Aq cq q.length q) A g.length c _ ⟨lq_1, Hq.out.ext E1.out⟩ (fun k hk => ⟨by omega, by rw [Hqg.out]; omega⟩) hgl).mono ?_
  rintro e w2 ⟨A7, rfl, ho7, he2⟩
  have Ho7 := lh ho7
  clear ho7
  have U2 := lh ((Ext.rfl' w1).tr he2)
  have E2 := lh (E1.out.tr U2.out)
  have lg_2 := U2.out.cellE lg_1
  have lv_2 := U2.out.cellE lv_1
  have lr_2 := U2.out.cellE lr_1
  have lq_2 := U2.out.cellE lq_1
  clear he2 lg_1 lv_1 lr_1 lq_1 blg_1 blv_1 blr_1 blq_1
  have blg_2 := blt lg_2
  have blv_2 := blt lv_2
  have blr_2 := blt lr_2
  have blq_2 := blt lq_2
  have z6 := E1.out.size
  go_wp2
  go_ret
  rw [HS.out]
  exact ⟨A7, _, rfl, Ho7.out.mono z6, E2.out⟩
set_option maxRecDepth 100000 in
set_option maxHeartbeats 2000000 in
theorem i_LazyCells (A Av Ar Aq : Option Addr) (c cv cr cq : Nat) (g : Sg.Graph) (v q : List Int) (r : List (List Int)) (w : World) (h : RdN w A g) (hv : Rd w 1 Av v.length (ints v)) (hr : RdLC w Ar r) (hq : Rd w 1 Aq q.length (ints q)) (hvl : v.length ≤ 1048576) (hql : q.length ≤ 1048576) :
  Calls Tryz.prog 27 #[.agg #[.slice A g.length c], .agg #[.slice Av v.length cv, .slice Ar r.length cr, .slice Aq q.length cq]] w fun e w' => ∃ A' c', e = .returned (.slice A' (Sg.lazyCells g ⟨v, r, q⟩).length c') ∧ Own w' w.heap.size 3 1 A' (Sg.lazyCells g ⟨v, r, q⟩).length c' (ints (Sg.lazyCells g ⟨v, r, q⟩)) ∧ Ext w w' := by
 have hgl := h.1
 have HV := lh (fun w h hv hr hq => i_ValidLazy A Av Ar Aq c cv cr cq g v q r w h hv hr hq hvl hql)
 have H := lh h
 have Hv := lh hv
 have Hr := lh hr
 have Hq := lh hq
 clear h hv hr hq
 have E0 := lh ((((Ext.rfl' w).al (.cells #[.slice A g.length c] 25)).al (.cells #[.slice Av v.length cv, .slice Ar r.length cr, .slice Aq q.length cq] 29)) : Ext w (World.alloc (World.alloc w (.cells #[.slice A g.length c] 25)) (.cells #[.slice Av v.length cv, .slice Ar r.length cr, .slice Aq q.length cq] 29)))
 have qlg : World.cell? (World.alloc (World.alloc w (.cells #[.slice A g.length c] 25)) (.cells #[.slice Av v.length cv, .slice Ar r.length cr, .slice Aq q.length cq] 29)) ⟨w.heap.size, 0, none⟩ = some (.slice A g.length c) := by simp [go_sem]
 have Qlg := lh qlg
 clear qlg
 have qlv : World.cell? (World.alloc (World.alloc w (.cells #[.slice A g.length c] 25)) (.cells #[.slice Av v.length cv, .slice Ar r.length cr, .slice Aq q.length cq] 29)) ⟨w.heap.size + 1, 0, none⟩ = some (.slice Av v.length cv) := by simp [go_sem]
 have Qlv := lh qlv
 clear qlv
 have qlr : World.cell? (World.alloc (World.alloc w (.cells #[.slice A g.length c] 25)) (.cells #[.slice Av v.length cv, .slice Ar r.length cr, .slice Aq q.length cq] 29)) ⟨w.heap.size + 1, 1, none⟩ = some (.slice Ar r.length cr) := by simp [go_sem]
 have Qlr := lh qlr
 clear qlr
 have qlq : World.cell? (World.alloc (World.alloc w (.cells #[.slice A g.length c] 25)) (.cells #[.slice Av v.length cv, .slice Ar r.length cr, .slice Aq q.length cq] 29)) ⟨w.heap.size + 1, 2, none⟩ = some (.slice Aq q.length cq) := by simp [go_sem]
 have Qlq := lh qlq
 clear qlq
 cases hE : Sg.validL g ⟨v, r, q⟩
 ·have HE := lh hE
  have HS := lh (show Sg.lazyCells g ⟨v, r, q⟩ = [] by unfold Sg.lazyCells; rw [hE]; rfl)
  clear hE
  go_enter Tryz.func27, Tryz.ntmps27
  go_wp2_with fail
  refine (HV.out _ (H.out.ext E0.out) (Hv.out.ext E0.out) (Hr.out.ext E0.out) (Hq.out.ext E0.out)).mono ?_
  rintro e w1 ⟨rfl, he1⟩
  rw [HE.out]
  have U1 := lh ((Ext.rfl' (World.alloc (World.alloc w (.cells #[.slice A g.length c] 25)) (.cells #[.slice Av v.length cv, .slice Ar r.length cr, .slice Aq q.length cq] 29))).tr he1)
  have E1 := lh (E0.out.tr U1.out)
  have lg_1 := U1.out.cellE Qlg.out
  have lv_1 := U1.out.cellE Qlv.out
  have lr_1 := U1.out.cellE Qlr.out
  have lq_1 := U1.out.cellE Qlq.out
  clear he1 
  have blg_1 := blt lg_1
  have blv_1 := blt lv_1
  have blr_1 := blt lr_1
  have blq_1 := blt lq_1
  go_wp2
  go_ret
  rw [HS.out]
  exact ⟨none, 0, rfl, Own.nil _ _ _ _, E1.out⟩
 ·have HE := lh hE
  have HS := lh (show Sg.lazyCells g ⟨v, r, q⟩ = Sg.cellsOf g v by unfold Sg.lazyCells; rw [hE]; rfl)
  have hvg : v.length = g.length := by unfold Sg.validL Sg.shapeL at hE; simp only [Bool.and_eq_true, decide_eq_true_eq] at hE; exact hE.1.1.1.1.2
  have HC := lh (fun w h hv => i_cellsOf A Av c cv g v w h hv hvg)
  clear hE hvg
  go_enter Tryz.func27, Tryz.ntmps27
  go_wp2_with fail
  refine (HV.out _ (H.out.ext E0.out) (Hv.out.ext E0.out) (Hr.out.ext E0.out) (Hq.out.ext E0.out)).mono ?_
  rintro e w1 ⟨rfl, he1⟩
  rw [HE.out]
  have U1 := lh ((Ext.rfl' (World.alloc (World.alloc w (.cells #[.slice A g.length c] 25)) (.cells #[.slice Av v.length cv, .slice Ar r.length cr, .slice Aq q.length cq] 29))).tr he1)
  have E1 := lh (E0.out.tr U1.out)
  have lg_1 := U1.out.cellE Qlg.out
  have lv_1 := U1.out.cellE Qlv.out
  have lr_1 := U1.out.cellE Qlr.out
  have lq_1 := U1.out.cellE Qlq.out
  clear he1 
  have blg_1 := blt lg_1
  have blv_1 := blt lv_1
  have blr_1 := blt lr_1
  have blq_1 := blt lq_1
  go_wp2_with fail
  refine (HC.out _ (H.out.ext E1.out) (Hv.out.ext E1.out)).mono ?_
  rintro e w2 ⟨A', rfl, ho, he2⟩
  have Ho := lh ho
  clear ho
  have U2 := lh ((Ext.rfl' w1).tr he2)
  have E2 := lh (E1.out.tr U2.out)
  have lg_2 := U2.out.cellE lg_1
  have lv_2 := U2.out.cellE lv_1
  have lr_2 := U2.out.cellE lr_1
  have lq_2 := U2.out.cellE lq_1
  clear he2 lg_1 lv_1 lr_1 lq_1 blg_1 blv_1 blr_1 blq_1
  have blg_2 := blt lg_2
  have blv_2 := blt lv_2
  have blr_2 := blt lr_2
  have blq_2 := blt lq_2
  have z1 := E1.out.size
  go_wp2
  go_ret
  rw [HS.out, Sg.length_cellsOf]
  exact ⟨A', _, rfl, Ho.out.mono z1, E2.out⟩
end Go.Proofs.YtmkfjnkdaeoppaaGreat
