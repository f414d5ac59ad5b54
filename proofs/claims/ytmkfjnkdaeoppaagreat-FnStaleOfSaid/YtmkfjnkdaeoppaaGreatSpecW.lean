/- The reference's StaleOf and LazyCells: contracts. Conditions: bounds on lengths. -/
import Derived.Test.YtmkfjnkdaeoppaaGreatSpecQRS
import Derived.Test.YtmkfjnkdaeoppaaGreatSpecTO
import Derived.Test.YtmkfjnkdaeoppaaGreatSepAll
import Derived.Test.YtmkfjnkdaeoppaaGreatModelsA
namespace Go.Proofs.YtmkfjnkdaeoppaaGreat
open Go.RowKit

theorem s_validL (A Av Ar Aq : Option Addr) (c cv cr cq : Nat) (g : Sg.Graph) (v q : List Int) (r : List (List Int)) (w : World) (h : RdN w A g) (hv : Rd w 1 Av v.length (ints v)) (hr : RdL w Ar r) (hq : Rd w 1 Aq q.length (ints q)) (hvl : v.length ≤ 1048576) (hql : q.length ≤ 1048576) :
  Calls Tryz.prog 65 #[.agg #[.slice A g.length c], .agg #[.slice Av v.length cv, .slice Ar r.length cr, .slice Aq q.length cq]] w fun e w' => e = .returned (.bool (Sg.validL g ⟨v, r, q⟩)) ∧ Ext w w' := by
 have := s_validLazy A Av Ar Aq c cv cr cq g v q r w h hv hr hq hvl hql
 rw [Sg.validL_same] at this
 exact this

set_option maxRecDepth 100000 in
set_option maxHeartbeats 2000000 in
theorem s_StaleOf (A Av Ar Aq : Option Addr) (c cv cr cq : Nat) (g : Sg.Graph) (v q : List Int) (r : List (List Int)) (w : World) (h : RdN w A g) (hv : Rd w 1 Av v.length (ints v)) (hr : RdLC w Ar r) (hq : Rd w 1 Aq q.length (ints q)) (hvl : v.length ≤ 1048576) (hql : q.length ≤ 1048576) :
  Calls Tryz.prog 20 #[.agg #[.slice A g.length c], .agg #[.slice Av v.length cv, .slice Ar r.length cr, .slice Aq q.length cq]] w fun e w' => ∃ A' c', e = .returned (.slice A' (Sg.staleOf g ⟨v, r, q⟩).length c') ∧ Own w' w.heap.size 3 1 A' (Sg.staleOf g ⟨v, r, q⟩).length c' (ints (Sg.staleOf g ⟨v, r, q⟩)) ∧ Ext w w' := by
 have hgl := h.1
 have HV := lh (fun w h hv hr hq => s_validL A Av Ar Aq c cv cr cq g v q r w h hv (RdLC.rdL hr) hq hvl hql)
 have H := lh h
 have Hv := lh hv
 have Hr := lh hr
 have Hq := lh hq
 clear h hv hr hq
 have E0 := lh ((((Ext.rfl' w).al (.cells #[.slice A g.length c] 25)).al (.cells #[.slice Av v.length cv, .slice Ar r.length cr, .slice Aq q.length cq] 29)) : Ext w (World.alloc (World.alloc w (.cells #[.slice A g.length c] 25)) (.cells #[.slice Av v.length cv, .slice Ar r.length cr, .slice Aq q.length cq] 29)))
 have qlg : World.cell? (World.alloc (World.alloc w (.cells #[.slice A g.length c] 25)) (.cells #[.slice Av v.length cv, .slice Ar r.length cr, .slice Aq q.length cq] 29)) ⟨w.heap.size, 0, none⟩ = some (.slice A g.length c) := by simp [go_sem]
 have Qlg := lh qlg
 clear qlg
 have qlv : World.cell? (World.alloc (World.alloc w (.cells #[.slice A g.length c] 25)) (.cells #[.slice Av v.length cv, .slice Ar r.length cr, .slice Aq q.length cq] 29)) ⟨w.heap.size + 1, 0, none⟩ = some (.slice Av v.length cv) := by simp [go_sem]
 have Qlv := lh qlv
 clear qlv
 have qlr : World.cell? (World.alloc (World.alloc w (.cells #[.slice A g.length c] 25)) (.cells #[.slice Av v.length cv, .slice Ar r.length cr, .slice Aq q.length cq] 29)) ⟨w.heap.size + 1, 1, none⟩ = some (.slice Ar r.length cr) := by simp [go_sem]
 have Qlr := lh qlr
 clear qlr
 have qlq : World.cell? (World.alloc (World.alloc w (.cells #[.slice A g.length c] 25)) (.cells #[.slice Av v.length cv, .slice Ar r.length cr, .slice Aq q.length cq] 29)) ⟨w.heap.size + 1, 2, none⟩ = some (.slice Aq q.length cq) := by simp [go_sem]
 have Qlq := lh qlq
 clear qlq
 cases hE : Sg.validL g ⟨v, r, q⟩
 ·have HE := lh hE
  have HS := lh (show Sg.staleOf g ⟨v, r, q⟩ = [] by unfold Sg.staleOf; rw [hE]; rfl)
  clear hE
  go_enter Tryz.func20, Tryz.ntmps20
  go_wp2_with fail
  refine (HV.out _ (H.out.ext E0.out) (Hv.out.ext E0.out) (Hr.out.ext E0.out) (Hq.out.ext E0.out)).mono ?_
  rintro e w1 ⟨rfl, he1⟩
  rw [HE.out]
  have U1 := lh ((Ext.rfl' (World.alloc (World.alloc w (.cells #[.slice A g.length c] 25)) (.cells #[.slice Av v.length cv, .slice Ar r.length cr, .slice Aq q.length cq] 29))).tr he1)
  have E1 := lh (E0.out.tr U1.out)
  have lg_1 := U1.out.cellE Qlg.out
  have lv_1 := U1.out.cellE Qlv.out
  have lr_1 := U1.out.cellE Qlr.out
  have lq_1 := U1.out.cellE Qlq.out
  clear he1 
  have blg_1 := blt lg_1
  have blv_1 := blt lv_1
  have blr_1 := blt lr_1
  have blq_1 := blt lq_1
  go_wp2
  go_ret
  rw [HS.out]
  exact ⟨none, 0, rfl, Own.nil _ _ _ _, E1.out⟩
 have HE := lh hE
 have HS := lh (show Sg.staleOf g ⟨v, r, q⟩ = Sg.staleL q g.length by unfold Sg.staleOf; rw [hE]; rfl)
 have hqg : q.length = g.length := by unfold Sg.validL Sg.shapeL at hE; simp only [Bool.and_eq_true, decide_eq_true_eq] at hE; exact hE.1.1.2
 have Hqg := lh hqg
 have HQ := lh (fun k => (show Sg.staleL q (k + 1) = if (Sg.rd q (k : Int) != 0) = true then Sg.staleL q k ++ [(k : Int)] else Sg.staleL q k from Sg.whichL_succ _ k))
 have HL := lh (fun k => (show (Sg.staleL q k).length ≤ k from Sg.whichL_len _ k))
 clear hE hqg
 go_enter Tryz.func20, Tryz.ntmps20
 go_wp2_with fail
 refine (HV.out _ (H.out.ext E0.out) (Hv.out.ext E0.out) (Hr.out.ext E0.out) (Hq.out.ext E0.out)).mono ?_
 rintro e w1 ⟨rfl, he1⟩
 rw [HE.out]
 have U1 := lh ((Ext.rfl' (World.alloc (World.alloc w (.cells #[.slice A g.length c] 25)) (.cells #[.slice Av v.length cv, .slice Ar r.length cr, .slice Aq q.length cq] 29))).tr he1)
 have E1 := lh (E0.out.tr U1.out)
 have lg_1 := U1.out.cellE Qlg.out
 have lv_1 := U1.out.cellE Qlv.out
 have lr_1 := U1.out.cellE Qlr.out
 have lq_1 := U1.out.cellE Qlq.out
 clear he1 
 have blg_1 := blt lg_1
 have blv_1 := blt lv_1
 have blr_1 := blt lr_1
 have blq_1 := blt lq_1
 go_wp2
 have O0 := lh ((Own.new w1 3 1 #[] 0 (Nat.le_refl _) (by unfold maxLen; omega) rfl))
 have KG := lh lg_1
 have KQ := lh lq_1
 have EA := lh (show Ext w1 (World.alloc w1 (.cells #[] 3)) from (Ext.rfl' _).al _)
 clear lg_1 lv_1 lr_1 lq_1 blg_1 blv_1 blr_1 blq_1
 go_loopw [5, 6] (fun v i wr => ∃ (k : Nat) (A' : Option Addr) (c' : Nat), k ≤ g.length ∧ i = .int .i64 k ∧ v = .slice A' (Sg.staleL q k).length c' ∧ Hid (Own wr w1.heap.size 3 1 A' (Sg.staleL q k).length c' (ints (Sg.staleL q k))) ∧ Hid (Ext w1 wr)) (fun _ i _ => g.length - (intOf i).toNat)
 case atStart => exact ⟨0, _, _, Nat.zero_le _, rfl, rfl, lh O0.out, EA⟩
 case round =>
  obtain ⟨k, A', c', hk, rfl, rfl, hO, hE⟩ := hrel
  have k1 := hE.out.cellE KG.out
  have k2 := hE.out.cellE KQ.out
  have b1 := blt k1
  have b2 := blt k2
  have hl := HL.out k
  by_cases hlt : k < g.length
  ·obtain ⟨bq, oq, x, rfl, hx, hcx⟩ := (Hq.out.ext (E1.out.tr hE.out)).at1 (show k < q.length by rw [Hqg.out]; exact hlt)
   have b3 := blt hcx
   have hkq : k < q.length := by rw [Hqg.out]; exact hlt
   have hrd : Sg.rd q (k : Int) = x := by simp [Sg.rd, hx]
   have hs := HQ.out k
   rw [hrd] at hs
   clear hx hrd
   by_cases hz : x = 0
   ·have z1 : (x != 0) = false := by simp [hz]
    rw [z1, if_neg (by simp)] at hs
    have Hs := lh hs
    clear hs hz
    go_wp2
    go_roundw
    case rel => exact ⟨k + 1, A', c', by omega, by go_num, by rw [Hs.out], lh (by rw [Hs.out]; exact hO.out), hE⟩
    case measure => simp [intOf]; omega
   ·have z1 : (x != 0) = true := by simp [hz]
    rw [z1, if_pos rfl] at hs
    have Hs := lh hs
    clear hs hz
    go_wp2_with (at_builtin; refine wpList_app1 rfl rfl eiInt rfl hO.out rfl rfl (one_int _ _) (by omega) (by omega) hE.out.size ?_; intro A2 c2 w2 ho2 hg2 hat2)
    go_roundw
    case rel => exact ⟨k + 1, A2, c2, by omega, by go_num, by rw [Hs.out]; simp, lh (by rw [Hs.out]; simpa using ho2), lh (hE.out.gr hg2 (fun b hb => (hO.out.lt hb).1))⟩
    case measure => simp [intOf]; omega
  ·obtain rfl : k = g.length := by omega
   go_wp2
   go_ret
   rw [HS.out]
   exact ⟨A', c', rfl, hO.out.mono E1.out.size, E1.out.tr hE.out⟩
set_option maxRecDepth 100000 in
set_option maxHeartbeats 2000000 in
theorem s_LazyCells (A Av Ar Aq : Option Addr) (c cv cr cq : Nat) (g : Sg.Graph) (v q : List Int) (r : List (List Int)) (w : World) (h : RdN w A g) (hv : Rd w 1 Av v.length (ints v)) (hr : RdLC w Ar r) (hq : Rd w 1 Aq q.length (ints q)) (hvl : v.length ≤ 1048576) (hql : q.length ≤ 1048576) :
  Calls Tryz.prog 39 #[.agg #[.slice A g.length c], .agg #[.slice Av v.length cv, .slice Ar r.length cr, .slice Aq q.length cq]] w fun e w' => ∃ A' c', e = .returned (.slice A' (Sg.lazyCells g ⟨v, r, q⟩).length c') ∧ Own w' w.heap.size 3 1 A' (Sg.lazyCells g ⟨v, r, q⟩).length c' (ints (Sg.lazyCells g ⟨v, r, q⟩)) ∧ Ext w w' := by
 have hgl := h.1
 have HV := lh (fun w h hv hr hq => s_validL A Av Ar Aq c cv cr cq g v q r w h hv (RdLC.rdL hr) hq hvl hql)
 have H := lh h
 have Hv := lh hv
 have Hr := lh hr
 have Hq := lh hq
 clear h hv hr hq
 have E0 := lh ((((Ext.rfl' w).al (.cells #[.slice A g.length c] 25)).al (.cells #[.slice Av v.length cv, .slice Ar r.length cr, .slice Aq q.length cq] 29)) : Ext w (World.alloc (World.alloc w (.cells #[.slice A g.length c] 25)) (.cells #[.slice Av v.length cv, .slice Ar r.length cr, .slice Aq q.length cq] 29)))
 have qlg : World.cell? (World.alloc (World.alloc w (.cells #[.slice A g.length c] 25)) (.cells #[.slice Av v.length cv, .slice Ar r.length cr, .slice Aq q.length cq] 29)) ⟨w.heap.size, 0, none⟩ = some (.slice A g.length c) := by simp [go_sem]
 have Qlg := lh qlg
 clear qlg
 have qlv : World.cell? (World.alloc (World.alloc w (.cells #[.slice A g.length c] 25)) (.cells #[.slice Av v.length cv, .slice Ar r.length cr, .slice Aq q.length cq] 29)) ⟨w.heap.size + 1, 0, none⟩ = some (.slice Av v.length cv) := by simp [go_sem]
 have Qlv := lh qlv
 clear qlv
 have qlr : World.cell? (World.alloc (World.alloc w (.cells #[.slice A g.length c] 25)) (.cells #[.slice Av v.length cv, .slice Ar r.length cr, .slice Aq q.length cq] 29)) ⟨w.heap.size + 1, 1, none⟩ = some (.slice Ar r.length cr) := by simp [go_sem]
 have Qlr := lh qlr
 clear qlr
 have qlq : World.cell? (World.alloc (World.alloc w (.cells #[.slice A g.length c] 25)) (.cells #[.slice Av v.length cv, .slice Ar r.length cr, .slice Aq q.length cq] 29)) ⟨w.heap.size + 1, 2, none⟩ = some (.slice Aq q.length cq) := by simp [go_sem]
 have Qlq := lh qlq
 clear qlq
 cases hE : Sg.validL g ⟨v, r, q⟩
 ·have HE := lh hE
  have HS := lh (show Sg.lazyCells g ⟨v, r, q⟩ = [] by unfold Sg.lazyCells; rw [hE]; rfl)
  clear hE
  go_enter Tryz.func39, Tryz.ntmps39
  go_wp2_with fail
  refine (HV.out _ (H.out.ext E0.out) (Hv.out.ext E0.out) (Hr.out.ext E0.out) (Hq.out.ext E0.out)).mono ?_
  rintro e w1 ⟨rfl, he1⟩
  rw [HE.out]
  have U1 := lh ((Ext.rfl' (World.alloc (World.alloc w (.cells #[.slice A g.length c] 25)) (.cells #[.slice Av v.length cv, .slice Ar r.length cr, .slice Aq q.length cq] 29))).tr he1)
  have E1 := lh (E0.out.tr U1.out)
  have lg_1 := U1.out.cellE Qlg.out
  have lv_1 := U1.out.cellE Qlv.out
  have lr_1 := U1.out.cellE Qlr.out
  have lq_1 := U1.out.cellE Qlq.out
  clear he1 
  have blg_1 := blt lg_1
  have blv_1 := blt lv_1
  have blr_1 := blt lr_1
  have blq_1 := blt lq_1
  go_wp2
  go_ret
  rw [HS.out]
  exact ⟨none, 0, rfl, Own.nil _ _ _ _, E1.out⟩
 ·have HE := lh hE
  have HS := lh (show Sg.lazyCells g ⟨v, r, q⟩ = Sg.cellsOf g v by unfold Sg.lazyCells; rw [hE]; rfl)
  have hvg : v.length = g.length := by unfold Sg.validL Sg.shapeL at hE; simp only [Bool.and_eq_true, decide_eq_true_eq] at hE; exact hE.1.1.1.1.2
  have HC := lh (fun w h hv => s_cellsOf A Av c cv g v w h hv hvg)
  clear hE hvg
  go_enter Tryz.func39, Tryz.ntmps39
  go_wp2_with fail
  refine (HV.out _ (H.out.ext E0.out) (Hv.out.ext E0.out) (Hr.out.ext E0.out) (Hq.out.ext E0.out)).mono ?_
  rintro e w1 ⟨rfl, he1⟩
  rw [HE.out]
  have U1 := lh ((Ext.rfl' (World.alloc (World.alloc w (.cells #[.slice A g.length c] 25)) (.cells #[.slice Av v.length cv, .slice Ar r.length cr, .slice Aq q.length cq] 29))).tr he1)
  have E1 := lh (E0.out.tr U1.out)
  have lg_1 := U1.out.cellE Qlg.out
  have lv_1 := U1.out.cellE Qlv.out
  have lr_1 := U1.out.cellE Qlr.out
  have lq_1 := U1.out.cellE Qlq.out
  clear he1 
  have blg_1 := blt lg_1
  have blv_1 := blt lv_1
  have blr_1 := blt lr_1
  have blq_1 := blt lq_1
  go_wp2_with fail
  refine (HC.out _ (H.out.ext E1.out) (Hv.out.ext E1.out)).mono ?_
  rintro e w2 ⟨A', c', rfl, ho, he2⟩
  have Ho := lh ho
  clear ho
  have U2 := lh ((Ext.rfl' w1).tr he2)
  have E2 := lh (E1.out.tr U2.out)
  have lg_2 := U2.out.cellE lg_1
  have lv_2 := U2.out.cellE lv_1
  have lr_2 := U2.out.cellE lr_1
  have lq_2 := U2.out.cellE lq_1
  clear he2 lg_1 lv_1 lr_1 lq_1 blg_1 blv_1 blr_1 blq_1
  have blg_2 := blt lg_2
  have blv_2 := blt lv_2
  have blr_2 := blt lr_2
  have blq_2 := blt lq_2
  have z1 := E1.out.size
  go_wp2
  go_ret
  rw [HS.out, Sg.length_cellsOf]
  exact ⟨A', _, rfl, Ho.out.mono z1, E2.out⟩
end Go.Proofs.YtmkfjnkdaeoppaaGreat
