/- FnSettleLazy: the law's walk. Conditions: the code can be read. -/
import Derived.Test.YtmkfjnkdaeoppaaGreatTy
import Derived.Test.YtmkfjnkdaeoppaaGreatDrawS
import Derived.Test.YtmkfjnkdaeoppaaGreatLazS
import Derived.Test.YtmkfjnkdaeoppaaGreatLazT
import Derived.Test.YtmkfjnkdaeoppaaGreatImplA1
import Derived.Test.YtmkfjnkdaeoppaaGreatImplR
import Derived.Test.YtmkfjnkdaeoppaaGreatPlAll
import Derived.Test.YtmkfjnkdaeoppaaGreatEqAll
import Derived.Test.YtmkfjnkdaeoppaaGreatHeldA
import Derived.Test.YtmkfjnkdaeoppaaGreatFactsAll
namespace Go.Proofs.YtmkfjnkdaeoppaaGreat
open Go.RowKit

set_option maxRecDepth 100000 in
set_option maxHeartbeats 8000000 in
theorem ex_FnSettleLazy (A : Option Addr) (c : Nat) (l : List Int) (w : World) (h : Rd w 1 A l.length (u8s l)) (hr : ∀ x ∈ l, 0 ≤ x ∧ x ≤ 255) (hc : l.length ≤ c) (hcm : c ≤ maxLen) :
  Calls Tryz.prog 14 #[.slice A l.length c] w fun e w' => e = .returned (.bool true) ∧ Ext w w' := by
 have hbig := h.big
 have HD := lh (s_DrawSettleLazy A c l w h hr hc hcm)
 clear h hr hc hcm
 by_cases hb : 1048576 < l.length
 ·have hb2 : (1048576 : Int) < (l.length : Int) := by omega
  go_enter Tryz.func14, Tryz.ntmps14
  go_wp2
  go_ret
  exact ⟨rfl, Ext.rfl' _⟩
 have hb2 : ¬ (1048576 : Int) < (l.length : Int) := by omega
 clear hb
 have E0 := lh ((Ext.rfl' w) : Ext w w)
 go_enter Tryz.func14, Tryz.ntmps14
 go_wp2_with fail
 refine (HD.out).mono ?_
 rintro e w1 ⟨g, Ag, cg, v, Av, cv, r, Ar, cr, q, Aq, cq, rfl, hg2, hg10, hvl, hrl, hql, hN, hV, hR, hQ, he1⟩
 have H1 := lh hN
 have V1 := lh hV
 have R1 := lh hR
 have Q1 := lh hQ
 have hvl9 : v.length ≤ 1048576 := by omega
 have hql9 : q.length ≤ 1048576 := by omega
 clear hN hV hR hQ HD
 have U1 := lh ((Ext.rfl' w).tr he1)
 have E1 := lh (E0.out.tr U1.out)
 clear he1 
 have sz1 := U1.out.size
 have hsm := settleO_smallQ g ⟨v, r, q⟩
 obtain ⟨⟨⟨ov, orr, oq⟩, rn⟩, hW⟩ : ∃ p, Sg.settleO g ⟨v, r, q⟩ = p := ⟨_, rfl⟩
 rw [hW] at hsm
 have SM := lh (show SmallZ ⟨ov, orr, oq⟩ from hsm.1)
 clear hsm
 have HI := lh (fun w h hv hr hq => by have := i_SettleLazy Ag Av Ar Aq cg cv cr cq g v q r w h hv hr hq hvl9 hql9; rw [hW] at this; exact this)
 have HS := lh (fun w h hv hr hq => by have := s_SettleLazy Ag Av Ar Aq cg cv cr cq g v q r w h hv hr hq hvl9 hql9; rw [hW] at this; exact this)
 have HV := lh (fun w h hv hr hq => i_ValidLazy Ag Av Ar Aq cg cv cr cq g v q r w h hv hr hq hvl9 hql9)
 have HW := lh hW
 clear hW
 have X1_1 := lh (Ext.al (Ext.al (Ext.rfl' w1) (.cells #[.slice Ag g.length cg] 25)) (.cells #[.slice Av v.length cv, .slice Ar r.length cr, .slice Aq q.length cq] 29))
 go_wp2_with fail
 refine (HI.out _ (H1.out.ext X1_1.out) (V1.out.ext X1_1.out) (R1.out.ext X1_1.out) (Q1.out.ext X1_1.out)).mono ?_
 rintro e w2 ⟨A2, c2, A3, c3, A4, c4, z2, A5, c5, rfl, hoz, hon, hod, he2⟩
 have Hv2 := lh hoz.v.rd
 have Hr2 := lh (OwnL.rdLC hoz.r SM.out.r SM.out.e)
 have Hq2 := lh hoz.q.rd
 have Hn2 := lh hon.rd
 clear hoz hon hod
 have U2 := lh ((Ext.al (Ext.al (Ext.rfl' w1) (.cells #[.slice Ag g.length cg] 25)) (.cells #[.slice Av v.length cv, .slice Ar r.length cr, .slice Aq q.length cq] 29)).tr he2)
 have E2 := lh (E1.out.tr U2.out)
 have lg_2 := he2.cellE (show World.cell? (World.alloc (World.alloc w1 (.cells #[.slice Ag g.length cg] 25)) (.cells #[.slice Av v.length cv, .slice Ar r.length cr, .slice Aq q.length cq] 29)) ⟨w1.heap.size, 0, none⟩ = some (.slice Ag g.length cg) by simp [go_sem])
 have lv_2 := he2.cellE (show World.cell? (World.alloc (World.alloc w1 (.cells #[.slice Ag g.length cg] 25)) (.cells #[.slice Av v.length cv, .slice Ar r.length cr, .slice Aq q.length cq] 29)) ⟨w1.heap.size + 1, 0, none⟩ = some (.slice Av v.length cv) by simp [go_sem])
 have lr_2 := he2.cellE (show World.cell? (World.alloc (World.alloc w1 (.cells #[.slice Ag g.length cg] 25)) (.cells #[.slice Av v.length cv, .slice Ar r.length cr, .slice Aq q.length cq] 29)) ⟨w1.heap.size + 1, 1, none⟩ = some (.slice Ar r.length cr) by simp [go_sem])
 have lq_2 := he2.cellE (show World.cell? (World.alloc (World.alloc w1 (.cells #[.slice Ag g.length cg] 25)) (.cells #[.slice Av v.length cv, .slice Ar r.length cr, .slice Aq q.length cq] 29)) ⟨w1.heap.size + 1, 2, none⟩ = some (.slice Aq q.length cq) by simp [go_sem])
 clear he2 X1_1
 have blg_2 := blt lg_2
 have blv_2 := blt lv_2
 have blr_2 := blt lr_2
 have blq_2 := blt lq_2
 have sz2 := U2.out.size
 have X2_2 := lh (Ext.al ((Ext.rfl' w1).tr U2.out) (.cells #[.slice A2 ov.length c2, .slice A3 orr.length c3, .slice A4 oq.length c4] 29))
 go_wp2_with fail
 refine (HS.out _ (H1.out.ext X2_2.out) (V1.out.ext X2_2.out) (R1.out.ext X2_2.out) (Q1.out.ext X2_2.out)).mono ?_
 rintro e w3 ⟨A6, c6, A7, c7, A8, c8, z6, A9, c9, rfl, hoz, hon, hod, he3⟩
 have Hv6 := lh hoz.v.rd
 have Hr6 := lh (OwnL.rdLC hoz.r SM.out.r SM.out.e)
 have Hq6 := lh hoz.q.rd
 have Hn6 := lh hon.rd
 clear hoz hon hod
 have U3 := lh ((Ext.al (Ext.rfl' w2) (.cells #[.slice A2 ov.length c2, .slice A3 orr.length c3, .slice A4 oq.length c4] 29)).tr he3)
 have E3 := lh (E2.out.tr U3.out)
 have lg_3 := U3.out.cellE lg_2
 have lv_3 := U3.out.cellE lv_2
 have lr_3 := U3.out.cellE lr_2
 have lq_3 := U3.out.cellE lq_2
 have pv_3 := he3.cellE (show World.cell? (World.alloc w2 (.cells #[.slice A2 ov.length c2, .slice A3 orr.length c3, .slice A4 oq.length c4] 29)) ⟨w2.heap.size, 0, none⟩ = some (.slice A2 ov.length c2) by simp [go_sem])
 have pr_3 := he3.cellE (show World.cell? (World.alloc w2 (.cells #[.slice A2 ov.length c2, .slice A3 orr.length c3, .slice A4 oq.length c4] 29)) ⟨w2.heap.size, 1, none⟩ = some (.slice A3 orr.length c3) by simp [go_sem])
 have pq_3 := he3.cellE (show World.cell? (World.alloc w2 (.cells #[.slice A2 ov.length c2, .slice A3 orr.length c3, .slice A4 oq.length c4] 29)) ⟨w2.heap.size, 2, none⟩ = some (.slice A4 oq.length c4) by simp [go_sem])
 clear he3 lg_2 lv_2 lr_2 lq_2 blg_2 blv_2 blr_2 blq_2 X2_2
 have blg_3 := blt lg_3
 have blv_3 := blt lv_3
 have blr_3 := blt lr_3
 have blq_3 := blt lq_3
 have bpv_3 := blt pv_3
 have bpr_3 := blt pr_3
 have bpq_3 := blt pq_3
 have sz3 := U3.out.size
 have X3_3 := lh (Ext.al ((Ext.rfl' w2).tr U3.out) (.cells #[.slice A6 ov.length c6, .slice A7 orr.length c7, .slice A8 oq.length c8] 29))
 have X3_4 := lh (Ext.al (Ext.rfl' w3) (.cells #[.slice A6 ov.length c6, .slice A7 orr.length c7, .slice A8 oq.length c8] 29))
 go_wp2_with fail
 refine (l_equalLazy A2 A6 A3 A7 A4 A8 c2 c6 c3 c7 c4 c8 ov orr oq _ (Hv2.out.ext X3_3.out) (Hv6.out.ext X3_4.out) (Hr2.out.ext X3_3.out).rdL (Hr6.out.ext X3_4.out).rdL (Hq2.out.ext X3_3.out) (Hq6.out.ext X3_4.out)).mono ?_
 rintro e w4 ⟨rfl, he4⟩
 have U4 := lh ((Ext.al (Ext.rfl' w3) (.cells #[.slice A6 ov.length c6, .slice A7 orr.length c7, .slice A8 oq.length c8] 29)).tr he4)
 have E4 := lh (E3.out.tr U4.out)
 have lg_4 := U4.out.cellE lg_3
 have lv_4 := U4.out.cellE lv_3
 have lr_4 := U4.out.cellE lr_3
 have lq_4 := U4.out.cellE lq_3
 have pv_4 := U4.out.cellE pv_3
 have pr_4 := U4.out.cellE pr_3
 have pq_4 := U4.out.cellE pq_3
 have ov_4 := he4.cellE (show World.cell? (World.alloc w3 (.cells #[.slice A6 ov.length c6, .slice A7 orr.length c7, .slice A8 oq.length c8] 29)) ⟨w3.heap.size, 0, none⟩ = some (.slice A6 ov.length c6) by simp [go_sem])
 have or_4 := he4.cellE (show World.cell? (World.alloc w3 (.cells #[.slice A6 ov.length c6, .slice A7 orr.length c7, .slice A8 oq.length c8] 29)) ⟨w3.heap.size, 1, none⟩ = some (.slice A7 orr.length c7) by simp [go_sem])
 have oq_4 := he4.cellE (show World.cell? (World.alloc w3 (.cells #[.slice A6 ov.length c6, .slice A7 orr.length c7, .slice A8 oq.length c8] 29)) ⟨w3.heap.size, 2, none⟩ = some (.slice A8 oq.length c8) by simp [go_sem])
 clear he4 lg_3 lv_3 lr_3 lq_3 pv_3 pr_3 pq_3 blg_3 blv_3 blr_3 blq_3 bpv_3 bpr_3 bpq_3 X3_3 X3_4
 have blg_4 := blt lg_4
 have blv_4 := blt lv_4
 have blr_4 := blt lr_4
 have blq_4 := blt lq_4
 have bpv_4 := blt pv_4
 have bpr_4 := blt pr_4
 have bpq_4 := blt pq_4
 have bov_4 := blt ov_4
 have bor_4 := blt or_4
 have boq_4 := blt oq_4
 have sz4 := U4.out.size
 have X4_5 := lh (((Ext.rfl' w2).tr U3.out).tr U4.out)
 have X4_6 := lh ((Ext.rfl' w3).tr U4.out)
 go_wp2_with fail
 refine (l_equalInts A5 A9 c5 c9 rn _ (Hn2.out.ext X4_5.out) (Hn6.out.ext X4_6.out)).mono ?_
 rintro e w5 ⟨rfl, he5⟩
 have U5 := lh ((Ext.rfl' w4).tr he5)
 have E5 := lh (E4.out.tr U5.out)
 have lg_5 := U5.out.cellE lg_4
 have lv_5 := U5.out.cellE lv_4
 have lr_5 := U5.out.cellE lr_4
 have lq_5 := U5.out.cellE lq_4
 have pv_5 := U5.out.cellE pv_4
 have pr_5 := U5.out.cellE pr_4
 have pq_5 := U5.out.cellE pq_4
 have ov_5 := U5.out.cellE ov_4
 have or_5 := U5.out.cellE or_4
 have oq_5 := U5.out.cellE oq_4
 clear he5 lg_4 lv_4 lr_4 lq_4 pv_4 pr_4 pq_4 ov_4 or_4 oq_4 blg_4 blv_4 blr_4 blq_4 bpv_4 bpr_4 bpq_4 bov_4 bor_4 boq_4 X4_5 X4_6
 have blg_5 := blt lg_5
 have blv_5 := blt lv_5
 have blr_5 := blt lr_5
 have blq_5 := blt lq_5
 have bpv_5 := blt pv_5
 have bpr_5 := blt pr_5
 have bpq_5 := blt pq_5
 have bov_5 := blt ov_5
 have bor_5 := blt or_5
 have boq_5 := blt oq_5
 have sz5 := U5.out.size
 have X5_7 := lh (((((Ext.rfl' w1).tr U2.out).tr U3.out).tr U4.out).tr U5.out)
 go_wp2_with fail
 refine (HV.out _ (H1.out.ext X5_7.out) (V1.out.ext X5_7.out) (R1.out.ext X5_7.out) (Q1.out.ext X5_7.out)).mono ?_
 rintro e w6 ⟨rfl, he6⟩
 have U6 := lh ((Ext.rfl' w5).tr he6)
 have E6 := lh (E5.out.tr U6.out)
 have lg_6 := U6.out.cellE lg_5
 have lv_6 := U6.out.cellE lv_5
 have lr_6 := U6.out.cellE lr_5
 have lq_6 := U6.out.cellE lq_5
 have pv_6 := U6.out.cellE pv_5
 have pr_6 := U6.out.cellE pr_5
 have pq_6 := U6.out.cellE pq_5
 have ov_6 := U6.out.cellE ov_5
 have or_6 := U6.out.cellE or_5
 have oq_6 := U6.out.cellE oq_5
 clear he6 lg_5 lv_5 lr_5 lq_5 pv_5 pr_5 pq_5 ov_5 or_5 oq_5 blg_5 blv_5 blr_5 blq_5 bpv_5 bpr_5 bpq_5 bov_5 bor_5 boq_5 X5_7
 have blg_6 := blt lg_6
 have blv_6 := blt lv_6
 have blr_6 := blt lr_6
 have blq_6 := blt lq_6
 have bpv_6 := blt pv_6
 have bpr_6 := blt pr_6
 have bpq_6 := blt pq_6
 have bov_6 := blt ov_6
 have bor_6 := blt or_6
 have boq_6 := blt oq_6
 have sz6 := U6.out.size
 cases hE : Sg.validL g ⟨v, r, q⟩
 ·skip
  clear hE
  have X6_8 := lh (((((Ext.rfl' w2).tr U3.out).tr U4.out).tr U5.out).tr U6.out)
  have X6_9 := lh ((((Ext.rfl' w3).tr U4.out).tr U5.out).tr U6.out)
  go_wp2_with fail
  refine (l_equalLazy A2 A6 A3 A7 A4 A8 c2 c6 c3 c7 c4 c8 ov orr oq _ (Hv2.out.ext X6_8.out) (Hv6.out.ext X6_9.out) (Hr2.out.ext X6_8.out).rdL (Hr6.out.ext X6_9.out).rdL (Hq2.out.ext X6_8.out) (Hq6.out.ext X6_9.out)).mono ?_
  rintro e w7 ⟨rfl, he7⟩
  have U7 := lh ((Ext.rfl' w6).tr he7)
  have E7 := lh (E6.out.tr U7.out)
  have lg_7 := U7.out.cellE lg_6
  have lv_7 := U7.out.cellE lv_6
  have lr_7 := U7.out.cellE lr_6
  have lq_7 := U7.out.cellE lq_6
  have pv_7 := U7.out.cellE pv_6
  have pr_7 := U7.out.cellE pr_6
  have pq_7 := U7.out.cellE pq_6
  have ov_7 := U7.out.cellE ov_6
  have or_7 := U7.out.cellE or_6
  have oq_7 := U7.out.cellE oq_6
  clear he7 lg_6 lv_6 lr_6 lq_6 pv_6 pr_6 pq_6 ov_6 or_6 oq_6 blg_6 blv_6 blr_6 blq_6 bpv_6 bpr_6 bpq_6 bov_6 bor_6 boq_6 X6_8 X6_9
  have blg_7 := blt lg_7
  have blv_7 := blt lv_7
  have blr_7 := blt lr_7
  have blq_7 := blt lq_7
  have bpv_7 := blt pv_7
  have bpr_7 := blt pr_7
  have bpq_7 := blt pq_7
  have bov_7 := blt ov_7
  have bor_7 := blt or_7
  have boq_7 := blt oq_7
  have sz7 := U7.out.size
  have X7_10 := lh ((((((Ext.rfl' w2).tr U3.out).tr U4.out).tr U5.out).tr U6.out).tr U7.out)
  have X7_11 := lh (((((Ext.rfl' w3).tr U4.out).tr U5.out).tr U6.out).tr U7.out)
  go_wp2_with fail
  refine (l_equalInts A5 A9 c5 c9 rn _ (Hn2.out.ext X7_10.out) (Hn6.out.ext X7_11.out)).mono ?_
  rintro e w8 ⟨rfl, he8⟩
  have U8 := lh ((Ext.rfl' w7).tr he8)
  have E8 := lh (E7.out.tr U8.out)
  have lg_8 := U8.out.cellE lg_7
  have lv_8 := U8.out.cellE lv_7
  have lr_8 := U8.out.cellE lr_7
  have lq_8 := U8.out.cellE lq_7
  have pv_8 := U8.out.cellE pv_7
  have pr_8 := U8.out.cellE pr_7
  have pq_8 := U8.out.cellE pq_7
  have ov_8 := U8.out.cellE ov_7
  have or_8 := U8.out.cellE or_7
  have oq_8 := U8.out.cellE oq_7
  clear he8 lg_7 lv_7 lr_7 lq_7 pv_7 pr_7 pq_7 ov_7 or_7 oq_7 blg_7 blv_7 blr_7 blq_7 bpv_7 bpr_7 bpq_7 bov_7 bor_7 boq_7 X7_10 X7_11
  have blg_8 := blt lg_8
  have blv_8 := blt lv_8
  have blr_8 := blt lr_8
  have blq_8 := blt lq_8
  have bpv_8 := blt pv_8
  have bpr_8 := blt pr_8
  have bpq_8 := blt pq_8
  have bov_8 := blt ov_8
  have bor_8 := blt or_8
  have boq_8 := blt oq_8
  have sz8 := U8.out.size
  go_wp2
  go_ret
  exact ⟨rfl, E8.out⟩
 ·skip
  have hL := Sg.settle_law hE
  have hW := HW.out
  rw [hW] at hL
  obtain ⟨l1, l2, l3, l4, l5⟩ := hL
  dsimp only at l2 l4 l5
  have hG := (Sg.validL_shape hE).1
  have hC : Sg.validC g (Sg.cellsOf g v) = true := Sg.lazy_cellsC hE
  have hlc : Sg.lazyCells g ⟨v, r, q⟩ = Sg.cellsOf g v := by unfold Sg.lazyCells; rw [if_pos hE]
  obtain ⟨cl, hcl0⟩ : ∃ cl, cl = Sg.cellsOf g v := ⟨_, rfl⟩
  rw [← hcl0] at hlc hC
  rw [← hcl0] at l4
  have hovl9 : ov.length ≤ 1048576 := SM.out.v
  have hoql9 : oq.length ≤ 1048576 := SM.out.q
  have hso : startOr g cl = ⟨ov, orr⟩ := by unfold startOr; rw [hG, hC]; exact l4
  have HLC := lh (fun w h hv hr hq => by have := i_LazyCells Ag Av Ar Aq cg cv cr cq g v q r w h hv hr hq hvl9 hql9; rw [hlc] at this; exact this)
  have HSE := lh (fun A c w h hc => by have := i_StartEager Ag A cg c g cl w h hc; rw [hso] at this; exact this)
  have HSO := lh (fun w h hv hr hq => by have := i_StaleOf Ag A2 A3 A4 cg c2 c3 c4 g ov oq orr w h hv hr hq hovl9 hoql9; rw [l3] at this; exact this)
  have HND := lh (fun A c w h => l_noTwice A c rn w h l5)
  clear hE hW l1 l2 l3 l4 l5 hG hC hlc hcl0 hso
  go_wp2_with fail
  have klg := lg_6
  have klv := lv_6
  have klr := lr_6
  have klq := lq_6
  have kpv := pv_6
  have kpr := pr_6
  have kpq := pq_6
  refine wp_region_held_drew (S := (fun W => W.cell? ⟨w1.heap.size, 0, none⟩ = some (.slice Ag g.length cg) ∧ W.cell? ⟨w1.heap.size + 1, 0, none⟩ = some (.slice Av v.length cv) ∧ W.cell? ⟨w1.heap.size + 1, 1, none⟩ = some (.slice Ar r.length cr) ∧ W.cell? ⟨w1.heap.size + 1, 2, none⟩ = some (.slice Aq q.length cq))) (by kernel_rfl) ?_ (fun hHeld => ?_)
  ·exact ⟨((Ext.rfl' _).dr).cellE klg, ((Ext.rfl' _).dr).cellE klv, ((Ext.rfl' _).dr).cellE klr, ((Ext.rfl' _).dr).cellE klq⟩
  refine ty 0 ?_
  refine ty 1 ?_
  refine ty 2 ?_
  refine wpAnyH_ready (rs := [3, 5]) (by kernel_rfl) (by simp) ?_
  refine AllReadyH.cons rfl (fun K hK => ?_) ?_
  ·skip
   go_simp
   have X6_8 := lh (((((((Ext.rfl' w1).tr U2.out).tr U3.out).tr U4.out).tr U5.out).tr U6.out).dr)
   refine (HLC.out _ (H1.out.ext X6_8.out) (V1.out.ext X6_8.out) (R1.out.ext X6_8.out) (Q1.out.ext X6_8.out)).mono ?_
   rintro e w7 ⟨A20, c20, rfl, hoc, he7⟩
   have Hc20 := lh hoc.rd
   clear hoc
   have U7 := lh (((Ext.rfl' w6).dr).tr he7)
   have E7 := lh (E6.out.tr U7.out)
   have lg_7 := U7.out.cellE lg_6
   have lv_7 := U7.out.cellE lv_6
   have lr_7 := U7.out.cellE lr_6
   have lq_7 := U7.out.cellE lq_6
   have pv_7 := U7.out.cellE pv_6
   have pr_7 := U7.out.cellE pr_6
   have pq_7 := U7.out.cellE pq_6
   clear he7 lg_6 lv_6 lr_6 lq_6 pv_6 pr_6 pq_6 blg_6 blv_6 blr_6 blq_6 bpv_6 bpr_6 bpq_6 bov_6 bor_6 boq_6 X6_8
   have blg_7 := blt lg_7
   have blv_7 := blt lv_7
   have blr_7 := blt lr_7
   have blq_7 := blt lq_7
   have bpv_7 := blt pv_7
   have bpr_7 := blt pr_7
   have bpq_7 := blt pq_7
   have sz7 := U7.out.size
   try go_wp2_with fail
   refine hK.out _ _ (by exact ⟨(((Ext.rfl' w6).tr U7.out)).cellE klg, (((Ext.rfl' w6).tr U7.out)).cellE klv, (((Ext.rfl' w6).tr U7.out)).cellE klr, (((Ext.rfl' w6).tr U7.out)).cellE klq⟩) fun hh2 => ?_; clear hK K hHeld; have hHeld := hh2; clear hh2
   try simp only [Act.put, pu]
   refine wpAnyH_ready (rs := [4, 5]) (by kernel_rfl) (by simp) ?_
   refine AllReadyH.cons rfl (fun K hK => ?_) ?_
   ·skip
    go_simp
    have X7_9 := lh (((((((Ext.rfl' w1).tr U2.out).tr U3.out).tr U4.out).tr U5.out).tr U6.out).tr U7.out)
    have X7_10 := lh (Ext.rfl' w7)
    refine (HSE.out A20 c20 _ (H1.out.ext X7_9.out) (Hc20.out.ext X7_10.out)).mono ?_
    rintro e w8 ⟨A30, A31, z30, rfl, hoz, he8⟩
    have OZ := lh hoz
    clear hoz
    have U8 := lh ((Ext.rfl' w7).tr he8)
    have E8 := lh (E7.out.tr U8.out)
    have lg_8 := U8.out.cellE lg_7
    have lv_8 := U8.out.cellE lv_7
    have lr_8 := U8.out.cellE lr_7
    have lq_8 := U8.out.cellE lq_7
    have pv_8 := U8.out.cellE pv_7
    have pr_8 := U8.out.cellE pr_7
    have pq_8 := U8.out.cellE pq_7
    clear he8 lg_7 lv_7 lr_7 lq_7 pv_7 pr_7 pq_7 blg_7 blv_7 blr_7 blq_7 bpv_7 bpr_7 bpq_7 X7_9 X7_10
    have blg_8 := blt lg_8
    have blv_8 := blt lv_8
    have blr_8 := blt lr_8
    have blq_8 := blt lq_8
    have bpv_8 := blt pv_8
    have bpr_8 := blt pr_8
    have bpq_8 := blt pq_8
    have sz8 := U8.out.size
    try go_wp2_with fail
    refine hK.out _ _ (by exact ⟨((((Ext.rfl' w6).tr U7.out).tr U8.out)).cellE klg, ((((Ext.rfl' w6).tr U7.out).tr U8.out)).cellE klv, ((((Ext.rfl' w6).tr U7.out).tr U8.out)).cellE klr, ((((Ext.rfl' w6).tr U7.out).tr U8.out)).cellE klq⟩) fun hh2 => ?_; clear hK K hHeld; have hHeld := hh2; clear hh2
    try simp only [Act.put, pu]
    refine rd1 5 rfl fun K hK => ?_
    refine held_alE rfl rfl ?_
    intro bT w9 hbT hBT he9
    try simp only [World.size_drew] at hbT
    have HBT := lh hbT
    have BT_9 := lh hBT
    clear hBT hbT
    have U9 := lh ((Ext.rfl' w8).tr he9)
    have E9 := lh (E8.out.tr U9.out)
    have lg_9 := U9.out.cellE lg_8
    have lv_9 := U9.out.cellE lv_8
    have lr_9 := U9.out.cellE lr_8
    have lq_9 := U9.out.cellE lq_8
    have pv_9 := U9.out.cellE pv_8
    have pr_9 := U9.out.cellE pr_8
    have pq_9 := U9.out.cellE pq_8
    clear he9 lg_8 lv_8 lr_8 lq_8 pv_8 pr_8 pq_8 blg_8 blv_8 blr_8 blq_8 bpv_8 bpr_8 bpq_8
    have blg_9 := blt lg_9
    have blv_9 := blt lv_9
    have blr_9 := blt lr_9
    have blq_9 := blt lq_9
    have bpv_9 := blt pv_9
    have bpr_9 := blt pr_9
    have bpq_9 := blt pq_9
    have sz9 := U9.out.size
    have ltT := BT_9.out.lt
    try simp only [pg]
    refine hK.out _ _ (by exact ⟨(((((Ext.rfl' w6).tr U7.out).tr U8.out).tr U9.out)).cellE klg, (((((Ext.rfl' w6).tr U7.out).tr U8.out).tr U9.out)).cellE klv, (((((Ext.rfl' w6).tr U7.out).tr U8.out).tr U9.out)).cellE klr, (((((Ext.rfl' w6).tr U7.out).tr U8.out).tr U9.out)).cellE klq⟩) fun hh2 => ?_; clear hK K hHeld; have hHeld := hh2; clear hh2
    try simp only [Act.put, pu]
    refine rd1 6 rfl fun K hK => ?_
    have hbT := HBT.out
    have fT0 := BT_9.out.free 0
    have fT1 := BT_9.out.free 1
    have xT0 := BT_9.out.cell (j := 0) rfl
    have xT1 := BT_9.out.cell (j := 1) rfl
    have bT9 := BT_9.out.lt
    have eS : Ext w6 (World.setCell (World.setCell w9 ⟨bT, 0, none⟩ (.slice A30 ov.length ov.length)) ⟨bT, 1, none⟩ (.slice A31 orr.length orr.length)) := (Ext.set (Ext.set ((((Ext.rfl' w6).tr U7.out).tr U8.out).tr U9.out) (p := ⟨bT, 0, none⟩) (show w6.heap.size ≤ bT by omega) (.slice A30 ov.length ov.length)) (p := ⟨bT, 1, none⟩) (show w6.heap.size ≤ bT by omega) (.slice A31 orr.length orr.length))
    have ES := lh eS
    have M6 := lh (Mod.set2a w9 bT (.slice A30 ov.length ov.length) (.slice A31 orr.length orr.length))
    have B6 := lh (Bx.set2a BT_9.out (.slice A30 ov.length ov.length) (.slice A31 orr.length orr.length))
    clear eS hbT
    go_simp
    refine hK.out _ _ (by exact ⟨(ES.out).cellE klg, (ES.out).cellE klv, (ES.out).cellE klr, (ES.out).cellE klq⟩) fun hh2 => ?_; clear hK K hHeld; have hHeld := hh2; clear hh2
    try simp only [Act.put]
    generalize hwS : (World.setCell (World.setCell w9 ⟨bT, 0, none⟩ (.slice A30 ov.length ov.length)) ⟨bT, 1, none⟩ (.slice A31 orr.length orr.length)) = w10 at *
    clear hwS
    have E10 := lh (E6.out.tr ES.out)
    have sz10 := ES.out.size
    have lg_10 := ES.out.cellE klg
    have lv_10 := ES.out.cellE klv
    have lr_10 := ES.out.cellE klr
    have lq_10 := ES.out.cellE klq
    have pv_10 := ES.out.cellE kpv
    have pr_10 := ES.out.cellE kpr
    have pq_10 := ES.out.cellE kpq
    have T0_10 := B6.out.cell (j := 0) rfl
    have T1_10 := B6.out.cell (j := 1) rfl
    have hze := (OwnE.ext OZ.out ((Ext.rfl' w8).tr U9.out)).mod M6.out (fun b hb e => by subst e; have h1 := OwnE.lt OZ.out hb; have := HBT.out; omega)
    have Hv30 := lh hze.v.rd
    have Hr30 := lh (OwnL.rdL hze.r SM.out.r SM.out.e)
    clear hze OZ
    clear lg_9 lv_9 lr_9 lq_9 pv_9 pr_9 pq_9 blg_9 blv_9 blr_9 blq_9 bpv_9 bpr_9 bpq_9 fT0 xT0 fT1 xT1 klg klv klr klq kpv kpr kpq
    have blg_10 := blt lg_10
    have blv_10 := blt lv_10
    have blr_10 := blt lr_10
    have blq_10 := blt lq_10
    have bpv_10 := blt pv_10
    have bpr_10 := blt pr_10
    have bpq_10 := blt pq_10
    have bT0_10 := blt T0_10
    have bT1_10 := blt T1_10
    refine dn ?_
    have X10_11 := lh (((((((Ext.rfl' w1).tr U2.out).tr U3.out).tr U4.out).tr U5.out).tr U6.out).tr ES.out)
    have X10_12 := lh ((((((Ext.rfl' w2).tr U3.out).tr U4.out).tr U5.out).tr U6.out).tr ES.out)
    go_wp2_with fail
    refine (HSO.out _ (H1.out.ext X10_11.out) (Hv2.out.ext X10_12.out) (Hr2.out.ext X10_12.out) (Hq2.out.ext X10_12.out)).mono ?_
    rintro e w11 ⟨A12, c12, rfl, -, he11⟩
    have U11 := lh ((Ext.rfl' w10).tr he11)
    have E11 := lh (E10.out.tr U11.out)
    have lg_11 := U11.out.cellE lg_10
    have pv_11 := U11.out.cellE pv_10
    have pr_11 := U11.out.cellE pr_10
    have pq_11 := U11.out.cellE pq_10
    have T0_11 := U11.out.cellE T0_10
    have T1_11 := U11.out.cellE T1_10
    clear he11 lg_10 pv_10 pr_10 pq_10 T0_10 T1_10 blg_10 blv_10 blr_10 blq_10 bpv_10 bpr_10 bpq_10 bT0_10 bT1_10 X10_11 X10_12
    have blg_11 := blt lg_11
    have bpv_11 := blt pv_11
    have bpr_11 := blt pr_11
    have bpq_11 := blt pq_11
    have bT0_11 := blt T0_11
    have bT1_11 := blt T1_11
    have sz11 := U11.out.size
    have X11_13 := lh ((Ext.rfl' w10).tr U11.out)
    have X11_14 := lh (((((((Ext.rfl' w2).tr U3.out).tr U4.out).tr U5.out).tr U6.out).tr ES.out).tr U11.out)
    go_wp2_with fail
    refine (l_equalInts A30 A2 _ c2 ov _ (Hv30.out.ext X11_13.out) (Hv2.out.ext X11_14.out)).mono ?_
    rintro e w12 ⟨rfl, he12⟩
    have U12 := lh ((Ext.rfl' w11).tr he12)
    have E12 := lh (E11.out.tr U12.out)
    have lg_12 := U12.out.cellE lg_11
    have pv_12 := U12.out.cellE pv_11
    have pr_12 := U12.out.cellE pr_11
    have pq_12 := U12.out.cellE pq_11
    have T0_12 := U12.out.cellE T0_11
    have T1_12 := U12.out.cellE T1_11
    clear he12 lg_11 pv_11 pr_11 pq_11 T0_11 T1_11 blg_11 bpv_11 bpr_11 bpq_11 bT0_11 bT1_11 X11_13 X11_14
    have blg_12 := blt lg_12
    have bpv_12 := blt pv_12
    have bpr_12 := blt pr_12
    have bpq_12 := blt pq_12
    have bT0_12 := blt T0_12
    have bT1_12 := blt T1_12
    have sz12 := U12.out.size
    have X12_15 := lh (((Ext.rfl' w10).tr U11.out).tr U12.out)
    have X12_16 := lh ((((((((Ext.rfl' w2).tr U3.out).tr U4.out).tr U5.out).tr U6.out).tr ES.out).tr U11.out).tr U12.out)
    go_wp2_with fail
    refine (l_equalLists A31 A3 _ c3 orr _ (Hr30.out.ext X12_15.out) (Hr2.out.ext X12_16.out).rdL).mono ?_
    rintro e w13 ⟨rfl, he13⟩
    have U13 := lh ((Ext.rfl' w12).tr he13)
    have E13 := lh (E12.out.tr U13.out)
    have lg_13 := U13.out.cellE lg_12
    have pv_13 := U13.out.cellE pv_12
    have pr_13 := U13.out.cellE pr_12
    have pq_13 := U13.out.cellE pq_12
    have T0_13 := U13.out.cellE T0_12
    have T1_13 := U13.out.cellE T1_12
    clear he13 lg_12 pv_12 pr_12 pq_12 T0_12 T1_12 blg_12 bpv_12 bpr_12 bpq_12 bT0_12 bT1_12 X12_15 X12_16
    have blg_13 := blt lg_13
    have bpv_13 := blt pv_13
    have bpr_13 := blt pr_13
    have bpq_13 := blt pq_13
    have bT0_13 := blt T0_13
    have bT1_13 := blt T1_13
    have sz13 := U13.out.size
    have X13_17 := lh (((((((((Ext.rfl' w2).tr U3.out).tr U4.out).tr U5.out).tr U6.out).tr ES.out).tr U11.out).tr U12.out).tr U13.out)
    go_wp2_with fail
    refine (HND.out A5 c5 _ (Hn2.out.ext X13_17.out)).mono ?_
    rintro e w14 ⟨rfl, he14⟩
    have U14 := lh ((Ext.rfl' w13).tr he14)
    have E14 := lh (E13.out.tr U14.out)
    have lg_14 := U14.out.cellE lg_13
    have pv_14 := U14.out.cellE pv_13
    have pr_14 := U14.out.cellE pr_13
    have pq_14 := U14.out.cellE pq_13
    have T0_14 := U14.out.cellE T0_13
    have T1_14 := U14.out.cellE T1_13
    clear he14 lg_13 pv_13 pr_13 pq_13 T0_13 T1_13 blg_13 bpv_13 bpr_13 bpq_13 bT0_13 bT1_13 X13_17
    have blg_14 := blt lg_14
    have bpv_14 := blt pv_14
    have bpr_14 := blt pr_14
    have bpq_14 := blt pq_14
    have bT0_14 := blt T0_14
    have bT1_14 := blt T1_14
    have sz14 := U14.out.size
    go_wp2
    go_ret
    exact ⟨rfl, E14.out⟩
   refine AllReadyH.cons rfl (fun K hK => ?_) ?_
   ·skip
    refine held_alE rfl rfl ?_
    intro bT w8 hbT hBT he8
    try simp only [World.size_drew] at hbT
    have HBT := lh hbT
    have BT_8 := lh hBT
    clear hBT hbT
    have U8 := lh ((Ext.rfl' w7).tr he8)
    have E8 := lh (E7.out.tr U8.out)
    have lg_8 := U8.out.cellE lg_7
    have lv_8 := U8.out.cellE lv_7
    have lr_8 := U8.out.cellE lr_7
    have lq_8 := U8.out.cellE lq_7
    have pv_8 := U8.out.cellE pv_7
    have pr_8 := U8.out.cellE pr_7
    have pq_8 := U8.out.cellE pq_7
    clear he8 lg_7 lv_7 lr_7 lq_7 pv_7 pr_7 pq_7 blg_7 blv_7 blr_7 blq_7 bpv_7 bpr_7 bpq_7
    have blg_8 := blt lg_8
    have blv_8 := blt lv_8
    have blr_8 := blt lr_8
    have blq_8 := blt lq_8
    have bpv_8 := blt pv_8
    have bpr_8 := blt pr_8
    have bpq_8 := blt pq_8
    have sz8 := U8.out.size
    have ltT := BT_8.out.lt
    try simp only [pg]
    refine hK.out _ _ (by exact ⟨((((Ext.rfl' w6).tr U7.out).tr U8.out)).cellE klg, ((((Ext.rfl' w6).tr U7.out).tr U8.out)).cellE klv, ((((Ext.rfl' w6).tr U7.out).tr U8.out)).cellE klr, ((((Ext.rfl' w6).tr U7.out).tr U8.out)).cellE klq⟩) fun hh2 => ?_; clear hK K hHeld; have hHeld := hh2; clear hh2
    try simp only [Act.put, pu]
    refine rd1 4 rfl fun K hK => ?_
    go_simp
    have X8_9 := lh ((((((((Ext.rfl' w1).tr U2.out).tr U3.out).tr U4.out).tr U5.out).tr U6.out).tr U7.out).tr U8.out)
    have X8_10 := lh ((Ext.rfl' w7).tr U8.out)
    refine (HSE.out A20 c20 _ (H1.out.ext X8_9.out) (Hc20.out.ext X8_10.out)).mono ?_
    rintro e w9 ⟨A30, A31, z30, rfl, hoz, he9⟩
    have OZ := lh hoz
    clear hoz
    have U9 := lh ((Ext.rfl' w8).tr he9)
    have E9 := lh (E8.out.tr U9.out)
    have lg_9 := U9.out.cellE lg_8
    have lv_9 := U9.out.cellE lv_8
    have lr_9 := U9.out.cellE lr_8
    have lq_9 := U9.out.cellE lq_8
    have pv_9 := U9.out.cellE pv_8
    have pr_9 := U9.out.cellE pr_8
    have pq_9 := U9.out.cellE pq_8
    clear he9 lg_8 lv_8 lr_8 lq_8 pv_8 pr_8 pq_8 blg_8 blv_8 blr_8 blq_8 bpv_8 bpr_8 bpq_8 X8_9 X8_10
    have blg_9 := blt lg_9
    have blv_9 := blt lv_9
    have blr_9 := blt lr_9
    have blq_9 := blt lq_9
    have bpv_9 := blt pv_9
    have bpr_9 := blt pr_9
    have bpq_9 := blt pq_9
    have BT_9 := lh (BT_8.out.ext U9.out)
    have sz9 := U9.out.size
    try go_wp2_with fail
    refine hK.out _ _ (by exact ⟨(((((Ext.rfl' w6).tr U7.out).tr U8.out).tr U9.out)).cellE klg, (((((Ext.rfl' w6).tr U7.out).tr U8.out).tr U9.out)).cellE klv, (((((Ext.rfl' w6).tr U7.out).tr U8.out).tr U9.out)).cellE klr, (((((Ext.rfl' w6).tr U7.out).tr U8.out).tr U9.out)).cellE klq⟩) fun hh2 => ?_; clear hK K hHeld; have hHeld := hh2; clear hh2
    try simp only [Act.put, pu]
    refine rd1 6 rfl fun K hK => ?_
    have hbT := HBT.out
    have fT0 := BT_9.out.free 0
    have fT1 := BT_9.out.free 1
    have xT0 := BT_9.out.cell (j := 0) rfl
    have xT1 := BT_9.out.cell (j := 1) rfl
    have bT9 := BT_9.out.lt
    have eS : Ext w6 (World.setCell (World.setCell w9 ⟨bT, 0, none⟩ (.slice A30 ov.length ov.length)) ⟨bT, 1, none⟩ (.slice A31 orr.length orr.length)) := (Ext.set (Ext.set ((((Ext.rfl' w6).tr U7.out).tr U8.out).tr U9.out) (p := ⟨bT, 0, none⟩) (show w6.heap.size ≤ bT by omega) (.slice A30 ov.length ov.length)) (p := ⟨bT, 1, none⟩) (show w6.heap.size ≤ bT by omega) (.slice A31 orr.length orr.length))
    have ES := lh eS
    have M6 := lh (Mod.set2a w9 bT (.slice A30 ov.length ov.length) (.slice A31 orr.length orr.length))
    have B6 := lh (Bx.set2a BT_9.out (.slice A30 ov.length ov.length) (.slice A31 orr.length orr.length))
    clear eS hbT
    go_simp
    refine hK.out _ _ (by exact ⟨(ES.out).cellE klg, (ES.out).cellE klv, (ES.out).cellE klr, (ES.out).cellE klq⟩) fun hh2 => ?_; clear hK K hHeld; have hHeld := hh2; clear hh2
    try simp only [Act.put]
    generalize hwS : (World.setCell (World.setCell w9 ⟨bT, 0, none⟩ (.slice A30 ov.length ov.length)) ⟨bT, 1, none⟩ (.slice A31 orr.length orr.length)) = w10 at *
    clear hwS
    have E10 := lh (E6.out.tr ES.out)
    have sz10 := ES.out.size
    have lg_10 := ES.out.cellE klg
    have lv_10 := ES.out.cellE klv
    have lr_10 := ES.out.cellE klr
    have lq_10 := ES.out.cellE klq
    have pv_10 := ES.out.cellE kpv
    have pr_10 := ES.out.cellE kpr
    have pq_10 := ES.out.cellE kpq
    have T0_10 := B6.out.cell (j := 0) rfl
    have T1_10 := B6.out.cell (j := 1) rfl
    have hze := (OwnE.ext OZ.out (Ext.rfl' w9)).mod M6.out (fun b hb e => by subst e; have h1 := OwnE.lt OZ.out hb; have := HBT.out; omega)
    have Hv30 := lh hze.v.rd
    have Hr30 := lh (OwnL.rdL hze.r SM.out.r SM.out.e)
    clear hze OZ
    clear lg_9 lv_9 lr_9 lq_9 pv_9 pr_9 pq_9 blg_9 blv_9 blr_9 blq_9 bpv_9 bpr_9 bpq_9 fT0 xT0 fT1 xT1 klg klv klr klq kpv kpr kpq
    have blg_10 := blt lg_10
    have blv_10 := blt lv_10
    have blr_10 := blt lr_10
    have blq_10 := blt lq_10
    have bpv_10 := blt pv_10
    have bpr_10 := blt pr_10
    have bpq_10 := blt pq_10
    have bT0_10 := blt T0_10
    have bT1_10 := blt T1_10
    refine dn ?_
    have X10_11 := lh (((((((Ext.rfl' w1).tr U2.out).tr U3.out).tr U4.out).tr U5.out).tr U6.out).tr ES.out)
    have X10_12 := lh ((((((Ext.rfl' w2).tr U3.out).tr U4.out).tr U5.out).tr U6.out).tr ES.out)
    go_wp2_with fail
    refine (HSO.out _ (H1.out.ext X10_11.out) (Hv2.out.ext X10_12.out) (Hr2.out.ext X10_12.out) (Hq2.out.ext X10_12.out)).mono ?_
    rintro e w11 ⟨A12, c12, rfl, -, he11⟩
    have U11 := lh ((Ext.rfl' w10).tr he11)
    have E11 := lh (E10.out.tr U11.out)
    have lg_11 := U11.out.cellE lg_10
    have pv_11 := U11.out.cellE pv_10
    have pr_11 := U11.out.cellE pr_10
    have pq_11 := U11.out.cellE pq_10
    have T0_11 := U11.out.cellE T0_10
    have T1_11 := U11.out.cellE T1_10
    clear he11 lg_10 pv_10 pr_10 pq_10 T0_10 T1_10 blg_10 blv_10 blr_10 blq_10 bpv_10 bpr_10 bpq_10 bT0_10 bT1_10 X10_11 X10_12
    have blg_11 := blt lg_11
    have bpv_11 := blt pv_11
    have bpr_11 := blt pr_11
    have bpq_11 := blt pq_11
    have bT0_11 := blt T0_11
    have bT1_11 := blt T1_11
    have sz11 := U11.out.size
    have X11_13 := lh ((Ext.rfl' w10).tr U11.out)
    have X11_14 := lh (((((((Ext.rfl' w2).tr U3.out).tr U4.out).tr U5.out).tr U6.out).tr ES.out).tr U11.out)
    go_wp2_with fail
    refine (l_equalInts A30 A2 _ c2 ov _ (Hv30.out.ext X11_13.out) (Hv2.out.ext X11_14.out)).mono ?_
    rintro e w12 ⟨rfl, he12⟩
    have U12 := lh ((Ext.rfl' w11).tr he12)
    have E12 := lh (E11.out.tr U12.out)
    have lg_12 := U12.out.cellE lg_11
    have pv_12 := U12.out.cellE pv_11
    have pr_12 := U12.out.cellE pr_11
    have pq_12 := U12.out.cellE pq_11
    have T0_12 := U12.out.cellE T0_11
    have T1_12 := U12.out.cellE T1_11
    clear he12 lg_11 pv_11 pr_11 pq_11 T0_11 T1_11 blg_11 bpv_11 bpr_11 bpq_11 bT0_11 bT1_11 X11_13 X11_14
    have blg_12 := blt lg_12
    have bpv_12 := blt pv_12
    have bpr_12 := blt pr_12
    have bpq_12 := blt pq_12
    have bT0_12 := blt T0_12
    have bT1_12 := blt T1_12
    have sz12 := U12.out.size
    have X12_15 := lh (((Ext.rfl' w10).tr U11.out).tr U12.out)
    have X12_16 := lh ((((((((Ext.rfl' w2).tr U3.out).tr U4.out).tr U5.out).tr U6.out).tr ES.out).tr U11.out).tr U12.out)
    go_wp2_with fail
    refine (l_equalLists A31 A3 _ c3 orr _ (Hr30.out.ext X12_15.out) (Hr2.out.ext X12_16.out).rdL).mono ?_
    rintro e w13 ⟨rfl, he13⟩
    have U13 := lh ((Ext.rfl' w12).tr he13)
    have E13 := lh (E12.out.tr U13.out)
    have lg_13 := U13.out.cellE lg_12
    have pv_13 := U13.out.cellE pv_12
    have pr_13 := U13.out.cellE pr_12
    have pq_13 := U13.out.cellE pq_12
    have T0_13 := U13.out.cellE T0_12
    have T1_13 := U13.out.cellE T1_12
    clear he13 lg_12 pv_12 pr_12 pq_12 T0_12 T1_12 blg_12 bpv_12 bpr_12 bpq_12 bT0_12 bT1_12 X12_15 X12_16
    have blg_13 := blt lg_13
    have bpv_13 := blt pv_13
    have bpr_13 := blt pr_13
    have bpq_13 := blt pq_13
    have bT0_13 := blt T0_13
    have bT1_13 := blt T1_13
    have sz13 := U13.out.size
    have X13_17 := lh (((((((((Ext.rfl' w2).tr U3.out).tr U4.out).tr U5.out).tr U6.out).tr ES.out).tr U11.out).tr U12.out).tr U13.out)
    go_wp2_with fail
    refine (HND.out A5 c5 _ (Hn2.out.ext X13_17.out)).mono ?_
    rintro e w14 ⟨rfl, he14⟩
    have U14 := lh ((Ext.rfl' w13).tr he14)
    have E14 := lh (E13.out.tr U14.out)
    have lg_14 := U14.out.cellE lg_13
    have pv_14 := U14.out.cellE pv_13
    have pr_14 := U14.out.cellE pr_13
    have pq_14 := U14.out.cellE pq_13
    have T0_14 := U14.out.cellE T0_13
    have T1_14 := U14.out.cellE T1_13
    clear he14 lg_13 pv_13 pr_13 pq_13 T0_13 T1_13 blg_13 bpv_13 bpr_13 bpq_13 bT0_13 bT1_13 X13_17
    have blg_14 := blt lg_14
    have bpv_14 := blt pv_14
    have bpr_14 := blt pr_14
    have bpq_14 := blt pq_14
    have bT0_14 := blt T0_14
    have bT1_14 := blt T1_14
    have sz14 := U14.out.size
    go_wp2
    go_ret
    exact ⟨rfl, E14.out⟩
   exact AllReadyH.nil
  refine AllReadyH.cons rfl (fun K hK => ?_) ?_
  ·skip
   refine held_alE rfl rfl ?_
   intro bT w7 hbT hBT he7
   try simp only [World.size_drew] at hbT
   have HBT := lh hbT
   have BT_7 := lh hBT
   clear hBT hbT
   have U7 := lh (((Ext.rfl' w6).dr).tr he7)
   have E7 := lh (E6.out.tr U7.out)
   have lg_7 := U7.out.cellE lg_6
   have lv_7 := U7.out.cellE lv_6
   have lr_7 := U7.out.cellE lr_6
   have lq_7 := U7.out.cellE lq_6
   have pv_7 := U7.out.cellE pv_6
   have pr_7 := U7.out.cellE pr_6
   have pq_7 := U7.out.cellE pq_6
   clear he7 lg_6 lv_6 lr_6 lq_6 pv_6 pr_6 pq_6 blg_6 blv_6 blr_6 blq_6 bpv_6 bpr_6 bpq_6 bov_6 bor_6 boq_6
   have blg_7 := blt lg_7
   have blv_7 := blt lv_7
   have blr_7 := blt lr_7
   have blq_7 := blt lq_7
   have bpv_7 := blt pv_7
   have bpr_7 := blt pr_7
   have bpq_7 := blt pq_7
   have sz7 := U7.out.size
   have ltT := BT_7.out.lt
   try simp only [pg]
   refine hK.out _ _ (by exact ⟨(((Ext.rfl' w6).tr U7.out)).cellE klg, (((Ext.rfl' w6).tr U7.out)).cellE klv, (((Ext.rfl' w6).tr U7.out)).cellE klr, (((Ext.rfl' w6).tr U7.out)).cellE klq⟩) fun hh2 => ?_; clear hK K hHeld; have hHeld := hh2; clear hh2
   try simp only [Act.put, pu]
   refine rd1 3 rfl fun K hK => ?_
   go_simp
   have X7_8 := lh (((((((Ext.rfl' w1).tr U2.out).tr U3.out).tr U4.out).tr U5.out).tr U6.out).tr U7.out)
   refine (HLC.out _ (H1.out.ext X7_8.out) (V1.out.ext X7_8.out) (R1.out.ext X7_8.out) (Q1.out.ext X7_8.out)).mono ?_
   rintro e w8 ⟨A20, c20, rfl, hoc, he8⟩
   have Hc20 := lh hoc.rd
   clear hoc
   have U8 := lh ((Ext.rfl' w7).tr he8)
   have E8 := lh (E7.out.tr U8.out)
   have lg_8 := U8.out.cellE lg_7
   have lv_8 := U8.out.cellE lv_7
   have lr_8 := U8.out.cellE lr_7
   have lq_8 := U8.out.cellE lq_7
   have pv_8 := U8.out.cellE pv_7
   have pr_8 := U8.out.cellE pr_7
   have pq_8 := U8.out.cellE pq_7
   clear he8 lg_7 lv_7 lr_7 lq_7 pv_7 pr_7 pq_7 blg_7 blv_7 blr_7 blq_7 bpv_7 bpr_7 bpq_7 X7_8
   have blg_8 := blt lg_8
   have blv_8 := blt lv_8
   have blr_8 := blt lr_8
   have blq_8 := blt lq_8
   have bpv_8 := blt pv_8
   have bpr_8 := blt pr_8
   have bpq_8 := blt pq_8
   have BT_8 := lh (BT_7.out.ext U8.out)
   have sz8 := U8.out.size
   try go_wp2_with fail
   refine hK.out _ _ (by exact ⟨((((Ext.rfl' w6).tr U7.out).tr U8.out)).cellE klg, ((((Ext.rfl' w6).tr U7.out).tr U8.out)).cellE klv, ((((Ext.rfl' w6).tr U7.out).tr U8.out)).cellE klr, ((((Ext.rfl' w6).tr U7.out).tr U8.out)).cellE klq⟩) fun hh2 => ?_; clear hK K hHeld; have hHeld := hh2; clear hh2
   try simp only [Act.put, pu]
   refine rd1 4 rfl fun K hK => ?_
   go_simp
   have X8_9 := lh ((((((((Ext.rfl' w1).tr U2.out).tr U3.out).tr U4.out).tr U5.out).tr U6.out).tr U7.out).tr U8.out)
   have X8_10 := lh (Ext.rfl' w8)
   refine (HSE.out A20 c20 _ (H1.out.ext X8_9.out) (Hc20.out.ext X8_10.out)).mono ?_
   rintro e w9 ⟨A30, A31, z30, rfl, hoz, he9⟩
   have OZ := lh hoz
   clear hoz
   have U9 := lh ((Ext.rfl' w8).tr he9)
   have E9 := lh (E8.out.tr U9.out)
   have lg_9 := U9.out.cellE lg_8
   have lv_9 := U9.out.cellE lv_8
   have lr_9 := U9.out.cellE lr_8
   have lq_9 := U9.out.cellE lq_8
   have pv_9 := U9.out.cellE pv_8
   have pr_9 := U9.out.cellE pr_8
   have pq_9 := U9.out.cellE pq_8
   clear he9 lg_8 lv_8 lr_8 lq_8 pv_8 pr_8 pq_8 blg_8 blv_8 blr_8 blq_8 bpv_8 bpr_8 bpq_8 X8_9 X8_10
   have blg_9 := blt lg_9
   have blv_9 := blt lv_9
   have blr_9 := blt lr_9
   have blq_9 := blt lq_9
   have bpv_9 := blt pv_9
   have bpr_9 := blt pr_9
   have bpq_9 := blt pq_9
   have BT_9 := lh (BT_8.out.ext U9.out)
   have sz9 := U9.out.size
   try go_wp2_with fail
   refine hK.out _ _ (by exact ⟨(((((Ext.rfl' w6).tr U7.out).tr U8.out).tr U9.out)).cellE klg, (((((Ext.rfl' w6).tr U7.out).tr U8.out).tr U9.out)).cellE klv, (((((Ext.rfl' w6).tr U7.out).tr U8.out).tr U9.out)).cellE klr, (((((Ext.rfl' w6).tr U7.out).tr U8.out).tr U9.out)).cellE klq⟩) fun hh2 => ?_; clear hK K hHeld; have hHeld := hh2; clear hh2
   try simp only [Act.put, pu]
   refine rd1 6 rfl fun K hK => ?_
   have hbT := HBT.out
   have fT0 := BT_9.out.free 0
   have fT1 := BT_9.out.free 1
   have xT0 := BT_9.out.cell (j := 0) rfl
   have xT1 := BT_9.out.cell (j := 1) rfl
   have bT9 := BT_9.out.lt
   have eS : Ext w6 (World.setCell (World.setCell w9 ⟨bT, 0, none⟩ (.slice A30 ov.length ov.length)) ⟨bT, 1, none⟩ (.slice A31 orr.length orr.length)) := (Ext.set (Ext.set ((((Ext.rfl' w6).tr U7.out).tr U8.out).tr U9.out) (p := ⟨bT, 0, none⟩) (show w6.heap.size ≤ bT by omega) (.slice A30 ov.length ov.length)) (p := ⟨bT, 1, none⟩) (show w6.heap.size ≤ bT by omega) (.slice A31 orr.length orr.length))
   have ES := lh eS
   have M6 := lh (Mod.set2a w9 bT (.slice A30 ov.length ov.length) (.slice A31 orr.length orr.length))
   have B6 := lh (Bx.set2a BT_9.out (.slice A30 ov.length ov.length) (.slice A31 orr.length orr.length))
   clear eS hbT
   go_simp
   refine hK.out _ _ (by exact ⟨(ES.out).cellE klg, (ES.out).cellE klv, (ES.out).cellE klr, (ES.out).cellE klq⟩) fun hh2 => ?_; clear hK K hHeld; have hHeld := hh2; clear hh2
   try simp only [Act.put]
   generalize hwS : (World.setCell (World.setCell w9 ⟨bT, 0, none⟩ (.slice A30 ov.length ov.length)) ⟨bT, 1, none⟩ (.slice A31 orr.length orr.length)) = w10 at *
   clear hwS
   have E10 := lh (E6.out.tr ES.out)
   have sz10 := ES.out.size
   have lg_10 := ES.out.cellE klg
   have lv_10 := ES.out.cellE klv
   have lr_10 := ES.out.cellE klr
   have lq_10 := ES.out.cellE klq
   have pv_10 := ES.out.cellE kpv
   have pr_10 := ES.out.cellE kpr
   have pq_10 := ES.out.cellE kpq
   have T0_10 := B6.out.cell (j := 0) rfl
   have T1_10 := B6.out.cell (j := 1) rfl
   have hze := (OwnE.ext OZ.out (Ext.rfl' w9)).mod M6.out (fun b hb e => by subst e; have h1 := OwnE.lt OZ.out hb; have := HBT.out; omega)
   have Hv30 := lh hze.v.rd
   have Hr30 := lh (OwnL.rdL hze.r SM.out.r SM.out.e)
   clear hze OZ
   clear lg_9 lv_9 lr_9 lq_9 pv_9 pr_9 pq_9 blg_9 blv_9 blr_9 blq_9 bpv_9 bpr_9 bpq_9 fT0 xT0 fT1 xT1 klg klv klr klq kpv kpr kpq
   have blg_10 := blt lg_10
   have blv_10 := blt lv_10
   have blr_10 := blt lr_10
   have blq_10 := blt lq_10
   have bpv_10 := blt pv_10
   have bpr_10 := blt pr_10
   have bpq_10 := blt pq_10
   have bT0_10 := blt T0_10
   have bT1_10 := blt T1_10
   refine dn ?_
   have X10_11 := lh (((((((Ext.rfl' w1).tr U2.out).tr U3.out).tr U4.out).tr U5.out).tr U6.out).tr ES.out)
   have X10_12 := lh ((((((Ext.rfl' w2).tr U3.out).tr U4.out).tr U5.out).tr U6.out).tr ES.out)
   go_wp2_with fail
   refine (HSO.out _ (H1.out.ext X10_11.out) (Hv2.out.ext X10_12.out) (Hr2.out.ext X10_12.out) (Hq2.out.ext X10_12.out)).mono ?_
   rintro e w11 ⟨A12, c12, rfl, -, he11⟩
   have U11 := lh ((Ext.rfl' w10).tr he11)
   have E11 := lh (E10.out.tr U11.out)
   have lg_11 := U11.out.cellE lg_10
   have pv_11 := U11.out.cellE pv_10
   have pr_11 := U11.out.cellE pr_10
   have pq_11 := U11.out.cellE pq_10
   have T0_11 := U11.out.cellE T0_10
   have T1_11 := U11.out.cellE T1_10
   clear he11 lg_10 pv_10 pr_10 pq_10 T0_10 T1_10 blg_10 blv_10 blr_10 blq_10 bpv_10 bpr_10 bpq_10 bT0_10 bT1_10 X10_11 X10_12
   have blg_11 := blt lg_11
   have bpv_11 := blt pv_11
   have bpr_11 := blt pr_11
   have bpq_11 := blt pq_11
   have bT0_11 := blt T0_11
   have bT1_11 := blt T1_11
   have sz11 := U11.out.size
   have X11_13 := lh ((Ext.rfl' w10).tr U11.out)
   have X11_14 := lh (((((((Ext.rfl' w2).tr U3.out).tr U4.out).tr U5.out).tr U6.out).tr ES.out).tr U11.out)
   go_wp2_with fail
   refine (l_equalInts A30 A2 _ c2 ov _ (Hv30.out.ext X11_13.out) (Hv2.out.ext X11_14.out)).mono ?_
   rintro e w12 ⟨rfl, he12⟩
   have U12 := lh ((Ext.rfl' w11).tr he12)
   have E12 := lh (E11.out.tr U12.out)
   have lg_12 := U12.out.cellE lg_11
   have pv_12 := U12.out.cellE pv_11
   have pr_12 := U12.out.cellE pr_11
   have pq_12 := U12.out.cellE pq_11
   have T0_12 := U12.out.cellE T0_11
   have T1_12 := U12.out.cellE T1_11
   clear he12 lg_11 pv_11 pr_11 pq_11 T0_11 T1_11 blg_11 bpv_11 bpr_11 bpq_11 bT0_11 bT1_11 X11_13 X11_14
   have blg_12 := blt lg_12
   have bpv_12 := blt pv_12
   have bpr_12 := blt pr_12
   have bpq_12 := blt pq_12
   have bT0_12 := blt T0_12
   have bT1_12 := blt T1_12
   have sz12 := U12.out.size
   have X12_15 := lh (((Ext.rfl' w10).tr U11.out).tr U12.out)
   have X12_16 := lh ((((((((Ext.rfl' w2).tr U3.out).tr U4.out).tr U5.out).tr U6.out).tr ES.out).tr U11.out).tr U12.out)
   go_wp2_with fail
   refine (l_equalLists A31 A3 _ c3 orr _ (Hr30.out.ext X12_15.out) (Hr2.out.ext X12_16.out).rdL).mono ?_
   rintro e w13 ⟨rfl, he13⟩
   have U13 := lh ((Ext.rfl' w12).tr he13)
   have E13 := lh (E12.out.tr U13.out)
   have lg_13 := U13.out.cellE lg_12
   have pv_13 := U13.out.cellE pv_12
   have pr_13 := U13.out.cellE pr_12
   have pq_13 := U13.out.cellE pq_12
   have T0_13 := U13.out.cellE T0_12
   have T1_13 := U13.out.cellE T1_12
   clear he13 lg_12 pv_12 pr_12 pq_12 T0_12 T1_12 blg_12 bpv_12 bpr_12 bpq_12 bT0_12 bT1_12 X12_15 X12_16
   have blg_13 := blt lg_13
   have bpv_13 := blt pv_13
   have bpr_13 := blt pr_13
   have bpq_13 := blt pq_13
   have bT0_13 := blt T0_13
   have bT1_13 := blt T1_13
   have sz13 := U13.out.size
   have X13_17 := lh (((((((((Ext.rfl' w2).tr U3.out).tr U4.out).tr U5.out).tr U6.out).tr ES.out).tr U11.out).tr U12.out).tr U13.out)
   go_wp2_with fail
   refine (HND.out A5 c5 _ (Hn2.out.ext X13_17.out)).mono ?_
   rintro e w14 ⟨rfl, he14⟩
   have U14 := lh ((Ext.rfl' w13).tr he14)
   have E14 := lh (E13.out.tr U14.out)
   have lg_14 := U14.out.cellE lg_13
   have pv_14 := U14.out.cellE pv_13
   have pr_14 := U14.out.cellE pr_13
   have pq_14 := U14.out.cellE pq_13
   have T0_14 := U14.out.cellE T0_13
   have T1_14 := U14.out.cellE T1_13
   clear he14 lg_13 pv_13 pr_13 pq_13 T0_13 T1_13 blg_13 bpv_13 bpr_13 bpq_13 bT0_13 bT1_13 X13_17
   have blg_14 := blt lg_14
   have bpv_14 := blt pv_14
   have bpr_14 := blt pr_14
   have bpq_14 := blt pq_14
   have bT0_14 := blt T0_14
   have bT1_14 := blt T1_14
   have sz14 := U14.out.size
   go_wp2
   go_ret
   exact ⟨rfl, E14.out⟩
  exact AllReadyH.nil
end Go.Proofs.YtmkfjnkdaeoppaaGreat
