/- FnLazyCells: the law's walk. Conditions: the code can be read. -/
import Derived.Test.YtmkfjnkdaeoppaaGreatDrawS
import Derived.Test.YtmkfjnkdaeoppaaGreatSpecW
import Derived.Test.YtmkfjnkdaeoppaaGreatImplA1
import Derived.Test.YtmkfjnkdaeoppaaGreatLazS
import Derived.Test.YtmkfjnkdaeoppaaGreatPlAll
import Derived.Test.YtmkfjnkdaeoppaaGreatEqAll
import Derived.Test.YtmkfjnkdaeoppaaGreatImplPX
namespace Go.Proofs.YtmkfjnkdaeoppaaGreat
open Go.RowKit

set_option maxRecDepth 100000 in
set_option maxHeartbeats 8000000 in
theorem ex_FnLazyCells (A : Option Addr) (c : Nat) (l : List Int) (w : World) (h : Rd w 1 A l.length (u8s l)) (hr : ∀ x ∈ l, 0 ≤ x ∧ x ≤ 255) (hc : l.length ≤ c) (hcm : c ≤ maxLen) :
  Calls Tryz.prog 9 #[.slice A l.length c] w fun e w' => e = .returned (.bool true) ∧ Ext w w' := by
 have hbig := h.big
 have HD := lh (s_DrawLazyCells A c l w h hr hc hcm)
 clear h hr hc hcm
 by_cases hb : 1048576 < l.length
 ·have hb2 : (1048576 : Int) < (l.length : Int) := by omega
  go_enter Tryz.func9, Tryz.ntmps9
  go_wp2
  go_ret
  exact ⟨rfl, Ext.rfl' _⟩
 have hb2 : ¬ (1048576 : Int) < (l.length : Int) := by omega
 clear hb
 have E0 := lh ((Ext.rfl' w) : Ext w w)
 go_enter Tryz.func9, Tryz.ntmps9
 go_wp2_with fail
 refine (HD.out).mono ?_
 rintro e w1 ⟨g, Ag, cg, v, Av, cv, r, Ar, cr, q, Aq, cq, rfl, hg2, hg10, hvl, hrl, hql, hN, hV, hR, hQ, he1⟩
 have H1 := lh hN
 have V1 := lh hV
 have R1 := lh hR
 have Q1 := lh hQ
 have hvl9 : v.length ≤ 1048576 := by omega
 have hql9 : q.length ≤ 1048576 := by omega
 clear hN hV hR hQ HD
 have U1 := lh ((Ext.rfl' w).tr he1)
 have E1 := lh (E0.out.tr U1.out)
 clear he1 
 obtain ⟨cl, hcl0⟩ : ∃ cl, cl = Sg.lazyCells g ⟨v, r, q⟩ := ⟨_, rfl⟩
 have HI := lh (fun w h hv hr hq => by have := i_LazyCells Ag Av Ar Aq cg cv cr cq g v q r w h hv hr hq hvl9 hql9; rw [← hcl0] at this; exact this)
 have HS := lh (fun w h hv hr hq => by have := s_LazyCells Ag Av Ar Aq cg cv cr cq g v q r w h hv hr hq hvl9 hql9; rw [← hcl0] at this; exact this)
 have HCL0 := lh hcl0
 clear hcl0
 have X1_1 := lh (Ext.al (Ext.al (Ext.rfl' w1) (.cells #[.slice Ag g.length cg] 25)) (.cells #[.slice Av v.length cv, .slice Ar r.length cr, .slice Aq q.length cq] 29))
 go_wp2_with fail
 refine (HI.out _ (H1.out.ext X1_1.out) (V1.out.ext X1_1.out) (R1.out.ext X1_1.out) (Q1.out.ext X1_1.out)).mono ?_
 rintro e w2 ⟨A2, c2, rfl, hoc, he2⟩
 have Hc2 := lh hoc.rd
 clear hoc
 have U2 := lh ((Ext.al (Ext.al (Ext.rfl' w1) (.cells #[.slice Ag g.length cg] 25)) (.cells #[.slice Av v.length cv, .slice Ar r.length cr, .slice Aq q.length cq] 29)).tr he2)
 have E2 := lh (E1.out.tr U2.out)
 have lg_2 := he2.cellE (show World.cell? (World.alloc (World.alloc w1 (.cells #[.slice Ag g.length cg] 25)) (.cells #[.slice Av v.length cv, .slice Ar r.length cr, .slice Aq q.length cq] 29)) ⟨w1.heap.size, 0, none⟩ = some (.slice Ag g.length cg) by simp [go_sem])
 have lv_2 := he2.cellE (show World.cell? (World.alloc (World.alloc w1 (.cells #[.slice Ag g.length cg] 25)) (.cells #[.slice Av v.length cv, .slice Ar r.length cr, .slice Aq q.length cq] 29)) ⟨w1.heap.size + 1, 0, none⟩ = some (.slice Av v.length cv) by simp [go_sem])
 have lr_2 := he2.cellE (show World.cell? (World.alloc (World.alloc w1 (.cells #[.slice Ag g.length cg] 25)) (.cells #[.slice Av v.length cv, .slice Ar r.length cr, .slice Aq q.length cq] 29)) ⟨w1.heap.size + 1, 1, none⟩ = some (.slice Ar r.length cr) by simp [go_sem])
 have lq_2 := he2.cellE (show World.cell? (World.alloc (World.alloc w1 (.cells #[.slice Ag g.length cg] 25)) (.cells #[.slice Av v.length cv, .slice Ar r.length cr, .slice Aq q.length cq] 29)) ⟨w1.heap.size + 1, 2, none⟩ = some (.slice Aq q.length cq) by simp [go_sem])
 clear he2 X1_1
 have blg_2 := blt lg_2
 have blv_2 := blt lv_2
 have blr_2 := blt lr_2
 have blq_2 := blt lq_2
 have X2_2 := lh ((Ext.rfl' w1).tr U2.out)
 go_wp2_with fail
 refine (HS.out _ (H1.out.ext X2_2.out) (V1.out.ext X2_2.out) (R1.out.ext X2_2.out) (Q1.out.ext X2_2.out)).mono ?_
 rintro e w3 ⟨A3, c3, rfl, hoc, he3⟩
 have Hc3 := lh hoc.rd
 clear hoc
 have U3 := lh ((Ext.rfl' w2).tr he3)
 have E3 := lh (E2.out.tr U3.out)
 have lg_3 := U3.out.cellE lg_2
 have lv_3 := U3.out.cellE lv_2
 have lr_3 := U3.out.cellE lr_2
 have lq_3 := U3.out.cellE lq_2
 clear he3 lg_2 lv_2 lr_2 lq_2 blg_2 blv_2 blr_2 blq_2 X2_2
 have blg_3 := blt lg_3
 have blv_3 := blt lv_3
 have blr_3 := blt lr_3
 have blq_3 := blt lq_3
 have X3_3 := lh ((Ext.rfl' w2).tr U3.out)
 go_wp2_with fail
 refine (l_equalInts A2 A3 c2 c3 cl _ (Hc2.out.ext X3_3.out) Hc3.out).mono ?_
 rintro e w4 ⟨rfl, he4⟩
 have U4 := lh ((Ext.rfl' w3).tr he4)
 have E4 := lh (E3.out.tr U4.out)
 have lg_4 := U4.out.cellE lg_3
 have lv_4 := U4.out.cellE lv_3
 have lr_4 := U4.out.cellE lr_3
 have lq_4 := U4.out.cellE lq_3
 clear he4 lg_3 lv_3 lr_3 lq_3 blg_3 blv_3 blr_3 blq_3 X3_3
 have blg_4 := blt lg_4
 have blv_4 := blt lv_4
 have blr_4 := blt lr_4
 have blq_4 := blt lq_4
 by_cases h0 : cl.length = 0
 ·skip
  have z0 : ((cl.length : Int) == 0) = true := by simp [h0]
  clear h0
  have X4_4 := lh ((((Ext.rfl' w1).tr U2.out).tr U3.out).tr U4.out)
  go_wp2_with fail
  refine (HS.out _ (H1.out.ext X4_4.out) (V1.out.ext X4_4.out) (R1.out.ext X4_4.out) (Q1.out.ext X4_4.out)).mono ?_
  rintro e w5 ⟨A4, c4, rfl, hoc, he5⟩
  have Hc4 := lh hoc.rd
  clear hoc
  have U5 := lh ((Ext.rfl' w4).tr he5)
  have E5 := lh (E4.out.tr U5.out)
  have lg_5 := U5.out.cellE lg_4
  have lv_5 := U5.out.cellE lv_4
  have lr_5 := U5.out.cellE lr_4
  have lq_5 := U5.out.cellE lq_4
  clear he5 lg_4 lv_4 lr_4 lq_4 blg_4 blv_4 blr_4 blq_4 X4_4
  have blg_5 := blt lg_5
  have blv_5 := blt lv_5
  have blr_5 := blt lr_5
  have blq_5 := blt lq_5
  have X5_5 := lh ((((Ext.rfl' w2).tr U3.out).tr U4.out).tr U5.out)
  go_wp2_with fail
  refine (l_equalInts A2 A4 c2 c4 cl _ (Hc2.out.ext X5_5.out) Hc4.out).mono ?_
  rintro e w6 ⟨rfl, he6⟩
  have U6 := lh ((Ext.rfl' w5).tr he6)
  have E6 := lh (E5.out.tr U6.out)
  have lg_6 := U6.out.cellE lg_5
  have lv_6 := U6.out.cellE lv_5
  have lr_6 := U6.out.cellE lr_5
  have lq_6 := U6.out.cellE lq_5
  clear he6 lg_5 lv_5 lr_5 lq_5 blg_5 blv_5 blr_5 blq_5 X5_5
  have blg_6 := blt lg_6
  have blv_6 := blt lv_6
  have blr_6 := blt lr_6
  have blq_6 := blt lq_6
  go_wp2
  go_ret
  exact ⟨rfl, E6.out⟩
 ·skip
  have z0 : ((cl.length : Int) == 0) = false := by rw [beq_eq_false_iff_ne]; omega
  have hE : Sg.validL g ⟨v, r, q⟩ = true := by cases hE : Sg.validL g ⟨v, r, q⟩; exact absurd (show cl.length = 0 by rw [HCL0.out]; unfold Sg.lazyCells; rw [hE]; rfl) h0; rfl
  have hcc : cl = Sg.cellsOf g v := by rw [HCL0.out]; unfold Sg.lazyCells; rw [if_pos hE]
  have hG := (Sg.validL_shape hE).1
  have hC : Sg.validC g cl = true := by rw [hcc]; exact Sg.lazy_cellsC hE
  have hsm := settleO_smallQ g ⟨v, r, q⟩
  have hL := Sg.settle_law hE
  obtain ⟨⟨⟨ov, orr, oq⟩, rn⟩, hW⟩ : ∃ p, Sg.settleO g ⟨v, r, q⟩ = p := ⟨_, rfl⟩
  rw [hW] at hsm hL
  have SM := lh (show SmallZ ⟨ov, orr, oq⟩ from hsm.1)
  obtain ⟨l1, l2, -⟩ := hL
  dsimp only at l1 l2
  have hovl9 : ov.length ≤ 1048576 := SM.out.v
  have hoql9 : oq.length ≤ 1048576 := SM.out.q
  have hlo : Sg.lazyCells g ⟨ov, orr, oq⟩ = cl := by unfold Sg.lazyCells; rw [if_pos l1, hcc]; exact l2
  have HSE := lh (fun w h hv hr hq => by have := i_SettleLazy Ag Av Ar Aq cg cv cr cq g v q r w h hv hr hq hvl9 hql9; rw [hW] at this; exact this)
  have HVC := lh (fun A5 c5 w h hc => by have := i_ValidCells Ag A5 cg c5 g cl w h hc; rw [hG, hC] at this; exact this)
  have HLO := lh (fun A5 A6 A7 c5 c6 c7 w h hv hr hq => by have := i_LazyCells Ag A5 A6 A7 cg c5 c6 c7 g ov oq orr w h hv hr hq hovl9 hoql9; rw [hlo] at this; exact this)
  clear h0 hE hcc hG hC hsm hW l1 l2 hlo
  have X4_4 := lh ((((Ext.rfl' w1).tr U2.out).tr U3.out).tr U4.out)
  go_wp2_with fail
  refine (HSE.out _ (H1.out.ext X4_4.out) (V1.out.ext X4_4.out) (R1.out.ext X4_4.out) (Q1.out.ext X4_4.out)).mono ?_
  rintro e w5 ⟨A5, c5, A6, c6, A7, c7, z5, A8, c8, rfl, hoz, hon, hod, he5⟩
  have Hv5 := lh hoz.v.rd
  have Hr5 := lh (OwnL.rdLC hoz.r SM.out.r SM.out.e)
  have Hq5 := lh hoz.q.rd
  have Hn5 := lh hon.rd
  clear hoz hon hod
  have U5 := lh ((Ext.rfl' w4).tr he5)
  have E5 := lh (E4.out.tr U5.out)
  have lg_5 := U5.out.cellE lg_4
  have lv_5 := U5.out.cellE lv_4
  have lr_5 := U5.out.cellE lr_4
  have lq_5 := U5.out.cellE lq_4
  clear he5 lg_4 lv_4 lr_4 lq_4 blg_4 blv_4 blr_4 blq_4 X4_4
  have blg_5 := blt lg_5
  have blv_5 := blt lv_5
  have blr_5 := blt lr_5
  have blq_5 := blt lq_5
  have X5_5 := lh (Ext.al (((((Ext.rfl' w1).tr U2.out).tr U3.out).tr U4.out).tr U5.out) (.cells #[.slice A5 ov.length c5, .slice A6 orr.length c6, .slice A7 oq.length c7] 29))
  have X5_6 := lh (Ext.al ((((Ext.rfl' w2).tr U3.out).tr U4.out).tr U5.out) (.cells #[.slice A5 ov.length c5, .slice A6 orr.length c6, .slice A7 oq.length c7] 29))
  go_wp2_with fail
  refine (HVC.out A2 c2 _ (H1.out.ext X5_5.out) (Hc2.out.ext X5_6.out)).mono ?_
  rintro e w6 ⟨rfl, he6⟩
  have U6 := lh ((Ext.al (Ext.rfl' w5) (.cells #[.slice A5 ov.length c5, .slice A6 orr.length c6, .slice A7 oq.length c7] 29)).tr he6)
  have E6 := lh (E5.out.tr U6.out)
  have lg_6 := U6.out.cellE lg_5
  have lv_6 := U6.out.cellE lv_5
  have lr_6 := U6.out.cellE lr_5
  have lq_6 := U6.out.cellE lq_5
  have pv_6 := he6.cellE (show World.cell? (World.alloc w5 (.cells #[.slice A5 ov.length c5, .slice A6 orr.length c6, .slice A7 oq.length c7] 29)) ⟨w5.heap.size, 0, none⟩ = some (.slice A5 ov.length c5) by simp [go_sem])
  have pr_6 := he6.cellE (show World.cell? (World.alloc w5 (.cells #[.slice A5 ov.length c5, .slice A6 orr.length c6, .slice A7 oq.length c7] 29)) ⟨w5.heap.size, 1, none⟩ = some (.slice A6 orr.length c6) by simp [go_sem])
  have pq_6 := he6.cellE (show World.cell? (World.alloc w5 (.cells #[.slice A5 ov.length c5, .slice A6 orr.length c6, .slice A7 oq.length c7] 29)) ⟨w5.heap.size, 2, none⟩ = some (.slice A7 oq.length c7) by simp [go_sem])
  clear he6 lg_5 lv_5 lr_5 lq_5 blg_5 blv_5 blr_5 blq_5 X5_5 X5_6
  have blg_6 := blt lg_6
  have blv_6 := blt lv_6
  have blr_6 := blt lr_6
  have blq_6 := blt lq_6
  have bpv_6 := blt pv_6
  have bpr_6 := blt pr_6
  have bpq_6 := blt pq_6
  have X6_7 := lh ((((((Ext.rfl' w1).tr U2.out).tr U3.out).tr U4.out).tr U5.out).tr U6.out)
  have X6_8 := lh ((Ext.rfl' w5).tr U6.out)
  go_wp2_with fail
  refine (HLO.out A5 A6 A7 c5 c6 c7 _ (H1.out.ext X6_7.out) (Hv5.out.ext X6_8.out) (Hr5.out.ext X6_8.out) (Hq5.out.ext X6_8.out)).mono ?_
  rintro e w7 ⟨A10, c10, rfl, hoc, he7⟩
  have Hc10 := lh hoc.rd
  clear hoc
  have U7 := lh ((Ext.rfl' w6).tr he7)
  have E7 := lh (E6.out.tr U7.out)
  have lg_7 := U7.out.cellE lg_6
  have lv_7 := U7.out.cellE lv_6
  have lr_7 := U7.out.cellE lr_6
  have lq_7 := U7.out.cellE lq_6
  have pv_7 := U7.out.cellE pv_6
  have pr_7 := U7.out.cellE pr_6
  have pq_7 := U7.out.cellE pq_6
  clear he7 lg_6 lv_6 lr_6 lq_6 pv_6 pr_6 pq_6 blg_6 blv_6 blr_6 blq_6 bpv_6 bpr_6 bpq_6 X6_7 X6_8
  have blg_7 := blt lg_7
  have blv_7 := blt lv_7
  have blr_7 := blt lr_7
  have blq_7 := blt lq_7
  have bpv_7 := blt pv_7
  have bpr_7 := blt pr_7
  have bpq_7 := blt pq_7
  have X7_9 := lh ((((((Ext.rfl' w2).tr U3.out).tr U4.out).tr U5.out).tr U6.out).tr U7.out)
  go_wp2_with fail
  refine (l_equalInts A10 A2 c10 c2 cl _ Hc10.out (Hc2.out.ext X7_9.out)).mono ?_
  rintro e w8 ⟨rfl, he8⟩
  have U8 := lh ((Ext.rfl' w7).tr he8)
  have E8 := lh (E7.out.tr U8.out)
  have lg_8 := U8.out.cellE lg_7
  have lv_8 := U8.out.cellE lv_7
  have lr_8 := U8.out.cellE lr_7
  have lq_8 := U8.out.cellE lq_7
  have pv_8 := U8.out.cellE pv_7
  have pr_8 := U8.out.cellE pr_7
  have pq_8 := U8.out.cellE pq_7
  clear he8 lg_7 lv_7 lr_7 lq_7 pv_7 pr_7 pq_7 blg_7 blv_7 blr_7 blq_7 bpv_7 bpr_7 bpq_7 X7_9
  have blg_8 := blt lg_8
  have blv_8 := blt lv_8
  have blr_8 := blt lr_8
  have blq_8 := blt lq_8
  have bpv_8 := blt pv_8
  have bpr_8 := blt pr_8
  have bpq_8 := blt pq_8
  go_wp2
  go_ret
  exact ⟨rfl, E8.out⟩
end Go.Proofs.YtmkfjnkdaeoppaaGreat
