/- FnReadLazyRuns: the law's walk. Conditions: the code can be read. -/
import Derived.Test.YtmkfjnkdaeoppaaGreatDrawR
import Derived.Test.YtmkfjnkdaeoppaaGreatLazSix
import Derived.Test.YtmkfjnkdaeoppaaGreatLazQ
import Derived.Test.YtmkfjnkdaeoppaaGreatPlAll
import Derived.Test.YtmkfjnkdaeoppaaGreatEqAll
import Derived.Test.YtmkfjnkdaeoppaaGreatImplVW
import Derived.Test.YtmkfjnkdaeoppaaGreatImplA1
import Derived.Test.YtmkfjnkdaeoppaaGreatNeedR
namespace Go.Proofs.YtmkfjnkdaeoppaaGreat
open Go.RowKit

set_option maxRecDepth 100000 in
set_option maxHeartbeats 8000000 in
theorem ex_FnReadLazyRuns (A : Option Addr) (c : Nat) (l : List Int) (w : World) (h : Rd w 1 A l.length (u8s l)) (hr : ∀ x ∈ l, 0 ≤ x ∧ x ≤ 255) (hc : l.length ≤ c) (hcm : c ≤ maxLen) :
  Calls Tryz.prog 12 #[.slice A l.length c] w fun e w' => e = .returned (.bool true) ∧ Ext w w' := by
 have hbig := h.big
 have HD := lh (s_DrawReadLazy A c l w h hr hc hcm)
 clear h hr hc hcm
 by_cases hb : 1048576 < l.length
 ·have hb2 : (1048576 : Int) < (l.length : Int) := by omega
  go_enter Tryz.func12, Tryz.ntmps12
  go_wp2
  go_ret
  exact ⟨rfl, Ext.rfl' _⟩
 have hb2 : ¬ (1048576 : Int) < (l.length : Int) := by omega
 clear hb
 have E0 := lh ((Ext.rfl' w) : Ext w w)
 go_enter Tryz.func12, Tryz.ntmps12
 go_wp2_with fail
 refine (HD.out).mono ?_
 rintro e w1 ⟨g, Ag, cg, v, Av, cv, r, Ar, cr, q, Aq, cq, n, rfl, hg2, hg10, hvl, hrl, hql, hN, hV, hR, hQ, he1⟩
 have H1 := lh hN
 have V1 := lh hV
 have R1 := lh hR
 have Q1 := lh hQ
 have hvl9 : v.length ≤ 1048576 := by omega
 have hql9 : q.length ≤ 1048576 := by omega
 clear hN hV hR hQ HD
 have U1 := lh ((Ext.rfl' w).tr he1)
 have E1 := lh (E0.out.tr U1.out)
 clear he1 
 have hsm := readLO_smallQ g ⟨v, r, q⟩ n
 obtain ⟨⟨⟨ov, orr, oq⟩, x, rn⟩, hW⟩ : ∃ p, Sg.readLO g ⟨v, r, q⟩ n = p := ⟨_, rfl⟩
 rw [hW] at hsm
 have SM := lh (show SmallZ ⟨ov, orr, oq⟩ from hsm.1)
 have HRN := lh (show rn.length ≤ 1048576 from hsm.2)
 clear hsm
 have HI := lh (fun w h hv hr hq => by have := i_ReadLazy Ag Av Ar Aq cg cv cr cq g v q r n w h hv hr hq hvl9 hql9; rw [hW] at this; exact this)
 have HS := lh (fun w h hv hr hq => by have := s_ReadLazy Ag Av Ar Aq cg cv cr cq g v q r n w h hv hr hq hvl9 hql9; rw [hW] at this; exact this)
 have HV := lh (fun w h hv hr hq => i_ValidLazy Ag Av Ar Aq cg cv cr cq g v q r w h hv hr hq hvl9 hql9)
 have HW := lh hW
 clear hW
 have X1_1 := lh (Ext.al (Ext.al (Ext.rfl' w1) (.cells #[.slice Ag g.length cg] 25)) (.cells #[.slice Av v.length cv, .slice Ar r.length cr, .slice Aq q.length cq] 29))
 go_wp2_with fail
 refine (HI.out _ (H1.out.ext X1_1.out) (V1.out.ext X1_1.out) (R1.out.ext X1_1.out) (Q1.out.ext X1_1.out)).mono ?_
 rintro e w2 ⟨A2, c2, A3, c3, A4, c4, z2, A5, c5, rfl, hoz, hon, hod, he2⟩
 have Hv2 := lh hoz.v.rd
 have Hr2 := lh (OwnL.rdLC hoz.r SM.out.r SM.out.e)
 have Hq2 := lh hoz.q.rd
 have Hn2 := lh hon.rd
 clear hoz hon hod
 have U2 := lh ((Ext.al (Ext.al (Ext.rfl' w1) (.cells #[.slice Ag g.length cg] 25)) (.cells #[.slice Av v.length cv, .slice Ar r.length cr, .slice Aq q.length cq] 29)).tr he2)
 have E2 := lh (E1.out.tr U2.out)
 have lg_2 := he2.cellE (show World.cell? (World.alloc (World.alloc w1 (.cells #[.slice Ag g.length cg] 25)) (.cells #[.slice Av v.length cv, .slice Ar r.length cr, .slice Aq q.length cq] 29)) ⟨w1.heap.size, 0, none⟩ = some (.slice Ag g.length cg) by simp [go_sem])
 have lv_2 := he2.cellE (show World.cell? (World.alloc (World.alloc w1 (.cells #[.slice Ag g.length cg] 25)) (.cells #[.slice Av v.length cv, .slice Ar r.length cr, .slice Aq q.length cq] 29)) ⟨w1.heap.size + 1, 0, none⟩ = some (.slice Av v.length cv) by simp [go_sem])
 have lr_2 := he2.cellE (show World.cell? (World.alloc (World.alloc w1 (.cells #[.slice Ag g.length cg] 25)) (.cells #[.slice Av v.length cv, .slice Ar r.length cr, .slice Aq q.length cq] 29)) ⟨w1.heap.size + 1, 1, none⟩ = some (.slice Ar r.length cr) by simp [go_sem])
 have lq_2 := he2.cellE (show World.cell? (World.alloc (World.alloc w1 (.cells #[.slice Ag g.length cg] 25)) (.cells #[.slice Av v.length cv, .slice Ar r.length cr, .slice Aq q.length cq] 29)) ⟨w1.heap.size + 1, 2, none⟩ = some (.slice Aq q.length cq) by simp [go_sem])
 clear he2 X1_1
 have blg_2 := blt lg_2
 have blv_2 := blt lv_2
 have blr_2 := blt lr_2
 have blq_2 := blt lq_2
 have X2_2 := lh (Ext.al ((Ext.rfl' w1).tr U2.out) (.cells #[.slice A2 ov.length c2, .slice A3 orr.length c3, .slice A4 oq.length c4] 29))
 go_wp2_with fail
 refine (HS.out _ (H1.out.ext X2_2.out) (V1.out.ext X2_2.out) (R1.out.ext X2_2.out) (Q1.out.ext X2_2.out)).mono ?_
 rintro e w3 ⟨A6, c6, A7, c7, A8, c8, z6, A9, c9, rfl, hoz, hon, hod, he3⟩
 have Hv6 := lh hoz.v.rd
 have Hr6 := lh (OwnL.rdLC hoz.r SM.out.r SM.out.e)
 have Hq6 := lh hoz.q.rd
 have Hn6 := lh hon.rd
 clear hoz hon hod
 have U3 := lh ((Ext.al (Ext.rfl' w2) (.cells #[.slice A2 ov.length c2, .slice A3 orr.length c3, .slice A4 oq.length c4] 29)).tr he3)
 have E3 := lh (E2.out.tr U3.out)
 have lg_3 := U3.out.cellE lg_2
 have lv_3 := U3.out.cellE lv_2
 have lr_3 := U3.out.cellE lr_2
 have lq_3 := U3.out.cellE lq_2
 have pv_3 := he3.cellE (show World.cell? (World.alloc w2 (.cells #[.slice A2 ov.length c2, .slice A3 orr.length c3, .slice A4 oq.length c4] 29)) ⟨w2.heap.size, 0, none⟩ = some (.slice A2 ov.length c2) by simp [go_sem])
 have pr_3 := he3.cellE (show World.cell? (World.alloc w2 (.cells #[.slice A2 ov.length c2, .slice A3 orr.length c3, .slice A4 oq.length c4] 29)) ⟨w2.heap.size, 1, none⟩ = some (.slice A3 orr.length c3) by simp [go_sem])
 have pq_3 := he3.cellE (show World.cell? (World.alloc w2 (.cells #[.slice A2 ov.length c2, .slice A3 orr.length c3, .slice A4 oq.length c4] 29)) ⟨w2.heap.size, 2, none⟩ = some (.slice A4 oq.length c4) by simp [go_sem])
 clear he3 lg_2 lv_2 lr_2 lq_2 blg_2 blv_2 blr_2 blq_2 X2_2
 have blg_3 := blt lg_3
 have blv_3 := blt lv_3
 have blr_3 := blt lr_3
 have blq_3 := blt lq_3
 have bpv_3 := blt pv_3
 have bpr_3 := blt pr_3
 have bpq_3 := blt pq_3
 have X3_3 := lh (Ext.al ((Ext.rfl' w2).tr U3.out) (.cells #[.slice A6 ov.length c6, .slice A7 orr.length c7, .slice A8 oq.length c8] 29))
 have X3_4 := lh (Ext.al (Ext.rfl' w3) (.cells #[.slice A6 ov.length c6, .slice A7 orr.length c7, .slice A8 oq.length c8] 29))
 go_wp2_with fail
 refine (l_equalLazy A2 A6 A3 A7 A4 A8 c2 c6 c3 c7 c4 c8 ov orr oq _ (Hv2.out.ext X3_3.out) (Hv6.out.ext X3_4.out) (Hr2.out.ext X3_3.out).rdL (Hr6.out.ext X3_4.out).rdL (Hq2.out.ext X3_3.out) (Hq6.out.ext X3_4.out)).mono ?_
 rintro e w4 ⟨rfl, he4⟩
 have U4 := lh ((Ext.al (Ext.rfl' w3) (.cells #[.slice A6 ov.length c6, .slice A7 orr.length c7, .slice A8 oq.length c8] 29)).tr he4)
 have E4 := lh (E3.out.tr U4.out)
 have lg_4 := U4.out.cellE lg_3
 have lv_4 := U4.out.cellE lv_3
 have lr_4 := U4.out.cellE lr_3
 have lq_4 := U4.out.cellE lq_3
 have pv_4 := U4.out.cellE pv_3
 have pr_4 := U4.out.cellE pr_3
 have pq_4 := U4.out.cellE pq_3
 have ov_4 := he4.cellE (show World.cell? (World.alloc w3 (.cells #[.slice A6 ov.length c6, .slice A7 orr.length c7, .slice A8 oq.length c8] 29)) ⟨w3.heap.size, 0, none⟩ = some (.slice A6 ov.length c6) by simp [go_sem])
 have or_4 := he4.cellE (show World.cell? (World.alloc w3 (.cells #[.slice A6 ov.length c6, .slice A7 orr.length c7, .slice A8 oq.length c8] 29)) ⟨w3.heap.size, 1, none⟩ = some (.slice A7 orr.length c7) by simp [go_sem])
 have oq_4 := he4.cellE (show World.cell? (World.alloc w3 (.cells #[.slice A6 ov.length c6, .slice A7 orr.length c7, .slice A8 oq.length c8] 29)) ⟨w3.heap.size, 2, none⟩ = some (.slice A8 oq.length c8) by simp [go_sem])
 clear he4 lg_3 lv_3 lr_3 lq_3 pv_3 pr_3 pq_3 blg_3 blv_3 blr_3 blq_3 bpv_3 bpr_3 bpq_3 X3_3 X3_4
 have blg_4 := blt lg_4
 have blv_4 := blt lv_4
 have blr_4 := blt lr_4
 have blq_4 := blt lq_4
 have bpv_4 := blt pv_4
 have bpr_4 := blt pr_4
 have bpq_4 := blt pq_4
 have bov_4 := blt ov_4
 have bor_4 := blt or_4
 have boq_4 := blt oq_4
 have zx : (x != x) = false := by simp
 have zy : (x == x) = true := by simp
 have X4_5 := lh (((Ext.rfl' w2).tr U3.out).tr U4.out)
 have X4_6 := lh ((Ext.rfl' w3).tr U4.out)
 go_wp2_with fail
 refine (l_equalInts A5 A9 c5 c9 rn _ (Hn2.out.ext X4_5.out) (Hn6.out.ext X4_6.out)).mono ?_
 rintro e w5 ⟨rfl, he5⟩
 have U5 := lh ((Ext.rfl' w4).tr he5)
 have E5 := lh (E4.out.tr U5.out)
 have lg_5 := U5.out.cellE lg_4
 have lv_5 := U5.out.cellE lv_4
 have lr_5 := U5.out.cellE lr_4
 have lq_5 := U5.out.cellE lq_4
 have pv_5 := U5.out.cellE pv_4
 have pr_5 := U5.out.cellE pr_4
 have pq_5 := U5.out.cellE pq_4
 have ov_5 := U5.out.cellE ov_4
 have or_5 := U5.out.cellE or_4
 have oq_5 := U5.out.cellE oq_4
 clear he5 lg_4 lv_4 lr_4 lq_4 pv_4 pr_4 pq_4 ov_4 or_4 oq_4 blg_4 blv_4 blr_4 blq_4 bpv_4 bpr_4 bpq_4 bov_4 bor_4 boq_4 X4_5 X4_6
 have blg_5 := blt lg_5
 have blv_5 := blt lv_5
 have blr_5 := blt lr_5
 have blq_5 := blt lq_5
 have bpv_5 := blt pv_5
 have bpr_5 := blt pr_5
 have bpq_5 := blt pq_5
 have bov_5 := blt ov_5
 have bor_5 := blt or_5
 have boq_5 := blt oq_5
 have X5_7 := lh (((((Ext.rfl' w1).tr U2.out).tr U3.out).tr U4.out).tr U5.out)
 go_wp2_with fail
 refine (HV.out _ (H1.out.ext X5_7.out) (V1.out.ext X5_7.out) (R1.out.ext X5_7.out) (Q1.out.ext X5_7.out)).mono ?_
 rintro e w6 ⟨rfl, he6⟩
 have U6 := lh ((Ext.rfl' w5).tr he6)
 have E6 := lh (E5.out.tr U6.out)
 have lg_6 := U6.out.cellE lg_5
 have lv_6 := U6.out.cellE lv_5
 have lr_6 := U6.out.cellE lr_5
 have lq_6 := U6.out.cellE lq_5
 have pv_6 := U6.out.cellE pv_5
 have pr_6 := U6.out.cellE pr_5
 have pq_6 := U6.out.cellE pq_5
 have ov_6 := U6.out.cellE ov_5
 have or_6 := U6.out.cellE or_5
 have oq_6 := U6.out.cellE oq_5
 clear he6 lg_5 lv_5 lr_5 lq_5 pv_5 pr_5 pq_5 ov_5 or_5 oq_5 blg_5 blv_5 blr_5 blq_5 bpv_5 bpr_5 bpq_5 bov_5 bor_5 boq_5 X5_7
 have blg_6 := blt lg_6
 have blv_6 := blt lv_6
 have blr_6 := blt lr_6
 have blq_6 := blt lq_6
 have bpv_6 := blt pv_6
 have bpr_6 := blt pr_6
 have bpq_6 := blt pq_6
 have bov_6 := blt ov_6
 have bor_6 := blt or_6
 have boq_6 := blt oq_6
 cases hE : Sg.validL g ⟨v, r, q⟩
 ·skip
  clear hE
  have X6_8 := lh (((((Ext.rfl' w2).tr U3.out).tr U4.out).tr U5.out).tr U6.out)
  have X6_9 := lh ((((Ext.rfl' w3).tr U4.out).tr U5.out).tr U6.out)
  go_wp2_with fail
  refine (l_equalLazy A2 A6 A3 A7 A4 A8 c2 c6 c3 c7 c4 c8 ov orr oq _ (Hv2.out.ext X6_8.out) (Hv6.out.ext X6_9.out) (Hr2.out.ext X6_8.out).rdL (Hr6.out.ext X6_9.out).rdL (Hq2.out.ext X6_8.out) (Hq6.out.ext X6_9.out)).mono ?_
  rintro e w7 ⟨rfl, he7⟩
  have U7 := lh ((Ext.rfl' w6).tr he7)
  have E7 := lh (E6.out.tr U7.out)
  have lg_7 := U7.out.cellE lg_6
  have lv_7 := U7.out.cellE lv_6
  have lr_7 := U7.out.cellE lr_6
  have lq_7 := U7.out.cellE lq_6
  have pv_7 := U7.out.cellE pv_6
  have pr_7 := U7.out.cellE pr_6
  have pq_7 := U7.out.cellE pq_6
  have ov_7 := U7.out.cellE ov_6
  have or_7 := U7.out.cellE or_6
  have oq_7 := U7.out.cellE oq_6
  clear he7 lg_6 lv_6 lr_6 lq_6 pv_6 pr_6 pq_6 ov_6 or_6 oq_6 blg_6 blv_6 blr_6 blq_6 bpv_6 bpr_6 bpq_6 bov_6 bor_6 boq_6 X6_8 X6_9
  have blg_7 := blt lg_7
  have blv_7 := blt lv_7
  have blr_7 := blt lr_7
  have blq_7 := blt lq_7
  have bpv_7 := blt pv_7
  have bpr_7 := blt pr_7
  have bpq_7 := blt pq_7
  have bov_7 := blt ov_7
  have bor_7 := blt or_7
  have boq_7 := blt oq_7
  have X7_10 := lh ((((((Ext.rfl' w2).tr U3.out).tr U4.out).tr U5.out).tr U6.out).tr U7.out)
  have X7_11 := lh (((((Ext.rfl' w3).tr U4.out).tr U5.out).tr U6.out).tr U7.out)
  go_wp2_with fail
  refine (l_equalInts A5 A9 c5 c9 rn _ (Hn2.out.ext X7_10.out) (Hn6.out.ext X7_11.out)).mono ?_
  rintro e w8 ⟨rfl, he8⟩
  have U8 := lh ((Ext.rfl' w7).tr he8)
  have E8 := lh (E7.out.tr U8.out)
  have lg_8 := U8.out.cellE lg_7
  have lv_8 := U8.out.cellE lv_7
  have lr_8 := U8.out.cellE lr_7
  have lq_8 := U8.out.cellE lq_7
  have pv_8 := U8.out.cellE pv_7
  have pr_8 := U8.out.cellE pr_7
  have pq_8 := U8.out.cellE pq_7
  have ov_8 := U8.out.cellE ov_7
  have or_8 := U8.out.cellE or_7
  have oq_8 := U8.out.cellE oq_7
  clear he8 lg_7 lv_7 lr_7 lq_7 pv_7 pr_7 pq_7 ov_7 or_7 oq_7 blg_7 blv_7 blr_7 blq_7 bpv_7 bpr_7 bpq_7 bov_7 bor_7 boq_7 X7_10 X7_11
  have blg_8 := blt lg_8
  have blv_8 := blt lv_8
  have blr_8 := blt lr_8
  have blq_8 := blt lq_8
  have bpv_8 := blt pv_8
  have bpr_8 := blt pr_8
  have bpq_8 := blt pq_8
  have bov_8 := blt ov_8
  have bor_8 := blt or_8
  have boq_8 := blt oq_8
  go_wp2
  go_ret
  exact ⟨rfl, E8.out⟩
 ·by_cases hn0 : n < 0
  ·clear hE
   have X6_8 := lh (((((Ext.rfl' w2).tr U3.out).tr U4.out).tr U5.out).tr U6.out)
   have X6_9 := lh ((((Ext.rfl' w3).tr U4.out).tr U5.out).tr U6.out)
   go_wp2_with fail
   refine (l_equalLazy A2 A6 A3 A7 A4 A8 c2 c6 c3 c7 c4 c8 ov orr oq _ (Hv2.out.ext X6_8.out) (Hv6.out.ext X6_9.out) (Hr2.out.ext X6_8.out).rdL (Hr6.out.ext X6_9.out).rdL (Hq2.out.ext X6_8.out) (Hq6.out.ext X6_9.out)).mono ?_
   rintro e w7 ⟨rfl, he7⟩
   have U7 := lh ((Ext.rfl' w6).tr he7)
   have E7 := lh (E6.out.tr U7.out)
   have lg_7 := U7.out.cellE lg_6
   have lv_7 := U7.out.cellE lv_6
   have lr_7 := U7.out.cellE lr_6
   have lq_7 := U7.out.cellE lq_6
   have pv_7 := U7.out.cellE pv_6
   have pr_7 := U7.out.cellE pr_6
   have pq_7 := U7.out.cellE pq_6
   have ov_7 := U7.out.cellE ov_6
   have or_7 := U7.out.cellE or_6
   have oq_7 := U7.out.cellE oq_6
   clear he7 lg_6 lv_6 lr_6 lq_6 pv_6 pr_6 pq_6 ov_6 or_6 oq_6 blg_6 blv_6 blr_6 blq_6 bpv_6 bpr_6 bpq_6 bov_6 bor_6 boq_6 X6_8 X6_9
   have blg_7 := blt lg_7
   have blv_7 := blt lv_7
   have blr_7 := blt lr_7
   have blq_7 := blt lq_7
   have bpv_7 := blt pv_7
   have bpr_7 := blt pr_7
   have bpq_7 := blt pq_7
   have bov_7 := blt ov_7
   have bor_7 := blt or_7
   have boq_7 := blt oq_7
   have X7_10 := lh ((((((Ext.rfl' w2).tr U3.out).tr U4.out).tr U5.out).tr U6.out).tr U7.out)
   have X7_11 := lh (((((Ext.rfl' w3).tr U4.out).tr U5.out).tr U6.out).tr U7.out)
   go_wp2_with fail
   refine (l_equalInts A5 A9 c5 c9 rn _ (Hn2.out.ext X7_10.out) (Hn6.out.ext X7_11.out)).mono ?_
   rintro e w8 ⟨rfl, he8⟩
   have U8 := lh ((Ext.rfl' w7).tr he8)
   have E8 := lh (E7.out.tr U8.out)
   have lg_8 := U8.out.cellE lg_7
   have lv_8 := U8.out.cellE lv_7
   have lr_8 := U8.out.cellE lr_7
   have lq_8 := U8.out.cellE lq_7
   have pv_8 := U8.out.cellE pv_7
   have pr_8 := U8.out.cellE pr_7
   have pq_8 := U8.out.cellE pq_7
   have ov_8 := U8.out.cellE ov_7
   have or_8 := U8.out.cellE or_7
   have oq_8 := U8.out.cellE oq_7
   clear he8 lg_7 lv_7 lr_7 lq_7 pv_7 pr_7 pq_7 ov_7 or_7 oq_7 blg_7 blv_7 blr_7 blq_7 bpv_7 bpr_7 bpq_7 bov_7 bor_7 boq_7 X7_10 X7_11
   have blg_8 := blt lg_8
   have blv_8 := blt lv_8
   have blr_8 := blt lr_8
   have blq_8 := blt lq_8
   have bpv_8 := blt pv_8
   have bpr_8 := blt pr_8
   have bpq_8 := blt pq_8
   have bov_8 := blt ov_8
   have bor_8 := blt or_8
   have boq_8 := blt oq_8
   go_wp2
   go_ret
   exact ⟨rfl, E8.out⟩
  ·by_cases hn1 : n ≥ (g.length : Int)
   ·clear hE
    have X6_8 := lh (((((Ext.rfl' w2).tr U3.out).tr U4.out).tr U5.out).tr U6.out)
    have X6_9 := lh ((((Ext.rfl' w3).tr U4.out).tr U5.out).tr U6.out)
    go_wp2_with fail
    refine (l_equalLazy A2 A6 A3 A7 A4 A8 c2 c6 c3 c7 c4 c8 ov orr oq _ (Hv2.out.ext X6_8.out) (Hv6.out.ext X6_9.out) (Hr2.out.ext X6_8.out).rdL (Hr6.out.ext X6_9.out).rdL (Hq2.out.ext X6_8.out) (Hq6.out.ext X6_9.out)).mono ?_
    rintro e w7 ⟨rfl, he7⟩
    have U7 := lh ((Ext.rfl' w6).tr he7)
    have E7 := lh (E6.out.tr U7.out)
    have lg_7 := U7.out.cellE lg_6
    have lv_7 := U7.out.cellE lv_6
    have lr_7 := U7.out.cellE lr_6
    have lq_7 := U7.out.cellE lq_6
    have pv_7 := U7.out.cellE pv_6
    have pr_7 := U7.out.cellE pr_6
    have pq_7 := U7.out.cellE pq_6
    have ov_7 := U7.out.cellE ov_6
    have or_7 := U7.out.cellE or_6
    have oq_7 := U7.out.cellE oq_6
    clear he7 lg_6 lv_6 lr_6 lq_6 pv_6 pr_6 pq_6 ov_6 or_6 oq_6 blg_6 blv_6 blr_6 blq_6 bpv_6 bpr_6 bpq_6 bov_6 bor_6 boq_6 X6_8 X6_9
    have blg_7 := blt lg_7
    have blv_7 := blt lv_7
    have blr_7 := blt lr_7
    have blq_7 := blt lq_7
    have bpv_7 := blt pv_7
    have bpr_7 := blt pr_7
    have bpq_7 := blt pq_7
    have bov_7 := blt ov_7
    have bor_7 := blt or_7
    have boq_7 := blt oq_7
    have X7_10 := lh ((((((Ext.rfl' w2).tr U3.out).tr U4.out).tr U5.out).tr U6.out).tr U7.out)
    have X7_11 := lh (((((Ext.rfl' w3).tr U4.out).tr U5.out).tr U6.out).tr U7.out)
    go_wp2_with fail
    refine (l_equalInts A5 A9 c5 c9 rn _ (Hn2.out.ext X7_10.out) (Hn6.out.ext X7_11.out)).mono ?_
    rintro e w8 ⟨rfl, he8⟩
    have U8 := lh ((Ext.rfl' w7).tr he8)
    have E8 := lh (E7.out.tr U8.out)
    have lg_8 := U8.out.cellE lg_7
    have lv_8 := U8.out.cellE lv_7
    have lr_8 := U8.out.cellE lr_7
    have lq_8 := U8.out.cellE lq_7
    have pv_8 := U8.out.cellE pv_7
    have pr_8 := U8.out.cellE pr_7
    have pq_8 := U8.out.cellE pq_7
    have ov_8 := U8.out.cellE ov_7
    have or_8 := U8.out.cellE or_7
    have oq_8 := U8.out.cellE oq_7
    clear he8 lg_7 lv_7 lr_7 lq_7 pv_7 pr_7 pq_7 ov_7 or_7 oq_7 blg_7 blv_7 blr_7 blq_7 bpv_7 bpr_7 bpq_7 bov_7 bor_7 boq_7 X7_10 X7_11
    have blg_8 := blt lg_8
    have blv_8 := blt lv_8
    have blr_8 := blt lr_8
    have blq_8 := blt lq_8
    have bpv_8 := blt pv_8
    have bpr_8 := blt pr_8
    have bpq_8 := blt pq_8
    have bov_8 := blt ov_8
    have bor_8 := blt or_8
    have boq_8 := blt oq_8
    go_wp2
    go_ret
    exact ⟨rfl, E8.out⟩
   ·have HE := lh hE
    obtain ⟨k, rfl⟩ := Int.eq_ofNat_of_zero_le (show 0 ≤ n by omega)
    have hk : k < g.length := by omega
    have hW := HW.out
    obtain ⟨hnd, hin⟩ := Sg.read_ran hE hk
    rw [hW] at hnd hin
    dsimp only at hnd hin
    obtain ⟨so, hso0⟩ : ∃ so, so = Sg.staleOf g ⟨v, r, q⟩ := ⟨_, rfl⟩
    obtain ⟨no, hno0⟩ : ∃ no, no = Sg.needL g (k : Int) := ⟨_, rfl⟩
    have hws : ∀ x ∈ rn, x ∈ so := fun x hx => by obtain ⟨j, _, _, _, h, _⟩ := hin x hx; rw [hso0]; exact h
    have hwn : ∀ x ∈ rn, x ∈ no := fun x hx => by obtain ⟨j, e, hj, h, _⟩ := hin x hx; rw [hno0]; exact Sg.mem_needL (Sg.validL_shape hE).1 hk e hj h
    have HSO := lh (fun w h hv hr hq => by have := i_StaleOf Ag Av Ar Aq cg cv cr cq g v q r w h hv hr hq hvl9 hql9; rw [← hso0] at this; exact this)
    have HNO := lh (fun w h => by have := i_NeedOf Ag cg g (k : Int) w h; rw [← hno0] at this; exact this)
    have HND := lh (fun A c w h => l_noTwice A c rn w h hnd)
    have HW1 := lh (fun A B ca cb w h k => l_within A B ca cb rn so w h k hws)
    have HW2 := lh (fun A B ca cb w h k => l_within A B ca cb rn no w h k hwn)
    clear hnd hin hws hwn hso0 hno0 hE hW
    have X6_8 := lh (((((Ext.rfl' w2).tr U3.out).tr U4.out).tr U5.out).tr U6.out)
    go_wp2_with fail
    refine (HND.out A5 c5 _ (Hn2.out.ext X6_8.out)).mono ?_
    rintro e w7 ⟨rfl, he7⟩
    have U7 := lh ((Ext.rfl' w6).tr he7)
    have E7 := lh (E6.out.tr U7.out)
    have lg_7 := U7.out.cellE lg_6
    have lv_7 := U7.out.cellE lv_6
    have lr_7 := U7.out.cellE lr_6
    have lq_7 := U7.out.cellE lq_6
    have pv_7 := U7.out.cellE pv_6
    have pr_7 := U7.out.cellE pr_6
    have pq_7 := U7.out.cellE pq_6
    have ov_7 := U7.out.cellE ov_6
    have or_7 := U7.out.cellE or_6
    have oq_7 := U7.out.cellE oq_6
    clear he7 lg_6 lv_6 lr_6 lq_6 pv_6 pr_6 pq_6 ov_6 or_6 oq_6 blg_6 blv_6 blr_6 blq_6 bpv_6 bpr_6 bpq_6 bov_6 bor_6 boq_6 X6_8
    have blg_7 := blt lg_7
    have blv_7 := blt lv_7
    have blr_7 := blt lr_7
    have blq_7 := blt lq_7
    have bpv_7 := blt pv_7
    have bpr_7 := blt pr_7
    have bpq_7 := blt pq_7
    have bov_7 := blt ov_7
    have bor_7 := blt or_7
    have boq_7 := blt oq_7
    have X7_9 := lh (((((((Ext.rfl' w1).tr U2.out).tr U3.out).tr U4.out).tr U5.out).tr U6.out).tr U7.out)
    go_wp2_with fail
    refine (HSO.out _ (H1.out.ext X7_9.out) (V1.out.ext X7_9.out) (R1.out.ext X7_9.out) (Q1.out.ext X7_9.out)).mono ?_
    rintro e w8 ⟨A10, c10, rfl, hos, he8⟩
    have Hs10 := lh hos.rd
    clear hos
    have U8 := lh ((Ext.rfl' w7).tr he8)
    have E8 := lh (E7.out.tr U8.out)
    have lg_8 := U8.out.cellE lg_7
    have lv_8 := U8.out.cellE lv_7
    have lr_8 := U8.out.cellE lr_7
    have lq_8 := U8.out.cellE lq_7
    have pv_8 := U8.out.cellE pv_7
    have pr_8 := U8.out.cellE pr_7
    have pq_8 := U8.out.cellE pq_7
    have ov_8 := U8.out.cellE ov_7
    have or_8 := U8.out.cellE or_7
    have oq_8 := U8.out.cellE oq_7
    clear he8 lg_7 lv_7 lr_7 lq_7 pv_7 pr_7 pq_7 ov_7 or_7 oq_7 blg_7 blv_7 blr_7 blq_7 bpv_7 bpr_7 bpq_7 bov_7 bor_7 boq_7 X7_9
    have blg_8 := blt lg_8
    have blv_8 := blt lv_8
    have blr_8 := blt lr_8
    have blq_8 := blt lq_8
    have bpv_8 := blt pv_8
    have bpr_8 := blt pr_8
    have bpq_8 := blt pq_8
    have bov_8 := blt ov_8
    have bor_8 := blt or_8
    have boq_8 := blt oq_8
    have X8_10 := lh (((((((Ext.rfl' w2).tr U3.out).tr U4.out).tr U5.out).tr U6.out).tr U7.out).tr U8.out)
    have X8_11 := lh (Ext.rfl' w8)
    go_wp2_with fail
    refine (HW1.out A5 A10 c5 c10 _ (Hn2.out.ext X8_10.out) (Hs10.out.ext X8_11.out)).mono ?_
    rintro e w9 ⟨rfl, he9⟩
    have U9 := lh ((Ext.rfl' w8).tr he9)
    have E9 := lh (E8.out.tr U9.out)
    have lg_9 := U9.out.cellE lg_8
    have lv_9 := U9.out.cellE lv_8
    have lr_9 := U9.out.cellE lr_8
    have lq_9 := U9.out.cellE lq_8
    have pv_9 := U9.out.cellE pv_8
    have pr_9 := U9.out.cellE pr_8
    have pq_9 := U9.out.cellE pq_8
    have ov_9 := U9.out.cellE ov_8
    have or_9 := U9.out.cellE or_8
    have oq_9 := U9.out.cellE oq_8
    clear he9 lg_8 lv_8 lr_8 lq_8 pv_8 pr_8 pq_8 ov_8 or_8 oq_8 blg_8 blv_8 blr_8 blq_8 bpv_8 bpr_8 bpq_8 bov_8 bor_8 boq_8 X8_10 X8_11
    have blg_9 := blt lg_9
    have blv_9 := blt lv_9
    have blr_9 := blt lr_9
    have blq_9 := blt lq_9
    have bpv_9 := blt pv_9
    have bpr_9 := blt pr_9
    have bpq_9 := blt pq_9
    have bov_9 := blt ov_9
    have bor_9 := blt or_9
    have boq_9 := blt oq_9
    have X9_12 := lh (((((((((Ext.rfl' w1).tr U2.out).tr U3.out).tr U4.out).tr U5.out).tr U6.out).tr U7.out).tr U8.out).tr U9.out)
    go_wp2_with fail
    refine (HNO.out _ (H1.out.ext X9_12.out)).mono ?_
    rintro e w10 ⟨A11, rfl, hos, he10⟩
    have Hs11 := lh hos.rd
    clear hos
    have U10 := lh ((Ext.rfl' w9).tr he10)
    have E10 := lh (E9.out.tr U10.out)
    have lg_10 := U10.out.cellE lg_9
    have lv_10 := U10.out.cellE lv_9
    have lr_10 := U10.out.cellE lr_9
    have lq_10 := U10.out.cellE lq_9
    have pv_10 := U10.out.cellE pv_9
    have pr_10 := U10.out.cellE pr_9
    have pq_10 := U10.out.cellE pq_9
    have ov_10 := U10.out.cellE ov_9
    have or_10 := U10.out.cellE or_9
    have oq_10 := U10.out.cellE oq_9
    clear he10 lg_9 lv_9 lr_9 lq_9 pv_9 pr_9 pq_9 ov_9 or_9 oq_9 blg_9 blv_9 blr_9 blq_9 bpv_9 bpr_9 bpq_9 bov_9 bor_9 boq_9 X9_12
    have blg_10 := blt lg_10
    have blv_10 := blt lv_10
    have blr_10 := blt lr_10
    have blq_10 := blt lq_10
    have bpv_10 := blt pv_10
    have bpr_10 := blt pr_10
    have bpq_10 := blt pq_10
    have bov_10 := blt ov_10
    have bor_10 := blt or_10
    have boq_10 := blt oq_10
    have X10_13 := lh (((((((((Ext.rfl' w2).tr U3.out).tr U4.out).tr U5.out).tr U6.out).tr U7.out).tr U8.out).tr U9.out).tr U10.out)
    have X10_14 := lh (Ext.rfl' w10)
    go_wp2_with fail
    refine (HW2.out A5 A11 c5 no.length _ (Hn2.out.ext X10_13.out) (Hs11.out.ext X10_14.out)).mono ?_
    rintro e w11 ⟨rfl, he11⟩
    have U11 := lh ((Ext.rfl' w10).tr he11)
    have E11 := lh (E10.out.tr U11.out)
    have lg_11 := U11.out.cellE lg_10
    have lv_11 := U11.out.cellE lv_10
    have lr_11 := U11.out.cellE lr_10
    have lq_11 := U11.out.cellE lq_10
    have pv_11 := U11.out.cellE pv_10
    have pr_11 := U11.out.cellE pr_10
    have pq_11 := U11.out.cellE pq_10
    have ov_11 := U11.out.cellE ov_10
    have or_11 := U11.out.cellE or_10
    have oq_11 := U11.out.cellE oq_10
    clear he11 lg_10 lv_10 lr_10 lq_10 pv_10 pr_10 pq_10 ov_10 or_10 oq_10 blg_10 blv_10 blr_10 blq_10 bpv_10 bpr_10 bpq_10 bov_10 bor_10 boq_10 X10_13 X10_14
    have blg_11 := blt lg_11
    have blv_11 := blt lv_11
    have blr_11 := blt lr_11
    have blq_11 := blt lq_11
    have bpv_11 := blt pv_11
    have bpr_11 := blt pr_11
    have bpq_11 := blt pq_11
    have bov_11 := blt ov_11
    have bor_11 := blt or_11
    have boq_11 := blt oq_11
    go_wp2
    go_ret
    exact ⟨rfl, E11.out⟩
end Go.Proofs.YtmkfjnkdaeoppaaGreat
