/- FnReadLazyTwice: the law's walk. Conditions: the code can be read. -/
import Derived.Test.YtmkfjnkdaeoppaaGreatTy
import Derived.Test.YtmkfjnkdaeoppaaGreatDrawR
import Derived.Test.YtmkfjnkdaeoppaaGreatLazSix
import Derived.Test.YtmkfjnkdaeoppaaGreatLazQ
import Derived.Test.YtmkfjnkdaeoppaaGreatPlAll
import Derived.Test.YtmkfjnkdaeoppaaGreatEqAll
import Derived.Test.YtmkfjnkdaeoppaaGreatImplVW
import Derived.Test.YtmkfjnkdaeoppaaGreatImplA1
namespace Go.Proofs.YtmkfjnkdaeoppaaGreat
open Go.RowKit

set_option maxRecDepth 100000 in
set_option maxHeartbeats 8000000 in
theorem ex_FnReadLazyTwice (A : Option Addr) (c : Nat) (l : List Int) (w : World) (h : Rd w 1 A l.length (u8s l)) (hr : ∀ x ∈ l, 0 ≤ x ∧ x ≤ 255) (hc : l.length ≤ c) (hcm : c ≤ maxLen) :
  Calls Tryz.prog 6 #[.slice A l.length c] w fun e w' => e = .returned (.bool true) ∧ Ext w w' := by
 have hbig := h.big
 have HD := lh (s_DrawReadLazy A c l w h hr hc hcm)
 clear h hr hc hcm
 by_cases hb : 1048576 < l.length
 ·have hb2 : (1048576 : Int) < (l.length : Int) := by omega
  go_enter Tryz.func6, Tryz.ntmps6
  go_wp2
  go_ret
  exact ⟨rfl, Ext.rfl' _⟩
 have hb2 : ¬ (1048576 : Int) < (l.length : Int) := by omega
 clear hb
 have E0 := lh ((Ext.rfl' w) : Ext w w)
 go_enter Tryz.func6, Tryz.ntmps6
 go_wp2_with fail
 refine (HD.out).mono ?_
 rintro e w1 ⟨g, Ag, cg, v, Av, cv, r, Ar, cr, q, Aq, cq, n, rfl, hg2, hg10, hvl, hrl, hql, hN, hV, hR, hQ, he1⟩
 have H1 := lh hN
 have V1 := lh hV
 have R1 := lh hR
 have Q1 := lh hQ
 have hvl9 : v.length ≤ 1048576 := by omega
 have hql9 : q.length ≤ 1048576 := by omega
 clear hN hV hR hQ HD
 have U1 := lh ((Ext.rfl' w).tr he1)
 have E1 := lh (E0.out.tr U1.out)
 clear he1 
 have hsm := readLO_smallQ g ⟨v, r, q⟩ n
 obtain ⟨⟨⟨ov, orr, oq⟩, x, rn⟩, hW⟩ : ∃ p, Sg.readLO g ⟨v, r, q⟩ n = p := ⟨_, rfl⟩
 rw [hW] at hsm
 have SM := lh (show SmallZ ⟨ov, orr, oq⟩ from hsm.1)
 have HRN := lh (show rn.length ≤ 1048576 from hsm.2)
 clear hsm
 have HI := lh (fun w h hv hr hq => by have := i_ReadLazy Ag Av Ar Aq cg cv cr cq g v q r n w h hv hr hq hvl9 hql9; rw [hW] at this; exact this)
 have HS := lh (fun w h hv hr hq => by have := s_ReadLazy Ag Av Ar Aq cg cv cr cq g v q r n w h hv hr hq hvl9 hql9; rw [hW] at this; exact this)
 have HV := lh (fun w h hv hr hq => i_ValidLazy Ag Av Ar Aq cg cv cr cq g v q r w h hv hr hq hvl9 hql9)
 have HW := lh hW
 clear hW
 have X1_1 := lh (Ext.al (Ext.al (Ext.rfl' w1) (.cells #[.slice Ag g.length cg] 25)) (.cells #[.slice Av v.length cv, .slice Ar r.length cr, .slice Aq q.length cq] 29))
 go_wp2_with fail
 refine (HI.out _ (H1.out.ext X1_1.out) (V1.out.ext X1_1.out) (R1.out.ext X1_1.out) (Q1.out.ext X1_1.out)).mono ?_
 rintro e w2 ⟨A2, c2, A3, c3, A4, c4, z2, A5, c5, rfl, hoz, hon, hod, he2⟩
 have Hv2 := lh hoz.v.rd
 have Hr2 := lh (OwnL.rdLC hoz.r SM.out.r SM.out.e)
 have Hq2 := lh hoz.q.rd
 have Hn2 := lh hon.rd
 clear hoz hon hod
 have U2 := lh ((Ext.al (Ext.al (Ext.rfl' w1) (.cells #[.slice Ag g.length cg] 25)) (.cells #[.slice Av v.length cv, .slice Ar r.length cr, .slice Aq q.length cq] 29)).tr he2)
 have E2 := lh (E1.out.tr U2.out)
 have lg_2 := he2.cellE (show World.cell? (World.alloc (World.alloc w1 (.cells #[.slice Ag g.length cg] 25)) (.cells #[.slice Av v.length cv, .slice Ar r.length cr, .slice Aq q.length cq] 29)) ⟨w1.heap.size, 0, none⟩ = some (.slice Ag g.length cg) by simp [go_sem])
 have lv_2 := he2.cellE (show World.cell? (World.alloc (World.alloc w1 (.cells #[.slice Ag g.length cg] 25)) (.cells #[.slice Av v.length cv, .slice Ar r.length cr, .slice Aq q.length cq] 29)) ⟨w1.heap.size + 1, 0, none⟩ = some (.slice Av v.length cv) by simp [go_sem])
 have lr_2 := he2.cellE (show World.cell? (World.alloc (World.alloc w1 (.cells #[.slice Ag g.length cg] 25)) (.cells #[.slice Av v.length cv, .slice Ar r.length cr, .slice Aq q.length cq] 29)) ⟨w1.heap.size + 1, 1, none⟩ = some (.slice Ar r.length cr) by simp [go_sem])
 have lq_2 := he2.cellE (show World.cell? (World.alloc (World.alloc w1 (.cells #[.slice Ag g.length cg] 25)) (.cells #[.slice Av v.length cv, .slice Ar r.length cr, .slice Aq q.length cq] 29)) ⟨w1.heap.size + 1, 2, none⟩ = some (.slice Aq q.length cq) by simp [go_sem])
 clear he2 X1_1
 have blg_2 := blt lg_2
 have blv_2 := blt lv_2
 have blr_2 := blt lr_2
 have blq_2 := blt lq_2
 have X2_2 := lh (Ext.al ((Ext.rfl' w1).tr U2.out) (.cells #[.slice A2 ov.length c2, .slice A3 orr.length c3, .slice A4 oq.length c4] 29))
 go_wp2_with fail
 refine (HS.out _ (H1.out.ext X2_2.out) (V1.out.ext X2_2.out) (R1.out.ext X2_2.out) (Q1.out.ext X2_2.out)).mono ?_
 rintro e w3 ⟨A6, c6, A7, c7, A8, c8, z6, A9, c9, rfl, hoz, hon, hod, he3⟩
 have Hv6 := lh hoz.v.rd
 have Hr6 := lh (OwnL.rdLC hoz.r SM.out.r SM.out.e)
 have Hq6 := lh hoz.q.rd
 have Hn6 := lh hon.rd
 clear hoz hon hod
 have U3 := lh ((Ext.al (Ext.rfl' w2) (.cells #[.slice A2 ov.length c2, .slice A3 orr.length c3, .slice A4 oq.length c4] 29)).tr he3)
 have E3 := lh (E2.out.tr U3.out)
 have lg_3 := U3.out.cellE lg_2
 have lv_3 := U3.out.cellE lv_2
 have lr_3 := U3.out.cellE lr_2
 have lq_3 := U3.out.cellE lq_2
 have pv_3 := he3.cellE (show World.cell? (World.alloc w2 (.cells #[.slice A2 ov.length c2, .slice A3 orr.length c3, .slice A4 oq.length c4] 29)) ⟨w2.heap.size, 0, none⟩ = some (.slice A2 ov.length c2) by simp [go_sem])
 have pr_3 := he3.cellE (show World.cell? (World.alloc w2 (.cells #[.slice A2 ov.length c2, .slice A3 orr.length c3, .slice A4 oq.length c4] 29)) ⟨w2.heap.size, 1, none⟩ = some (.slice A3 orr.length c3) by simp [go_sem])
 have pq_3 := he3.cellE (show World.cell? (World.alloc w2 (.cells #[.slice A2 ov.length c2, .slice A3 orr.length c3, .slice A4 oq.length c4] 29)) ⟨w2.heap.size, 2, none⟩ = some (.slice A4 oq.length c4) by simp [go_sem])
 clear he3 lg_2 lv_2 lr_2 lq_2 blg_2 blv_2 blr_2 blq_2 X2_2
 have blg_3 := blt lg_3
 have blv_3 := blt lv_3
 have blr_3 := blt lr_3
 have blq_3 := blt lq_3
 have bpv_3 := blt pv_3
 have bpr_3 := blt pr_3
 have bpq_3 := blt pq_3
 have X3_3 := lh (Ext.al ((Ext.rfl' w2).tr U3.out) (.cells #[.slice A6 ov.length c6, .slice A7 orr.length c7, .slice A8 oq.length c8] 29))
 have X3_4 := lh (Ext.al (Ext.rfl' w3) (.cells #[.slice A6 ov.length c6, .slice A7 orr.length c7, .slice A8 oq.length c8] 29))
 go_wp2_with fail
 refine (l_equalLazy A2 A6 A3 A7 A4 A8 c2 c6 c3 c7 c4 c8 ov orr oq _ (Hv2.out.ext X3_3.out) (Hv6.out.ext X3_4.out) (Hr2.out.ext X3_3.out).rdL (Hr6.out.ext X3_4.out).rdL (Hq2.out.ext X3_3.out) (Hq6.out.ext X3_4.out)).mono ?_
 rintro e w4 ⟨rfl, he4⟩
 have U4 := lh ((Ext.al (Ext.rfl' w3) (.cells #[.slice A6 ov.length c6, .slice A7 orr.length c7, .slice A8 oq.length c8] 29)).tr he4)
 have E4 := lh (E3.out.tr U4.out)
 have lg_4 := U4.out.cellE lg_3
 have lv_4 := U4.out.cellE lv_3
 have lr_4 := U4.out.cellE lr_3
 have lq_4 := U4.out.cellE lq_3
 have pv_4 := U4.out.cellE pv_3
 have pr_4 := U4.out.cellE pr_3
 have pq_4 := U4.out.cellE pq_3
 have ov_4 := he4.cellE (show World.cell? (World.alloc w3 (.cells #[.slice A6 ov.length c6, .slice A7 orr.length c7, .slice A8 oq.length c8] 29)) ⟨w3.heap.size, 0, none⟩ = some (.slice A6 ov.length c6) by simp [go_sem])
 have or_4 := he4.cellE (show World.cell? (World.alloc w3 (.cells #[.slice A6 ov.length c6, .slice A7 orr.length c7, .slice A8 oq.length c8] 29)) ⟨w3.heap.size, 1, none⟩ = some (.slice A7 orr.length c7) by simp [go_sem])
 have oq_4 := he4.cellE (show World.cell? (World.alloc w3 (.cells #[.slice A6 ov.length c6, .slice A7 orr.length c7, .slice A8 oq.length c8] 29)) ⟨w3.heap.size, 2, none⟩ = some (.slice A8 oq.length c8) by simp [go_sem])
 clear he4 lg_3 lv_3 lr_3 lq_3 pv_3 pr_3 pq_3 blg_3 blv_3 blr_3 blq_3 bpv_3 bpr_3 bpq_3 X3_3 X3_4
 have blg_4 := blt lg_4
 have blv_4 := blt lv_4
 have blr_4 := blt lr_4
 have blq_4 := blt lq_4
 have bpv_4 := blt pv_4
 have bpr_4 := blt pr_4
 have bpq_4 := blt pq_4
 have bov_4 := blt ov_4
 have bor_4 := blt or_4
 have boq_4 := blt oq_4
 have zx : (x != x) = false := by simp
 have zy : (x == x) = true := by simp
 have X4_5 := lh (((Ext.rfl' w2).tr U3.out).tr U4.out)
 have X4_6 := lh ((Ext.rfl' w3).tr U4.out)
 go_wp2_with fail
 refine (l_equalInts A5 A9 c5 c9 rn _ (Hn2.out.ext X4_5.out) (Hn6.out.ext X4_6.out)).mono ?_
 rintro e w5 ⟨rfl, he5⟩
 have U5 := lh ((Ext.rfl' w4).tr he5)
 have E5 := lh (E4.out.tr U5.out)
 have lg_5 := U5.out.cellE lg_4
 have lv_5 := U5.out.cellE lv_4
 have lr_5 := U5.out.cellE lr_4
 have lq_5 := U5.out.cellE lq_4
 have pv_5 := U5.out.cellE pv_4
 have pr_5 := U5.out.cellE pr_4
 have pq_5 := U5.out.cellE pq_4
 have ov_5 := U5.out.cellE ov_4
 have or_5 := U5.out.cellE or_4
 have oq_5 := U5.out.cellE oq_4
 clear he5 lg_4 lv_4 lr_4 lq_4 pv_4 pr_4 pq_4 ov_4 or_4 oq_4 blg_4 blv_4 blr_4 blq_4 bpv_4 bpr_4 bpq_4 bov_4 bor_4 boq_4 X4_5 X4_6
 have blg_5 := blt lg_5
 have blv_5 := blt lv_5
 have blr_5 := blt lr_5
 have blq_5 := blt lq_5
 have bpv_5 := blt pv_5
 have bpr_5 := blt pr_5
 have bpq_5 := blt pq_5
 have bov_5 := blt ov_5
 have bor_5 := blt or_5
 have boq_5 := blt oq_5
 have X5_7 := lh (((((Ext.rfl' w1).tr U2.out).tr U3.out).tr U4.out).tr U5.out)
 go_wp2_with fail
 refine (HV.out _ (H1.out.ext X5_7.out) (V1.out.ext X5_7.out) (R1.out.ext X5_7.out) (Q1.out.ext X5_7.out)).mono ?_
 rintro e w6 ⟨rfl, he6⟩
 have U6 := lh ((Ext.rfl' w5).tr he6)
 have E6 := lh (E5.out.tr U6.out)
 have lg_6 := U6.out.cellE lg_5
 have lv_6 := U6.out.cellE lv_5
 have lr_6 := U6.out.cellE lr_5
 have lq_6 := U6.out.cellE lq_5
 have pv_6 := U6.out.cellE pv_5
 have pr_6 := U6.out.cellE pr_5
 have pq_6 := U6.out.cellE pq_5
 have ov_6 := U6.out.cellE ov_5
 have or_6 := U6.out.cellE or_5
 have oq_6 := U6.out.cellE oq_5
 clear he6 lg_5 lv_5 lr_5 lq_5 pv_5 pr_5 pq_5 ov_5 or_5 oq_5 blg_5 blv_5 blr_5 blq_5 bpv_5 bpr_5 bpq_5 bov_5 bor_5 boq_5 X5_7
 have blg_6 := blt lg_6
 have blv_6 := blt lv_6
 have blr_6 := blt lr_6
 have blq_6 := blt lq_6
 have bpv_6 := blt pv_6
 have bpr_6 := blt pr_6
 have bpq_6 := blt pq_6
 have bov_6 := blt ov_6
 have bor_6 := blt or_6
 have boq_6 := blt oq_6
 cases hE : Sg.validL g ⟨v, r, q⟩
 ·skip
  clear hE
  have X6_8 := lh (((((Ext.rfl' w2).tr U3.out).tr U4.out).tr U5.out).tr U6.out)
  have X6_9 := lh ((((Ext.rfl' w3).tr U4.out).tr U5.out).tr U6.out)
  go_wp2_with fail
  refine (l_equalLazy A2 A6 A3 A7 A4 A8 c2 c6 c3 c7 c4 c8 ov orr oq _ (Hv2.out.ext X6_8.out) (Hv6.out.ext X6_9.out) (Hr2.out.ext X6_8.out).rdL (Hr6.out.ext X6_9.out).rdL (Hq2.out.ext X6_8.out) (Hq6.out.ext X6_9.out)).mono ?_
  rintro e w7 ⟨rfl, he7⟩
  have U7 := lh ((Ext.rfl' w6).tr he7)
  have E7 := lh (E6.out.tr U7.out)
  have lg_7 := U7.out.cellE lg_6
  have lv_7 := U7.out.cellE lv_6
  have lr_7 := U7.out.cellE lr_6
  have lq_7 := U7.out.cellE lq_6
  have pv_7 := U7.out.cellE pv_6
  have pr_7 := U7.out.cellE pr_6
  have pq_7 := U7.out.cellE pq_6
  have ov_7 := U7.out.cellE ov_6
  have or_7 := U7.out.cellE or_6
  have oq_7 := U7.out.cellE oq_6
  clear he7 lg_6 lv_6 lr_6 lq_6 pv_6 pr_6 pq_6 ov_6 or_6 oq_6 blg_6 blv_6 blr_6 blq_6 bpv_6 bpr_6 bpq_6 bov_6 bor_6 boq_6 X6_8 X6_9
  have blg_7 := blt lg_7
  have blv_7 := blt lv_7
  have blr_7 := blt lr_7
  have blq_7 := blt lq_7
  have bpv_7 := blt pv_7
  have bpr_7 := blt pr_7
  have bpq_7 := blt pq_7
  have bov_7 := blt ov_7
  have bor_7 := blt or_7
  have boq_7 := blt oq_7
  have X7_10 := lh ((((((Ext.rfl' w2).tr U3.out).tr U4.out).tr U5.out).tr U6.out).tr U7.out)
  have X7_11 := lh (((((Ext.rfl' w3).tr U4.out).tr U5.out).tr U6.out).tr U7.out)
  go_wp2_with fail
  refine (l_equalInts A5 A9 c5 c9 rn _ (Hn2.out.ext X7_10.out) (Hn6.out.ext X7_11.out)).mono ?_
  rintro e w8 ⟨rfl, he8⟩
  have U8 := lh ((Ext.rfl' w7).tr he8)
  have E8 := lh (E7.out.tr U8.out)
  have lg_8 := U8.out.cellE lg_7
  have lv_8 := U8.out.cellE lv_7
  have lr_8 := U8.out.cellE lr_7
  have lq_8 := U8.out.cellE lq_7
  have pv_8 := U8.out.cellE pv_7
  have pr_8 := U8.out.cellE pr_7
  have pq_8 := U8.out.cellE pq_7
  have ov_8 := U8.out.cellE ov_7
  have or_8 := U8.out.cellE or_7
  have oq_8 := U8.out.cellE oq_7
  clear he8 lg_7 lv_7 lr_7 lq_7 pv_7 pr_7 pq_7 ov_7 or_7 oq_7 blg_7 blv_7 blr_7 blq_7 bpv_7 bpr_7 bpq_7 bov_7 bor_7 boq_7 X7_10 X7_11
  have blg_8 := blt lg_8
  have blv_8 := blt lv_8
  have blr_8 := blt lr_8
  have blq_8 := blt lq_8
  have bpv_8 := blt pv_8
  have bpr_8 := blt pr_8
  have bpq_8 := blt pq_8
  have bov_8 := blt ov_8
  have bor_8 := blt or_8
  have boq_8 := blt oq_8
  go_wp2
  go_ret
  exact ⟨rfl, E8.out⟩
 ·by_cases hn0 : n < 0
  ·clear hE
   have X6_8 := lh (((((Ext.rfl' w2).tr U3.out).tr U4.out).tr U5.out).tr U6.out)
   have X6_9 := lh ((((Ext.rfl' w3).tr U4.out).tr U5.out).tr U6.out)
   go_wp2_with fail
   refine (l_equalLazy A2 A6 A3 A7 A4 A8 c2 c6 c3 c7 c4 c8 ov orr oq _ (Hv2.out.ext X6_8.out) (Hv6.out.ext X6_9.out) (Hr2.out.ext X6_8.out).rdL (Hr6.out.ext X6_9.out).rdL (Hq2.out.ext X6_8.out) (Hq6.out.ext X6_9.out)).mono ?_
   rintro e w7 ⟨rfl, he7⟩
   have U7 := lh ((Ext.rfl' w6).tr he7)
   have E7 := lh (E6.out.tr U7.out)
   have lg_7 := U7.out.cellE lg_6
   have lv_7 := U7.out.cellE lv_6
   have lr_7 := U7.out.cellE lr_6
   have lq_7 := U7.out.cellE lq_6
   have pv_7 := U7.out.cellE pv_6
   have pr_7 := U7.out.cellE pr_6
   have pq_7 := U7.out.cellE pq_6
   have ov_7 := U7.out.cellE ov_6
   have or_7 := U7.out.cellE or_6
   have oq_7 := U7.out.cellE oq_6
   clear he7 lg_6 lv_6 lr_6 lq_6 pv_6 pr_6 pq_6 ov_6 or_6 oq_6 blg_6 blv_6 blr_6 blq_6 bpv_6 bpr_6 bpq_6 bov_6 bor_6 boq_6 X6_8 X6_9
   have blg_7 := blt lg_7
   have blv_7 := blt lv_7
   have blr_7 := blt lr_7
   have blq_7 := blt lq_7
   have bpv_7 := blt pv_7
   have bpr_7 := blt pr_7
   have bpq_7 := blt pq_7
   have bov_7 := blt ov_7
   have bor_7 := blt or_7
   have boq_7 := blt oq_7
   have X7_10 := lh ((((((Ext.rfl' w2).tr U3.out).tr U4.out).tr U5.out).tr U6.out).tr U7.out)
   have X7_11 := lh (((((Ext.rfl' w3).tr U4.out).tr U5.out).tr U6.out).tr U7.out)
   go_wp2_with fail
   refine (l_equalInts A5 A9 c5 c9 rn _ (Hn2.out.ext X7_10.out) (Hn6.out.ext X7_11.out)).mono ?_
   rintro e w8 ⟨rfl, he8⟩
   have U8 := lh ((Ext.rfl' w7).tr he8)
   have E8 := lh (E7.out.tr U8.out)
   have lg_8 := U8.out.cellE lg_7
   have lv_8 := U8.out.cellE lv_7
   have lr_8 := U8.out.cellE lr_7
   have lq_8 := U8.out.cellE lq_7
   have pv_8 := U8.out.cellE pv_7
   have pr_8 := U8.out.cellE pr_7
   have pq_8 := U8.out.cellE pq_7
   have ov_8 := U8.out.cellE ov_7
   have or_8 := U8.out.cellE or_7
   have oq_8 := U8.out.cellE oq_7
   clear he8 lg_7 lv_7 lr_7 lq_7 pv_7 pr_7 pq_7 ov_7 or_7 oq_7 blg_7 blv_7 blr_7 blq_7 bpv_7 bpr_7 bpq_7 bov_7 bor_7 boq_7 X7_10 X7_11
   have blg_8 := blt lg_8
   have blv_8 := blt lv_8
   have blr_8 := blt lr_8
   have blq_8 := blt lq_8
   have bpv_8 := blt pv_8
   have bpr_8 := blt pr_8
   have bpq_8 := blt pq_8
   have bov_8 := blt ov_8
   have bor_8 := blt or_8
   have boq_8 := blt oq_8
   go_wp2
   go_ret
   exact ⟨rfl, E8.out⟩
  ·by_cases hn1 : n ≥ (g.length : Int)
   ·clear hE
    have X6_8 := lh (((((Ext.rfl' w2).tr U3.out).tr U4.out).tr U5.out).tr U6.out)
    have X6_9 := lh ((((Ext.rfl' w3).tr U4.out).tr U5.out).tr U6.out)
    go_wp2_with fail
    refine (l_equalLazy A2 A6 A3 A7 A4 A8 c2 c6 c3 c7 c4 c8 ov orr oq _ (Hv2.out.ext X6_8.out) (Hv6.out.ext X6_9.out) (Hr2.out.ext X6_8.out).rdL (Hr6.out.ext X6_9.out).rdL (Hq2.out.ext X6_8.out) (Hq6.out.ext X6_9.out)).mono ?_
    rintro e w7 ⟨rfl, he7⟩
    have U7 := lh ((Ext.rfl' w6).tr he7)
    have E7 := lh (E6.out.tr U7.out)
    have lg_7 := U7.out.cellE lg_6
    have lv_7 := U7.out.cellE lv_6
    have lr_7 := U7.out.cellE lr_6
    have lq_7 := U7.out.cellE lq_6
    have pv_7 := U7.out.cellE pv_6
    have pr_7 := U7.out.cellE pr_6
    have pq_7 := U7.out.cellE pq_6
    have ov_7 := U7.out.cellE ov_6
    have or_7 := U7.out.cellE or_6
    have oq_7 := U7.out.cellE oq_6
    clear he7 lg_6 lv_6 lr_6 lq_6 pv_6 pr_6 pq_6 ov_6 or_6 oq_6 blg_6 blv_6 blr_6 blq_6 bpv_6 bpr_6 bpq_6 bov_6 bor_6 boq_6 X6_8 X6_9
    have blg_7 := blt lg_7
    have blv_7 := blt lv_7
    have blr_7 := blt lr_7
    have blq_7 := blt lq_7
    have bpv_7 := blt pv_7
    have bpr_7 := blt pr_7
    have bpq_7 := blt pq_7
    have bov_7 := blt ov_7
    have bor_7 := blt or_7
    have boq_7 := blt oq_7
    have X7_10 := lh ((((((Ext.rfl' w2).tr U3.out).tr U4.out).tr U5.out).tr U6.out).tr U7.out)
    have X7_11 := lh (((((Ext.rfl' w3).tr U4.out).tr U5.out).tr U6.out).tr U7.out)
    go_wp2_with fail
    refine (l_equalInts A5 A9 c5 c9 rn _ (Hn2.out.ext X7_10.out) (Hn6.out.ext X7_11.out)).mono ?_
    rintro e w8 ⟨rfl, he8⟩
    have U8 := lh ((Ext.rfl' w7).tr he8)
    have E8 := lh (E7.out.tr U8.out)
    have lg_8 := U8.out.cellE lg_7
    have lv_8 := U8.out.cellE lv_7
    have lr_8 := U8.out.cellE lr_7
    have lq_8 := U8.out.cellE lq_7
    have pv_8 := U8.out.cellE pv_7
    have pr_8 := U8.out.cellE pr_7
    have pq_8 := U8.out.cellE pq_7
    have ov_8 := U8.out.cellE ov_7
    have or_8 := U8.out.cellE or_7
    have oq_8 := U8.out.cellE oq_7
    clear he8 lg_7 lv_7 lr_7 lq_7 pv_7 pr_7 pq_7 ov_7 or_7 oq_7 blg_7 blv_7 blr_7 blq_7 bpv_7 bpr_7 bpq_7 bov_7 bor_7 boq_7 X7_10 X7_11
    have blg_8 := blt lg_8
    have blv_8 := blt lv_8
    have blr_8 := blt lr_8
    have blq_8 := blt lq_8
    have bpv_8 := blt pv_8
    have bpr_8 := blt pr_8
    have bpq_8 := blt pq_8
    have bov_8 := blt ov_8
    have bor_8 := blt or_8
    have boq_8 := blt oq_8
    go_wp2
    go_ret
    exact ⟨rfl, E8.out⟩
   ·have HE := lh hE
    obtain ⟨k, rfl⟩ := Int.eq_ofNat_of_zero_le (show 0 ≤ n by omega)
    have hk : k < g.length := by omega
    have hW := HW.out
    obtain ⟨l1, l2, l3, l4, l5⟩ := Sg.read_law hE hk
    have hT := Sg.read_twice hE hk
    rw [hW] at l1 l5 hT
    dsimp only at l1 l5 hT
    have hovl9 : ov.length ≤ 1048576 := SM.out.v
    have hoql9 : oq.length ≤ 1048576 := SM.out.q
    obtain ⟨cl, hcl0⟩ : ∃ cl, cl = Sg.cellsOf g v := ⟨_, rfl⟩
    have hlc : Sg.lazyCells g ⟨v, r, q⟩ = cl := by unfold Sg.lazyCells; rw [if_pos hE, hcl0]
    have hlo : Sg.lazyCells g ⟨ov, orr, oq⟩ = cl := by unfold Sg.lazyCells; rw [if_pos l1, hcl0]; exact l5
    have HT := lh (fun w h hv hr hq => by have := i_ReadLazy Ag A2 A3 A4 cg c2 c3 c4 g ov oq orr (k : Int) w h hv hr hq hovl9 hoql9; rw [hT] at this; exact this)
    have HLC := lh (fun w h hv hr hq => by have := i_LazyCells Ag Av Ar Aq cg cv cr cq g v q r w h hv hr hq hvl9 hql9; rw [hlc] at this; exact this)
    have HLO := lh (fun w h hv hr hq => by have := i_LazyCells Ag A2 A3 A4 cg c2 c3 c4 g ov oq orr w h hv hr hq hovl9 hoql9; rw [hlo] at this; exact this)
    clear l1 l2 l3 l4 l5 hT hlc hlo hcl0 hE hW
    have X6_8 := lh ((((((Ext.rfl' w1).tr U2.out).tr U3.out).tr U4.out).tr U5.out).tr U6.out)
    have X6_9 := lh (((((Ext.rfl' w2).tr U3.out).tr U4.out).tr U5.out).tr U6.out)
    go_wp2_with fail
    refine (HT.out _ (H1.out.ext X6_8.out) (Hv2.out.ext X6_9.out) (Hr2.out.ext X6_9.out) (Hq2.out.ext X6_9.out)).mono ?_
    rintro e w7 ⟨A10, c10, A11, c11, A12, c12, z10, A13, c13, rfl, hoz, hon, hod, he7⟩
    have Hv10 := lh hoz.v.rd
    have Hr10 := lh (OwnL.rdLC hoz.r SM.out.r SM.out.e)
    have Hq10 := lh hoz.q.rd
    have Hn10 := lh hon.rd
    clear hoz hon hod
    have U7 := lh ((Ext.rfl' w6).tr he7)
    have E7 := lh (E6.out.tr U7.out)
    have lg_7 := U7.out.cellE lg_6
    have lv_7 := U7.out.cellE lv_6
    have lr_7 := U7.out.cellE lr_6
    have lq_7 := U7.out.cellE lq_6
    have pv_7 := U7.out.cellE pv_6
    have pr_7 := U7.out.cellE pr_6
    have pq_7 := U7.out.cellE pq_6
    have ov_7 := U7.out.cellE ov_6
    have or_7 := U7.out.cellE or_6
    have oq_7 := U7.out.cellE oq_6
    clear he7 lg_6 lv_6 lr_6 lq_6 pv_6 pr_6 pq_6 ov_6 or_6 oq_6 blg_6 blv_6 blr_6 blq_6 bpv_6 bpr_6 bpq_6 bov_6 bor_6 boq_6 X6_8 X6_9
    have blg_7 := blt lg_7
    have blv_7 := blt lv_7
    have blr_7 := blt lr_7
    have blq_7 := blt lq_7
    have bpv_7 := blt pv_7
    have bpr_7 := blt pr_7
    have bpq_7 := blt pq_7
    have bov_7 := blt ov_7
    have bor_7 := blt or_7
    have boq_7 := blt oq_7
    go_upto_region 9 with fail
    have he8 := Ext.rfl' (World.alloc w7 (.cells #[.slice A10 ov.length c10, .slice A11 orr.length c11, .slice A12 oq.length c12] 29))
    have U8 := lh ((Ext.al (Ext.rfl' w7) (.cells #[.slice A10 ov.length c10, .slice A11 orr.length c11, .slice A12 oq.length c12] 29)).tr he8)
    have E8 := lh (E7.out.tr U8.out)
    have lg_8 := U8.out.cellE lg_7
    have lv_8 := U8.out.cellE lv_7
    have lr_8 := U8.out.cellE lr_7
    have lq_8 := U8.out.cellE lq_7
    have pv_8 := U8.out.cellE pv_7
    have pr_8 := U8.out.cellE pr_7
    have pq_8 := U8.out.cellE pq_7
    have ov_8 := U8.out.cellE ov_7
    have or_8 := U8.out.cellE or_7
    have oq_8 := U8.out.cellE oq_7
    have tv_8 := he8.cellE (show World.cell? (World.alloc w7 (.cells #[.slice A10 ov.length c10, .slice A11 orr.length c11, .slice A12 oq.length c12] 29)) ⟨w7.heap.size, 0, none⟩ = some (.slice A10 ov.length c10) by simp [go_sem])
    have tr_8 := he8.cellE (show World.cell? (World.alloc w7 (.cells #[.slice A10 ov.length c10, .slice A11 orr.length c11, .slice A12 oq.length c12] 29)) ⟨w7.heap.size, 1, none⟩ = some (.slice A11 orr.length c11) by simp [go_sem])
    have tq_8 := he8.cellE (show World.cell? (World.alloc w7 (.cells #[.slice A10 ov.length c10, .slice A11 orr.length c11, .slice A12 oq.length c12] 29)) ⟨w7.heap.size, 2, none⟩ = some (.slice A12 oq.length c12) by simp [go_sem])
    clear he8 lg_7 lv_7 lr_7 lq_7 pv_7 pr_7 pq_7 ov_7 or_7 oq_7 blg_7 blv_7 blr_7 blq_7 bpv_7 bpr_7 bpq_7 bov_7 bor_7 boq_7
    have blg_8 := blt lg_8
    have blv_8 := blt lv_8
    have blr_8 := blt lr_8
    have blq_8 := blt lq_8
    have bpv_8 := blt pv_8
    have bpr_8 := blt pr_8
    have bpq_8 := blt pq_8
    have bov_8 := blt ov_8
    have bor_8 := blt or_8
    have boq_8 := blt oq_8
    have btv_8 := blt tv_8
    have btr_8 := blt tr_8
    have btq_8 := blt tq_8
    generalize (World.alloc w7 (.cells #[.slice A10 ov.length c10, .slice A11 orr.length c11, .slice A12 oq.length c12] 29)) = w8 at *
    go_wp2_with fail
    refine wp_region_held_drew (S := (fun W => W.cell? ⟨w1.heap.size, 0, none⟩ = some (.slice Ag g.length cg) ∧ W.cell? ⟨w1.heap.size + 1, 0, none⟩ = some (.slice Av v.length cv) ∧ W.cell? ⟨w1.heap.size + 1, 1, none⟩ = some (.slice Ar r.length cr) ∧ W.cell? ⟨w1.heap.size + 1, 2, none⟩ = some (.slice Aq q.length cq) ∧ W.cell? ⟨w2.heap.size, 0, none⟩ = some (.slice A2 ov.length c2) ∧ W.cell? ⟨w2.heap.size, 1, none⟩ = some (.slice A3 orr.length c3) ∧ W.cell? ⟨w2.heap.size, 2, none⟩ = some (.slice A4 oq.length c4) ∧ W.cell? ⟨w7.heap.size, 0, none⟩ = some (.slice A10 ov.length c10) ∧ W.cell? ⟨w7.heap.size, 1, none⟩ = some (.slice A11 orr.length c11) ∧ W.cell? ⟨w7.heap.size, 2, none⟩ = some (.slice A12 oq.length c12))) (by kernel_rfl) ?_ (fun hHeld => ?_)
    ·exact ⟨((Ext.rfl' _).dr).cellE lg_8, ((Ext.rfl' _).dr).cellE lv_8, ((Ext.rfl' _).dr).cellE lr_8, ((Ext.rfl' _).dr).cellE lq_8, ((Ext.rfl' _).dr).cellE pv_8, ((Ext.rfl' _).dr).cellE pr_8, ((Ext.rfl' _).dr).cellE pq_8, ((Ext.rfl' _).dr).cellE tv_8, ((Ext.rfl' _).dr).cellE tr_8, ((Ext.rfl' _).dr).cellE tq_8⟩
    refine ty 0 ?_
    refine ty 1 ?_
    refine rd1 2 rfl fun K hK => ?_
    go_simp
    have X8_10 := lh (((Ext.rfl' w7).tr U8.out).dr)
    have X8_11 := lh ((((((((Ext.rfl' w2).tr U3.out).tr U4.out).tr U5.out).tr U6.out).tr U7.out).tr U8.out).dr)
    refine (l_equalLazy A10 A2 A11 A3 A12 A4 c10 c2 c11 c3 c12 c4 ov orr oq _ (Hv10.out.ext X8_10.out) (Hv2.out.ext X8_11.out) (Hr10.out.ext X8_10.out).rdL (Hr2.out.ext X8_11.out).rdL (Hq10.out.ext X8_10.out) (Hq2.out.ext X8_11.out)).mono ?_
    rintro e w9 ⟨rfl, he9⟩
    have U9 := lh (((Ext.rfl' w8).dr).tr he9)
    have E9 := lh (E8.out.tr U9.out)
    have lg_9 := U9.out.cellE lg_8
    have lv_9 := U9.out.cellE lv_8
    have lr_9 := U9.out.cellE lr_8
    have lq_9 := U9.out.cellE lq_8
    have pv_9 := U9.out.cellE pv_8
    have pr_9 := U9.out.cellE pr_8
    have pq_9 := U9.out.cellE pq_8
    have ov_9 := U9.out.cellE ov_8
    have or_9 := U9.out.cellE or_8
    have oq_9 := U9.out.cellE oq_8
    have tv_9 := U9.out.cellE tv_8
    have tr_9 := U9.out.cellE tr_8
    have tq_9 := U9.out.cellE tq_8
    clear he9 lg_8 lv_8 lr_8 lq_8 pv_8 pr_8 pq_8 ov_8 or_8 oq_8 tv_8 tr_8 tq_8 blg_8 blv_8 blr_8 blq_8 bpv_8 bpr_8 bpq_8 bov_8 bor_8 boq_8 btv_8 btr_8 btq_8 X8_10 X8_11
    have blg_9 := blt lg_9
    have blv_9 := blt lv_9
    have blr_9 := blt lr_9
    have blq_9 := blt lq_9
    have bpv_9 := blt pv_9
    have bpr_9 := blt pr_9
    have bpq_9 := blt pq_9
    have bov_9 := blt ov_9
    have bor_9 := blt or_9
    have boq_9 := blt oq_9
    have btv_9 := blt tv_9
    have btr_9 := blt tr_9
    have btq_9 := blt tq_9
    try go_wp2_with fail
    refine hK.out _ _ (by exact ⟨lg_9, lv_9, lr_9, lq_9, pv_9, pr_9, pq_9, tv_9, tr_9, tq_9⟩) fun hh2 => ?_; clear hK K hHeld; have hHeld := hh2; clear hh2
    try simp only [Act.put, pu]
    refine ty 3 ?_
    refine ty 4 ?_
    refine ty 5 ?_
    refine ty 6 ?_
    refine ty 7 ?_
    refine ty 8 ?_
    refine ty 9 ?_
    refine ty 10 ?_
    refine ty 11 ?_
    refine ty 12 ?_
    refine ty 13 ?_
    refine ty 14 ?_
    refine ty 15 ?_
    refine ty 17 ?_
    refine ty 18 ?_
    refine rd1 16 rfl fun K hK => ?_
    go_simp
    have X9_12 := lh (((((((((Ext.rfl' w1).tr U2.out).tr U3.out).tr U4.out).tr U5.out).tr U6.out).tr U7.out).tr U8.out).tr U9.out)
    have X9_13 := lh ((((((((Ext.rfl' w2).tr U3.out).tr U4.out).tr U5.out).tr U6.out).tr U7.out).tr U8.out).tr U9.out)
    refine (HLO.out _ (H1.out.ext X9_12.out) (Hv2.out.ext X9_13.out) (Hr2.out.ext X9_13.out) (Hq2.out.ext X9_13.out)).mono ?_
    rintro e w10 ⟨A20, c20, rfl, hoc, he10⟩
    have Hc20 := lh hoc.rd
    clear hoc
    have U10 := lh ((Ext.rfl' w9).tr he10)
    have E10 := lh (E9.out.tr U10.out)
    have lg_10 := U10.out.cellE lg_9
    have lv_10 := U10.out.cellE lv_9
    have lr_10 := U10.out.cellE lr_9
    have lq_10 := U10.out.cellE lq_9
    have pv_10 := U10.out.cellE pv_9
    have pr_10 := U10.out.cellE pr_9
    have pq_10 := U10.out.cellE pq_9
    have ov_10 := U10.out.cellE ov_9
    have or_10 := U10.out.cellE or_9
    have oq_10 := U10.out.cellE oq_9
    have tv_10 := U10.out.cellE tv_9
    have tr_10 := U10.out.cellE tr_9
    have tq_10 := U10.out.cellE tq_9
    clear he10 lg_9 lv_9 lr_9 lq_9 pv_9 pr_9 pq_9 ov_9 or_9 oq_9 tv_9 tr_9 tq_9 blg_9 blv_9 blr_9 blq_9 bpv_9 bpr_9 bpq_9 bov_9 bor_9 boq_9 btv_9 btr_9 btq_9 X9_12 X9_13
    have blg_10 := blt lg_10
    have blv_10 := blt lv_10
    have blr_10 := blt lr_10
    have blq_10 := blt lq_10
    have bpv_10 := blt pv_10
    have bpr_10 := blt pr_10
    have bpq_10 := blt pq_10
    have bov_10 := blt ov_10
    have bor_10 := blt or_10
    have boq_10 := blt oq_10
    have btv_10 := blt tv_10
    have btr_10 := blt tr_10
    have btq_10 := blt tq_10
    try go_wp2_with fail
    refine hK.out _ _ (by exact ⟨lg_10, lv_10, lr_10, lq_10, pv_10, pr_10, pq_10, tv_10, tr_10, tq_10⟩) fun hh2 => ?_; clear hK K hHeld; have hHeld := hh2; clear hh2
    try simp only [Act.put, pu]
    refine rd1 19 rfl fun K hK => ?_
    go_simp
    have X10_14 := lh ((((((((((Ext.rfl' w1).tr U2.out).tr U3.out).tr U4.out).tr U5.out).tr U6.out).tr U7.out).tr U8.out).tr U9.out).tr U10.out)
    refine (HLC.out _ (H1.out.ext X10_14.out) (V1.out.ext X10_14.out) (R1.out.ext X10_14.out) (Q1.out.ext X10_14.out)).mono ?_
    rintro e w11 ⟨A21, c21, rfl, hoc, he11⟩
    have Hc21 := lh hoc.rd
    clear hoc
    have U11 := lh ((Ext.rfl' w10).tr he11)
    have E11 := lh (E10.out.tr U11.out)
    have lg_11 := U11.out.cellE lg_10
    have lv_11 := U11.out.cellE lv_10
    have lr_11 := U11.out.cellE lr_10
    have lq_11 := U11.out.cellE lq_10
    have pv_11 := U11.out.cellE pv_10
    have pr_11 := U11.out.cellE pr_10
    have pq_11 := U11.out.cellE pq_10
    have ov_11 := U11.out.cellE ov_10
    have or_11 := U11.out.cellE or_10
    have oq_11 := U11.out.cellE oq_10
    have tv_11 := U11.out.cellE tv_10
    have tr_11 := U11.out.cellE tr_10
    have tq_11 := U11.out.cellE tq_10
    clear he11 lg_10 lv_10 lr_10 lq_10 pv_10 pr_10 pq_10 ov_10 or_10 oq_10 tv_10 tr_10 tq_10 blg_10 blv_10 blr_10 blq_10 bpv_10 bpr_10 bpq_10 bov_10 bor_10 boq_10 btv_10 btr_10 btq_10 X10_14
    have blg_11 := blt lg_11
    have blv_11 := blt lv_11
    have blr_11 := blt lr_11
    have blq_11 := blt lq_11
    have bpv_11 := blt pv_11
    have bpr_11 := blt pr_11
    have bpq_11 := blt pq_11
    have bov_11 := blt ov_11
    have bor_11 := blt or_11
    have boq_11 := blt oq_11
    have btv_11 := blt tv_11
    have btr_11 := blt tr_11
    have btq_11 := blt tq_11
    try go_wp2_with fail
    refine hK.out _ _ (by exact ⟨lg_11, lv_11, lr_11, lq_11, pv_11, pr_11, pq_11, tv_11, tr_11, tq_11⟩) fun hh2 => ?_; clear hK K hHeld; have hHeld := hh2; clear hh2
    try simp only [Act.put, pu]
    refine rd1 20 rfl fun K hK => ?_
    go_simp
    have X11_15 := lh ((Ext.rfl' w10).tr U11.out)
    refine (l_equalInts A20 A21 c20 c21 cl _ (Hc20.out.ext X11_15.out) Hc21.out).mono ?_
    rintro e w12 ⟨rfl, he12⟩
    have U12 := lh ((Ext.rfl' w11).tr he12)
    have E12 := lh (E11.out.tr U12.out)
    have lg_12 := U12.out.cellE lg_11
    have lv_12 := U12.out.cellE lv_11
    have lr_12 := U12.out.cellE lr_11
    have lq_12 := U12.out.cellE lq_11
    have pv_12 := U12.out.cellE pv_11
    have pr_12 := U12.out.cellE pr_11
    have pq_12 := U12.out.cellE pq_11
    have ov_12 := U12.out.cellE ov_11
    have or_12 := U12.out.cellE or_11
    have oq_12 := U12.out.cellE oq_11
    have tv_12 := U12.out.cellE tv_11
    have tr_12 := U12.out.cellE tr_11
    have tq_12 := U12.out.cellE tq_11
    clear he12 lg_11 lv_11 lr_11 lq_11 pv_11 pr_11 pq_11 ov_11 or_11 oq_11 tv_11 tr_11 tq_11 blg_11 blv_11 blr_11 blq_11 bpv_11 bpr_11 bpq_11 bov_11 bor_11 boq_11 btv_11 btr_11 btq_11 X11_15
    have blg_12 := blt lg_12
    have blv_12 := blt lv_12
    have blr_12 := blt lr_12
    have blq_12 := blt lq_12
    have bpv_12 := blt pv_12
    have bpr_12 := blt pr_12
    have bpq_12 := blt pq_12
    have bov_12 := blt ov_12
    have bor_12 := blt or_12
    have boq_12 := blt oq_12
    have btv_12 := blt tv_12
    have btr_12 := blt tr_12
    have btq_12 := blt tq_12
    try go_wp2_with fail
    refine hK.out _ _ (by exact ⟨lg_12, lv_12, lr_12, lq_12, pv_12, pr_12, pq_12, tv_12, tr_12, tq_12⟩) fun hh2 => ?_; clear hK K hHeld; have hHeld := hh2; clear hh2
    try simp only [Act.put, pu]
    refine ty 21 ?_
    refine ty 22 ?_
    refine dn ?_
    go_wp2
    go_ret
    exact ⟨rfl, E12.out⟩
end Go.Proofs.YtmkfjnkdaeoppaaGreat
