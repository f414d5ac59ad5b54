/- FnReadLazyMust: the law's walk. Conditions: the code can be read. -/
import Derived.Test.YtmkfjnkdaeoppaaGreatTy
import Derived.Test.YtmkfjnkdaeoppaaGreatDrawR
import Derived.Test.YtmkfjnkdaeoppaaGreatLazSix
import Derived.Test.YtmkfjnkdaeoppaaGreatLazQ
import Derived.Test.YtmkfjnkdaeoppaaGreatPlAll
import Derived.Test.YtmkfjnkdaeoppaaGreatEqAll
import Derived.Test.YtmkfjnkdaeoppaaGreatImplVW
namespace Go.Proofs.YtmkfjnkdaeoppaaGreat
open Go.RowKit

set_option maxRecDepth 100000 in
set_option maxHeartbeats 8000000 in
theorem ex_FnReadLazyMust (A : Option Addr) (c : Nat) (l : List Int) (w : World) (h : Rd w 1 A l.length (u8s l)) (hr : ∀ x ∈ l, 0 ≤ x ∧ x ≤ 255) (hc : l.length ≤ c) (hcm : c ≤ maxLen) :
  Calls Tryz.prog 5 #[.slice A l.length c] w fun e w' => e = .returned (.bool true) ∧ Ext w w' := by
 have hbig := h.big
 have HD := lh (s_DrawReadLazy A c l w h hr hc hcm)
 clear h hr hc hcm
 by_cases hb : 1048576 < l.length
 ·have hb2 : (1048576 : Int) < (l.length : Int) := by omega
  go_enter Tryz.func5, Tryz.ntmps5
  go_wp2
  go_ret
  exact ⟨rfl, Ext.rfl' _⟩
 have hb2 : ¬ (1048576 : Int) < (l.length : Int) := by omega
 clear hb
 have E0 := lh ((Ext.rfl' w) : Ext w w)
 go_enter Tryz.func5, Tryz.ntmps5
 go_wp2_with fail
 refine (HD.out).mono ?_
 rintro e w1 ⟨g, Ag, cg, v, Av, cv, r, Ar, cr, q, Aq, cq, n, rfl, hg2, hg10, hvl, hrl, hql, hN, hV, hR, hQ, he1⟩
 have H1 := lh hN
 have V1 := lh hV
 have R1 := lh hR
 have Q1 := lh hQ
 have hvl9 : v.length ≤ 1048576 := by omega
 have hql9 : q.length ≤ 1048576 := by omega
 clear hN hV hR hQ HD
 have U1 := lh ((Ext.rfl' w).tr he1)
 have E1 := lh (E0.out.tr U1.out)
 clear he1 
 have sz1 := U1.out.size
 have hsm := readLO_smallQ g ⟨v, r, q⟩ n
 obtain ⟨⟨⟨ov, orr, oq⟩, x, rn⟩, hW⟩ : ∃ p, Sg.readLO g ⟨v, r, q⟩ n = p := ⟨_, rfl⟩
 rw [hW] at hsm
 have SM := lh (show SmallZ ⟨ov, orr, oq⟩ from hsm.1)
 have HRN := lh (show rn.length ≤ 1048576 from hsm.2)
 clear hsm
 have HI := lh (fun w h hv hr hq => by have := i_ReadLazy Ag Av Ar Aq cg cv cr cq g v q r n w h hv hr hq hvl9 hql9; rw [hW] at this; exact this)
 have HS := lh (fun w h hv hr hq => by have := s_ReadLazy Ag Av Ar Aq cg cv cr cq g v q r n w h hv hr hq hvl9 hql9; rw [hW] at this; exact this)
 have HV := lh (fun w h hv hr hq => i_ValidLazy Ag Av Ar Aq cg cv cr cq g v q r w h hv hr hq hvl9 hql9)
 have HW := lh hW
 clear hW
 have X1_1 := lh (Ext.al (Ext.al (Ext.rfl' w1) (.cells #[.slice Ag g.length cg] 25)) (.cells #[.slice Av v.length cv, .slice Ar r.length cr, .slice Aq q.length cq] 29))
 go_wp2_with fail
 refine (HI.out _ (H1.out.ext X1_1.out) (V1.out.ext X1_1.out) (R1.out.ext X1_1.out) (Q1.out.ext X1_1.out)).mono ?_
 rintro e w2 ⟨A2, c2, A3, c3, A4, c4, z2, A5, c5, rfl, hoz, hon, hod, he2⟩
 have Hv2 := lh hoz.v.rd
 have Hr2 := lh (OwnL.rdLC hoz.r SM.out.r SM.out.e)
 have Hq2 := lh hoz.q.rd
 have Hn2 := lh hon.rd
 clear hoz hon hod
 have U2 := lh ((Ext.al (Ext.al (Ext.rfl' w1) (.cells #[.slice Ag g.length cg] 25)) (.cells #[.slice Av v.length cv, .slice Ar r.length cr, .slice Aq q.length cq] 29)).tr he2)
 have E2 := lh (E1.out.tr U2.out)
 have lg_2 := he2.cellE (show World.cell? (World.alloc (World.alloc w1 (.cells #[.slice Ag g.length cg] 25)) (.cells #[.slice Av v.length cv, .slice Ar r.length cr, .slice Aq q.length cq] 29)) ⟨w1.heap.size, 0, none⟩ = some (.slice Ag g.length cg) by simp [go_sem])
 have lv_2 := he2.cellE (show World.cell? (World.alloc (World.alloc w1 (.cells #[.slice Ag g.length cg] 25)) (.cells #[.slice Av v.length cv, .slice Ar r.length cr, .slice Aq q.length cq] 29)) ⟨w1.heap.size + 1, 0, none⟩ = some (.slice Av v.length cv) by simp [go_sem])
 have lr_2 := he2.cellE (show World.cell? (World.alloc (World.alloc w1 (.cells #[.slice Ag g.length cg] 25)) (.cells #[.slice Av v.length cv, .slice Ar r.length cr, .slice Aq q.length cq] 29)) ⟨w1.heap.size + 1, 1, none⟩ = some (.slice Ar r.length cr) by simp [go_sem])
 have lq_2 := he2.cellE (show World.cell? (World.alloc (World.alloc w1 (.cells #[.slice Ag g.length cg] 25)) (.cells #[.slice Av v.length cv, .slice Ar r.length cr, .slice Aq q.length cq] 29)) ⟨w1.heap.size + 1, 2, none⟩ = some (.slice Aq q.length cq) by simp [go_sem])
 clear he2 X1_1
 have blg_2 := blt lg_2
 have blv_2 := blt lv_2
 have blr_2 := blt lr_2
 have blq_2 := blt lq_2
 have sz2 := U2.out.size
 have X2_2 := lh (Ext.al ((Ext.rfl' w1).tr U2.out) (.cells #[.slice A2 ov.length c2, .slice A3 orr.length c3, .slice A4 oq.length c4] 29))
 go_wp2_with fail
 refine (HS.out _ (H1.out.ext X2_2.out) (V1.out.ext X2_2.out) (R1.out.ext X2_2.out) (Q1.out.ext X2_2.out)).mono ?_
 rintro e w3 ⟨A6, c6, A7, c7, A8, c8, z6, A9, c9, rfl, hoz, hon, hod, he3⟩
 have Hv6 := lh hoz.v.rd
 have Hr6 := lh (OwnL.rdLC hoz.r SM.out.r SM.out.e)
 have Hq6 := lh hoz.q.rd
 have Hn6 := lh hon.rd
 clear hoz hon hod
 have U3 := lh ((Ext.al (Ext.rfl' w2) (.cells #[.slice A2 ov.length c2, .slice A3 orr.length c3, .slice A4 oq.length c4] 29)).tr he3)
 have E3 := lh (E2.out.tr U3.out)
 have lg_3 := U3.out.cellE lg_2
 have lv_3 := U3.out.cellE lv_2
 have lr_3 := U3.out.cellE lr_2
 have lq_3 := U3.out.cellE lq_2
 have pv_3 := he3.cellE (show World.cell? (World.alloc w2 (.cells #[.slice A2 ov.length c2, .slice A3 orr.length c3, .slice A4 oq.length c4] 29)) ⟨w2.heap.size, 0, none⟩ = some (.slice A2 ov.length c2) by simp [go_sem])
 have pr_3 := he3.cellE (show World.cell? (World.alloc w2 (.cells #[.slice A2 ov.length c2, .slice A3 orr.length c3, .slice A4 oq.length c4] 29)) ⟨w2.heap.size, 1, none⟩ = some (.slice A3 orr.length c3) by simp [go_sem])
 have pq_3 := he3.cellE (show World.cell? (World.alloc w2 (.cells #[.slice A2 ov.length c2, .slice A3 orr.length c3, .slice A4 oq.length c4] 29)) ⟨w2.heap.size, 2, none⟩ = some (.slice A4 oq.length c4) by simp [go_sem])
 clear he3 lg_2 lv_2 lr_2 lq_2 blg_2 blv_2 blr_2 blq_2 X2_2
 have blg_3 := blt lg_3
 have blv_3 := blt lv_3
 have blr_3 := blt lr_3
 have blq_3 := blt lq_3
 have bpv_3 := blt pv_3
 have bpr_3 := blt pr_3
 have bpq_3 := blt pq_3
 have sz3 := U3.out.size
 have X3_3 := lh (Ext.al ((Ext.rfl' w2).tr U3.out) (.cells #[.slice A6 ov.length c6, .slice A7 orr.length c7, .slice A8 oq.length c8] 29))
 have X3_4 := lh (Ext.al (Ext.rfl' w3) (.cells #[.slice A6 ov.length c6, .slice A7 orr.length c7, .slice A8 oq.length c8] 29))
 go_wp2_with fail
 refine (l_equalLazy A2 A6 A3 A7 A4 A8 c2 c6 c3 c7 c4 c8 ov orr oq _ (Hv2.out.ext X3_3.out) (Hv6.out.ext X3_4.out) (Hr2.out.ext X3_3.out).rdL (Hr6.out.ext X3_4.out).rdL (Hq2.out.ext X3_3.out) (Hq6.out.ext X3_4.out)).mono ?_
 rintro e w4 ⟨rfl, he4⟩
 have U4 := lh ((Ext.al (Ext.rfl' w3) (.cells #[.slice A6 ov.length c6, .slice A7 orr.length c7, .slice A8 oq.length c8] 29)).tr he4)
 have E4 := lh (E3.out.tr U4.out)
 have lg_4 := U4.out.cellE lg_3
 have lv_4 := U4.out.cellE lv_3
 have lr_4 := U4.out.cellE lr_3
 have lq_4 := U4.out.cellE lq_3
 have pv_4 := U4.out.cellE pv_3
 have pr_4 := U4.out.cellE pr_3
 have pq_4 := U4.out.cellE pq_3
 have ov_4 := he4.cellE (show World.cell? (World.alloc w3 (.cells #[.slice A6 ov.length c6, .slice A7 orr.length c7, .slice A8 oq.length c8] 29)) ⟨w3.heap.size, 0, none⟩ = some (.slice A6 ov.length c6) by simp [go_sem])
 have or_4 := he4.cellE (show World.cell? (World.alloc w3 (.cells #[.slice A6 ov.length c6, .slice A7 orr.length c7, .slice A8 oq.length c8] 29)) ⟨w3.heap.size, 1, none⟩ = some (.slice A7 orr.length c7) by simp [go_sem])
 have oq_4 := he4.cellE (show World.cell? (World.alloc w3 (.cells #[.slice A6 ov.length c6, .slice A7 orr.length c7, .slice A8 oq.length c8] 29)) ⟨w3.heap.size, 2, none⟩ = some (.slice A8 oq.length c8) by simp [go_sem])
 clear he4 lg_3 lv_3 lr_3 lq_3 pv_3 pr_3 pq_3 blg_3 blv_3 blr_3 blq_3 bpv_3 bpr_3 bpq_3 X3_3 X3_4
 have blg_4 := blt lg_4
 have blv_4 := blt lv_4
 have blr_4 := blt lr_4
 have blq_4 := blt lq_4
 have bpv_4 := blt pv_4
 have bpr_4 := blt pr_4
 have bpq_4 := blt pq_4
 have bov_4 := blt ov_4
 have bor_4 := blt or_4
 have boq_4 := blt oq_4
 have sz4 := U4.out.size
 have zx : (x != x) = false := by simp
 have zy : (x == x) = true := by simp
 have X4_5 := lh (((Ext.rfl' w2).tr U3.out).tr U4.out)
 have X4_6 := lh ((Ext.rfl' w3).tr U4.out)
 go_wp2_with fail
 refine (l_equalInts A5 A9 c5 c9 rn _ (Hn2.out.ext X4_5.out) (Hn6.out.ext X4_6.out)).mono ?_
 rintro e w5 ⟨rfl, he5⟩
 have U5 := lh ((Ext.rfl' w4).tr he5)
 have E5 := lh (E4.out.tr U5.out)
 have lg_5 := U5.out.cellE lg_4
 have lv_5 := U5.out.cellE lv_4
 have lr_5 := U5.out.cellE lr_4
 have lq_5 := U5.out.cellE lq_4
 have pv_5 := U5.out.cellE pv_4
 have pr_5 := U5.out.cellE pr_4
 have pq_5 := U5.out.cellE pq_4
 have ov_5 := U5.out.cellE ov_4
 have or_5 := U5.out.cellE or_4
 have oq_5 := U5.out.cellE oq_4
 clear he5 lg_4 lv_4 lr_4 lq_4 pv_4 pr_4 pq_4 ov_4 or_4 oq_4 blg_4 blv_4 blr_4 blq_4 bpv_4 bpr_4 bpq_4 bov_4 bor_4 boq_4 X4_5 X4_6
 have blg_5 := blt lg_5
 have blv_5 := blt lv_5
 have blr_5 := blt lr_5
 have blq_5 := blt lq_5
 have bpv_5 := blt pv_5
 have bpr_5 := blt pr_5
 have bpq_5 := blt pq_5
 have bov_5 := blt ov_5
 have bor_5 := blt or_5
 have boq_5 := blt oq_5
 have sz5 := U5.out.size
 have X5_7 := lh (((((Ext.rfl' w1).tr U2.out).tr U3.out).tr U4.out).tr U5.out)
 go_wp2_with fail
 refine (HV.out _ (H1.out.ext X5_7.out) (V1.out.ext X5_7.out) (R1.out.ext X5_7.out) (Q1.out.ext X5_7.out)).mono ?_
 rintro e w6 ⟨rfl, he6⟩
 have U6 := lh ((Ext.rfl' w5).tr he6)
 have E6 := lh (E5.out.tr U6.out)
 have lg_6 := U6.out.cellE lg_5
 have lv_6 := U6.out.cellE lv_5
 have lr_6 := U6.out.cellE lr_5
 have lq_6 := U6.out.cellE lq_5
 have pv_6 := U6.out.cellE pv_5
 have pr_6 := U6.out.cellE pr_5
 have pq_6 := U6.out.cellE pq_5
 have ov_6 := U6.out.cellE ov_5
 have or_6 := U6.out.cellE or_5
 have oq_6 := U6.out.cellE oq_5
 clear he6 lg_5 lv_5 lr_5 lq_5 pv_5 pr_5 pq_5 ov_5 or_5 oq_5 blg_5 blv_5 blr_5 blq_5 bpv_5 bpr_5 bpq_5 bov_5 bor_5 boq_5 X5_7
 have blg_6 := blt lg_6
 have blv_6 := blt lv_6
 have blr_6 := blt lr_6
 have blq_6 := blt lq_6
 have bpv_6 := blt pv_6
 have bpr_6 := blt pr_6
 have bpq_6 := blt pq_6
 have bov_6 := blt ov_6
 have bor_6 := blt or_6
 have boq_6 := blt oq_6
 have sz6 := U6.out.size
 cases hE : Sg.validL g ⟨v, r, q⟩
 ·skip
  clear hE
  have X6_8 := lh (((((Ext.rfl' w2).tr U3.out).tr U4.out).tr U5.out).tr U6.out)
  have X6_9 := lh ((((Ext.rfl' w3).tr U4.out).tr U5.out).tr U6.out)
  go_wp2_with fail
  refine (l_equalLazy A2 A6 A3 A7 A4 A8 c2 c6 c3 c7 c4 c8 ov orr oq _ (Hv2.out.ext X6_8.out) (Hv6.out.ext X6_9.out) (Hr2.out.ext X6_8.out).rdL (Hr6.out.ext X6_9.out).rdL (Hq2.out.ext X6_8.out) (Hq6.out.ext X6_9.out)).mono ?_
  rintro e w7 ⟨rfl, he7⟩
  have U7 := lh ((Ext.rfl' w6).tr he7)
  have E7 := lh (E6.out.tr U7.out)
  have lg_7 := U7.out.cellE lg_6
  have lv_7 := U7.out.cellE lv_6
  have lr_7 := U7.out.cellE lr_6
  have lq_7 := U7.out.cellE lq_6
  have pv_7 := U7.out.cellE pv_6
  have pr_7 := U7.out.cellE pr_6
  have pq_7 := U7.out.cellE pq_6
  have ov_7 := U7.out.cellE ov_6
  have or_7 := U7.out.cellE or_6
  have oq_7 := U7.out.cellE oq_6
  clear he7 lg_6 lv_6 lr_6 lq_6 pv_6 pr_6 pq_6 ov_6 or_6 oq_6 blg_6 blv_6 blr_6 blq_6 bpv_6 bpr_6 bpq_6 bov_6 bor_6 boq_6 X6_8 X6_9
  have blg_7 := blt lg_7
  have blv_7 := blt lv_7
  have blr_7 := blt lr_7
  have blq_7 := blt lq_7
  have bpv_7 := blt pv_7
  have bpr_7 := blt pr_7
  have bpq_7 := blt pq_7
  have bov_7 := blt ov_7
  have bor_7 := blt or_7
  have boq_7 := blt oq_7
  have sz7 := U7.out.size
  have X7_10 := lh ((((((Ext.rfl' w2).tr U3.out).tr U4.out).tr U5.out).tr U6.out).tr U7.out)
  have X7_11 := lh (((((Ext.rfl' w3).tr U4.out).tr U5.out).tr U6.out).tr U7.out)
  go_wp2_with fail
  refine (l_equalInts A5 A9 c5 c9 rn _ (Hn2.out.ext X7_10.out) (Hn6.out.ext X7_11.out)).mono ?_
  rintro e w8 ⟨rfl, he8⟩
  have U8 := lh ((Ext.rfl' w7).tr he8)
  have E8 := lh (E7.out.tr U8.out)
  have lg_8 := U8.out.cellE lg_7
  have lv_8 := U8.out.cellE lv_7
  have lr_8 := U8.out.cellE lr_7
  have lq_8 := U8.out.cellE lq_7
  have pv_8 := U8.out.cellE pv_7
  have pr_8 := U8.out.cellE pr_7
  have pq_8 := U8.out.cellE pq_7
  have ov_8 := U8.out.cellE ov_7
  have or_8 := U8.out.cellE or_7
  have oq_8 := U8.out.cellE oq_7
  clear he8 lg_7 lv_7 lr_7 lq_7 pv_7 pr_7 pq_7 ov_7 or_7 oq_7 blg_7 blv_7 blr_7 blq_7 bpv_7 bpr_7 bpq_7 bov_7 bor_7 boq_7 X7_10 X7_11
  have blg_8 := blt lg_8
  have blv_8 := blt lv_8
  have blr_8 := blt lr_8
  have blq_8 := blt lq_8
  have bpv_8 := blt pv_8
  have bpr_8 := blt pr_8
  have bpq_8 := blt pq_8
  have bov_8 := blt ov_8
  have bor_8 := blt or_8
  have boq_8 := blt oq_8
  have sz8 := U8.out.size
  go_wp2
  go_ret
  exact ⟨rfl, E8.out⟩
 ·by_cases hn0 : n < 0
  ·clear hE
   have X6_8 := lh (((((Ext.rfl' w2).tr U3.out).tr U4.out).tr U5.out).tr U6.out)
   have X6_9 := lh ((((Ext.rfl' w3).tr U4.out).tr U5.out).tr U6.out)
   go_wp2_with fail
   refine (l_equalLazy A2 A6 A3 A7 A4 A8 c2 c6 c3 c7 c4 c8 ov orr oq _ (Hv2.out.ext X6_8.out) (Hv6.out.ext X6_9.out) (Hr2.out.ext X6_8.out).rdL (Hr6.out.ext X6_9.out).rdL (Hq2.out.ext X6_8.out) (Hq6.out.ext X6_9.out)).mono ?_
   rintro e w7 ⟨rfl, he7⟩
   have U7 := lh ((Ext.rfl' w6).tr he7)
   have E7 := lh (E6.out.tr U7.out)
   have lg_7 := U7.out.cellE lg_6
   have lv_7 := U7.out.cellE lv_6
   have lr_7 := U7.out.cellE lr_6
   have lq_7 := U7.out.cellE lq_6
   have pv_7 := U7.out.cellE pv_6
   have pr_7 := U7.out.cellE pr_6
   have pq_7 := U7.out.cellE pq_6
   have ov_7 := U7.out.cellE ov_6
   have or_7 := U7.out.cellE or_6
   have oq_7 := U7.out.cellE oq_6
   clear he7 lg_6 lv_6 lr_6 lq_6 pv_6 pr_6 pq_6 ov_6 or_6 oq_6 blg_6 blv_6 blr_6 blq_6 bpv_6 bpr_6 bpq_6 bov_6 bor_6 boq_6 X6_8 X6_9
   have blg_7 := blt lg_7
   have blv_7 := blt lv_7
   have blr_7 := blt lr_7
   have blq_7 := blt lq_7
   have bpv_7 := blt pv_7
   have bpr_7 := blt pr_7
   have bpq_7 := blt pq_7
   have bov_7 := blt ov_7
   have bor_7 := blt or_7
   have boq_7 := blt oq_7
   have sz7 := U7.out.size
   have X7_10 := lh ((((((Ext.rfl' w2).tr U3.out).tr U4.out).tr U5.out).tr U6.out).tr U7.out)
   have X7_11 := lh (((((Ext.rfl' w3).tr U4.out).tr U5.out).tr U6.out).tr U7.out)
   go_wp2_with fail
   refine (l_equalInts A5 A9 c5 c9 rn _ (Hn2.out.ext X7_10.out) (Hn6.out.ext X7_11.out)).mono ?_
   rintro e w8 ⟨rfl, he8⟩
   have U8 := lh ((Ext.rfl' w7).tr he8)
   have E8 := lh (E7.out.tr U8.out)
   have lg_8 := U8.out.cellE lg_7
   have lv_8 := U8.out.cellE lv_7
   have lr_8 := U8.out.cellE lr_7
   have lq_8 := U8.out.cellE lq_7
   have pv_8 := U8.out.cellE pv_7
   have pr_8 := U8.out.cellE pr_7
   have pq_8 := U8.out.cellE pq_7
   have ov_8 := U8.out.cellE ov_7
   have or_8 := U8.out.cellE or_7
   have oq_8 := U8.out.cellE oq_7
   clear he8 lg_7 lv_7 lr_7 lq_7 pv_7 pr_7 pq_7 ov_7 or_7 oq_7 blg_7 blv_7 blr_7 blq_7 bpv_7 bpr_7 bpq_7 bov_7 bor_7 boq_7 X7_10 X7_11
   have blg_8 := blt lg_8
   have blv_8 := blt lv_8
   have blr_8 := blt lr_8
   have blq_8 := blt lq_8
   have bpv_8 := blt pv_8
   have bpr_8 := blt pr_8
   have bpq_8 := blt pq_8
   have bov_8 := blt ov_8
   have bor_8 := blt or_8
   have boq_8 := blt oq_8
   have sz8 := U8.out.size
   go_wp2
   go_ret
   exact ⟨rfl, E8.out⟩
  ·by_cases hn1 : n ≥ (g.length : Int)
   ·clear hE
    have X6_8 := lh (((((Ext.rfl' w2).tr U3.out).tr U4.out).tr U5.out).tr U6.out)
    have X6_9 := lh ((((Ext.rfl' w3).tr U4.out).tr U5.out).tr U6.out)
    go_wp2_with fail
    refine (l_equalLazy A2 A6 A3 A7 A4 A8 c2 c6 c3 c7 c4 c8 ov orr oq _ (Hv2.out.ext X6_8.out) (Hv6.out.ext X6_9.out) (Hr2.out.ext X6_8.out).rdL (Hr6.out.ext X6_9.out).rdL (Hq2.out.ext X6_8.out) (Hq6.out.ext X6_9.out)).mono ?_
    rintro e w7 ⟨rfl, he7⟩
    have U7 := lh ((Ext.rfl' w6).tr he7)
    have E7 := lh (E6.out.tr U7.out)
    have lg_7 := U7.out.cellE lg_6
    have lv_7 := U7.out.cellE lv_6
    have lr_7 := U7.out.cellE lr_6
    have lq_7 := U7.out.cellE lq_6
    have pv_7 := U7.out.cellE pv_6
    have pr_7 := U7.out.cellE pr_6
    have pq_7 := U7.out.cellE pq_6
    have ov_7 := U7.out.cellE ov_6
    have or_7 := U7.out.cellE or_6
    have oq_7 := U7.out.cellE oq_6
    clear he7 lg_6 lv_6 lr_6 lq_6 pv_6 pr_6 pq_6 ov_6 or_6 oq_6 blg_6 blv_6 blr_6 blq_6 bpv_6 bpr_6 bpq_6 bov_6 bor_6 boq_6 X6_8 X6_9
    have blg_7 := blt lg_7
    have blv_7 := blt lv_7
    have blr_7 := blt lr_7
    have blq_7 := blt lq_7
    have bpv_7 := blt pv_7
    have bpr_7 := blt pr_7
    have bpq_7 := blt pq_7
    have bov_7 := blt ov_7
    have bor_7 := blt or_7
    have boq_7 := blt oq_7
    have sz7 := U7.out.size
    have X7_10 := lh ((((((Ext.rfl' w2).tr U3.out).tr U4.out).tr U5.out).tr U6.out).tr U7.out)
    have X7_11 := lh (((((Ext.rfl' w3).tr U4.out).tr U5.out).tr U6.out).tr U7.out)
    go_wp2_with fail
    refine (l_equalInts A5 A9 c5 c9 rn _ (Hn2.out.ext X7_10.out) (Hn6.out.ext X7_11.out)).mono ?_
    rintro e w8 ⟨rfl, he8⟩
    have U8 := lh ((Ext.rfl' w7).tr he8)
    have E8 := lh (E7.out.tr U8.out)
    have lg_8 := U8.out.cellE lg_7
    have lv_8 := U8.out.cellE lv_7
    have lr_8 := U8.out.cellE lr_7
    have lq_8 := U8.out.cellE lq_7
    have pv_8 := U8.out.cellE pv_7
    have pr_8 := U8.out.cellE pr_7
    have pq_8 := U8.out.cellE pq_7
    have ov_8 := U8.out.cellE ov_7
    have or_8 := U8.out.cellE or_7
    have oq_8 := U8.out.cellE oq_7
    clear he8 lg_7 lv_7 lr_7 lq_7 pv_7 pr_7 pq_7 ov_7 or_7 oq_7 blg_7 blv_7 blr_7 blq_7 bpv_7 bpr_7 bpq_7 bov_7 bor_7 boq_7 X7_10 X7_11
    have blg_8 := blt lg_8
    have blv_8 := blt lv_8
    have blr_8 := blt lr_8
    have blq_8 := blt lq_8
    have bpv_8 := blt pv_8
    have bpr_8 := blt pr_8
    have bpq_8 := blt pq_8
    have bov_8 := blt ov_8
    have bor_8 := blt or_8
    have boq_8 := blt oq_8
    have sz8 := U8.out.size
    go_wp2
    go_ret
    exact ⟨rfl, E8.out⟩
   ·have HE := lh hE
    obtain ⟨k, rfl⟩ := Int.eq_ofNat_of_zero_le (show 0 ≤ n by omega)
    have hk : k < g.length := by omega
    have hW := HW.out
    obtain ⟨-, hin⟩ := Sg.read_ran hE hk
    rw [hW] at hin
    dsimp only at hin
    have hs := Sg.validL_shape hE
    have hs2 := (Sg.read_law hE hk).1
    rw [hW] at hs2
    have HS5 := lh (show v.length = g.length ∧ r.length = g.length ∧ q.length = g.length ∧ ov.length = g.length from ⟨hs.2.1, hs.2.2.1, hs.2.2.2.1, (Sg.validL_shape hs2).2.1⟩)
    have HAH := lh (Sg.ahead_of hE)
    have HIN := lh (show ∀ x ∈ rn, ∃ i0 : Nat, x = i0 ∧ i0 < g.length ∧ (q.getD i0 0 = 2 ∨ ∃ y ∈ r.getD i0 [], ov.getD y.toNat 0 ≠ v.getD y.toNat 0) from fun x hx => by obtain ⟨i0, e, hi, _, _, h⟩ := hin x hx; exact ⟨i0, e, hi, h⟩)
    clear hin hs hs2 hE hW
    have hrnb := HRN.out
    go_wp2_with fail
    go_loopw [12, 13, 14, 15] (fun s12 s13 s14 s15 wr => ∃ n : Nat, n ≤ rn.length ∧ s12 = .int .i64 n ∧ Hid (Ext w6 wr)) (fun s12 _ _ _ _ => rn.length - (intOf s12).toNat)
    case atStart => exact ⟨0, Nat.zero_le _, rfl, lh (Ext.rfl' _)⟩
    case round =>
     obtain ⟨n, hn, rfl, hext⟩ := hrel
     have lE0 := lh (Ext.rfl' wr)
     have lg_r := hext.out.cellE lg_6
     have blg_r := blt lg_r
     have lv_r := hext.out.cellE lv_6
     have blv_r := blt lv_r
     have lr_r := hext.out.cellE lr_6
     have blr_r := blt lr_r
     have lq_r := hext.out.cellE lq_6
     have blq_r := blt lq_r
     have pv_r := hext.out.cellE pv_6
     have bpv_r := blt pv_r
     have pr_r := hext.out.cellE pr_6
     have bpr_r := blt pr_r
     have pq_r := hext.out.cellE pq_6
     have bpq_r := blt pq_r
     have ov_r := hext.out.cellE ov_6
     have bov_r := blt ov_r
     have or_r := hext.out.cellE or_6
     have bor_r := blt or_r
     have oq_r := hext.out.cellE oq_6
     have boq_r := blt oq_r
     clear lg_6 lv_6 lr_6 lq_6 pv_6 pr_6 pq_6 ov_6 or_6 oq_6 blg_6 blv_6 blr_6 blq_6 bpv_6 bpr_6 bpq_6 bov_6 bor_6 boq_6
     have H1r := lh (H1.out.ext (((((((Ext.rfl' w1).tr U2.out).tr U3.out).tr U4.out).tr U5.out).tr U6.out).tr hext.out))
     have V1r := lh (V1.out.ext (((((((Ext.rfl' w1).tr U2.out).tr U3.out).tr U4.out).tr U5.out).tr U6.out).tr hext.out))
     have R1r := lh (R1.out.ext (((((((Ext.rfl' w1).tr U2.out).tr U3.out).tr U4.out).tr U5.out).tr U6.out).tr hext.out))
     have Q1r := lh (Q1.out.ext (((((((Ext.rfl' w1).tr U2.out).tr U3.out).tr U4.out).tr U5.out).tr U6.out).tr hext.out))
     have Hv2r := lh (Hv2.out.ext ((((((Ext.rfl' w2).tr U3.out).tr U4.out).tr U5.out).tr U6.out).tr hext.out))
     have Hn2r := lh (Hn2.out.ext ((((((Ext.rfl' w2).tr U3.out).tr U4.out).tr U5.out).tr U6.out).tr hext.out))
     obtain ⟨wo, rfl⟩ : ∃ W : World, W = wr := ⟨_, rfl⟩
     by_cases hlt : n < rn.length
     ·skip
      obtain ⟨bn, on, x0, rfl, hx0, hcx⟩ := Hn2r.out.at1 hlt
      obtain ⟨i0, rfl, hi0, hwhy⟩ := HIN.out x0 (List.mem_of_getElem? hx0)
      have hlv : i0 < v.length := by rw [HS5.out.1]; exact hi0
      have hlr : i0 < r.length := by rw [HS5.out.2.1]; exact hi0
      have hlq : i0 < q.length := by rw [HS5.out.2.2.1]; exact hi0
      obtain ⟨bq, oq0, y0, rfl, hy0, hcy⟩ := Q1r.out.at1 hlq
      obtain ⟨rl, br, or0, Al, cl, hrl0, rfl, hcr, hrr, hrlb, -, -⟩ := R1r.out.at_ hlr
      have HRR := lh hrr
      have bhcx := blt hcx
      have bhcy := blt hcy
      have bhcr := blt hcr
      have hgr : r.getD i0 [] = rl := by rw [List.getD_eq_getElem?_getD, hrl0]; rfl
      have hgq : q.getD i0 0 = y0 := by rw [List.getD_eq_getElem?_getD, hy0]; rfl
      rw [hgr, hgq] at hwhy
      have HAR := lh (show ∀ y ∈ rl, 0 ≤ y ∧ y < (g.length : Int) from fun y hy => by have := HAH.out i0 y (by rw [show (Sg.Lazy.mk v r q).reads.getD i0 [] = rl from hgr]; exact hy); omega)
      obtain ⟨mt, hmt⟩ : ∃ mt : Nat → Bool, mt = fun m => (y0 == 2) || (rl.take m).any (fun y => ov.getD y.toNat 0 != v.getD y.toNat 0) := ⟨_, rfl⟩
      have HM0 := lh (show (y0 == 2) = mt 0 by rw [hmt]; simp)
      have HMS := lh (show ∀ (m : Nat) (y : Int), rl[m]? = some y → mt (m + 1) = (mt m || (ov.getD y.toNat 0 != v.getD y.toNat 0)) from fun m y hy => by rw [hmt]; simp only [List.take_add_one, hy, Option.toList_some, List.any_append, List.any_cons, List.any_nil, Bool.or_false, Bool.or_assoc])
      have HML := lh (show mt rl.length = true by rw [hmt]; simp only [List.take_length, Bool.or_eq_true, List.any_eq_true, beq_iff_eq, bne_iff_ne]; exact hwhy)
      obtain ⟨bz, zb⟩ : ∃ bz, (y0 == 2) = bz := ⟨_, rfl⟩
      rw [zb] at HM0
      clear hx0 hy0 hrl0 hrr hgr hgq hwhy hmt
      go_wp2_with fail
      go_loopw [14, 15] (fun s14 s15 wr => ∃ m : Nat, m ≤ rl.length ∧ s15 = .int .i64 m ∧ s14 = .bool (mt m) ∧ Hid (Ext wo wr)) (fun _ s15 _ => rl.length - (intOf s15).toNat)
      case atStart => exact ⟨0, Nat.zero_le _, rfl, congrArg Value.bool HM0.out, lh (Ext.rfl' _)⟩
      case round =>
       obtain ⟨m, hm, rfl, rfl, hex2⟩ := hrel
       have qE0 := lh (Ext.rfl' wr)
       have lg_q := hex2.out.cellE lg_r
       have blg_q := blt lg_q
       have lv_q := hex2.out.cellE lv_r
       have blv_q := blt lv_q
       have lr_q := hex2.out.cellE lr_r
       have blr_q := blt lr_q
       have lq_q := hex2.out.cellE lq_r
       have blq_q := blt lq_q
       have pv_q := hex2.out.cellE pv_r
       have bpv_q := blt pv_q
       have pr_q := hex2.out.cellE pr_r
       have bpr_q := blt pr_q
       have pq_q := hex2.out.cellE pq_r
       have bpq_q := blt pq_q
       have ov_q := hex2.out.cellE ov_r
       have bov_q := blt ov_q
       have or_q := hex2.out.cellE or_r
       have bor_q := blt or_q
       have oq_q := hex2.out.cellE oq_r
       have boq_q := blt oq_q
       have rc_q := hex2.out.cellE hcr
       have brc_q := blt rc_q
       by_cases hmlt : m < rl.length
       ·skip
        obtain ⟨bl, ol, y, rfl, hy, hcl⟩ := (HRR.out.ext hex2.out).at1 hmlt
        have hya := HAR.out y (List.mem_of_getElem? hy)
        have hms := HMS.out m y hy
        obtain ⟨y1, rfl⟩ := Int.eq_ofNat_of_zero_le hya.1
        have hy1 : y1 < g.length := by omega
        rw [Int.toNat_natCast] at hms
        have hyv : y1 < v.length := by rw [HS5.out.1]; exact hy1
        have hyo : y1 < ov.length := by rw [HS5.out.2.2.2]; exact hy1
        obtain ⟨bv, ov0, z1, rfl, hz1, hcz⟩ := (V1r.out.ext hex2.out).at1 hyv
        obtain ⟨bo, oo, z2, rfl, hz2, hco⟩ := (Hv2r.out.ext hex2.out).at1 hyo
        have hms2 : mt (m + 1) = (mt m || (z2 != z1)) := by rw [hms, List.getD_eq_getElem?_getD, List.getD_eq_getElem?_getD, hz1, hz2]; rfl
        have HST := lh hms2
        have bhcl := blt hcl
        have bhcz := blt hcz
        have bhco := blt hco
        obtain ⟨bc, zc⟩ : ∃ bc, (z2 != z1) = bc := ⟨_, rfl⟩
        rw [zc] at HST
        clear hy hya hms hms2 hz1 hz2
        generalize hbm : mt m = bm at *
        clear hbm
        cases bm
        ·skip
         go_wp2_with fail
         refine wp_region_held_drew (S := (fun W => W.cell? ⟨w1.heap.size + 1, 0, none⟩ = some (.slice (some ⟨bv, ov0, none⟩) v.length cv) ∧ W.cell? ⟨w1.heap.size + 1, 1, none⟩ = some (.slice (some ⟨br, or0, none⟩) r.length cr) ∧ W.cell? ⟨w2.heap.size, 0, none⟩ = some (.slice (some ⟨bo, oo, none⟩) ov.length c2) ∧ W.cell? ⟨br, or0 + i0, none⟩ = some (.slice (some ⟨bl, ol, none⟩) rl.length cl) ∧ W.cell? ⟨bl, ol + m, none⟩ = some (.int .i64 (y1 : Int)) ∧ W.cell? ⟨bv, ov0 + y1, none⟩ = some (.int .i64 z1) ∧ W.cell? ⟨bo, oo + y1, none⟩ = some (.int .i64 z2))) (by kernel_rfl) ?_ (fun hHeld => ?_)
         ·exact ⟨((Ext.rfl' _).dr).cellE lv_q, ((Ext.rfl' _).dr).cellE lr_q, ((Ext.rfl' _).dr).cellE pv_q, ((Ext.rfl' _).dr).cellE rc_q, ((Ext.rfl' _).dr).cellE hcl, ((Ext.rfl' _).dr).cellE hcz, ((Ext.rfl' _).dr).cellE hco⟩
         refine ty 0 ?_
         refine ty 1 ?_
         refine ty 2 ?_
         refine ty 3 ?_
         refine ty 4 ?_
         refine ty 5 ?_
         refine ty 6 ?_
         refine ty 7 ?_
         refine ty 8 ?_
         refine ty 9 ?_
         refine ty 10 ?_
         refine ty 11 ?_
         refine ty 12 ?_
         refine ty 13 ?_
         refine ty 14 ?_
         refine ty 15 ?_
         refine ty 16 ?_
         refine ty 17 ?_
         refine ty 18 ?_
         refine ty 19 ?_
         refine ty 20 ?_
         refine ty 21 ?_
         refine ty 22 ?_
         refine ty 23 ?_
         refine ty 24 ?_
         refine ty 25 ?_
         refine ty 26 ?_
         refine ty 27 ?_
         refine ty 28 ?_
         refine dn ?_
         go_wp2
         go_roundw
         case rel => exact ⟨m + 1, by omega, by go_num, by rw [HST.out]; rfl, lh (hex2.out.tr ((Ext.rfl' _).dr))⟩
         case measure => simp [intOf]; omega
        ·skip
         go_wp2_with fail
         refine wp_region_held_drew (S := (fun W => W.cell? ⟨w1.heap.size + 1, 0, none⟩ = some (.slice (some ⟨bv, ov0, none⟩) v.length cv) ∧ W.cell? ⟨w1.heap.size + 1, 1, none⟩ = some (.slice (some ⟨br, or0, none⟩) r.length cr) ∧ W.cell? ⟨w2.heap.size, 0, none⟩ = some (.slice (some ⟨bo, oo, none⟩) ov.length c2) ∧ W.cell? ⟨br, or0 + i0, none⟩ = some (.slice (some ⟨bl, ol, none⟩) rl.length cl) ∧ W.cell? ⟨bl, ol + m, none⟩ = some (.int .i64 (y1 : Int)) ∧ W.cell? ⟨bv, ov0 + y1, none⟩ = some (.int .i64 z1) ∧ W.cell? ⟨bo, oo + y1, none⟩ = some (.int .i64 z2))) (by kernel_rfl) ?_ (fun hHeld => ?_)
         ·exact ⟨((Ext.rfl' _).dr).cellE lv_q, ((Ext.rfl' _).dr).cellE lr_q, ((Ext.rfl' _).dr).cellE pv_q, ((Ext.rfl' _).dr).cellE rc_q, ((Ext.rfl' _).dr).cellE hcl, ((Ext.rfl' _).dr).cellE hcz, ((Ext.rfl' _).dr).cellE hco⟩
         refine ty 0 ?_
         refine ty 1 ?_
         refine tn 2 ?_
         refine tn 3 ?_
         refine tn 4 ?_
         refine tn 5 ?_
         refine tn 6 ?_
         refine tn 7 ?_
         refine tn 8 ?_
         refine tn 9 ?_
         refine tn 10 ?_
         refine tn 11 ?_
         refine tn 12 ?_
         refine tn 13 ?_
         refine tn 14 ?_
         refine tn 15 ?_
         refine tn 16 ?_
         refine tn 17 ?_
         refine tn 18 ?_
         refine tn 19 ?_
         refine tn 20 ?_
         refine tn 21 ?_
         refine tn 22 ?_
         refine tn 23 ?_
         refine tn 24 ?_
         refine tn 25 ?_
         refine tn 26 ?_
         refine ty 27 ?_
         refine ty 28 ?_
         refine dn ?_
         go_wp2
         go_roundw
         case rel => exact ⟨m + 1, by omega, by go_num, by rw [HST.out]; rfl, lh (hex2.out.tr ((Ext.rfl' _).dr))⟩
         case measure => simp [intOf]; omega
       ·skip
        obtain rfl : m = rl.length := by omega
        rw [HML.out]
        go_wp2
        go_roundw
        case rel => exact ⟨n + 1, by omega, by go_num, lh (hext.out.tr hex2.out)⟩
        case measure => simp [intOf]; omega
     ·skip
      obtain rfl : n = rn.length := by omega
      go_wp2
      go_ret
      exact ⟨rfl, E6.out.tr hext.out⟩
end Go.Proofs.YtmkfjnkdaeoppaaGreat
