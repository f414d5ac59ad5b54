/- FnForgetNode: the law's walk. Conditions: the code can be read. -/
import Derived.Test.YtmkfjnkdaeoppaaGreatDrawR
import Derived.Test.YtmkfjnkdaeoppaaGreatLazI
import Derived.Test.YtmkfjnkdaeoppaaGreatLazJ
import Derived.Test.YtmkfjnkdaeoppaaGreatLazSix
import Derived.Test.YtmkfjnkdaeoppaaGreatPlAll
import Derived.Test.YtmkfjnkdaeoppaaGreatEqAll
import Derived.Test.YtmkfjnkdaeoppaaGreatImplVW
namespace Go.Proofs.YtmkfjnkdaeoppaaGreat
open Go.RowKit

set_option maxRecDepth 100000 in
set_option maxHeartbeats 8000000 in
theorem ex_FnForgetNode (A : Option Addr) (c : Nat) (l : List Int) (w : World) (h : Rd w 1 A l.length (u8s l)) (hr : ∀ x ∈ l, 0 ≤ x ∧ x ≤ 255) (hc : l.length ≤ c) (hcm : c ≤ maxLen) :
  Calls Tryz.prog 7 #[.slice A l.length c] w fun e w' => e = .returned (.bool true) ∧ Ext w w' := by
 have hbig := h.big
 have HD := lh (s_DrawForgetNode A c l w h hr hc hcm)
 clear h hr hc hcm
 by_cases hb : 1048576 < l.length
 ·have hb2 : (1048576 : Int) < (l.length : Int) := by omega
  go_enter Tryz.func7, Tryz.ntmps7
  go_wp2
  go_ret
  exact ⟨rfl, Ext.rfl' _⟩
 have hb2 : ¬ (1048576 : Int) < (l.length : Int) := by omega
 clear hb
 have E0 := lh ((Ext.rfl' w) : Ext w w)
 go_enter Tryz.func7, Tryz.ntmps7
 go_wp2_with fail
 refine (HD.out).mono ?_
 rintro e w1 ⟨g, Ag, cg, v, Av, cv, r, Ar, cr, q, Aq, cq, kn, rfl, hg2, hg10, hvl, hrl, hql, hN, hV, hR, hQ, he1⟩
 have H1 := lh hN
 have V1 := lh hV
 have R1 := lh hR
 have Q1 := lh hQ
 have hvl9 : v.length ≤ 1048576 := by omega
 have hql9 : q.length ≤ 1048576 := by omega
 clear hN hV hR hQ HD
 have U1 := lh ((Ext.rfl' w).tr he1)
 have E1 := lh (E0.out.tr U1.out)
 clear he1 
 have hsm := forgetLO_smallQ g ⟨v, r, q⟩ kn
 obtain ⟨⟨⟨ov, orr, oq⟩, b⟩, hW⟩ : ∃ p, Sg.forgetLO g ⟨v, r, q⟩ kn = p := ⟨_, rfl⟩
 rw [hW] at hsm
 have SM := lh (show SmallZ ⟨ov, orr, oq⟩ from hsm)
 clear hsm
 have HI := lh (fun w h hv hr hq => by have := i_ForgetNode Ag Av Ar Aq cg cv cr cq g v q r kn w h hv hr hq hvl9 hql9; rw [hW] at this; exact this)
 have HS := lh (fun w h hv hr hq => by have := s_ForgetNode Ag Av Ar Aq cg cv cr cq g v q r kn w h hv hr hq hvl9 hql9; rw [hW] at this; exact this)
 have HW := lh hW
 clear hW
 have X1_1 := lh (Ext.al (Ext.al (Ext.rfl' w1) (.cells #[.slice Ag g.length cg] 25)) (.cells #[.slice Av v.length cv, .slice Ar r.length cr, .slice Aq q.length cq] 29))
 go_wp2_with fail
 refine (HI.out _ (H1.out.ext X1_1.out) (V1.out.ext X1_1.out) (R1.out.ext X1_1.out) (Q1.out.ext X1_1.out)).mono ?_
 rintro e w2 ⟨A2, c2, A3, c3, A4, c4, z2, rfl, hoz, he2⟩
 have Hv2 := lh hoz.v.rd
 have Hr2 := lh (OwnL.rdLC hoz.r SM.out.r SM.out.e)
 have Hq2 := lh hoz.q.rd
 clear hoz
 have U2 := lh ((Ext.al (Ext.al (Ext.rfl' w1) (.cells #[.slice Ag g.length cg] 25)) (.cells #[.slice Av v.length cv, .slice Ar r.length cr, .slice Aq q.length cq] 29)).tr he2)
 have E2 := lh (E1.out.tr U2.out)
 have lg_2 := he2.cellE (show World.cell? (World.alloc (World.alloc w1 (.cells #[.slice Ag g.length cg] 25)) (.cells #[.slice Av v.length cv, .slice Ar r.length cr, .slice Aq q.length cq] 29)) ⟨w1.heap.size, 0, none⟩ = some (.slice Ag g.length cg) by simp [go_sem])
 have lv_2 := he2.cellE (show World.cell? (World.alloc (World.alloc w1 (.cells #[.slice Ag g.length cg] 25)) (.cells #[.slice Av v.length cv, .slice Ar r.length cr, .slice Aq q.length cq] 29)) ⟨w1.heap.size + 1, 0, none⟩ = some (.slice Av v.length cv) by simp [go_sem])
 have lr_2 := he2.cellE (show World.cell? (World.alloc (World.alloc w1 (.cells #[.slice Ag g.length cg] 25)) (.cells #[.slice Av v.length cv, .slice Ar r.length cr, .slice Aq q.length cq] 29)) ⟨w1.heap.size + 1, 1, none⟩ = some (.slice Ar r.length cr) by simp [go_sem])
 have lq_2 := he2.cellE (show World.cell? (World.alloc (World.alloc w1 (.cells #[.slice Ag g.length cg] 25)) (.cells #[.slice Av v.length cv, .slice Ar r.length cr, .slice Aq q.length cq] 29)) ⟨w1.heap.size + 1, 2, none⟩ = some (.slice Aq q.length cq) by simp [go_sem])
 clear he2 X1_1
 have blg_2 := blt lg_2
 have blv_2 := blt lv_2
 have blr_2 := blt lr_2
 have blq_2 := blt lq_2
 have X2_2 := lh (Ext.al ((Ext.rfl' w1).tr U2.out) (.cells #[.slice A2 ov.length c2, .slice A3 orr.length c3, .slice A4 oq.length c4] 29))
 go_wp2_with fail
 refine (HS.out _ (H1.out.ext X2_2.out) (V1.out.ext X2_2.out) (R1.out.ext X2_2.out) (Q1.out.ext X2_2.out)).mono ?_
 rintro e w3 ⟨A6, c6, A7, c7, A8, c8, z6, rfl, hoz, he3⟩
 have Hv6 := lh hoz.v.rd
 have Hr6 := lh (OwnL.rdLC hoz.r SM.out.r SM.out.e)
 have Hq6 := lh hoz.q.rd
 clear hoz
 have U3 := lh ((Ext.al (Ext.rfl' w2) (.cells #[.slice A2 ov.length c2, .slice A3 orr.length c3, .slice A4 oq.length c4] 29)).tr he3)
 have E3 := lh (E2.out.tr U3.out)
 have lg_3 := U3.out.cellE lg_2
 have lv_3 := U3.out.cellE lv_2
 have lr_3 := U3.out.cellE lr_2
 have lq_3 := U3.out.cellE lq_2
 have pv_3 := he3.cellE (show World.cell? (World.alloc w2 (.cells #[.slice A2 ov.length c2, .slice A3 orr.length c3, .slice A4 oq.length c4] 29)) ⟨w2.heap.size, 0, none⟩ = some (.slice A2 ov.length c2) by simp [go_sem])
 have pr_3 := he3.cellE (show World.cell? (World.alloc w2 (.cells #[.slice A2 ov.length c2, .slice A3 orr.length c3, .slice A4 oq.length c4] 29)) ⟨w2.heap.size, 1, none⟩ = some (.slice A3 orr.length c3) by simp [go_sem])
 have pq_3 := he3.cellE (show World.cell? (World.alloc w2 (.cells #[.slice A2 ov.length c2, .slice A3 orr.length c3, .slice A4 oq.length c4] 29)) ⟨w2.heap.size, 2, none⟩ = some (.slice A4 oq.length c4) by simp [go_sem])
 clear he3 lg_2 lv_2 lr_2 lq_2 blg_2 blv_2 blr_2 blq_2 X2_2
 have blg_3 := blt lg_3
 have blv_3 := blt lv_3
 have blr_3 := blt lr_3
 have blq_3 := blt lq_3
 have bpv_3 := blt pv_3
 have bpr_3 := blt pr_3
 have bpq_3 := blt pq_3
 have X3_3 := lh (Ext.al ((Ext.rfl' w2).tr U3.out) (.cells #[.slice A6 ov.length c6, .slice A7 orr.length c7, .slice A8 oq.length c8] 29))
 have X3_4 := lh (Ext.al (Ext.rfl' w3) (.cells #[.slice A6 ov.length c6, .slice A7 orr.length c7, .slice A8 oq.length c8] 29))
 go_wp2_with fail
 refine (l_equalLazy A2 A6 A3 A7 A4 A8 c2 c6 c3 c7 c4 c8 ov orr oq _ (Hv2.out.ext X3_3.out) (Hv6.out.ext X3_4.out) (Hr2.out.ext X3_3.out).rdL (Hr6.out.ext X3_4.out).rdL (Hq2.out.ext X3_3.out) (Hq6.out.ext X3_4.out)).mono ?_
 rintro e w4 ⟨rfl, he4⟩
 have U4 := lh ((Ext.al (Ext.rfl' w3) (.cells #[.slice A6 ov.length c6, .slice A7 orr.length c7, .slice A8 oq.length c8] 29)).tr he4)
 have E4 := lh (E3.out.tr U4.out)
 have lg_4 := U4.out.cellE lg_3
 have lv_4 := U4.out.cellE lv_3
 have lr_4 := U4.out.cellE lr_3
 have lq_4 := U4.out.cellE lq_3
 have pv_4 := U4.out.cellE pv_3
 have pr_4 := U4.out.cellE pr_3
 have pq_4 := U4.out.cellE pq_3
 have ov_4 := he4.cellE (show World.cell? (World.alloc w3 (.cells #[.slice A6 ov.length c6, .slice A7 orr.length c7, .slice A8 oq.length c8] 29)) ⟨w3.heap.size, 0, none⟩ = some (.slice A6 ov.length c6) by simp [go_sem])
 have or_4 := he4.cellE (show World.cell? (World.alloc w3 (.cells #[.slice A6 ov.length c6, .slice A7 orr.length c7, .slice A8 oq.length c8] 29)) ⟨w3.heap.size, 1, none⟩ = some (.slice A7 orr.length c7) by simp [go_sem])
 have oq_4 := he4.cellE (show World.cell? (World.alloc w3 (.cells #[.slice A6 ov.length c6, .slice A7 orr.length c7, .slice A8 oq.length c8] 29)) ⟨w3.heap.size, 2, none⟩ = some (.slice A8 oq.length c8) by simp [go_sem])
 clear he4 lg_3 lv_3 lr_3 lq_3 pv_3 pr_3 pq_3 blg_3 blv_3 blr_3 blq_3 bpv_3 bpr_3 bpq_3 X3_3 X3_4
 have blg_4 := blt lg_4
 have blv_4 := blt lv_4
 have blr_4 := blt lr_4
 have blq_4 := blt lq_4
 have bpv_4 := blt pv_4
 have bpr_4 := blt pr_4
 have bpq_4 := blt pq_4
 have bov_4 := blt ov_4
 have bor_4 := blt or_4
 have boq_4 := blt oq_4
 have zx : (b != b) = false := by simp
 have zy : (b == b) = true := by simp
 cases b
 ·skip
  have X4_5 := lh (((Ext.rfl' w2).tr U3.out).tr U4.out)
  have X4_6 := lh ((Ext.rfl' w3).tr U4.out)
  go_wp2_with fail
  refine (l_equalLazy A2 A6 A3 A7 A4 A8 c2 c6 c3 c7 c4 c8 ov orr oq _ (Hv2.out.ext X4_5.out) (Hv6.out.ext X4_6.out) (Hr2.out.ext X4_5.out).rdL (Hr6.out.ext X4_6.out).rdL (Hq2.out.ext X4_5.out) (Hq6.out.ext X4_6.out)).mono ?_
  rintro e w5 ⟨rfl, he5⟩
  have U5 := lh ((Ext.rfl' w4).tr he5)
  have E5 := lh (E4.out.tr U5.out)
  have lg_5 := U5.out.cellE lg_4
  have lv_5 := U5.out.cellE lv_4
  have lr_5 := U5.out.cellE lr_4
  have lq_5 := U5.out.cellE lq_4
  have pv_5 := U5.out.cellE pv_4
  have pr_5 := U5.out.cellE pr_4
  have pq_5 := U5.out.cellE pq_4
  have ov_5 := U5.out.cellE ov_4
  have or_5 := U5.out.cellE or_4
  have oq_5 := U5.out.cellE oq_4
  clear he5 lg_4 lv_4 lr_4 lq_4 pv_4 pr_4 pq_4 ov_4 or_4 oq_4 blg_4 blv_4 blr_4 blq_4 bpv_4 bpr_4 bpq_4 bov_4 bor_4 boq_4 X4_5 X4_6
  have blg_5 := blt lg_5
  have blv_5 := blt lv_5
  have blr_5 := blt lr_5
  have blq_5 := blt lq_5
  have bpv_5 := blt pv_5
  have bpr_5 := blt pr_5
  have bpq_5 := blt pq_5
  have bov_5 := blt ov_5
  have bor_5 := blt or_5
  have boq_5 := blt oq_5
  go_wp2
  go_ret
  exact ⟨rfl, E5.out⟩
 ·skip
  have hW := HW.out
  have hm : Sg.mayForgetL g ⟨v, r, q⟩ kn = true := by cases hm : Sg.mayForgetL g ⟨v, r, q⟩ kn; unfold Sg.forgetLO at hW; rw [hm] at hW; exact absurd (congrArg Prod.snd hW) (by simp); rfl
  have hF := Sg.forget_law hm
  have hWe : Sg.forgetL ⟨v, r, q⟩ kn.toNat = ⟨ov, orr, oq⟩ := by unfold Sg.forgetLO at hW; rw [if_pos hm] at hW; exact congrArg Prod.fst hW
  rw [hWe] at hF
  have hovl9 : ov.length ≤ 1048576 := SM.out.v
  have hoql9 : oq.length ≤ 1048576 := SM.out.q
  have HF := lh hF
  clear hF hWe hm hW
  go_wp2_with fail
  go_loopw [10, 11, 12, 13, 14, 15, 16] (fun s10 s11 s12 s13 s14 s15 s16 wr => ∃ n : Nat, n ≤ g.length ∧ s10 = .int .i64 n ∧ Hid (Ext w4 wr)) (fun s10 _ _ _ _ _ _ _ => g.length - (intOf s10).toNat)
  case atStart => exact ⟨0, Nat.zero_le _, rfl, lh (Ext.rfl' _)⟩
  case round =>
   obtain ⟨n, hn, rfl, hext⟩ := hrel
   have lE0 := lh (Ext.rfl' wr)
   have lg_r := hext.out.cellE lg_4
   have blg_r := blt lg_r
   have lv_r := hext.out.cellE lv_4
   have blv_r := blt lv_r
   have lr_r := hext.out.cellE lr_4
   have blr_r := blt lr_r
   have lq_r := hext.out.cellE lq_4
   have blq_r := blt lq_r
   have pv_r := hext.out.cellE pv_4
   have bpv_r := blt pv_r
   have pr_r := hext.out.cellE pr_4
   have bpr_r := blt pr_r
   have pq_r := hext.out.cellE pq_4
   have bpq_r := blt pq_r
   have ov_r := hext.out.cellE ov_4
   have bov_r := blt ov_r
   have or_r := hext.out.cellE or_4
   have bor_r := blt or_r
   have oq_r := hext.out.cellE oq_4
   have boq_r := blt oq_r
   clear lg_4 lv_4 lr_4 lq_4 pv_4 pr_4 pq_4 ov_4 or_4 oq_4 blg_4 blv_4 blr_4 blq_4 bpv_4 bpr_4 bpq_4 bov_4 bor_4 boq_4
   have H1r := lh (H1.out.ext (((((Ext.rfl' w1).tr U2.out).tr U3.out).tr U4.out).tr hext.out))
   have V1r := lh (V1.out.ext (((((Ext.rfl' w1).tr U2.out).tr U3.out).tr U4.out).tr hext.out))
   have R1r := lh (R1.out.ext (((((Ext.rfl' w1).tr U2.out).tr U3.out).tr U4.out).tr hext.out))
   have Q1r := lh (Q1.out.ext (((((Ext.rfl' w1).tr U2.out).tr U3.out).tr U4.out).tr hext.out))
   have Hv2r := lh (Hv2.out.ext ((((Ext.rfl' w2).tr U3.out).tr U4.out).tr hext.out))
   have Hr2r := lh (Hr2.out.ext ((((Ext.rfl' w2).tr U3.out).tr U4.out).tr hext.out))
   have Hq2r := lh (Hq2.out.ext ((((Ext.rfl' w2).tr U3.out).tr U4.out).tr hext.out))
   by_cases hlt : n < g.length
   ·skip
    obtain ⟨⟨⟨a1, a2, a3⟩, x1, rn1⟩, hW1⟩ : ∃ p, Sg.readLO g ⟨ov, orr, oq⟩ (n : Int) = p := ⟨_, rfl⟩
    obtain ⟨⟨⟨d1, d2, d3⟩, x2, rn2⟩, hW2⟩ : ∃ p, Sg.readLO g ⟨v, r, q⟩ (n : Int) = p := ⟨_, rfl⟩
    have hx := HF.out.2.1 n hlt
    rw [hW1, hW2] at hx
    dsimp only at hx
    obtain rfl : x1 = x2 := hx
    have HR1 := lh (fun w h hv hr hq => by have := i_ReadLazy Ag A2 A3 A4 cg c2 c3 c4 g ov oq orr (n : Int) w h hv hr hq hovl9 hoql9; rw [hW1] at this; exact this)
    have HR2 := lh (fun w h hv hr hq => by have := i_ReadLazy Ag Av Ar Aq cg cv cr cq g v q r (n : Int) w h hv hr hq hvl9 hql9; rw [hW2] at this; exact this)
    clear hW1 hW2
    have zz : (x1 != x1) = false := by simp
    have lX0_1 := lh (Ext.rfl' wr)
    go_wp2_with fail
    refine (HR1.out _ (H1r.out.ext lX0_1.out) (Hv2r.out.ext lX0_1.out) (Hr2r.out.ext lX0_1.out) (Hq2r.out.ext lX0_1.out)).mono ?_
    rintro e lw1 ⟨A20, c20, A21, c21, A22, c22, z20, A23, c23, rfl, -, -, -, lhe1⟩
    have lU1 := lh ((Ext.rfl' wr).tr lhe1)
    have lE1 := lh (lE0.out.tr lU1.out)
    have lg_l1 := lU1.out.cellE lg_r
    have lv_l1 := lU1.out.cellE lv_r
    have lr_l1 := lU1.out.cellE lr_r
    have lq_l1 := lU1.out.cellE lq_r
    have pv_l1 := lU1.out.cellE pv_r
    have pr_l1 := lU1.out.cellE pr_r
    have pq_l1 := lU1.out.cellE pq_r
    have ov_l1 := lU1.out.cellE ov_r
    have or_l1 := lU1.out.cellE or_r
    have oq_l1 := lU1.out.cellE oq_r
    clear lhe1 lg_r lv_r lr_r lq_r pv_r pr_r pq_r ov_r or_r oq_r blg_r blv_r blr_r blq_r bpv_r bpr_r bpq_r bov_r bor_r boq_r lX0_1
    have blg_l1 := blt lg_l1
    have blv_l1 := blt lv_l1
    have blr_l1 := blt lr_l1
    have blq_l1 := blt lq_l1
    have bpv_l1 := blt pv_l1
    have bpr_l1 := blt pr_l1
    have bpq_l1 := blt pq_l1
    have bov_l1 := blt ov_l1
    have bor_l1 := blt or_l1
    have boq_l1 := blt oq_l1
    have lX1_2 := lh (Ext.al ((Ext.rfl' wr).tr lU1.out) (.cells #[.slice A20 a1.length c20, .slice A21 a2.length c21, .slice A22 a3.length c22] 29))
    go_wp2_with fail
    refine (HR2.out _ (H1r.out.ext lX1_2.out) (V1r.out.ext lX1_2.out) (R1r.out.ext lX1_2.out) (Q1r.out.ext lX1_2.out)).mono ?_
    rintro e lw2 ⟨A24, c24, A25, c25, A26, c26, z24, A27, c27, rfl, -, -, -, lhe2⟩
    have lU2 := lh ((Ext.al (Ext.rfl' lw1) (.cells #[.slice A20 a1.length c20, .slice A21 a2.length c21, .slice A22 a3.length c22] 29)).tr lhe2)
    have lE2 := lh (lE1.out.tr lU2.out)
    have lg_l2 := lU2.out.cellE lg_l1
    have lv_l2 := lU2.out.cellE lv_l1
    have lr_l2 := lU2.out.cellE lr_l1
    have lq_l2 := lU2.out.cellE lq_l1
    have pv_l2 := lU2.out.cellE pv_l1
    have pr_l2 := lU2.out.cellE pr_l1
    have pq_l2 := lU2.out.cellE pq_l1
    have ov_l2 := lU2.out.cellE ov_l1
    have or_l2 := lU2.out.cellE or_l1
    have oq_l2 := lU2.out.cellE oq_l1
    have t20v_l2 := lhe2.cellE (show World.cell? (World.alloc lw1 (.cells #[.slice A20 a1.length c20, .slice A21 a2.length c21, .slice A22 a3.length c22] 29)) ⟨lw1.heap.size, 0, none⟩ = some (.slice A20 a1.length c20) by simp [go_sem])
    have t20r_l2 := lhe2.cellE (show World.cell? (World.alloc lw1 (.cells #[.slice A20 a1.length c20, .slice A21 a2.length c21, .slice A22 a3.length c22] 29)) ⟨lw1.heap.size, 1, none⟩ = some (.slice A21 a2.length c21) by simp [go_sem])
    have t20q_l2 := lhe2.cellE (show World.cell? (World.alloc lw1 (.cells #[.slice A20 a1.length c20, .slice A21 a2.length c21, .slice A22 a3.length c22] 29)) ⟨lw1.heap.size, 2, none⟩ = some (.slice A22 a3.length c22) by simp [go_sem])
    clear lhe2 lg_l1 lv_l1 lr_l1 lq_l1 pv_l1 pr_l1 pq_l1 ov_l1 or_l1 oq_l1 blg_l1 blv_l1 blr_l1 blq_l1 bpv_l1 bpr_l1 bpq_l1 bov_l1 bor_l1 boq_l1 lX1_2
    have blg_l2 := blt lg_l2
    have blv_l2 := blt lv_l2
    have blr_l2 := blt lr_l2
    have blq_l2 := blt lq_l2
    have bpv_l2 := blt pv_l2
    have bpr_l2 := blt pr_l2
    have bpq_l2 := blt pq_l2
    have bov_l2 := blt ov_l2
    have bor_l2 := blt or_l2
    have boq_l2 := blt oq_l2
    have bt20v_l2 := blt t20v_l2
    have bt20r_l2 := blt t20r_l2
    have bt20q_l2 := blt t20q_l2
    go_wp2
    go_roundw
    case rel => exact ⟨n + 1, by omega, by go_num, lh (hext.out.tr (Ext.al lE2.out (.cells #[.slice A24 d1.length c24, .slice A25 d2.length c25, .slice A26 d3.length c26] 29)))⟩
    case measure => simp [intOf]; omega
   ·skip
    obtain rfl : n = g.length := by omega
    obtain ⟨⟨⟨a1, a2, a3⟩, x1, rn⟩, hW1⟩ : ∃ p, Sg.readLO g ⟨ov, orr, oq⟩ kn = p := ⟨_, rfl⟩
    have hin := HF.out.2.2
    rw [hW1] at hin
    dsimp only at hin
    have hvo := HF.out.1
    have HR1 := lh (fun w h hv hr hq => by have := i_ReadLazy Ag A2 A3 A4 cg c2 c3 c4 g ov oq orr kn w h hv hr hq hovl9 hoql9; rw [hW1] at this; exact this)
    have HVO := lh (fun w h hv hr hq => by have := i_ValidLazy Ag A2 A3 A4 cg c2 c3 c4 g ov oq orr w h hv hr hq hovl9 hoql9; rw [hvo] at this; exact this)
    have HIN := lh (fun A c w h => by have := l_isInB A c rn kn w h; rw [decide_eq_true hin] at this; exact this)
    clear hin hW1 hvo
    have lX0_1 := lh (Ext.rfl' wr)
    go_wp2_with fail
    refine (HR1.out _ (H1r.out.ext lX0_1.out) (Hv2r.out.ext lX0_1.out) (Hr2r.out.ext lX0_1.out) (Hq2r.out.ext lX0_1.out)).mono ?_
    rintro e lw1 ⟨A20, c20, A21, c21, A22, c22, z20, A23, c23, rfl, -, hon, -, lhe1⟩
    have Hn20 := lh hon.rd
    clear hon
    have lU1 := lh ((Ext.rfl' wr).tr lhe1)
    have lE1 := lh (lE0.out.tr lU1.out)
    have lg_l1 := lU1.out.cellE lg_r
    have lv_l1 := lU1.out.cellE lv_r
    have lr_l1 := lU1.out.cellE lr_r
    have lq_l1 := lU1.out.cellE lq_r
    have pv_l1 := lU1.out.cellE pv_r
    have pr_l1 := lU1.out.cellE pr_r
    have pq_l1 := lU1.out.cellE pq_r
    have ov_l1 := lU1.out.cellE ov_r
    have or_l1 := lU1.out.cellE or_r
    have oq_l1 := lU1.out.cellE oq_r
    clear lhe1 lg_r lv_r lr_r lq_r pv_r pr_r pq_r ov_r or_r oq_r blg_r blv_r blr_r blq_r bpv_r bpr_r bpq_r bov_r bor_r boq_r lX0_1
    have blg_l1 := blt lg_l1
    have blv_l1 := blt lv_l1
    have blr_l1 := blt lr_l1
    have blq_l1 := blt lq_l1
    have bpv_l1 := blt pv_l1
    have bpr_l1 := blt pr_l1
    have bpq_l1 := blt pq_l1
    have bov_l1 := blt ov_l1
    have bor_l1 := blt or_l1
    have boq_l1 := blt oq_l1
    have lX1_2 := lh (Ext.al ((Ext.rfl' wr).tr lU1.out) (.cells #[.slice A20 a1.length c20, .slice A21 a2.length c21, .slice A22 a3.length c22] 29))
    go_wp2_with fail
    refine (HVO.out _ (H1r.out.ext lX1_2.out) (Hv2r.out.ext lX1_2.out) (Hr2r.out.ext lX1_2.out) (Hq2r.out.ext lX1_2.out)).mono ?_
    rintro e lw2 ⟨rfl, lhe2⟩
    have lU2 := lh ((Ext.al (Ext.rfl' lw1) (.cells #[.slice A20 a1.length c20, .slice A21 a2.length c21, .slice A22 a3.length c22] 29)).tr lhe2)
    have lE2 := lh (lE1.out.tr lU2.out)
    have lg_l2 := lU2.out.cellE lg_l1
    have lv_l2 := lU2.out.cellE lv_l1
    have lr_l2 := lU2.out.cellE lr_l1
    have lq_l2 := lU2.out.cellE lq_l1
    have pv_l2 := lU2.out.cellE pv_l1
    have pr_l2 := lU2.out.cellE pr_l1
    have pq_l2 := lU2.out.cellE pq_l1
    have ov_l2 := lU2.out.cellE ov_l1
    have or_l2 := lU2.out.cellE or_l1
    have oq_l2 := lU2.out.cellE oq_l1
    have t20v_l2 := lhe2.cellE (show World.cell? (World.alloc lw1 (.cells #[.slice A20 a1.length c20, .slice A21 a2.length c21, .slice A22 a3.length c22] 29)) ⟨lw1.heap.size, 0, none⟩ = some (.slice A20 a1.length c20) by simp [go_sem])
    have t20r_l2 := lhe2.cellE (show World.cell? (World.alloc lw1 (.cells #[.slice A20 a1.length c20, .slice A21 a2.length c21, .slice A22 a3.length c22] 29)) ⟨lw1.heap.size, 1, none⟩ = some (.slice A21 a2.length c21) by simp [go_sem])
    have t20q_l2 := lhe2.cellE (show World.cell? (World.alloc lw1 (.cells #[.slice A20 a1.length c20, .slice A21 a2.length c21, .slice A22 a3.length c22] 29)) ⟨lw1.heap.size, 2, none⟩ = some (.slice A22 a3.length c22) by simp [go_sem])
    clear lhe2 lg_l1 lv_l1 lr_l1 lq_l1 pv_l1 pr_l1 pq_l1 ov_l1 or_l1 oq_l1 blg_l1 blv_l1 blr_l1 blq_l1 bpv_l1 bpr_l1 bpq_l1 bov_l1 bor_l1 boq_l1 lX1_2
    have blg_l2 := blt lg_l2
    have blv_l2 := blt lv_l2
    have blr_l2 := blt lr_l2
    have blq_l2 := blt lq_l2
    have bpv_l2 := blt pv_l2
    have bpr_l2 := blt pr_l2
    have bpq_l2 := blt pq_l2
    have bov_l2 := blt ov_l2
    have bor_l2 := blt or_l2
    have boq_l2 := blt oq_l2
    have bt20v_l2 := blt t20v_l2
    have bt20r_l2 := blt t20r_l2
    have bt20q_l2 := blt t20q_l2
    have lX2_3 := lh ((Ext.rfl' lw1).tr lU2.out)
    go_wp2_with fail
    refine (HIN.out A23 c23 _ (Hn20.out.ext lX2_3.out)).mono ?_
    rintro e lw3 ⟨rfl, lhe3⟩
    have lU3 := lh ((Ext.rfl' lw2).tr lhe3)
    have lE3 := lh (lE2.out.tr lU3.out)
    have lg_l3 := lU3.out.cellE lg_l2
    have lv_l3 := lU3.out.cellE lv_l2
    have lr_l3 := lU3.out.cellE lr_l2
    have lq_l3 := lU3.out.cellE lq_l2
    have pv_l3 := lU3.out.cellE pv_l2
    have pr_l3 := lU3.out.cellE pr_l2
    have pq_l3 := lU3.out.cellE pq_l2
    have ov_l3 := lU3.out.cellE ov_l2
    have or_l3 := lU3.out.cellE or_l2
    have oq_l3 := lU3.out.cellE oq_l2
    have t20v_l3 := lU3.out.cellE t20v_l2
    have t20r_l3 := lU3.out.cellE t20r_l2
    have t20q_l3 := lU3.out.cellE t20q_l2
    clear lhe3 lg_l2 lv_l2 lr_l2 lq_l2 pv_l2 pr_l2 pq_l2 ov_l2 or_l2 oq_l2 t20v_l2 t20r_l2 t20q_l2 blg_l2 blv_l2 blr_l2 blq_l2 bpv_l2 bpr_l2 bpq_l2 bov_l2 bor_l2 boq_l2 bt20v_l2 bt20r_l2 bt20q_l2 lX2_3
    have blg_l3 := blt lg_l3
    have blv_l3 := blt lv_l3
    have blr_l3 := blt lr_l3
    have blq_l3 := blt lq_l3
    have bpv_l3 := blt pv_l3
    have bpr_l3 := blt pr_l3
    have bpq_l3 := blt pq_l3
    have bov_l3 := blt ov_l3
    have bor_l3 := blt or_l3
    have boq_l3 := blt oq_l3
    have bt20v_l3 := blt t20v_l3
    have bt20r_l3 := blt t20r_l3
    have bt20q_l3 := blt t20q_l3
    go_wp2
    go_ret
    exact ⟨rfl, (E4.out.tr hext.out).tr lE3.out⟩
end Go.Proofs.YtmkfjnkdaeoppaaGreat
