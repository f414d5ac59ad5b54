/- FnReadAll: the law's walk. Conditions: the code can be read. -/
import Derived.Test.YtmkfjnkdaeoppaaGreatTy
import Derived.Test.YtmkfjnkdaeoppaaGreatDrawT
import Derived.Test.YtmkfjnkdaeoppaaGreatLazR
import Derived.Test.YtmkfjnkdaeoppaaGreatLazT
import Derived.Test.YtmkfjnkdaeoppaaGreatLazSix
import Derived.Test.YtmkfjnkdaeoppaaGreatPlAll
import Derived.Test.YtmkfjnkdaeoppaaGreatPlR
import Derived.Test.YtmkfjnkdaeoppaaGreatEqAll
import Derived.Test.YtmkfjnkdaeoppaaGreatHeldA
namespace Go.Proofs.YtmkfjnkdaeoppaaGreat
open Go.RowKit

set_option maxRecDepth 100000 in
set_option maxHeartbeats 8000000 in
theorem ex_FnReadAll (A : Option Addr) (c : Nat) (l : List Int) (w : World) (h : Rd w 1 A l.length (u8s l)) (hr : ∀ x ∈ l, 0 ≤ x ∧ x ≤ 255) (hc : l.length ≤ c) (hcm : c ≤ maxLen) :
  Calls Tryz.prog 10 #[.slice A l.length c] w fun e w' => e = .returned (.bool true) ∧ Ext w w' := by
 have hbig := h.big
 have HD := lh (s_DrawReadAll A c l w h hr hc hcm)
 clear h hr hc hcm
 by_cases hb : 1048576 < l.length
 ·have hb2 : (1048576 : Int) < (l.length : Int) := by omega
  go_enter Tryz.func10, Tryz.ntmps10
  go_wp2
  go_ret
  exact ⟨rfl, Ext.rfl' _⟩
 have hb2 : ¬ (1048576 : Int) < (l.length : Int) := by omega
 clear hb
 have E0 := lh ((Ext.rfl' w) : Ext w w)
 go_enter Tryz.func10, Tryz.ntmps10
 go_wp2_with fail
 refine (HD.out).mono ?_
 rintro e w1 ⟨g, Ag, cg, v, Av, cv, r, Ar, cr, q, Aq, cq, ns, An, cn, rfl, hg2, hg10, hvl, hrl, hql, hN, hV, hR, hQ, hNs, hn5, he1⟩
 have H1 := lh hN
 have V1 := lh hV
 have R1 := lh hR
 have Q1 := lh hQ
 have hvl9 : v.length ≤ 1048576 := by omega
 have hql9 : q.length ≤ 1048576 := by omega
 have N1 := lh hNs
 clear hNs
 clear hN hV hR hQ HD
 have U1 := lh ((Ext.rfl' w).tr he1)
 have E1 := lh (E0.out.tr U1.out)
 clear he1 
 have sz1 := U1.out.size
 have hsm := readAO_smallQ g ⟨v, r, q⟩ ns
 obtain ⟨⟨⟨ov, orr, oq⟩, rn⟩, hW⟩ : ∃ p, Sg.readAO g ⟨v, r, q⟩ ns = p := ⟨_, rfl⟩
 rw [hW] at hsm
 have SM := lh (show SmallZ ⟨ov, orr, oq⟩ from hsm.1)
 clear hsm
 have HI := lh (fun w h hv hr hq hn => by have := i_ReadAll Ag Av Ar Aq cg cv cr cq g v q r An cn ns w h hv hr hq hvl9 hql9 hn; rw [hW] at this; exact this)
 have HS := lh (fun w h hv hr hq hn => by have := s_ReadAll Ag Av Ar Aq cg cv cr cq g v q r An cn ns w h hv hr hq hvl9 hql9 hn; rw [hW] at this; exact this)
 have HV := lh (fun w h hv hr hq => i_ValidLazy Ag Av Ar Aq cg cv cr cq g v q r w h hv hr hq hvl9 hql9)
 have HW := lh hW
 clear hW
 have X1_1 := lh (Ext.al (Ext.al (Ext.rfl' w1) (.cells #[.slice Ag g.length cg] 25)) (.cells #[.slice Av v.length cv, .slice Ar r.length cr, .slice Aq q.length cq] 29))
 go_wp2_with fail
 refine (HI.out _ (H1.out.ext X1_1.out) (V1.out.ext X1_1.out) (R1.out.ext X1_1.out) (Q1.out.ext X1_1.out) (N1.out.ext X1_1.out)).mono ?_
 rintro e w2 ⟨A2, c2, A3, c3, A4, c4, z2, A5, c5, rfl, hoz, hon, hod, he2⟩
 have Hv2 := lh hoz.v.rd
 have Hr2 := lh (OwnL.rdLC hoz.r SM.out.r SM.out.e)
 have Hq2 := lh hoz.q.rd
 have Hn2 := lh hon.rd
 clear hoz hon hod
 have U2 := lh ((Ext.al (Ext.al (Ext.rfl' w1) (.cells #[.slice Ag g.length cg] 25)) (.cells #[.slice Av v.length cv, .slice Ar r.length cr, .slice Aq q.length cq] 29)).tr he2)
 have E2 := lh (E1.out.tr U2.out)
 have lg_2 := he2.cellE (show World.cell? (World.alloc (World.alloc w1 (.cells #[.slice Ag g.length cg] 25)) (.cells #[.slice Av v.length cv, .slice Ar r.length cr, .slice Aq q.length cq] 29)) ⟨w1.heap.size, 0, none⟩ = some (.slice Ag g.length cg) by simp [go_sem])
 have lv_2 := he2.cellE (show World.cell? (World.alloc (World.alloc w1 (.cells #[.slice Ag g.length cg] 25)) (.cells #[.slice Av v.length cv, .slice Ar r.length cr, .slice Aq q.length cq] 29)) ⟨w1.heap.size + 1, 0, none⟩ = some (.slice Av v.length cv) by simp [go_sem])
 have lr_2 := he2.cellE (show World.cell? (World.alloc (World.alloc w1 (.cells #[.slice Ag g.length cg] 25)) (.cells #[.slice Av v.length cv, .slice Ar r.length cr, .slice Aq q.length cq] 29)) ⟨w1.heap.size + 1, 1, none⟩ = some (.slice Ar r.length cr) by simp [go_sem])
 have lq_2 := he2.cellE (show World.cell? (World.alloc (World.alloc w1 (.cells #[.slice Ag g.length cg] 25)) (.cells #[.slice Av v.length cv, .slice Ar r.length cr, .slice Aq q.length cq] 29)) ⟨w1.heap.size + 1, 2, none⟩ = some (.slice Aq q.length cq) by simp [go_sem])
 clear he2 X1_1
 have blg_2 := blt lg_2
 have blv_2 := blt lv_2
 have blr_2 := blt lr_2
 have blq_2 := blt lq_2
 have sz2 := U2.out.size
 have X2_2 := lh (Ext.al ((Ext.rfl' w1).tr U2.out) (.cells #[.slice A2 ov.length c2, .slice A3 orr.length c3, .slice A4 oq.length c4] 29))
 go_wp2_with fail
 refine (HS.out _ (H1.out.ext X2_2.out) (V1.out.ext X2_2.out) (R1.out.ext X2_2.out) (Q1.out.ext X2_2.out) (N1.out.ext X2_2.out)).mono ?_
 rintro e w3 ⟨A6, c6, A7, c7, A8, c8, z6, A9, c9, rfl, hoz, hon, hod, he3⟩
 have Hv6 := lh hoz.v.rd
 have Hr6 := lh (OwnL.rdLC hoz.r SM.out.r SM.out.e)
 have Hq6 := lh hoz.q.rd
 have Hn6 := lh hon.rd
 clear hoz hon hod
 have U3 := lh ((Ext.al (Ext.rfl' w2) (.cells #[.slice A2 ov.length c2, .slice A3 orr.length c3, .slice A4 oq.length c4] 29)).tr he3)
 have E3 := lh (E2.out.tr U3.out)
 have lg_3 := U3.out.cellE lg_2
 have lv_3 := U3.out.cellE lv_2
 have lr_3 := U3.out.cellE lr_2
 have lq_3 := U3.out.cellE lq_2
 have pv_3 := he3.cellE (show World.cell? (World.alloc w2 (.cells #[.slice A2 ov.length c2, .slice A3 orr.length c3, .slice A4 oq.length c4] 29)) ⟨w2.heap.size, 0, none⟩ = some (.slice A2 ov.length c2) by simp [go_sem])
 have pr_3 := he3.cellE (show World.cell? (World.alloc w2 (.cells #[.slice A2 ov.length c2, .slice A3 orr.length c3, .slice A4 oq.length c4] 29)) ⟨w2.heap.size, 1, none⟩ = some (.slice A3 orr.length c3) by simp [go_sem])
 have pq_3 := he3.cellE (show World.cell? (World.alloc w2 (.cells #[.slice A2 ov.length c2, .slice A3 orr.length c3, .slice A4 oq.length c4] 29)) ⟨w2.heap.size, 2, none⟩ = some (.slice A4 oq.length c4) by simp [go_sem])
 clear he3 lg_2 lv_2 lr_2 lq_2 blg_2 blv_2 blr_2 blq_2 X2_2
 have blg_3 := blt lg_3
 have blv_3 := blt lv_3
 have blr_3 := blt lr_3
 have blq_3 := blt lq_3
 have bpv_3 := blt pv_3
 have bpr_3 := blt pr_3
 have bpq_3 := blt pq_3
 have sz3 := U3.out.size
 have X3_3 := lh (Ext.al ((Ext.rfl' w2).tr U3.out) (.cells #[.slice A6 ov.length c6, .slice A7 orr.length c7, .slice A8 oq.length c8] 29))
 have X3_4 := lh (Ext.al (Ext.rfl' w3) (.cells #[.slice A6 ov.length c6, .slice A7 orr.length c7, .slice A8 oq.length c8] 29))
 go_wp2_with fail
 refine (l_equalLazy A2 A6 A3 A7 A4 A8 c2 c6 c3 c7 c4 c8 ov orr oq _ (Hv2.out.ext X3_3.out) (Hv6.out.ext X3_4.out) (Hr2.out.ext X3_3.out).rdL (Hr6.out.ext X3_4.out).rdL (Hq2.out.ext X3_3.out) (Hq6.out.ext X3_4.out)).mono ?_
 rintro e w4 ⟨rfl, he4⟩
 have U4 := lh ((Ext.al (Ext.rfl' w3) (.cells #[.slice A6 ov.length c6, .slice A7 orr.length c7, .slice A8 oq.length c8] 29)).tr he4)
 have E4 := lh (E3.out.tr U4.out)
 have lg_4 := U4.out.cellE lg_3
 have lv_4 := U4.out.cellE lv_3
 have lr_4 := U4.out.cellE lr_3
 have lq_4 := U4.out.cellE lq_3
 have pv_4 := U4.out.cellE pv_3
 have pr_4 := U4.out.cellE pr_3
 have pq_4 := U4.out.cellE pq_3
 have ov_4 := he4.cellE (show World.cell? (World.alloc w3 (.cells #[.slice A6 ov.length c6, .slice A7 orr.length c7, .slice A8 oq.length c8] 29)) ⟨w3.heap.size, 0, none⟩ = some (.slice A6 ov.length c6) by simp [go_sem])
 have or_4 := he4.cellE (show World.cell? (World.alloc w3 (.cells #[.slice A6 ov.length c6, .slice A7 orr.length c7, .slice A8 oq.length c8] 29)) ⟨w3.heap.size, 1, none⟩ = some (.slice A7 orr.length c7) by simp [go_sem])
 have oq_4 := he4.cellE (show World.cell? (World.alloc w3 (.cells #[.slice A6 ov.length c6, .slice A7 orr.length c7, .slice A8 oq.length c8] 29)) ⟨w3.heap.size, 2, none⟩ = some (.slice A8 oq.length c8) by simp [go_sem])
 clear he4 lg_3 lv_3 lr_3 lq_3 pv_3 pr_3 pq_3 blg_3 blv_3 blr_3 blq_3 bpv_3 bpr_3 bpq_3 X3_3 X3_4
 have blg_4 := blt lg_4
 have blv_4 := blt lv_4
 have blr_4 := blt lr_4
 have blq_4 := blt lq_4
 have bpv_4 := blt pv_4
 have bpr_4 := blt pr_4
 have bpq_4 := blt pq_4
 have bov_4 := blt ov_4
 have bor_4 := blt or_4
 have boq_4 := blt oq_4
 have sz4 := U4.out.size
 have X4_5 := lh (((Ext.rfl' w2).tr U3.out).tr U4.out)
 have X4_6 := lh ((Ext.rfl' w3).tr U4.out)
 go_wp2_with fail
 refine (l_equalInts A5 A9 c5 c9 rn _ (Hn2.out.ext X4_5.out) (Hn6.out.ext X4_6.out)).mono ?_
 rintro e w5 ⟨rfl, he5⟩
 have U5 := lh ((Ext.rfl' w4).tr he5)
 have E5 := lh (E4.out.tr U5.out)
 have lg_5 := U5.out.cellE lg_4
 have lv_5 := U5.out.cellE lv_4
 have lr_5 := U5.out.cellE lr_4
 have lq_5 := U5.out.cellE lq_4
 have pv_5 := U5.out.cellE pv_4
 have pr_5 := U5.out.cellE pr_4
 have pq_5 := U5.out.cellE pq_4
 have ov_5 := U5.out.cellE ov_4
 have or_5 := U5.out.cellE or_4
 have oq_5 := U5.out.cellE oq_4
 clear he5 lg_4 lv_4 lr_4 lq_4 pv_4 pr_4 pq_4 ov_4 or_4 oq_4 blg_4 blv_4 blr_4 blq_4 bpv_4 bpr_4 bpq_4 bov_4 bor_4 boq_4 X4_5 X4_6
 have blg_5 := blt lg_5
 have blv_5 := blt lv_5
 have blr_5 := blt lr_5
 have blq_5 := blt lq_5
 have bpv_5 := blt pv_5
 have bpr_5 := blt pr_5
 have bpq_5 := blt pq_5
 have bov_5 := blt ov_5
 have bor_5 := blt or_5
 have boq_5 := blt oq_5
 have sz5 := U5.out.size
 have X5_7 := lh (((((Ext.rfl' w1).tr U2.out).tr U3.out).tr U4.out).tr U5.out)
 go_wp2_with fail
 refine (HV.out _ (H1.out.ext X5_7.out) (V1.out.ext X5_7.out) (R1.out.ext X5_7.out) (Q1.out.ext X5_7.out)).mono ?_
 rintro e w6 ⟨rfl, he6⟩
 have U6 := lh ((Ext.rfl' w5).tr he6)
 have E6 := lh (E5.out.tr U6.out)
 have lg_6 := U6.out.cellE lg_5
 have lv_6 := U6.out.cellE lv_5
 have lr_6 := U6.out.cellE lr_5
 have lq_6 := U6.out.cellE lq_5
 have pv_6 := U6.out.cellE pv_5
 have pr_6 := U6.out.cellE pr_5
 have pq_6 := U6.out.cellE pq_5
 have ov_6 := U6.out.cellE ov_5
 have or_6 := U6.out.cellE or_5
 have oq_6 := U6.out.cellE oq_5
 clear he6 lg_5 lv_5 lr_5 lq_5 pv_5 pr_5 pq_5 ov_5 or_5 oq_5 blg_5 blv_5 blr_5 blq_5 bpv_5 bpr_5 bpq_5 bov_5 bor_5 boq_5 X5_7
 have blg_6 := blt lg_6
 have blv_6 := blt lv_6
 have blr_6 := blt lr_6
 have blq_6 := blt lq_6
 have bpv_6 := blt pv_6
 have bpr_6 := blt pr_6
 have bpq_6 := blt pq_6
 have bov_6 := blt ov_6
 have bor_6 := blt or_6
 have boq_6 := blt oq_6
 have sz6 := U6.out.size
 cases hE : Sg.validL g ⟨v, r, q⟩
 ·skip
  clear hE
  have X6_8 := lh (((((Ext.rfl' w2).tr U3.out).tr U4.out).tr U5.out).tr U6.out)
  have X6_9 := lh ((((Ext.rfl' w3).tr U4.out).tr U5.out).tr U6.out)
  go_wp2_with fail
  refine (l_equalLazy A2 A6 A3 A7 A4 A8 c2 c6 c3 c7 c4 c8 ov orr oq _ (Hv2.out.ext X6_8.out) (Hv6.out.ext X6_9.out) (Hr2.out.ext X6_8.out).rdL (Hr6.out.ext X6_9.out).rdL (Hq2.out.ext X6_8.out) (Hq6.out.ext X6_9.out)).mono ?_
  rintro e w7 ⟨rfl, he7⟩
  have U7 := lh ((Ext.rfl' w6).tr he7)
  have E7 := lh (E6.out.tr U7.out)
  have lg_7 := U7.out.cellE lg_6
  have lv_7 := U7.out.cellE lv_6
  have lr_7 := U7.out.cellE lr_6
  have lq_7 := U7.out.cellE lq_6
  have pv_7 := U7.out.cellE pv_6
  have pr_7 := U7.out.cellE pr_6
  have pq_7 := U7.out.cellE pq_6
  have ov_7 := U7.out.cellE ov_6
  have or_7 := U7.out.cellE or_6
  have oq_7 := U7.out.cellE oq_6
  clear he7 lg_6 lv_6 lr_6 lq_6 pv_6 pr_6 pq_6 ov_6 or_6 oq_6 blg_6 blv_6 blr_6 blq_6 bpv_6 bpr_6 bpq_6 bov_6 bor_6 boq_6 X6_8 X6_9
  have blg_7 := blt lg_7
  have blv_7 := blt lv_7
  have blr_7 := blt lr_7
  have blq_7 := blt lq_7
  have bpv_7 := blt pv_7
  have bpr_7 := blt pr_7
  have bpq_7 := blt pq_7
  have bov_7 := blt ov_7
  have bor_7 := blt or_7
  have boq_7 := blt oq_7
  have sz7 := U7.out.size
  have X7_10 := lh ((((((Ext.rfl' w2).tr U3.out).tr U4.out).tr U5.out).tr U6.out).tr U7.out)
  have X7_11 := lh (((((Ext.rfl' w3).tr U4.out).tr U5.out).tr U6.out).tr U7.out)
  go_wp2_with fail
  refine (l_equalInts A5 A9 c5 c9 rn _ (Hn2.out.ext X7_10.out) (Hn6.out.ext X7_11.out)).mono ?_
  rintro e w8 ⟨rfl, he8⟩
  have U8 := lh ((Ext.rfl' w7).tr he8)
  have E8 := lh (E7.out.tr U8.out)
  have lg_8 := U8.out.cellE lg_7
  have lv_8 := U8.out.cellE lv_7
  have lr_8 := U8.out.cellE lr_7
  have lq_8 := U8.out.cellE lq_7
  have pv_8 := U8.out.cellE pv_7
  have pr_8 := U8.out.cellE pr_7
  have pq_8 := U8.out.cellE pq_7
  have ov_8 := U8.out.cellE ov_7
  have or_8 := U8.out.cellE or_7
  have oq_8 := U8.out.cellE oq_7
  clear he8 lg_7 lv_7 lr_7 lq_7 pv_7 pr_7 pq_7 ov_7 or_7 oq_7 blg_7 blv_7 blr_7 blq_7 bpv_7 bpr_7 bpq_7 bov_7 bor_7 boq_7 X7_10 X7_11
  have blg_8 := blt lg_8
  have blv_8 := blt lv_8
  have blr_8 := blt lr_8
  have blq_8 := blt lq_8
  have bpv_8 := blt pv_8
  have bpr_8 := blt pr_8
  have bpq_8 := blt pq_8
  have bov_8 := blt ov_8
  have bor_8 := blt or_8
  have boq_8 := blt oq_8
  have sz8 := U8.out.size
  go_wp2
  go_ret
  exact ⟨rfl, E8.out⟩
 ·by_cases hl : ov.length = v.length
  ·skip
   have z1 : ((ov.length : Int) == (v.length : Int)) = true := by simp [hl]
   have z2 : ((ov.length : Int) != (v.length : Int)) = false := by simp [hl]
   have hW := HW.out
   obtain ⟨hrg, hre⟩ := Sg.readAO_parts (g := g) (st := ⟨v, r, q⟩) (ns := ns) (by rw [hW]; exact hl) hE hg2
   obtain ⟨hnd, hrl10, -⟩ := Sg.reads_nodup (ns := ns) hE hrg
   rw [hW] at hre
   have hwe : Sg.readsL g ns ⟨⟨v, r, q⟩, []⟩ = ⟨⟨ov, orr, oq⟩, rn⟩ := by have h1 := congrArg Prod.fst hre; have h2 := congrArg Prod.snd hre; dsimp only at h1 h2; rw [h1, h2]
   rw [hwe] at hnd hrl10
   dsimp only at hnd hrl10
   have HRG := lh hrg
   have HE := lh hE
   have HWE := lh hwe
   have HND := lh (fun A c w h => l_noTwice A c rn w h hnd)
   have HL := lh hl
   clear hl hrg hre hnd hwe hE hW
   have E2 := lh (((Ext.rfl' w6).al (.cells #[.slice Av v.length cv, .slice Ar r.length cr, .slice Aq q.length cq] 29)).al (.cells #[] 3))
   have B2 := lh (show Bx _ w6.heap.size [.slice Av v.length cv, .slice Ar r.length cr, .slice Aq q.length cq] from (Bx.new w6 #[.slice Av v.length cv, .slice Ar r.length cr, .slice Aq q.length cq] 29).al (.cells #[] 3))
   go_wp2_with fail
   go_loopw [11, 12, 13, 14, 15] (fun s11 s12 s13 s14 s15 wr => ∃ (n : Nat) (a1 : List Int) (a2 : List (List Int)) (a3 al : List Int) (N1x : Option Addr) (d1 : Nat) (N2x : Option Addr) (d2 : Nat) (N3x : Option Addr) (d3 : Nat) (AL : Option Addr) (cL : Nat), n ≤ ns.length ∧ s12 = .int .i64 n ∧ s11 = .slice AL al.length cL ∧ Hid (Sg.readsL g (ns.take n) ⟨⟨v, r, q⟩, []⟩ = ⟨⟨a1, a2, a3⟩, al⟩) ∧ Hid (Bx wr w6.heap.size [.slice N1x a1.length d1, .slice N2x a2.length d2, .slice N3x a3.length d3]) ∧ Hid (∀ X, Mod (fun b => b = w6.heap.size) wr X → Rd X 1 N1x a1.length (ints a1) ∧ RdLC X N2x a2 ∧ Rd X 1 N3x a3.length (ints a3) ∧ Rd X 1 AL al.length (ints al)) ∧ Hid (Ext w6 wr)) (fun _ s12 _ _ _ _ => ns.length - (intOf s12).toNat)
   case atStart => exact ⟨0, v, r, q, [], Av, cv, Ar, cr, Aq, cq, some ⟨w6.heap.size + 1, 0, none⟩, 0, Nat.zero_le _, rfl, rfl, lh rfl, B2, lh (fun X hX => by
     have e := ((((((Ext.rfl' w1).tr U2.out).tr U3.out).tr U4.out).tr U5.out).tr U6.out).tr (Ext.md E2.out hX (fun b e => by omega))
     exact ⟨V1.out.ext e, R1.out.ext e, Q1.out.ext e, by simpa [ints] using Rd.nil X 1 _⟩), E2⟩
   case round =>
    clear B2 E2
    obtain ⟨n, a1, a2, a3, al, N1x, d1, N2x, d2, N3x, d3, AL, cL, hn, rfl, rfl, hS, hB, hF, hext⟩ := hrel
    have lE0 := lh (Ext.rfl' wr)
    have lg_r := hext.out.cellE lg_6
    have blg_r := blt lg_r
    have lv_r := hext.out.cellE lv_6
    have blv_r := blt lv_r
    have lr_r := hext.out.cellE lr_6
    have blr_r := blt lr_r
    have lq_r := hext.out.cellE lq_6
    have blq_r := blt lq_r
    have pv_r := hext.out.cellE pv_6
    have bpv_r := blt pv_r
    have pr_r := hext.out.cellE pr_6
    have bpr_r := blt pr_r
    have pq_r := hext.out.cellE pq_6
    have bpq_r := blt pq_r
    have ov_r := hext.out.cellE ov_6
    have bov_r := blt ov_r
    have or_r := hext.out.cellE or_6
    have bor_r := blt or_r
    have oq_r := hext.out.cellE oq_6
    have boq_r := blt oq_r
    clear lg_6 lv_6 lr_6 lq_6 pv_6 pr_6 pq_6 ov_6 or_6 oq_6 blg_6 blv_6 blr_6 blq_6 bpv_6 bpr_6 bpq_6 bov_6 bor_6 boq_6
    have nv_r := hB.out.cell (j := 0) rfl
    have bnv_r := blt nv_r
    have nr_r := hB.out.cell (j := 1) rfl
    have bnr_r := blt nr_r
    have nq_r := hB.out.cell (j := 2) rfl
    have bnq_r := blt nq_r
    have H1r := lh (H1.out.ext (((((((Ext.rfl' w1).tr U2.out).tr U3.out).tr U4.out).tr U5.out).tr U6.out).tr hext.out))
    have Nsr := lh (N1.out.ext (((((((Ext.rfl' w1).tr U2.out).tr U3.out).tr U4.out).tr U5.out).tr U6.out).tr hext.out))
    by_cases hlt : n < ns.length
    ·skip
     obtain ⟨bn, on, x, rfl, hx, hcx⟩ := Nsr.out.at1 hlt
     obtain ⟨hva, y, l2, hrd, hran⟩ := Sg.reads_step HE.out HRG.out hx
     have hal := (Sg.reads_nodup (ns := ns.take n) HE.out (fun y hy => HRG.out y (List.mem_of_mem_take hy))).2.1
     rw [hS.out] at hva hrd hran hal
     dsimp only at hva hrd hran hal
     obtain ⟨⟨⟨b1, b2, b3⟩, bl⟩, hS2⟩ : ∃ p : Sg.LR, Sg.readsL g (ns.take (n + 1)) ⟨⟨v, r, q⟩, []⟩ = p := ⟨_, rfl⟩
     rw [hS2] at hrd hran
     dsimp only at hrd hran
     subst hran
     have hsb := readLO_smallQ g ⟨a1, a2, a3⟩ x
     rw [hrd] at hsb
     have SB := lh (show SmallZ ⟨b1, b2, b3⟩ from hsb.1)
     have hl2 : l2.length ≤ 1048576 := hsb.2
     have hsh := Sg.validL_shape hva
     have h10 := Sg.validG_len10 hsh.1
     have ha1 : a1.length ≤ 1048576 := by have := hsh.2.1; dsimp only at this; omega
     have ha3 : a3.length ≤ 1048576 := by have := hsh.2.2.2.1; dsimp only at this; omega
     have hal9 : al.length ≤ 1048576 := by omega
     have HRL := lh (fun w h hv hr hq => by have := i_ReadLazy Ag N1x N2x N3x cg d1 d2 d3 g a1 a3 a2 x w h hv hr hq ha1 ha3; rw [hrd] at this; exact this)
     obtain ⟨f1, f2, f3, -⟩ := hF.out _ (Mod.rfl' _ wr)
     have F1 := lh f1
     have F2 := lh f2
     have F3 := lh f3
     have HS2 := lh hS2
     have HNB : w6.heap.size < wr.heap.size := hB.out.lt
     have bhcx := blt hcx
     clear hx hva hrd hal hsb hsh hS2 f1 f2 f3
     go_wp2_with fail
     have klg := lg_r
     have klv := lv_r
     have klr := lr_r
     have klq := lq_r
     have kpv := pv_r
     have kpr := pr_r
     have kpq := pq_r
     have kov := ov_r
     have kor := or_r
     have koq := oq_r
     have knv := nv_r
     have knr := nr_r
     have knq := nq_r
     have kxc := hcx
     refine wp_region_held_drew (S := (fun W => W.cell? ⟨w1.heap.size, 0, none⟩ = some (.slice Ag g.length cg) ∧ W.cell? ⟨w6.heap.size, 0, none⟩ = some (.slice N1x a1.length d1) ∧ W.cell? ⟨w6.heap.size, 1, none⟩ = some (.slice N2x a2.length d2) ∧ W.cell? ⟨w6.heap.size, 2, none⟩ = some (.slice N3x a3.length d3) ∧ W.cell? ⟨bn, on + n, none⟩ = some (.int .i64 x))) (by kernel_rfl) ?_ (fun hHeld => ?_)
     ·exact ⟨((Ext.rfl' _).dr).cellE klg, ((Ext.rfl' _).dr).cellE knv, ((Ext.rfl' _).dr).cellE knr, ((Ext.rfl' _).dr).cellE knq, ((Ext.rfl' _).dr).cellE kxc⟩
     refine ty 0 ?_
     refine ty 1 ?_
     refine ty 2 ?_
     refine ty 3 ?_
     refine ty 4 ?_
     refine ty 5 ?_
     refine wpAnyH_ready (rs := [6, 11]) (by kernel_rfl) (by simp) ?_
     refine AllReadyH.cons rfl (fun K hK => ?_) ?_
     ·skip
      go_simp
      have lX0_1 := lh ((Ext.rfl' wr).dr)
      refine (HRL.out _ (H1r.out.ext lX0_1.out) (F1.out.ext lX0_1.out) (F2.out.ext lX0_1.out) (F3.out.ext lX0_1.out)).mono ?_
      rintro e lw1 ⟨A40, c40, A41, c41, A42, c42, z40, A43, c43, rfl, hoz, hon, -, lhe1⟩
      have OZ := lh hoz
      have OL := lh hon
      clear hoz hon
      have lU1 := lh (((Ext.rfl' wr).dr).tr lhe1)
      have lE1 := lh (lE0.out.tr lU1.out)
      have lg_l1 := lU1.out.cellE lg_r
      have lv_l1 := lU1.out.cellE lv_r
      have lr_l1 := lU1.out.cellE lr_r
      have lq_l1 := lU1.out.cellE lq_r
      have pv_l1 := lU1.out.cellE pv_r
      have pr_l1 := lU1.out.cellE pr_r
      have pq_l1 := lU1.out.cellE pq_r
      have ov_l1 := lU1.out.cellE ov_r
      have or_l1 := lU1.out.cellE or_r
      have oq_l1 := lU1.out.cellE oq_r
      have nv_l1 := lU1.out.cellE nv_r
      have nr_l1 := lU1.out.cellE nr_r
      have nq_l1 := lU1.out.cellE nq_r
      have xc_l1 := lU1.out.cellE hcx
      clear lhe1 lg_r lv_r lr_r lq_r pv_r pr_r pq_r ov_r or_r oq_r nv_r nr_r nq_r hcx blg_r blv_r blr_r blq_r bpv_r bpr_r bpq_r bov_r bor_r boq_r bnv_r bnr_r bnq_r bhcx lX0_1
      have blg_l1 := blt lg_l1
      have blv_l1 := blt lv_l1
      have blr_l1 := blt lr_l1
      have blq_l1 := blt lq_l1
      have bpv_l1 := blt pv_l1
      have bpr_l1 := blt pr_l1
      have bpq_l1 := blt pq_l1
      have bov_l1 := blt ov_l1
      have bor_l1 := blt or_l1
      have boq_l1 := blt oq_l1
      have bnv_l1 := blt nv_l1
      have bnr_l1 := blt nr_l1
      have bnq_l1 := blt nq_l1
      have bxc_l1 := blt xc_l1
      have szl1 := lU1.out.size
      try go_wp2_with fail
      refine hK.out _ _ (by exact ⟨(((Ext.rfl' wr).tr lU1.out)).cellE klg, (((Ext.rfl' wr).tr lU1.out)).cellE knv, (((Ext.rfl' wr).tr lU1.out)).cellE knr, (((Ext.rfl' wr).tr lU1.out)).cellE knq, (((Ext.rfl' wr).tr lU1.out)).cellE kxc⟩) fun hh2 => ?_; clear hK K hHeld; have hHeld := hh2; clear hh2
      try simp only [Act.put, pu]
      refine ty 7 ?_
      refine ty 8 ?_
      refine ty 9 ?_
      refine ty 10 ?_
      refine rd1 11 rfl fun K hK => ?_
      refine held_alZ rfl rfl ?_
      intro bT lw2 hbT hBT lhe2
      try simp only [World.size_drew] at hbT
      have HBT := lh hbT
      have BT_2 := lh hBT
      clear hBT hbT
      have lU2 := lh ((Ext.rfl' lw1).tr lhe2)
      have lE2 := lh (lE1.out.tr lU2.out)
      have lg_l2 := lU2.out.cellE lg_l1
      have lv_l2 := lU2.out.cellE lv_l1
      have lr_l2 := lU2.out.cellE lr_l1
      have lq_l2 := lU2.out.cellE lq_l1
      have pv_l2 := lU2.out.cellE pv_l1
      have pr_l2 := lU2.out.cellE pr_l1
      have pq_l2 := lU2.out.cellE pq_l1
      have ov_l2 := lU2.out.cellE ov_l1
      have or_l2 := lU2.out.cellE or_l1
      have oq_l2 := lU2.out.cellE oq_l1
      have nv_l2 := lU2.out.cellE nv_l1
      have nr_l2 := lU2.out.cellE nr_l1
      have nq_l2 := lU2.out.cellE nq_l1
      have xc_l2 := lU2.out.cellE xc_l1
      clear lhe2 lg_l1 lv_l1 lr_l1 lq_l1 pv_l1 pr_l1 pq_l1 ov_l1 or_l1 oq_l1 nv_l1 nr_l1 nq_l1 xc_l1 blg_l1 blv_l1 blr_l1 blq_l1 bpv_l1 bpr_l1 bpq_l1 bov_l1 bor_l1 boq_l1 bnv_l1 bnr_l1 bnq_l1 bxc_l1
      have blg_l2 := blt lg_l2
      have blv_l2 := blt lv_l2
      have blr_l2 := blt lr_l2
      have blq_l2 := blt lq_l2
      have bpv_l2 := blt pv_l2
      have bpr_l2 := blt pr_l2
      have bpq_l2 := blt pq_l2
      have bov_l2 := blt ov_l2
      have bor_l2 := blt or_l2
      have boq_l2 := blt oq_l2
      have bnv_l2 := blt nv_l2
      have bnr_l2 := blt nr_l2
      have bnq_l2 := blt nq_l2
      have bxc_l2 := blt xc_l2
      have szl2 := lU2.out.size
      have ltT := BT_2.out.lt
      try simp only [pg]
      refine hK.out _ _ (by exact ⟨((((Ext.rfl' wr).tr lU1.out).tr lU2.out)).cellE klg, ((((Ext.rfl' wr).tr lU1.out).tr lU2.out)).cellE knv, ((((Ext.rfl' wr).tr lU1.out).tr lU2.out)).cellE knr, ((((Ext.rfl' wr).tr lU1.out).tr lU2.out)).cellE knq, ((((Ext.rfl' wr).tr lU1.out).tr lU2.out)).cellE kxc⟩) fun hh2 => ?_; clear hK K hHeld; have hHeld := hh2; clear hh2
      try simp only [Act.put, pu]
      refine rd1 12 rfl fun K hK => ?_
      have hbT := HBT.out
      have fT0 := BT_2.out.free 0
      have fT1 := BT_2.out.free 1
      have fT2 := BT_2.out.free 2
      have xT0 := BT_2.out.cell (j := 0) rfl
      have xT1 := BT_2.out.cell (j := 1) rfl
      have xT2 := BT_2.out.cell (j := 2) rfl
      have bT9 := BT_2.out.lt
      have eS : Ext wr (World.setCell (World.setCell (World.setCell lw2 ⟨bT, 0, none⟩ (.slice A40 b1.length c40)) ⟨bT, 1, none⟩ (.slice A41 b2.length c41)) ⟨bT, 2, none⟩ (.slice A42 b3.length c42)) := (Ext.set (Ext.set (Ext.set (((Ext.rfl' wr).tr lU1.out).tr lU2.out) (p := ⟨bT, 0, none⟩) (show wr.heap.size ≤ bT by omega) (.slice A40 b1.length c40)) (p := ⟨bT, 1, none⟩) (show wr.heap.size ≤ bT by omega) (.slice A41 b2.length c41)) (p := ⟨bT, 2, none⟩) (show wr.heap.size ≤ bT by omega) (.slice A42 b3.length c42))
      have ES := lh eS
      have M6 := lh (Mod.set3 lw2 bT (.slice A40 b1.length c40) (.slice A41 b2.length c41) (.slice A42 b3.length c42))
      have B6 := lh (Bx.set3 BT_2.out (.slice A40 b1.length c40) (.slice A41 b2.length c41) (.slice A42 b3.length c42))
      clear eS hbT
      go_simp
      refine hK.out _ _ (by exact ⟨(ES.out).cellE klg, (ES.out).cellE knv, (ES.out).cellE knr, (ES.out).cellE knq, (ES.out).cellE kxc⟩) fun hh2 => ?_; clear hK K hHeld; have hHeld := hh2; clear hh2
      try simp only [Act.put]
      generalize hwS : (World.setCell (World.setCell (World.setCell lw2 ⟨bT, 0, none⟩ (.slice A40 b1.length c40)) ⟨bT, 1, none⟩ (.slice A41 b2.length c41)) ⟨bT, 2, none⟩ (.slice A42 b3.length c42)) = lw3 at *
      clear hwS
      have lE3 := lh (lE0.out.tr ES.out)
      have szl3 := ES.out.size
      have lg_l3 := ES.out.cellE klg
      have lv_l3 := ES.out.cellE klv
      have lr_l3 := ES.out.cellE klr
      have lq_l3 := ES.out.cellE klq
      have pv_l3 := ES.out.cellE kpv
      have pr_l3 := ES.out.cellE kpr
      have pq_l3 := ES.out.cellE kpq
      have ov_l3 := ES.out.cellE kov
      have or_l3 := ES.out.cellE kor
      have oq_l3 := ES.out.cellE koq
      have nv_l3 := ES.out.cellE knv
      have nr_l3 := ES.out.cellE knr
      have nq_l3 := ES.out.cellE knq
      have xc_l3 := ES.out.cellE kxc
      have T0_l3 := B6.out.cell (j := 0) rfl
      have T1_l3 := B6.out.cell (j := 1) rfl
      have T2_l3 := B6.out.cell (j := 2) rfl
      have OZ3 := lh ((OwnZ.ext OZ.out ((Ext.rfl' lw1).tr lU2.out)).mod M6.out (fun b hb e => by subst e; have h1 := OZ.out.lt hb; have := HBT.out; omega))
      have OL3 := lh ((OL.out.ext ((Ext.rfl' lw1).tr lU2.out)).mod M6.out (fun b hb e => by subst e; have h1 := OL.out.lt hb; have := HBT.out; omega))
      have LZ3 := lh (show ∀ b, fpZ A40 A41 A42 z40 b → wr.heap.size ≤ b from fun b hb => by have := (OZ.out.lt hb).1; (try simp only [World.size_drew] at this); omega)
      have LL3 := lh (show ∀ b, blk A43 = some b → wr.heap.size ≤ b from fun b hb => by have := (OL.out.lt hb).1; (try simp only [World.size_drew] at this); omega)
      clear OZ OL
      clear lg_l2 lv_l2 lr_l2 lq_l2 pv_l2 pr_l2 pq_l2 ov_l2 or_l2 oq_l2 nv_l2 nr_l2 nq_l2 xc_l2 blg_l2 blv_l2 blr_l2 blq_l2 bpv_l2 bpr_l2 bpq_l2 bov_l2 bor_l2 boq_l2 bnv_l2 bnr_l2 bnq_l2 bxc_l2 fT0 xT0 fT1 xT1 fT2 xT2 klg klv klr klq kpv kpr kpq kov kor koq knv knr knq kxc
      have blg_l3 := blt lg_l3
      have blv_l3 := blt lv_l3
      have blr_l3 := blt lr_l3
      have blq_l3 := blt lq_l3
      have bpv_l3 := blt pv_l3
      have bpr_l3 := blt pr_l3
      have bpq_l3 := blt pq_l3
      have bov_l3 := blt ov_l3
      have bor_l3 := blt or_l3
      have boq_l3 := blt oq_l3
      have bnv_l3 := blt nv_l3
      have bnr_l3 := blt nr_l3
      have bnq_l3 := blt nq_l3
      have bxc_l3 := blt xc_l3
      have bT0_l3 := blt T0_l3
      have bT1_l3 := blt T1_l3
      have bT2_l3 := blt T2_l3
      refine ty 13 ?_
      refine ty 14 ?_
      refine dn ?_
      have X3 := lh (((Ext.rfl' wr).tr ES.out) : Ext wr lw3)
      have BB := lh (hB.out.ext X3.out)
      have g0 := BB.out.free 0
      have g1 := BB.out.free 1
      have g2 := BB.out.free 2
      have bl9 := BB.out.lt
      go_upto_region 15 with fail
      have M4 := lh (Mod.set3 lw3 (w6.heap.size) (.slice A40 b1.length c40) (.slice A41 b2.length c41) (.slice A42 b3.length c42))
      have B4 := lh (Bx.set3 BB.out (.slice A40 b1.length c40) (.slice A41 b2.length c41) (.slice A42 b3.length c42))
      generalize hw4 : (World.setCell (World.setCell (World.setCell lw3 ⟨w6.heap.size, 0, none⟩ (.slice A40 b1.length c40)) ⟨w6.heap.size, 1, none⟩ (.slice A41 b2.length c41)) ⟨w6.heap.size, 2, none⟩ (.slice A42 b3.length c42)) = w4 at *
      clear hw4 g0 g1 g2
      have z4 := M4.out.size
      have m4 : Mod (fun b => b = w6.heap.size) wr w4 := (Mod.of X3.out).tr' M4.out
      have AL4 := lh ((hF.out w4 m4).2.2.2)
      have L4 := lh ((OL3.out.mod M4.out (fun b hb e => by subst e; have := LL3.out _ hb; omega)).rd)
      clear m4
      go_wp2_with fail
      refine (l_join AL A43 cL c43 al l2 _ AL4.out L4.out hal9 hl2).mono ?_
      rintro e w5 ⟨A50, c50, rfl, hoj, he5⟩
      have OJ := lh hoj
      have E5 := lh he5
      clear hoj he5
      go_wp2
      go_roundw
      case rel =>
       refine ⟨n + 1, b1, b2, b3, al ++ l2, A40, c40, A41, c41, A42, c42, A50, c50, by omega, by go_num, by rw [List.length_append], HS2, lh (B4.out.ext E5.out), lh (fun X hX => ?_), lh ((Ext.md (hext.out.tr X3.out) M4.out (fun b e => by omega)).tr E5.out)⟩
       have mX : Mod (fun b => b = w6.heap.size) lw3 X := (M4.out.tr' (Mod.of E5.out)).tr' hX
       have zX := OZ3.out.mod mX (fun b hb e => by subst e; have := LZ3.out _ hb; omega)
       exact ⟨zX.v.rd, OwnL.rdLC zX.r SB.out.r SB.out.e, zX.q.rd, (OJ.out.mod hX (fun b hb e => by subst e; have := (OJ.out.lt hb).1; have := X3.out.size; omega)).rd⟩
      case measure => simp [intOf]; omega
     refine AllReadyH.cons rfl (fun K hK => ?_) ?_
     ·skip
      refine held_alZ rfl rfl ?_
      intro bT lw1 hbT hBT lhe1
      try simp only [World.size_drew] at hbT
      have HBT := lh hbT
      have BT_1 := lh hBT
      clear hBT hbT
      have lU1 := lh (((Ext.rfl' wr).dr).tr lhe1)
      have lE1 := lh (lE0.out.tr lU1.out)
      have lg_l1 := lU1.out.cellE lg_r
      have lv_l1 := lU1.out.cellE lv_r
      have lr_l1 := lU1.out.cellE lr_r
      have lq_l1 := lU1.out.cellE lq_r
      have pv_l1 := lU1.out.cellE pv_r
      have pr_l1 := lU1.out.cellE pr_r
      have pq_l1 := lU1.out.cellE pq_r
      have ov_l1 := lU1.out.cellE ov_r
      have or_l1 := lU1.out.cellE or_r
      have oq_l1 := lU1.out.cellE oq_r
      have nv_l1 := lU1.out.cellE nv_r
      have nr_l1 := lU1.out.cellE nr_r
      have nq_l1 := lU1.out.cellE nq_r
      have xc_l1 := lU1.out.cellE hcx
      clear lhe1 lg_r lv_r lr_r lq_r pv_r pr_r pq_r ov_r or_r oq_r nv_r nr_r nq_r hcx blg_r blv_r blr_r blq_r bpv_r bpr_r bpq_r bov_r bor_r boq_r bnv_r bnr_r bnq_r bhcx
      have blg_l1 := blt lg_l1
      have blv_l1 := blt lv_l1
      have blr_l1 := blt lr_l1
      have blq_l1 := blt lq_l1
      have bpv_l1 := blt pv_l1
      have bpr_l1 := blt pr_l1
      have bpq_l1 := blt pq_l1
      have bov_l1 := blt ov_l1
      have bor_l1 := blt or_l1
      have boq_l1 := blt oq_l1
      have bnv_l1 := blt nv_l1
      have bnr_l1 := blt nr_l1
      have bnq_l1 := blt nq_l1
      have bxc_l1 := blt xc_l1
      have szl1 := lU1.out.size
      have ltT := BT_1.out.lt
      try simp only [pg]
      refine hK.out _ _ (by exact ⟨(((Ext.rfl' wr).tr lU1.out)).cellE klg, (((Ext.rfl' wr).tr lU1.out)).cellE knv, (((Ext.rfl' wr).tr lU1.out)).cellE knr, (((Ext.rfl' wr).tr lU1.out)).cellE knq, (((Ext.rfl' wr).tr lU1.out)).cellE kxc⟩) fun hh2 => ?_; clear hK K hHeld; have hHeld := hh2; clear hh2
      try simp only [Act.put, pu]
      refine rd1 6 rfl fun K hK => ?_
      go_simp
      have lX1_1 := lh ((Ext.rfl' wr).tr lU1.out)
      refine (HRL.out _ (H1r.out.ext lX1_1.out) (F1.out.ext lX1_1.out) (F2.out.ext lX1_1.out) (F3.out.ext lX1_1.out)).mono ?_
      rintro e lw2 ⟨A40, c40, A41, c41, A42, c42, z40, A43, c43, rfl, hoz, hon, -, lhe2⟩
      have OZ := lh hoz
      have OL := lh hon
      clear hoz hon
      have lU2 := lh ((Ext.rfl' lw1).tr lhe2)
      have lE2 := lh (lE1.out.tr lU2.out)
      have lg_l2 := lU2.out.cellE lg_l1
      have lv_l2 := lU2.out.cellE lv_l1
      have lr_l2 := lU2.out.cellE lr_l1
      have lq_l2 := lU2.out.cellE lq_l1
      have pv_l2 := lU2.out.cellE pv_l1
      have pr_l2 := lU2.out.cellE pr_l1
      have pq_l2 := lU2.out.cellE pq_l1
      have ov_l2 := lU2.out.cellE ov_l1
      have or_l2 := lU2.out.cellE or_l1
      have oq_l2 := lU2.out.cellE oq_l1
      have nv_l2 := lU2.out.cellE nv_l1
      have nr_l2 := lU2.out.cellE nr_l1
      have nq_l2 := lU2.out.cellE nq_l1
      have xc_l2 := lU2.out.cellE xc_l1
      clear lhe2 lg_l1 lv_l1 lr_l1 lq_l1 pv_l1 pr_l1 pq_l1 ov_l1 or_l1 oq_l1 nv_l1 nr_l1 nq_l1 xc_l1 blg_l1 blv_l1 blr_l1 blq_l1 bpv_l1 bpr_l1 bpq_l1 bov_l1 bor_l1 boq_l1 bnv_l1 bnr_l1 bnq_l1 bxc_l1 lX1_1
      have blg_l2 := blt lg_l2
      have blv_l2 := blt lv_l2
      have blr_l2 := blt lr_l2
      have blq_l2 := blt lq_l2
      have bpv_l2 := blt pv_l2
      have bpr_l2 := blt pr_l2
      have bpq_l2 := blt pq_l2
      have bov_l2 := blt ov_l2
      have bor_l2 := blt or_l2
      have boq_l2 := blt oq_l2
      have bnv_l2 := blt nv_l2
      have bnr_l2 := blt nr_l2
      have bnq_l2 := blt nq_l2
      have bxc_l2 := blt xc_l2
      have BT_2 := lh (BT_1.out.ext lU2.out)
      have szl2 := lU2.out.size
      try go_wp2_with fail
      refine hK.out _ _ (by exact ⟨((((Ext.rfl' wr).tr lU1.out).tr lU2.out)).cellE klg, ((((Ext.rfl' wr).tr lU1.out).tr lU2.out)).cellE knv, ((((Ext.rfl' wr).tr lU1.out).tr lU2.out)).cellE knr, ((((Ext.rfl' wr).tr lU1.out).tr lU2.out)).cellE knq, ((((Ext.rfl' wr).tr lU1.out).tr lU2.out)).cellE kxc⟩) fun hh2 => ?_; clear hK K hHeld; have hHeld := hh2; clear hh2
      try simp only [Act.put, pu]
      refine ty 7 ?_
      refine ty 8 ?_
      refine ty 9 ?_
      refine ty 10 ?_
      refine rd1 12 rfl fun K hK => ?_
      have hbT := HBT.out
      have fT0 := BT_2.out.free 0
      have fT1 := BT_2.out.free 1
      have fT2 := BT_2.out.free 2
      have xT0 := BT_2.out.cell (j := 0) rfl
      have xT1 := BT_2.out.cell (j := 1) rfl
      have xT2 := BT_2.out.cell (j := 2) rfl
      have bT9 := BT_2.out.lt
      have eS : Ext wr (World.setCell (World.setCell (World.setCell lw2 ⟨bT, 0, none⟩ (.slice A40 b1.length c40)) ⟨bT, 1, none⟩ (.slice A41 b2.length c41)) ⟨bT, 2, none⟩ (.slice A42 b3.length c42)) := (Ext.set (Ext.set (Ext.set (((Ext.rfl' wr).tr lU1.out).tr lU2.out) (p := ⟨bT, 0, none⟩) (show wr.heap.size ≤ bT by omega) (.slice A40 b1.length c40)) (p := ⟨bT, 1, none⟩) (show wr.heap.size ≤ bT by omega) (.slice A41 b2.length c41)) (p := ⟨bT, 2, none⟩) (show wr.heap.size ≤ bT by omega) (.slice A42 b3.length c42))
      have ES := lh eS
      have M6 := lh (Mod.set3 lw2 bT (.slice A40 b1.length c40) (.slice A41 b2.length c41) (.slice A42 b3.length c42))
      have B6 := lh (Bx.set3 BT_2.out (.slice A40 b1.length c40) (.slice A41 b2.length c41) (.slice A42 b3.length c42))
      clear eS hbT
      go_simp
      refine hK.out _ _ (by exact ⟨(ES.out).cellE klg, (ES.out).cellE knv, (ES.out).cellE knr, (ES.out).cellE knq, (ES.out).cellE kxc⟩) fun hh2 => ?_; clear hK K hHeld; have hHeld := hh2; clear hh2
      try simp only [Act.put]
      generalize hwS : (World.setCell (World.setCell (World.setCell lw2 ⟨bT, 0, none⟩ (.slice A40 b1.length c40)) ⟨bT, 1, none⟩ (.slice A41 b2.length c41)) ⟨bT, 2, none⟩ (.slice A42 b3.length c42)) = lw3 at *
      clear hwS
      have lE3 := lh (lE0.out.tr ES.out)
      have szl3 := ES.out.size
      have lg_l3 := ES.out.cellE klg
      have lv_l3 := ES.out.cellE klv
      have lr_l3 := ES.out.cellE klr
      have lq_l3 := ES.out.cellE klq
      have pv_l3 := ES.out.cellE kpv
      have pr_l3 := ES.out.cellE kpr
      have pq_l3 := ES.out.cellE kpq
      have ov_l3 := ES.out.cellE kov
      have or_l3 := ES.out.cellE kor
      have oq_l3 := ES.out.cellE koq
      have nv_l3 := ES.out.cellE knv
      have nr_l3 := ES.out.cellE knr
      have nq_l3 := ES.out.cellE knq
      have xc_l3 := ES.out.cellE kxc
      have T0_l3 := B6.out.cell (j := 0) rfl
      have T1_l3 := B6.out.cell (j := 1) rfl
      have T2_l3 := B6.out.cell (j := 2) rfl
      have OZ3 := lh ((OwnZ.ext OZ.out (Ext.rfl' lw2)).mod M6.out (fun b hb e => by subst e; have h1 := OZ.out.lt hb; have := HBT.out; omega))
      have OL3 := lh ((OL.out.ext (Ext.rfl' lw2)).mod M6.out (fun b hb e => by subst e; have h1 := OL.out.lt hb; have := HBT.out; omega))
      have LZ3 := lh (show ∀ b, fpZ A40 A41 A42 z40 b → wr.heap.size ≤ b from fun b hb => by have := (OZ.out.lt hb).1; (try simp only [World.size_drew] at this); omega)
      have LL3 := lh (show ∀ b, blk A43 = some b → wr.heap.size ≤ b from fun b hb => by have := (OL.out.lt hb).1; (try simp only [World.size_drew] at this); omega)
      clear OZ OL
      clear lg_l2 lv_l2 lr_l2 lq_l2 pv_l2 pr_l2 pq_l2 ov_l2 or_l2 oq_l2 nv_l2 nr_l2 nq_l2 xc_l2 blg_l2 blv_l2 blr_l2 blq_l2 bpv_l2 bpr_l2 bpq_l2 bov_l2 bor_l2 boq_l2 bnv_l2 bnr_l2 bnq_l2 bxc_l2 fT0 xT0 fT1 xT1 fT2 xT2 klg klv klr klq kpv kpr kpq kov kor koq knv knr knq kxc
      have blg_l3 := blt lg_l3
      have blv_l3 := blt lv_l3
      have blr_l3 := blt lr_l3
      have blq_l3 := blt lq_l3
      have bpv_l3 := blt pv_l3
      have bpr_l3 := blt pr_l3
      have bpq_l3 := blt pq_l3
      have bov_l3 := blt ov_l3
      have bor_l3 := blt or_l3
      have boq_l3 := blt oq_l3
      have bnv_l3 := blt nv_l3
      have bnr_l3 := blt nr_l3
      have bnq_l3 := blt nq_l3
      have bxc_l3 := blt xc_l3
      have bT0_l3 := blt T0_l3
      have bT1_l3 := blt T1_l3
      have bT2_l3 := blt T2_l3
      refine ty 13 ?_
      refine ty 14 ?_
      refine dn ?_
      have X3 := lh (((Ext.rfl' wr).tr ES.out) : Ext wr lw3)
      have BB := lh (hB.out.ext X3.out)
      have g0 := BB.out.free 0
      have g1 := BB.out.free 1
      have g2 := BB.out.free 2
      have bl9 := BB.out.lt
      go_upto_region 15 with fail
      have M4 := lh (Mod.set3 lw3 (w6.heap.size) (.slice A40 b1.length c40) (.slice A41 b2.length c41) (.slice A42 b3.length c42))
      have B4 := lh (Bx.set3 BB.out (.slice A40 b1.length c40) (.slice A41 b2.length c41) (.slice A42 b3.length c42))
      generalize hw4 : (World.setCell (World.setCell (World.setCell lw3 ⟨w6.heap.size, 0, none⟩ (.slice A40 b1.length c40)) ⟨w6.heap.size, 1, none⟩ (.slice A41 b2.length c41)) ⟨w6.heap.size, 2, none⟩ (.slice A42 b3.length c42)) = w4 at *
      clear hw4 g0 g1 g2
      have z4 := M4.out.size
      have m4 : Mod (fun b => b = w6.heap.size) wr w4 := (Mod.of X3.out).tr' M4.out
      have AL4 := lh ((hF.out w4 m4).2.2.2)
      have L4 := lh ((OL3.out.mod M4.out (fun b hb e => by subst e; have := LL3.out _ hb; omega)).rd)
      clear m4
      go_wp2_with fail
      refine (l_join AL A43 cL c43 al l2 _ AL4.out L4.out hal9 hl2).mono ?_
      rintro e w5 ⟨A50, c50, rfl, hoj, he5⟩
      have OJ := lh hoj
      have E5 := lh he5
      clear hoj he5
      go_wp2
      go_roundw
      case rel =>
       refine ⟨n + 1, b1, b2, b3, al ++ l2, A40, c40, A41, c41, A42, c42, A50, c50, by omega, by go_num, by rw [List.length_append], HS2, lh (B4.out.ext E5.out), lh (fun X hX => ?_), lh ((Ext.md (hext.out.tr X3.out) M4.out (fun b e => by omega)).tr E5.out)⟩
       have mX : Mod (fun b => b = w6.heap.size) lw3 X := (M4.out.tr' (Mod.of E5.out)).tr' hX
       have zX := OZ3.out.mod mX (fun b hb e => by subst e; have := LZ3.out _ hb; omega)
       exact ⟨zX.v.rd, OwnL.rdLC zX.r SB.out.r SB.out.e, zX.q.rd, (OJ.out.mod hX (fun b hb e => by subst e; have := (OJ.out.lt hb).1; have := X3.out.size; omega)).rd⟩
      case measure => simp [intOf]; omega
     exact AllReadyH.nil
    ·skip
     obtain rfl : n = ns.length := by omega
     have e := hS.out
     rw [List.take_length, HWE.out] at e
     simp only [Sg.LR.mk.injEq, Sg.Lazy.mk.injEq] at e
     obtain ⟨⟨rfl, rfl, rfl⟩, rfl⟩ := e
     obtain ⟨f1, f2, f3, f4⟩ := hF.out _ (Mod.rfl' _ wr)
     have F1 := lh f1
     have F2 := lh f2
     have F3 := lh f3
     have F4 := lh f4
     clear f1 f2 f3 f4 hS hF hB
     have Hv2r := lh (Hv2.out.ext ((((((Ext.rfl' w2).tr U3.out).tr U4.out).tr U5.out).tr U6.out).tr hext.out))
     have Hr2r := lh (Hr2.out.ext ((((((Ext.rfl' w2).tr U3.out).tr U4.out).tr U5.out).tr U6.out).tr hext.out))
     have Hq2r := lh (Hq2.out.ext ((((((Ext.rfl' w2).tr U3.out).tr U4.out).tr U5.out).tr U6.out).tr hext.out))
     have Hn2r := lh (Hn2.out.ext ((((((Ext.rfl' w2).tr U3.out).tr U4.out).tr U5.out).tr U6.out).tr hext.out))
     go_wp2_with fail
     refine (l_equalLazy N1x A2 N2x A3 N3x A4 d1 c2 d2 c3 d3 c4 ov orr oq _ F1.out Hv2r.out F2.out.rdL Hr2r.out.rdL F3.out Hq2r.out).mono ?_
     rintro e lw1 ⟨rfl, lhe1⟩
     have lU1 := lh ((Ext.rfl' wr).tr lhe1)
     have lE1 := lh (lE0.out.tr lU1.out)
     have lg_l1 := lU1.out.cellE lg_r
     have lv_l1 := lU1.out.cellE lv_r
     have lr_l1 := lU1.out.cellE lr_r
     have lq_l1 := lU1.out.cellE lq_r
     have pv_l1 := lU1.out.cellE pv_r
     have pr_l1 := lU1.out.cellE pr_r
     have pq_l1 := lU1.out.cellE pq_r
     have ov_l1 := lU1.out.cellE ov_r
     have or_l1 := lU1.out.cellE or_r
     have oq_l1 := lU1.out.cellE oq_r
     have nv_l1 := lU1.out.cellE nv_r
     have nr_l1 := lU1.out.cellE nr_r
     have nq_l1 := lU1.out.cellE nq_r
     clear lhe1 lg_r lv_r lr_r lq_r pv_r pr_r pq_r ov_r or_r oq_r nv_r nr_r nq_r blg_r blv_r blr_r blq_r bpv_r bpr_r bpq_r bov_r bor_r boq_r bnv_r bnr_r bnq_r
     have blg_l1 := blt lg_l1
     have blv_l1 := blt lv_l1
     have blr_l1 := blt lr_l1
     have blq_l1 := blt lq_l1
     have bpv_l1 := blt pv_l1
     have bpr_l1 := blt pr_l1
     have bpq_l1 := blt pq_l1
     have bov_l1 := blt ov_l1
     have bor_l1 := blt or_l1
     have boq_l1 := blt oq_l1
     have bnv_l1 := blt nv_l1
     have bnr_l1 := blt nr_l1
     have bnq_l1 := blt nq_l1
     have szl1 := lU1.out.size
     have lX1_1 := lh ((Ext.rfl' wr).tr lU1.out)
     have lX1_2 := lh ((Ext.rfl' wr).tr lU1.out)
     go_wp2_with fail
     refine (l_equalInts AL A5 cL c5 rn _ (F4.out.ext lX1_1.out) (Hn2r.out.ext lX1_2.out)).mono ?_
     rintro e lw2 ⟨rfl, lhe2⟩
     have lU2 := lh ((Ext.rfl' lw1).tr lhe2)
     have lE2 := lh (lE1.out.tr lU2.out)
     have lg_l2 := lU2.out.cellE lg_l1
     have lv_l2 := lU2.out.cellE lv_l1
     have lr_l2 := lU2.out.cellE lr_l1
     have lq_l2 := lU2.out.cellE lq_l1
     have pv_l2 := lU2.out.cellE pv_l1
     have pr_l2 := lU2.out.cellE pr_l1
     have pq_l2 := lU2.out.cellE pq_l1
     have ov_l2 := lU2.out.cellE ov_l1
     have or_l2 := lU2.out.cellE or_l1
     have oq_l2 := lU2.out.cellE oq_l1
     have nv_l2 := lU2.out.cellE nv_l1
     have nr_l2 := lU2.out.cellE nr_l1
     have nq_l2 := lU2.out.cellE nq_l1
     clear lhe2 lg_l1 lv_l1 lr_l1 lq_l1 pv_l1 pr_l1 pq_l1 ov_l1 or_l1 oq_l1 nv_l1 nr_l1 nq_l1 blg_l1 blv_l1 blr_l1 blq_l1 bpv_l1 bpr_l1 bpq_l1 bov_l1 bor_l1 boq_l1 bnv_l1 bnr_l1 bnq_l1 lX1_1 lX1_2
     have blg_l2 := blt lg_l2
     have blv_l2 := blt lv_l2
     have blr_l2 := blt lr_l2
     have blq_l2 := blt lq_l2
     have bpv_l2 := blt pv_l2
     have bpr_l2 := blt pr_l2
     have bpq_l2 := blt pq_l2
     have bov_l2 := blt ov_l2
     have bor_l2 := blt or_l2
     have boq_l2 := blt oq_l2
     have bnv_l2 := blt nv_l2
     have bnr_l2 := blt nr_l2
     have bnq_l2 := blt nq_l2
     have szl2 := lU2.out.size
     have lX2_3 := lh (((Ext.rfl' wr).tr lU1.out).tr lU2.out)
     go_wp2_with fail
     refine (HND.out A5 c5 _ (Hn2r.out.ext lX2_3.out)).mono ?_
     rintro e lw3 ⟨rfl, lhe3⟩
     have lU3 := lh ((Ext.rfl' lw2).tr lhe3)
     have lE3 := lh (lE2.out.tr lU3.out)
     have lg_l3 := lU3.out.cellE lg_l2
     have lv_l3 := lU3.out.cellE lv_l2
     have lr_l3 := lU3.out.cellE lr_l2
     have lq_l3 := lU3.out.cellE lq_l2
     have pv_l3 := lU3.out.cellE pv_l2
     have pr_l3 := lU3.out.cellE pr_l2
     have pq_l3 := lU3.out.cellE pq_l2
     have ov_l3 := lU3.out.cellE ov_l2
     have or_l3 := lU3.out.cellE or_l2
     have oq_l3 := lU3.out.cellE oq_l2
     have nv_l3 := lU3.out.cellE nv_l2
     have nr_l3 := lU3.out.cellE nr_l2
     have nq_l3 := lU3.out.cellE nq_l2
     clear lhe3 lg_l2 lv_l2 lr_l2 lq_l2 pv_l2 pr_l2 pq_l2 ov_l2 or_l2 oq_l2 nv_l2 nr_l2 nq_l2 blg_l2 blv_l2 blr_l2 blq_l2 bpv_l2 bpr_l2 bpq_l2 bov_l2 bor_l2 boq_l2 bnv_l2 bnr_l2 bnq_l2 lX2_3
     have blg_l3 := blt lg_l3
     have blv_l3 := blt lv_l3
     have blr_l3 := blt lr_l3
     have blq_l3 := blt lq_l3
     have bpv_l3 := blt pv_l3
     have bpr_l3 := blt pr_l3
     have bpq_l3 := blt pq_l3
     have bov_l3 := blt ov_l3
     have bor_l3 := blt or_l3
     have boq_l3 := blt oq_l3
     have bnv_l3 := blt nv_l3
     have bnr_l3 := blt nr_l3
     have bnq_l3 := blt nq_l3
     have szl3 := lU3.out.size
     go_wp2
     go_ret
     exact ⟨rfl, (E6.out.tr hext.out).tr lE3.out⟩
  ·skip
   have z1 : ((ov.length : Int) == (v.length : Int)) = false := by rw [beq_eq_false_iff_ne]; omega
   clear hl hE
   have X6_8 := lh (((((Ext.rfl' w2).tr U3.out).tr U4.out).tr U5.out).tr U6.out)
   have X6_9 := lh ((((Ext.rfl' w3).tr U4.out).tr U5.out).tr U6.out)
   go_wp2_with fail
   refine (l_equalLazy A2 A6 A3 A7 A4 A8 c2 c6 c3 c7 c4 c8 ov orr oq _ (Hv2.out.ext X6_8.out) (Hv6.out.ext X6_9.out) (Hr2.out.ext X6_8.out).rdL (Hr6.out.ext X6_9.out).rdL (Hq2.out.ext X6_8.out) (Hq6.out.ext X6_9.out)).mono ?_
   rintro e w7 ⟨rfl, he7⟩
   have U7 := lh ((Ext.rfl' w6).tr he7)
   have E7 := lh (E6.out.tr U7.out)
   have lg_7 := U7.out.cellE lg_6
   have lv_7 := U7.out.cellE lv_6
   have lr_7 := U7.out.cellE lr_6
   have lq_7 := U7.out.cellE lq_6
   have pv_7 := U7.out.cellE pv_6
   have pr_7 := U7.out.cellE pr_6
   have pq_7 := U7.out.cellE pq_6
   have ov_7 := U7.out.cellE ov_6
   have or_7 := U7.out.cellE or_6
   have oq_7 := U7.out.cellE oq_6
   clear he7 lg_6 lv_6 lr_6 lq_6 pv_6 pr_6 pq_6 ov_6 or_6 oq_6 blg_6 blv_6 blr_6 blq_6 bpv_6 bpr_6 bpq_6 bov_6 bor_6 boq_6 X6_8 X6_9
   have blg_7 := blt lg_7
   have blv_7 := blt lv_7
   have blr_7 := blt lr_7
   have blq_7 := blt lq_7
   have bpv_7 := blt pv_7
   have bpr_7 := blt pr_7
   have bpq_7 := blt pq_7
   have bov_7 := blt ov_7
   have bor_7 := blt or_7
   have boq_7 := blt oq_7
   have sz7 := U7.out.size
   have X7_10 := lh ((((((Ext.rfl' w2).tr U3.out).tr U4.out).tr U5.out).tr U6.out).tr U7.out)
   have X7_11 := lh (((((Ext.rfl' w3).tr U4.out).tr U5.out).tr U6.out).tr U7.out)
   go_wp2_with fail
   refine (l_equalInts A5 A9 c5 c9 rn _ (Hn2.out.ext X7_10.out) (Hn6.out.ext X7_11.out)).mono ?_
   rintro e w8 ⟨rfl, he8⟩
   have U8 := lh ((Ext.rfl' w7).tr he8)
   have E8 := lh (E7.out.tr U8.out)
   have lg_8 := U8.out.cellE lg_7
   have lv_8 := U8.out.cellE lv_7
   have lr_8 := U8.out.cellE lr_7
   have lq_8 := U8.out.cellE lq_7
   have pv_8 := U8.out.cellE pv_7
   have pr_8 := U8.out.cellE pr_7
   have pq_8 := U8.out.cellE pq_7
   have ov_8 := U8.out.cellE ov_7
   have or_8 := U8.out.cellE or_7
   have oq_8 := U8.out.cellE oq_7
   clear he8 lg_7 lv_7 lr_7 lq_7 pv_7 pr_7 pq_7 ov_7 or_7 oq_7 blg_7 blv_7 blr_7 blq_7 bpv_7 bpr_7 bpq_7 bov_7 bor_7 boq_7 X7_10 X7_11
   have blg_8 := blt lg_8
   have blv_8 := blt lv_8
   have blr_8 := blt lr_8
   have blq_8 := blt lq_8
   have bpv_8 := blt pv_8
   have bpr_8 := blt pr_8
   have bpq_8 := blt pq_8
   have bov_8 := blt ov_8
   have bor_8 := blt or_8
   have boq_8 := blt oq_8
   have sz8 := U8.out.size
   go_wp2
   go_ret
   exact ⟨rfl, E8.out⟩
end Go.Proofs.YtmkfjnkdaeoppaaGreat
