/- FnWriteLazy: the law's walk. Conditions: the code can be read. -/
import Derived.Test.YtmkfjnkdaeoppaaGreatTy
import Derived.Test.YtmkfjnkdaeoppaaGreatDrawW
import Derived.Test.YtmkfjnkdaeoppaaGreatLazThree
import Derived.Test.YtmkfjnkdaeoppaaGreatImplA1
import Derived.Test.YtmkfjnkdaeoppaaGreatMeanAll
import Derived.Test.YtmkfjnkdaeoppaaGreatPlAll
import Derived.Test.YtmkfjnkdaeoppaaGreatEqAll
import Derived.Test.YtmkfjnkdaeoppaaGreatImplVW
namespace Go.Proofs.YtmkfjnkdaeoppaaGreat
open Go.RowKit
theorem l_isInY (A : Option Addr) (c : Nat) (l : List Int) (n : Int) (hin : n ∈ l) (w : World) (h : Rd w 1 A l.length (ints l)) : Calls Tryz.prog 22 #[.slice A l.length c, .int .i64 n] w fun e w' => e = .returned (.bool true) ∧ Ext w w' := by
 have := l_isInB A c l n w h
 rw [decide_eq_true hin] at this
 exact this
theorem l_isInN (A : Option Addr) (c : Nat) (l : List Int) (n : Int) (hin : n ∉ l) (w : World) (h : Rd w 1 A l.length (ints l)) : Calls Tryz.prog 22 #[.slice A l.length c, .int .i64 n] w fun e w' => e = .returned (.bool false) ∧ Ext w w' := by
 have := l_isInB A c l n w h
 rw [decide_eq_false hin] at this
 exact this

set_option maxRecDepth 100000 in
set_option maxHeartbeats 8000000 in
theorem ex_FnWriteLazy (A : Option Addr) (c : Nat) (l : List Int) (w : World) (h : Rd w 1 A l.length (u8s l)) (hr : ∀ x ∈ l, 0 ≤ x ∧ x ≤ 255) (hc : l.length ≤ c) (hcm : c ≤ maxLen) :
  Calls Tryz.prog 11 #[.slice A l.length c] w fun e w' => e = .returned (.bool true) ∧ Ext w w' := by
 have hbig := h.big
 have HD := lh (s_DrawWriteLazy A c l w h hr hc hcm)
 clear h hr hc hcm
 by_cases hb : 1048576 < l.length
 ·have hb2 : (1048576 : Int) < (l.length : Int) := by omega
  go_enter Tryz.func11, Tryz.ntmps11
  go_wp2
  go_ret
  exact ⟨rfl, Ext.rfl' _⟩
 have hb2 : ¬ (1048576 : Int) < (l.length : Int) := by omega
 clear hb
 have E0 := lh ((Ext.rfl' w) : Ext w w)
 go_enter Tryz.func11, Tryz.ntmps11
 go_wp2_with fail
 refine (HD.out).mono ?_
 rintro e w1 ⟨g, Ag, cg, v, Av, cv, r, Ar, cr, q, Aq, cq, kn, xv, rfl, hg2, hg10, hvl, hrl, hql, hN, hV, hR, hQ, he1⟩
 have H1 := lh hN
 have V1 := lh hV
 have R1 := lh hR
 have Q1 := lh hQ
 have hvl9 : v.length ≤ 1048576 := by omega
 have hql9 : q.length ≤ 1048576 := by omega
 clear hN hV hR hQ HD
 have U1 := lh ((Ext.rfl' w).tr he1)
 have E1 := lh (E0.out.tr U1.out)
 clear he1 
 have sz1 := U1.out.size
 have hsm := writeLO_smallQ g ⟨v, r, q⟩ kn xv
 obtain ⟨⟨⟨ov, orr, oq⟩, b⟩, hW⟩ : ∃ p, Sg.writeLO g ⟨v, r, q⟩ kn xv = p := ⟨_, rfl⟩
 rw [hW] at hsm
 have SM := lh (show SmallZ ⟨ov, orr, oq⟩ from hsm)
 clear hsm
 have HI := lh (fun w h hv hr hq => by have := i_WriteLazy Ag Av Ar Aq cg cv cr cq g v q r kn xv w h hv hr hq hvl9 hql9; rw [hW] at this; exact this)
 have HS := lh (fun w h hv hr hq => by have := s_WriteLazy Ag Av Ar Aq cg cv cr cq g v q r kn xv w h hv hr hq hvl9 hql9; rw [hW] at this; exact this)
 have HW := lh hW
 clear hW
 have X1_1 := lh (Ext.al (Ext.al (Ext.rfl' w1) (.cells #[.slice Ag g.length cg] 25)) (.cells #[.slice Av v.length cv, .slice Ar r.length cr, .slice Aq q.length cq] 29))
 go_wp2_with fail
 refine (HI.out _ (H1.out.ext X1_1.out) (V1.out.ext X1_1.out) (R1.out.ext X1_1.out) (Q1.out.ext X1_1.out)).mono ?_
 rintro e w2 ⟨A2, c2, A3, c3, A4, c4, z2, rfl, hoz, he2⟩
 have Hv2 := lh hoz.v.rd
 have Hr2 := lh (OwnL.rdLC hoz.r SM.out.r SM.out.e)
 have Hq2 := lh hoz.q.rd
 clear hoz
 have U2 := lh ((Ext.al (Ext.al (Ext.rfl' w1) (.cells #[.slice Ag g.length cg] 25)) (.cells #[.slice Av v.length cv, .slice Ar r.length cr, .slice Aq q.length cq] 29)).tr he2)
 have E2 := lh (E1.out.tr U2.out)
 have lg_2 := he2.cellE (show World.cell? (World.alloc (World.alloc w1 (.cells #[.slice Ag g.length cg] 25)) (.cells #[.slice Av v.length cv, .slice Ar r.length cr, .slice Aq q.length cq] 29)) ⟨w1.heap.size, 0, none⟩ = some (.slice Ag g.length cg) by simp [go_sem])
 have lv_2 := he2.cellE (show World.cell? (World.alloc (World.alloc w1 (.cells #[.slice Ag g.length cg] 25)) (.cells #[.slice Av v.length cv, .slice Ar r.length cr, .slice Aq q.length cq] 29)) ⟨w1.heap.size + 1, 0, none⟩ = some (.slice Av v.length cv) by simp [go_sem])
 have lr_2 := he2.cellE (show World.cell? (World.alloc (World.alloc w1 (.cells #[.slice Ag g.length cg] 25)) (.cells #[.slice Av v.length cv, .slice Ar r.length cr, .slice Aq q.length cq] 29)) ⟨w1.heap.size + 1, 1, none⟩ = some (.slice Ar r.length cr) by simp [go_sem])
 have lq_2 := he2.cellE (show World.cell? (World.alloc (World.alloc w1 (.cells #[.slice Ag g.length cg] 25)) (.cells #[.slice Av v.length cv, .slice Ar r.length cr, .slice Aq q.length cq] 29)) ⟨w1.heap.size + 1, 2, none⟩ = some (.slice Aq q.length cq) by simp [go_sem])
 clear he2 X1_1
 have blg_2 := blt lg_2
 have blv_2 := blt lv_2
 have blr_2 := blt lr_2
 have blq_2 := blt lq_2
 have sz2 := U2.out.size
 have X2_2 := lh (Ext.al ((Ext.rfl' w1).tr U2.out) (.cells #[.slice A2 ov.length c2, .slice A3 orr.length c3, .slice A4 oq.length c4] 29))
 go_wp2_with fail
 refine (HS.out _ (H1.out.ext X2_2.out) (V1.out.ext X2_2.out) (R1.out.ext X2_2.out) (Q1.out.ext X2_2.out)).mono ?_
 rintro e w3 ⟨A6, c6, A7, c7, A8, c8, z6, rfl, hoz, he3⟩
 have Hv6 := lh hoz.v.rd
 have Hr6 := lh (OwnL.rdLC hoz.r SM.out.r SM.out.e)
 have Hq6 := lh hoz.q.rd
 clear hoz
 have U3 := lh ((Ext.al (Ext.rfl' w2) (.cells #[.slice A2 ov.length c2, .slice A3 orr.length c3, .slice A4 oq.length c4] 29)).tr he3)
 have E3 := lh (E2.out.tr U3.out)
 have lg_3 := U3.out.cellE lg_2
 have lv_3 := U3.out.cellE lv_2
 have lr_3 := U3.out.cellE lr_2
 have lq_3 := U3.out.cellE lq_2
 have pv_3 := he3.cellE (show World.cell? (World.alloc w2 (.cells #[.slice A2 ov.length c2, .slice A3 orr.length c3, .slice A4 oq.length c4] 29)) ⟨w2.heap.size, 0, none⟩ = some (.slice A2 ov.length c2) by simp [go_sem])
 have pr_3 := he3.cellE (show World.cell? (World.alloc w2 (.cells #[.slice A2 ov.length c2, .slice A3 orr.length c3, .slice A4 oq.length c4] 29)) ⟨w2.heap.size, 1, none⟩ = some (.slice A3 orr.length c3) by simp [go_sem])
 have pq_3 := he3.cellE (show World.cell? (World.alloc w2 (.cells #[.slice A2 ov.length c2, .slice A3 orr.length c3, .slice A4 oq.length c4] 29)) ⟨w2.heap.size, 2, none⟩ = some (.slice A4 oq.length c4) by simp [go_sem])
 clear he3 lg_2 lv_2 lr_2 lq_2 blg_2 blv_2 blr_2 blq_2 X2_2
 have blg_3 := blt lg_3
 have blv_3 := blt lv_3
 have blr_3 := blt lr_3
 have blq_3 := blt lq_3
 have bpv_3 := blt pv_3
 have bpr_3 := blt pr_3
 have bpq_3 := blt pq_3
 have sz3 := U3.out.size
 have X3_3 := lh (Ext.al ((Ext.rfl' w2).tr U3.out) (.cells #[.slice A6 ov.length c6, .slice A7 orr.length c7, .slice A8 oq.length c8] 29))
 have X3_4 := lh (Ext.al (Ext.rfl' w3) (.cells #[.slice A6 ov.length c6, .slice A7 orr.length c7, .slice A8 oq.length c8] 29))
 go_wp2_with fail
 refine (l_equalLazy A2 A6 A3 A7 A4 A8 c2 c6 c3 c7 c4 c8 ov orr oq _ (Hv2.out.ext X3_3.out) (Hv6.out.ext X3_4.out) (Hr2.out.ext X3_3.out).rdL (Hr6.out.ext X3_4.out).rdL (Hq2.out.ext X3_3.out) (Hq6.out.ext X3_4.out)).mono ?_
 rintro e w4 ⟨rfl, he4⟩
 have U4 := lh ((Ext.al (Ext.rfl' w3) (.cells #[.slice A6 ov.length c6, .slice A7 orr.length c7, .slice A8 oq.length c8] 29)).tr he4)
 have E4 := lh (E3.out.tr U4.out)
 have lg_4 := U4.out.cellE lg_3
 have lv_4 := U4.out.cellE lv_3
 have lr_4 := U4.out.cellE lr_3
 have lq_4 := U4.out.cellE lq_3
 have pv_4 := U4.out.cellE pv_3
 have pr_4 := U4.out.cellE pr_3
 have pq_4 := U4.out.cellE pq_3
 have ov_4 := he4.cellE (show World.cell? (World.alloc w3 (.cells #[.slice A6 ov.length c6, .slice A7 orr.length c7, .slice A8 oq.length c8] 29)) ⟨w3.heap.size, 0, none⟩ = some (.slice A6 ov.length c6) by simp [go_sem])
 have or_4 := he4.cellE (show World.cell? (World.alloc w3 (.cells #[.slice A6 ov.length c6, .slice A7 orr.length c7, .slice A8 oq.length c8] 29)) ⟨w3.heap.size, 1, none⟩ = some (.slice A7 orr.length c7) by simp [go_sem])
 have oq_4 := he4.cellE (show World.cell? (World.alloc w3 (.cells #[.slice A6 ov.length c6, .slice A7 orr.length c7, .slice A8 oq.length c8] 29)) ⟨w3.heap.size, 2, none⟩ = some (.slice A8 oq.length c8) by simp [go_sem])
 clear he4 lg_3 lv_3 lr_3 lq_3 pv_3 pr_3 pq_3 blg_3 blv_3 blr_3 blq_3 bpv_3 bpr_3 bpq_3 X3_3 X3_4
 have blg_4 := blt lg_4
 have blv_4 := blt lv_4
 have blr_4 := blt lr_4
 have blq_4 := blt lq_4
 have bpv_4 := blt pv_4
 have bpr_4 := blt pr_4
 have bpq_4 := blt pq_4
 have bov_4 := blt ov_4
 have bor_4 := blt or_4
 have boq_4 := blt oq_4
 have sz4 := U4.out.size
 have zx : (b != b) = false := by simp
 have zy : (b == b) = true := by simp
 cases b
 ·skip
  have X4_5 := lh (((Ext.rfl' w2).tr U3.out).tr U4.out)
  have X4_6 := lh ((Ext.rfl' w3).tr U4.out)
  go_wp2_with fail
  refine (l_equalLazy A2 A6 A3 A7 A4 A8 c2 c6 c3 c7 c4 c8 ov orr oq _ (Hv2.out.ext X4_5.out) (Hv6.out.ext X4_6.out) (Hr2.out.ext X4_5.out).rdL (Hr6.out.ext X4_6.out).rdL (Hq2.out.ext X4_5.out) (Hq6.out.ext X4_6.out)).mono ?_
  rintro e w5 ⟨rfl, he5⟩
  have U5 := lh ((Ext.rfl' w4).tr he5)
  have E5 := lh (E4.out.tr U5.out)
  have lg_5 := U5.out.cellE lg_4
  have lv_5 := U5.out.cellE lv_4
  have lr_5 := U5.out.cellE lr_4
  have lq_5 := U5.out.cellE lq_4
  have pv_5 := U5.out.cellE pv_4
  have pr_5 := U5.out.cellE pr_4
  have pq_5 := U5.out.cellE pq_4
  have ov_5 := U5.out.cellE ov_4
  have or_5 := U5.out.cellE or_4
  have oq_5 := U5.out.cellE oq_4
  clear he5 lg_4 lv_4 lr_4 lq_4 pv_4 pr_4 pq_4 ov_4 or_4 oq_4 blg_4 blv_4 blr_4 blq_4 bpv_4 bpr_4 bpq_4 bov_4 bor_4 boq_4 X4_5 X4_6
  have blg_5 := blt lg_5
  have blv_5 := blt lv_5
  have blr_5 := blt lr_5
  have blq_5 := blt lq_5
  have bpv_5 := blt pv_5
  have bpr_5 := blt pr_5
  have bpq_5 := blt pq_5
  have bov_5 := blt ov_5
  have bor_5 := blt or_5
  have boq_5 := blt oq_5
  have sz5 := U5.out.size
  go_wp2
  go_ret
  exact ⟨rfl, E5.out⟩
 ·skip
  have hW := HW.out
  have hm : Sg.mayWriteL g ⟨v, r, q⟩ kn xv = true := by cases hm : Sg.mayWriteL g ⟨v, r, q⟩ kn xv; unfold Sg.writeLO at hW; rw [hm] at hW; exact absurd (congrArg Prod.snd hW) (by simp); rfl
  obtain ⟨hE, -, -, k0, rfl, hk0⟩ := Sg.write_parts hm
  have hWe : Sg.writeL ⟨v, r, q⟩ (k0 : Int).toNat xv = ⟨ov, orr, oq⟩ := by unfold Sg.writeLO at hW; rw [if_pos hm] at hW; exact congrArg Prod.fst hW
  have hovl9 : ov.length ≤ 1048576 := SM.out.v
  have hoql9 : oq.length ≤ 1048576 := SM.out.q
  obtain ⟨l1, l2, l3, l4⟩ := Sg.write_law hm
  rw [hWe] at l1 l2 l3 l4
  rw [Int.toNat_natCast] at l2
  dsimp only at l2 l4
  have hG := (Sg.validL_shape l1).1
  have hC : Sg.validC g (Sg.cellsOf g ov) = true := Sg.lazy_cellsC l1
  have hol : ov.length = g.length := (Sg.validL_shape l1).2.1
  have hlc : Sg.lazyCells g ⟨ov, orr, oq⟩ = Sg.cellsOf g ov := by unfold Sg.lazyCells; rw [if_pos l1]
  obtain ⟨cl, hcl0⟩ : ∃ cl, cl = Sg.cellsOf g ov := ⟨_, rfl⟩
  rw [← hcl0] at hlc hC l4
  obtain ⟨mn, hmn0⟩ : ∃ mn, mn = Sg.mean g cl := ⟨_, rfl⟩
  have hml : mn.length = g.length := by rw [hmn0, Sg.length_mean]
  rw [← hmn0] at l4
  obtain ⟨so, hso0⟩ : ∃ so, so = Sg.staleOf g ⟨ov, orr, oq⟩ := ⟨_, rfl⟩
  rw [← hso0] at l3 l4
  obtain ⟨sp, hsp0⟩ : ∃ sp, sp = Sg.staleOf g ⟨v, r, q⟩ := ⟨_, rfl⟩
  rw [← hsp0] at l3
  have HLC := lh (fun w h hv hr hq => by have := i_LazyCells Ag A2 A3 A4 cg c2 c3 c4 g ov oq orr w h hv hr hq hovl9 hoql9; rw [hlc] at this; exact this)
  have HME := lh (fun A2 c2 w h hc => by have := i_MeaningOf Ag A2 cg c2 g cl w h hc hG hC; rw [← hmn0, hml] at this; exact this)
  have HVO := lh (fun w h hv hr hq => by have := i_ValidLazy Ag A2 A3 A4 cg c2 c3 c4 g ov oq orr w h hv hr hq hovl9 hoql9; rw [l1] at this; exact this)
  have HSO := lh (fun w h hv hr hq => by have := i_StaleOf Ag A2 A3 A4 cg c2 c3 c4 g ov oq orr w h hv hr hq hovl9 hoql9; rw [← hso0] at this; exact this)
  have HSP := lh (fun w h hv hr hq => by have := i_StaleOf Ag Av Ar Aq cg cv cr cq g v q r w h hv hr hq hvl9 hql9; rw [← hsp0] at this; exact this)
  have HWI := lh (fun A B ca cb w h k => l_within A B ca cb sp so w h k l3)
  have L2 := lh l2
  have L4 := lh l4
  have HML := lh hml
  have HOL := lh hol
  clear l1 l2 l3 l4 hG hC hol hlc hcl0 hmn0 hml hso0 hsp0 hWe hm hW hE
  go_wp2_with fail
  refine wp_region_held_drew (S := (fun W => W.cell? ⟨w1.heap.size, 0, none⟩ = some (.slice Ag g.length cg) ∧ W.cell? ⟨w1.heap.size + 1, 0, none⟩ = some (.slice Av v.length cv) ∧ W.cell? ⟨w1.heap.size + 1, 1, none⟩ = some (.slice Ar r.length cr) ∧ W.cell? ⟨w1.heap.size + 1, 2, none⟩ = some (.slice Aq q.length cq) ∧ W.cell? ⟨w2.heap.size, 0, none⟩ = some (.slice A2 ov.length c2) ∧ W.cell? ⟨w2.heap.size, 1, none⟩ = some (.slice A3 orr.length c3) ∧ W.cell? ⟨w2.heap.size, 2, none⟩ = some (.slice A4 oq.length c4))) (by kernel_rfl) ?_ (fun hHeld => ?_)
  ·exact ⟨((Ext.rfl' _).dr).cellE lg_4, ((Ext.rfl' _).dr).cellE lv_4, ((Ext.rfl' _).dr).cellE lr_4, ((Ext.rfl' _).dr).cellE lq_4, ((Ext.rfl' _).dr).cellE pv_4, ((Ext.rfl' _).dr).cellE pr_4, ((Ext.rfl' _).dr).cellE pq_4⟩
  refine ty 0 ?_
  refine ty 1 ?_
  refine ty 2 ?_
  refine rd1 3 rfl fun K hK => ?_
  go_simp
  have X4_5 := lh (((((Ext.rfl' w1).tr U2.out).tr U3.out).tr U4.out).dr)
  have X4_6 := lh ((((Ext.rfl' w2).tr U3.out).tr U4.out).dr)
  refine (HLC.out _ (H1.out.ext X4_5.out) (Hv2.out.ext X4_6.out) (Hr2.out.ext X4_6.out) (Hq2.out.ext X4_6.out)).mono ?_
  rintro e w5 ⟨A10, c10, rfl, hoc, he5⟩
  have Hc10 := lh hoc.rd
  clear hoc
  have U5 := lh (((Ext.rfl' w4).dr).tr he5)
  have E5 := lh (E4.out.tr U5.out)
  have lg_5 := U5.out.cellE lg_4
  have lv_5 := U5.out.cellE lv_4
  have lr_5 := U5.out.cellE lr_4
  have lq_5 := U5.out.cellE lq_4
  have pv_5 := U5.out.cellE pv_4
  have pr_5 := U5.out.cellE pr_4
  have pq_5 := U5.out.cellE pq_4
  have ov_5 := U5.out.cellE ov_4
  have or_5 := U5.out.cellE or_4
  have oq_5 := U5.out.cellE oq_4
  clear he5 lg_4 lv_4 lr_4 lq_4 pv_4 pr_4 pq_4 ov_4 or_4 oq_4 blg_4 blv_4 blr_4 blq_4 bpv_4 bpr_4 bpq_4 bov_4 bor_4 boq_4 X4_5 X4_6
  have blg_5 := blt lg_5
  have blv_5 := blt lv_5
  have blr_5 := blt lr_5
  have blq_5 := blt lq_5
  have bpv_5 := blt pv_5
  have bpr_5 := blt pr_5
  have bpq_5 := blt pq_5
  have bov_5 := blt ov_5
  have bor_5 := blt or_5
  have boq_5 := blt oq_5
  have sz5 := U5.out.size
  try go_wp2_with fail
  refine hK.out _ _ (by exact ⟨lg_5, lv_5, lr_5, lq_5, pv_5, pr_5, pq_5⟩) fun hh2 => ?_; clear hK K hHeld; have hHeld := hh2; clear hh2
  try simp only [Act.put, pu]
  refine rd1 4 rfl fun K hK => ?_
  go_simp
  have X5_7 := lh (((((Ext.rfl' w1).tr U2.out).tr U3.out).tr U4.out).tr U5.out)
  refine (HME.out A10 c10 _ (H1.out.ext X5_7.out) Hc10.out).mono ?_
  rintro e w6 ⟨A11, rfl, hom, he6⟩
  have Hm11 := lh (show Rd _ 1 A11 mn.length (ints mn) by have := hom.rd; rw [HML.out]; exact this)
  clear hom
  have U6 := lh ((Ext.rfl' w5).tr he6)
  have E6 := lh (E5.out.tr U6.out)
  have lg_6 := U6.out.cellE lg_5
  have lv_6 := U6.out.cellE lv_5
  have lr_6 := U6.out.cellE lr_5
  have lq_6 := U6.out.cellE lq_5
  have pv_6 := U6.out.cellE pv_5
  have pr_6 := U6.out.cellE pr_5
  have pq_6 := U6.out.cellE pq_5
  have ov_6 := U6.out.cellE ov_5
  have or_6 := U6.out.cellE or_5
  have oq_6 := U6.out.cellE oq_5
  clear he6 lg_5 lv_5 lr_5 lq_5 pv_5 pr_5 pq_5 ov_5 or_5 oq_5 blg_5 blv_5 blr_5 blq_5 bpv_5 bpr_5 bpq_5 bov_5 bor_5 boq_5 X5_7
  have blg_6 := blt lg_6
  have blv_6 := blt lv_6
  have blr_6 := blt lr_6
  have blq_6 := blt lq_6
  have bpv_6 := blt pv_6
  have bpr_6 := blt pr_6
  have bpq_6 := blt pq_6
  have bov_6 := blt ov_6
  have bor_6 := blt or_6
  have boq_6 := blt oq_6
  have sz6 := U6.out.size
  try go_wp2_with fail
  refine hK.out _ _ (by exact ⟨lg_6, lv_6, lr_6, lq_6, pv_6, pr_6, pq_6⟩) fun hh2 => ?_; clear hK K hHeld; have hHeld := hh2; clear hh2
  try simp only [Act.put, pu]
  refine ty 5 ?_
  refine dn ?_
  have X6_8 := lh ((((((Ext.rfl' w1).tr U2.out).tr U3.out).tr U4.out).tr U5.out).tr U6.out)
  have X6_9 := lh (((((Ext.rfl' w2).tr U3.out).tr U4.out).tr U5.out).tr U6.out)
  go_wp2_with fail
  refine (HSO.out _ (H1.out.ext X6_8.out) (Hv2.out.ext X6_9.out) (Hr2.out.ext X6_9.out) (Hq2.out.ext X6_9.out)).mono ?_
  rintro e w7 ⟨A12, c12, rfl, hos, he7⟩
  have Hs12 := lh hos.rd
  clear hos
  have U7 := lh ((Ext.rfl' w6).tr he7)
  have E7 := lh (E6.out.tr U7.out)
  have lg_7 := U7.out.cellE lg_6
  have lv_7 := U7.out.cellE lv_6
  have lr_7 := U7.out.cellE lr_6
  have lq_7 := U7.out.cellE lq_6
  have pv_7 := U7.out.cellE pv_6
  have pr_7 := U7.out.cellE pr_6
  have pq_7 := U7.out.cellE pq_6
  have ov_7 := U7.out.cellE ov_6
  have or_7 := U7.out.cellE or_6
  have oq_7 := U7.out.cellE oq_6
  clear he7 lg_6 lv_6 lr_6 lq_6 pv_6 pr_6 pq_6 ov_6 or_6 oq_6 blg_6 blv_6 blr_6 blq_6 bpv_6 bpr_6 bpq_6 bov_6 bor_6 boq_6 X6_8 X6_9
  have blg_7 := blt lg_7
  have blv_7 := blt lv_7
  have blr_7 := blt lr_7
  have blq_7 := blt lq_7
  have bpv_7 := blt pv_7
  have bpr_7 := blt pr_7
  have bpq_7 := blt pq_7
  have bov_7 := blt ov_7
  have bor_7 := blt or_7
  have boq_7 := blt oq_7
  have sz7 := U7.out.size
  go_wp2_with fail
  go_loopw [13] (fun s13 wr => ∃ n : Nat, n ≤ g.length ∧ s13 = .int .i64 n ∧ Hid (Ext w7 wr)) (fun s13 _ => g.length - (intOf s13).toNat)
  case atStart => exact ⟨0, Nat.zero_le _, rfl, lh (Ext.rfl' _)⟩
  case round =>
   obtain ⟨n, hn, rfl, hext⟩ := hrel
   have lE0 := lh (Ext.rfl' wr)
   have lg_r := hext.out.cellE lg_7
   have blg_r := blt lg_r
   have lv_r := hext.out.cellE lv_7
   have blv_r := blt lv_r
   have lr_r := hext.out.cellE lr_7
   have blr_r := blt lr_r
   have lq_r := hext.out.cellE lq_7
   have blq_r := blt lq_r
   have pv_r := hext.out.cellE pv_7
   have bpv_r := blt pv_r
   have pr_r := hext.out.cellE pr_7
   have bpr_r := blt pr_r
   have pq_r := hext.out.cellE pq_7
   have bpq_r := blt pq_r
   have ov_r := hext.out.cellE ov_7
   have bov_r := blt ov_r
   have or_r := hext.out.cellE or_7
   have bor_r := blt or_r
   have oq_r := hext.out.cellE oq_7
   have boq_r := blt oq_r
   clear lg_7 lv_7 lr_7 lq_7 pv_7 pr_7 pq_7 ov_7 or_7 oq_7 blg_7 blv_7 blr_7 blq_7 bpv_7 bpr_7 bpq_7 bov_7 bor_7 boq_7
   have H1r := lh (H1.out.ext ((((((((Ext.rfl' w1).tr U2.out).tr U3.out).tr U4.out).tr U5.out).tr U6.out).tr U7.out).tr hext.out))
   have V1r := lh (V1.out.ext ((((((((Ext.rfl' w1).tr U2.out).tr U3.out).tr U4.out).tr U5.out).tr U6.out).tr U7.out).tr hext.out))
   have R1r := lh (R1.out.ext ((((((((Ext.rfl' w1).tr U2.out).tr U3.out).tr U4.out).tr U5.out).tr U6.out).tr U7.out).tr hext.out))
   have Q1r := lh (Q1.out.ext ((((((((Ext.rfl' w1).tr U2.out).tr U3.out).tr U4.out).tr U5.out).tr U6.out).tr U7.out).tr hext.out))
   have Hv2r := lh (Hv2.out.ext (((((((Ext.rfl' w2).tr U3.out).tr U4.out).tr U5.out).tr U6.out).tr U7.out).tr hext.out))
   have Hr2r := lh (Hr2.out.ext (((((((Ext.rfl' w2).tr U3.out).tr U4.out).tr U5.out).tr U6.out).tr U7.out).tr hext.out))
   have Hq2r := lh (Hq2.out.ext (((((((Ext.rfl' w2).tr U3.out).tr U4.out).tr U5.out).tr U6.out).tr U7.out).tr hext.out))
   have Hm11r := lh (Hm11.out.ext (((Ext.rfl' w6).tr U7.out).tr hext.out))
   have Hs12r := lh (Hs12.out.ext ((Ext.rfl' w7).tr hext.out))
   by_cases hlt : n < g.length
   ·skip
    have hno : n < ov.length := by rw [HOL.out]; exact hlt
    have hnm : n < mn.length := by rw [HML.out]; exact hlt
    obtain ⟨bo, oo, y, rfl, hy, hcy⟩ := Hv2r.out.at1 hno
    obtain ⟨bm, om, z, rfl, hz, hcz⟩ := Hm11r.out.at1 hnm
    have bhcy := blt hcy
    have bhcz := blt hcz
    have l5 := lh (show (n : Int) ∉ so → y = z by have l4 := L4.out n hlt; rw [List.getD_eq_getElem?_getD, List.getD_eq_getElem?_getD, hy, hz] at l4; exact l4)
    clear hy hz
    by_cases hmm : (n : Int) ∈ so
    ·skip
     have HB := lh (l_isInY A12 c12 so (n : Int) hmm)
     clear hmm l5
     go_wp2_with fail
     refine wp_region_held_drew (S := (fun W => W.cell? ⟨w2.heap.size, 0, none⟩ = some (.slice (some ⟨bo, oo, none⟩) ov.length c2) ∧ W.cell? ⟨bo, oo + n, none⟩ = some (.int .i64 y) ∧ W.cell? ⟨bm, om + n, none⟩ = some (.int .i64 z))) (by kernel_rfl) ?_ (fun hHeld => ?_)
     ·exact ⟨((Ext.rfl' _).dr).cellE pv_r, ((Ext.rfl' _).dr).cellE hcy, ((Ext.rfl' _).dr).cellE hcz⟩
     refine ty 0 ?_
     refine ty 1 ?_
     refine rd1 2 rfl fun K hK => ?_
     go_simp
     have lX0_1 := lh ((Ext.rfl' wr).dr)
     refine (HB.out _ (Hs12r.out.ext lX0_1.out)).mono ?_
     rintro e lw1 ⟨rfl, lhe1⟩
     have lU1 := lh (((Ext.rfl' wr).dr).tr lhe1)
     have lE1 := lh (lE0.out.tr lU1.out)
     have lg_l1 := lU1.out.cellE lg_r
     have lv_l1 := lU1.out.cellE lv_r
     have lr_l1 := lU1.out.cellE lr_r
     have lq_l1 := lU1.out.cellE lq_r
     have pv_l1 := lU1.out.cellE pv_r
     have pr_l1 := lU1.out.cellE pr_r
     have pq_l1 := lU1.out.cellE pq_r
     have ov_l1 := lU1.out.cellE ov_r
     have or_l1 := lU1.out.cellE or_r
     have oq_l1 := lU1.out.cellE oq_r
     have yc_l1 := lU1.out.cellE hcy
     have zc_l1 := lU1.out.cellE hcz
     clear lhe1 lg_r lv_r lr_r lq_r pv_r pr_r pq_r ov_r or_r oq_r hcy hcz blg_r blv_r blr_r blq_r bpv_r bpr_r bpq_r bov_r bor_r boq_r bhcy bhcz lX0_1
     have blg_l1 := blt lg_l1
     have blv_l1 := blt lv_l1
     have blr_l1 := blt lr_l1
     have blq_l1 := blt lq_l1
     have bpv_l1 := blt pv_l1
     have bpr_l1 := blt pr_l1
     have bpq_l1 := blt pq_l1
     have bov_l1 := blt ov_l1
     have bor_l1 := blt or_l1
     have boq_l1 := blt oq_l1
     have byc_l1 := blt yc_l1
     have bzc_l1 := blt zc_l1
     have szl1 := lU1.out.size
     try go_wp2_with fail
     refine hK.out _ _ (by exact ⟨pv_l1, yc_l1, zc_l1⟩) fun hh2 => ?_; clear hK K hHeld; have hHeld := hh2; clear hh2
     try simp only [Act.put, pu]
     refine ty 3 ?_
     refine ty 4 ?_
     refine tn 5 ?_
     refine tn 6 ?_
     refine tn 7 ?_
     refine tn 8 ?_
     refine tn 9 ?_
     refine tn 10 ?_
     refine tn 11 ?_
     refine tn 12 ?_
     refine tn 13 ?_
     refine tn 14 ?_
     refine ty 15 ?_
     refine dn ?_
     go_wp2
     go_roundw
     case rel => exact ⟨n + 1, by omega, by go_num, lh (hext.out.tr lE1.out)⟩
     case measure => simp [intOf]; omega
    ·skip
     have HB := lh (l_isInN A12 c12 so (n : Int) hmm)
     obtain rfl := l5.out hmm
     clear hmm l5
     have zq : (y != y) = false := by simp
     go_wp2_with fail
     refine wp_region_held_drew (S := (fun W => W.cell? ⟨w2.heap.size, 0, none⟩ = some (.slice (some ⟨bo, oo, none⟩) ov.length c2) ∧ W.cell? ⟨bo, oo + n, none⟩ = some (.int .i64 y) ∧ W.cell? ⟨bm, om + n, none⟩ = some (.int .i64 y))) (by kernel_rfl) ?_ (fun hHeld => ?_)
     ·exact ⟨((Ext.rfl' _).dr).cellE pv_r, ((Ext.rfl' _).dr).cellE hcy, ((Ext.rfl' _).dr).cellE hcz⟩
     refine ty 0 ?_
     refine ty 1 ?_
     refine rd1 2 rfl fun K hK => ?_
     go_simp
     have lX0_1 := lh ((Ext.rfl' wr).dr)
     refine (HB.out _ (Hs12r.out.ext lX0_1.out)).mono ?_
     rintro e lw1 ⟨rfl, lhe1⟩
     have lU1 := lh (((Ext.rfl' wr).dr).tr lhe1)
     have lE1 := lh (lE0.out.tr lU1.out)
     have lg_l1 := lU1.out.cellE lg_r
     have lv_l1 := lU1.out.cellE lv_r
     have lr_l1 := lU1.out.cellE lr_r
     have lq_l1 := lU1.out.cellE lq_r
     have pv_l1 := lU1.out.cellE pv_r
     have pr_l1 := lU1.out.cellE pr_r
     have pq_l1 := lU1.out.cellE pq_r
     have ov_l1 := lU1.out.cellE ov_r
     have or_l1 := lU1.out.cellE or_r
     have oq_l1 := lU1.out.cellE oq_r
     have yc_l1 := lU1.out.cellE hcy
     have zc_l1 := lU1.out.cellE hcz
     clear lhe1 lg_r lv_r lr_r lq_r pv_r pr_r pq_r ov_r or_r oq_r hcy hcz blg_r blv_r blr_r blq_r bpv_r bpr_r bpq_r bov_r bor_r boq_r bhcy bhcz lX0_1
     have blg_l1 := blt lg_l1
     have blv_l1 := blt lv_l1
     have blr_l1 := blt lr_l1
     have blq_l1 := blt lq_l1
     have bpv_l1 := blt pv_l1
     have bpr_l1 := blt pr_l1
     have bpq_l1 := blt pq_l1
     have bov_l1 := blt ov_l1
     have bor_l1 := blt or_l1
     have boq_l1 := blt oq_l1
     have byc_l1 := blt yc_l1
     have bzc_l1 := blt zc_l1
     have szl1 := lU1.out.size
     try go_wp2_with fail
     refine hK.out _ _ (by exact ⟨pv_l1, yc_l1, zc_l1⟩) fun hh2 => ?_; clear hK K hHeld; have hHeld := hh2; clear hh2
     try simp only [Act.put, pu]
     refine ty 3 ?_
     refine ty 4 ?_
     refine ty 5 ?_
     refine ty 6 ?_
     refine ty 7 ?_
     refine ty 8 ?_
     refine ty 9 ?_
     refine ty 10 ?_
     refine ty 11 ?_
     refine ty 12 ?_
     refine ty 13 ?_
     refine ty 14 ?_
     refine ty 15 ?_
     refine dn ?_
     go_wp2
     go_roundw
     case rel => exact ⟨n + 1, by omega, by go_num, lh (hext.out.tr lE1.out)⟩
     case measure => simp [intOf]; omega
   ·skip
    obtain rfl : n = g.length := by omega
    have hko : k0 < ov.length := by rw [HOL.out]; exact hk0
    have lX0_1 := lh (Ext.rfl' wr)
    go_wp2_with fail
    refine (HVO.out _ (H1r.out.ext lX0_1.out) (Hv2r.out.ext lX0_1.out) (Hr2r.out.ext lX0_1.out) (Hq2r.out.ext lX0_1.out)).mono ?_
    rintro e lw1 ⟨rfl, lhe1⟩
    have lU1 := lh ((Ext.rfl' wr).tr lhe1)
    have lE1 := lh (lE0.out.tr lU1.out)
    have lg_l1 := lU1.out.cellE lg_r
    have lv_l1 := lU1.out.cellE lv_r
    have lr_l1 := lU1.out.cellE lr_r
    have lq_l1 := lU1.out.cellE lq_r
    have pv_l1 := lU1.out.cellE pv_r
    have pr_l1 := lU1.out.cellE pr_r
    have pq_l1 := lU1.out.cellE pq_r
    have ov_l1 := lU1.out.cellE ov_r
    have or_l1 := lU1.out.cellE or_r
    have oq_l1 := lU1.out.cellE oq_r
    clear lhe1 lg_r lv_r lr_r lq_r pv_r pr_r pq_r ov_r or_r oq_r blg_r blv_r blr_r blq_r bpv_r bpr_r bpq_r bov_r bor_r boq_r lX0_1
    have blg_l1 := blt lg_l1
    have blv_l1 := blt lv_l1
    have blr_l1 := blt lr_l1
    have blq_l1 := blt lq_l1
    have bpv_l1 := blt pv_l1
    have bpr_l1 := blt pr_l1
    have bpq_l1 := blt pq_l1
    have bov_l1 := blt ov_l1
    have bor_l1 := blt or_l1
    have boq_l1 := blt oq_l1
    have szl1 := lU1.out.size
    obtain ⟨bo, oo, y, rfl, hy, hcy⟩ := (Hv2r.out.ext ((Ext.rfl' wr).tr lU1.out)).at1 hko
    have bhcy := blt hcy
    obtain rfl : xv = y := by have := L2.out; rw [List.getD_eq_getElem?_getD, hy] at this; exact this.symm
    clear hy
    have lX1_2 := lh ((Ext.rfl' wr).tr lU1.out)
    go_wp2_with fail
    refine (HSP.out _ (H1r.out.ext lX1_2.out) (V1r.out.ext lX1_2.out) (R1r.out.ext lX1_2.out) (Q1r.out.ext lX1_2.out)).mono ?_
    rintro e lw2 ⟨A14, c14, rfl, hos, lhe2⟩
    have Hs14 := lh hos.rd
    clear hos
    have lU2 := lh ((Ext.rfl' lw1).tr lhe2)
    have lE2 := lh (lE1.out.tr lU2.out)
    have lg_l2 := lU2.out.cellE lg_l1
    have lv_l2 := lU2.out.cellE lv_l1
    have lr_l2 := lU2.out.cellE lr_l1
    have lq_l2 := lU2.out.cellE lq_l1
    have pv_l2 := lU2.out.cellE pv_l1
    have pr_l2 := lU2.out.cellE pr_l1
    have pq_l2 := lU2.out.cellE pq_l1
    have ov_l2 := lU2.out.cellE ov_l1
    have or_l2 := lU2.out.cellE or_l1
    have oq_l2 := lU2.out.cellE oq_l1
    clear lhe2 lg_l1 lv_l1 lr_l1 lq_l1 pv_l1 pr_l1 pq_l1 ov_l1 or_l1 oq_l1 blg_l1 blv_l1 blr_l1 blq_l1 bpv_l1 bpr_l1 bpq_l1 bov_l1 bor_l1 boq_l1 bhcy lX1_2
    have blg_l2 := blt lg_l2
    have blv_l2 := blt lv_l2
    have blr_l2 := blt lr_l2
    have blq_l2 := blt lq_l2
    have bpv_l2 := blt pv_l2
    have bpr_l2 := blt pr_l2
    have bpq_l2 := blt pq_l2
    have bov_l2 := blt ov_l2
    have bor_l2 := blt or_l2
    have boq_l2 := blt oq_l2
    have szl2 := lU2.out.size
    have lX2_3 := lh (((Ext.rfl' wr).tr lU1.out).tr lU2.out)
    go_wp2_with fail
    refine (HWI.out A14 A12 c14 c12 _ Hs14.out (Hs12r.out.ext lX2_3.out)).mono ?_
    rintro e lw3 ⟨rfl, lhe3⟩
    have lU3 := lh ((Ext.rfl' lw2).tr lhe3)
    have lE3 := lh (lE2.out.tr lU3.out)
    have lg_l3 := lU3.out.cellE lg_l2
    have lv_l3 := lU3.out.cellE lv_l2
    have lr_l3 := lU3.out.cellE lr_l2
    have lq_l3 := lU3.out.cellE lq_l2
    have pv_l3 := lU3.out.cellE pv_l2
    have pr_l3 := lU3.out.cellE pr_l2
    have pq_l3 := lU3.out.cellE pq_l2
    have ov_l3 := lU3.out.cellE ov_l2
    have or_l3 := lU3.out.cellE or_l2
    have oq_l3 := lU3.out.cellE oq_l2
    clear lhe3 lg_l2 lv_l2 lr_l2 lq_l2 pv_l2 pr_l2 pq_l2 ov_l2 or_l2 oq_l2 blg_l2 blv_l2 blr_l2 blq_l2 bpv_l2 bpr_l2 bpq_l2 bov_l2 bor_l2 boq_l2 lX2_3
    have blg_l3 := blt lg_l3
    have blv_l3 := blt lv_l3
    have blr_l3 := blt lr_l3
    have blq_l3 := blt lq_l3
    have bpv_l3 := blt pv_l3
    have bpr_l3 := blt pr_l3
    have bpq_l3 := blt pq_l3
    have bov_l3 := blt ov_l3
    have bor_l3 := blt or_l3
    have boq_l3 := blt oq_l3
    have szl3 := lU3.out.size
    go_wp2
    go_ret
    exact ⟨rfl, (E7.out.tr hext.out).tr lE3.out⟩
end Go.Proofs.YtmkfjnkdaeoppaaGreat
