/- FnWriteLazyBack: the law's walk. Conditions: the code can be read. -/
import Derived.Test.YtmkfjnkdaeoppaaGreatTy
import Derived.Test.YtmkfjnkdaeoppaaGreatDrawW
import Derived.Test.YtmkfjnkdaeoppaaGreatLazThree
import Derived.Test.YtmkfjnkdaeoppaaGreatLazSix
import Derived.Test.YtmkfjnkdaeoppaaGreatPlAll
import Derived.Test.YtmkfjnkdaeoppaaGreatEqAll
import Derived.Test.YtmkfjnkdaeoppaaGreatHeldA
namespace Go.Proofs.YtmkfjnkdaeoppaaGreat
open Go.RowKit
theorem i_ReadLazyW (A Av Ar Aq : Option Addr) (c cv cr cq : Nat) (g : Sg.Graph) (v q : List Int) (r : List (List Int)) (n : Int) (st : Sg.Lazy) (x : Int) (rn : List Int) (hW : Sg.readLO g ⟨v, r, q⟩ n = (st, x, rn)) (hvl : v.length ≤ 1048576) (hql : q.length ≤ 1048576) (w : World) (h : RdN w A g) (hv : Rd w 1 Av v.length (ints v)) (hr : RdLC w Ar r) (hq : Rd w 1 Aq q.length (ints q)) :
  Calls Tryz.prog 29 #[.agg #[.slice A g.length c], .agg #[.slice Av v.length cv, .slice Ar r.length cr, .slice Aq q.length cq], .int .i64 n] w (ZN w st x rn) := by
 have := i_ReadLazy A Av Ar Aq c cv cr cq g v q r n w h hv hr hq hvl hql
 rw [hW] at this
 exact this

set_option maxRecDepth 100000 in
set_option maxHeartbeats 8000000 in
theorem ex_FnWriteLazyBack (A : Option Addr) (c : Nat) (l : List Int) (w : World) (h : Rd w 1 A l.length (u8s l)) (hr : ∀ x ∈ l, 0 ≤ x ∧ x ≤ 255) (hc : l.length ≤ c) (hcm : c ≤ maxLen) :
  Calls Tryz.prog 8 #[.slice A l.length c] w fun e w' => e = .returned (.bool true) ∧ Ext w w' := by
 have hbig := h.big
 have HD := lh (s_DrawWriteLazy A c l w h hr hc hcm)
 clear h hr hc hcm
 by_cases hb : 1048576 < l.length
 ·have hb2 : (1048576 : Int) < (l.length : Int) := by omega
  go_enter Tryz.func8, Tryz.ntmps8
  go_wp2
  go_ret
  exact ⟨rfl, Ext.rfl' _⟩
 have hb2 : ¬ (1048576 : Int) < (l.length : Int) := by omega
 clear hb
 have E0 := lh ((Ext.rfl' w) : Ext w w)
 go_enter Tryz.func8, Tryz.ntmps8
 go_wp2_with fail
 refine (HD.out).mono ?_
 rintro e w1 ⟨g, Ag, cg, v, Av, cv, r, Ar, cr, q, Aq, cq, kn, xv, rfl, hg2, hg10, hvl, hrl, hql, hN, hV, hR, hQ, he1⟩
 have H1 := lh hN
 have V1 := lh hV
 have R1 := lh hR
 have Q1 := lh hQ
 have hvl9 : v.length ≤ 1048576 := by omega
 have hql9 : q.length ≤ 1048576 := by omega
 clear hN hV hR hQ HD
 have U1 := lh ((Ext.rfl' w).tr he1)
 have E1 := lh (E0.out.tr U1.out)
 clear he1 
 have sz1 := U1.out.size
 have hsm := writeLO_smallQ g ⟨v, r, q⟩ kn xv
 obtain ⟨⟨⟨ov, orr, oq⟩, b⟩, hW⟩ : ∃ p, Sg.writeLO g ⟨v, r, q⟩ kn xv = p := ⟨_, rfl⟩
 rw [hW] at hsm
 have SM := lh (show SmallZ ⟨ov, orr, oq⟩ from hsm)
 clear hsm
 have HI := lh (fun w h hv hr hq => by have := i_WriteLazy Ag Av Ar Aq cg cv cr cq g v q r kn xv w h hv hr hq hvl9 hql9; rw [hW] at this; exact this)
 have HS := lh (fun w h hv hr hq => by have := s_WriteLazy Ag Av Ar Aq cg cv cr cq g v q r kn xv w h hv hr hq hvl9 hql9; rw [hW] at this; exact this)
 have HW := lh hW
 clear hW
 have X1_1 := lh (Ext.al (Ext.al (Ext.rfl' w1) (.cells #[.slice Ag g.length cg] 25)) (.cells #[.slice Av v.length cv, .slice Ar r.length cr, .slice Aq q.length cq] 29))
 go_wp2_with fail
 refine (HI.out _ (H1.out.ext X1_1.out) (V1.out.ext X1_1.out) (R1.out.ext X1_1.out) (Q1.out.ext X1_1.out)).mono ?_
 rintro e w2 ⟨A2, c2, A3, c3, A4, c4, z2, rfl, hoz, he2⟩
 have Hv2 := lh hoz.v.rd
 have Hr2 := lh (OwnL.rdLC hoz.r SM.out.r SM.out.e)
 have Hq2 := lh hoz.q.rd
 clear hoz
 have U2 := lh ((Ext.al (Ext.al (Ext.rfl' w1) (.cells #[.slice Ag g.length cg] 25)) (.cells #[.slice Av v.length cv, .slice Ar r.length cr, .slice Aq q.length cq] 29)).tr he2)
 have E2 := lh (E1.out.tr U2.out)
 have lg_2 := he2.cellE (show World.cell? (World.alloc (World.alloc w1 (.cells #[.slice Ag g.length cg] 25)) (.cells #[.slice Av v.length cv, .slice Ar r.length cr, .slice Aq q.length cq] 29)) ⟨w1.heap.size, 0, none⟩ = some (.slice Ag g.length cg) by simp [go_sem])
 have lv_2 := he2.cellE (show World.cell? (World.alloc (World.alloc w1 (.cells #[.slice Ag g.length cg] 25)) (.cells #[.slice Av v.length cv, .slice Ar r.length cr, .slice Aq q.length cq] 29)) ⟨w1.heap.size + 1, 0, none⟩ = some (.slice Av v.length cv) by simp [go_sem])
 have lr_2 := he2.cellE (show World.cell? (World.alloc (World.alloc w1 (.cells #[.slice Ag g.length cg] 25)) (.cells #[.slice Av v.length cv, .slice Ar r.length cr, .slice Aq q.length cq] 29)) ⟨w1.heap.size + 1, 1, none⟩ = some (.slice Ar r.length cr) by simp [go_sem])
 have lq_2 := he2.cellE (show World.cell? (World.alloc (World.alloc w1 (.cells #[.slice Ag g.length cg] 25)) (.cells #[.slice Av v.length cv, .slice Ar r.length cr, .slice Aq q.length cq] 29)) ⟨w1.heap.size + 1, 2, none⟩ = some (.slice Aq q.length cq) by simp [go_sem])
 clear he2 X1_1
 have blg_2 := blt lg_2
 have blv_2 := blt lv_2
 have blr_2 := blt lr_2
 have blq_2 := blt lq_2
 have sz2 := U2.out.size
 have X2_2 := lh (Ext.al ((Ext.rfl' w1).tr U2.out) (.cells #[.slice A2 ov.length c2, .slice A3 orr.length c3, .slice A4 oq.length c4] 29))
 go_wp2_with fail
 refine (HS.out _ (H1.out.ext X2_2.out) (V1.out.ext X2_2.out) (R1.out.ext X2_2.out) (Q1.out.ext X2_2.out)).mono ?_
 rintro e w3 ⟨A6, c6, A7, c7, A8, c8, z6, rfl, hoz, he3⟩
 have Hv6 := lh hoz.v.rd
 have Hr6 := lh (OwnL.rdLC hoz.r SM.out.r SM.out.e)
 have Hq6 := lh hoz.q.rd
 clear hoz
 have U3 := lh ((Ext.al (Ext.rfl' w2) (.cells #[.slice A2 ov.length c2, .slice A3 orr.length c3, .slice A4 oq.length c4] 29)).tr he3)
 have E3 := lh (E2.out.tr U3.out)
 have lg_3 := U3.out.cellE lg_2
 have lv_3 := U3.out.cellE lv_2
 have lr_3 := U3.out.cellE lr_2
 have lq_3 := U3.out.cellE lq_2
 have pv_3 := he3.cellE (show World.cell? (World.alloc w2 (.cells #[.slice A2 ov.length c2, .slice A3 orr.length c3, .slice A4 oq.length c4] 29)) ⟨w2.heap.size, 0, none⟩ = some (.slice A2 ov.length c2) by simp [go_sem])
 have pr_3 := he3.cellE (show World.cell? (World.alloc w2 (.cells #[.slice A2 ov.length c2, .slice A3 orr.length c3, .slice A4 oq.length c4] 29)) ⟨w2.heap.size, 1, none⟩ = some (.slice A3 orr.length c3) by simp [go_sem])
 have pq_3 := he3.cellE (show World.cell? (World.alloc w2 (.cells #[.slice A2 ov.length c2, .slice A3 orr.length c3, .slice A4 oq.length c4] 29)) ⟨w2.heap.size, 2, none⟩ = some (.slice A4 oq.length c4) by simp [go_sem])
 clear he3 lg_2 lv_2 lr_2 lq_2 blg_2 blv_2 blr_2 blq_2 X2_2
 have blg_3 := blt lg_3
 have blv_3 := blt lv_3
 have blr_3 := blt lr_3
 have blq_3 := blt lq_3
 have bpv_3 := blt pv_3
 have bpr_3 := blt pr_3
 have bpq_3 := blt pq_3
 have sz3 := U3.out.size
 have X3_3 := lh (Ext.al ((Ext.rfl' w2).tr U3.out) (.cells #[.slice A6 ov.length c6, .slice A7 orr.length c7, .slice A8 oq.length c8] 29))
 have X3_4 := lh (Ext.al (Ext.rfl' w3) (.cells #[.slice A6 ov.length c6, .slice A7 orr.length c7, .slice A8 oq.length c8] 29))
 go_wp2_with fail
 refine (l_equalLazy A2 A6 A3 A7 A4 A8 c2 c6 c3 c7 c4 c8 ov orr oq _ (Hv2.out.ext X3_3.out) (Hv6.out.ext X3_4.out) (Hr2.out.ext X3_3.out).rdL (Hr6.out.ext X3_4.out).rdL (Hq2.out.ext X3_3.out) (Hq6.out.ext X3_4.out)).mono ?_
 rintro e w4 ⟨rfl, he4⟩
 have U4 := lh ((Ext.al (Ext.rfl' w3) (.cells #[.slice A6 ov.length c6, .slice A7 orr.length c7, .slice A8 oq.length c8] 29)).tr he4)
 have E4 := lh (E3.out.tr U4.out)
 have lg_4 := U4.out.cellE lg_3
 have lv_4 := U4.out.cellE lv_3
 have lr_4 := U4.out.cellE lr_3
 have lq_4 := U4.out.cellE lq_3
 have pv_4 := U4.out.cellE pv_3
 have pr_4 := U4.out.cellE pr_3
 have pq_4 := U4.out.cellE pq_3
 have ov_4 := he4.cellE (show World.cell? (World.alloc w3 (.cells #[.slice A6 ov.length c6, .slice A7 orr.length c7, .slice A8 oq.length c8] 29)) ⟨w3.heap.size, 0, none⟩ = some (.slice A6 ov.length c6) by simp [go_sem])
 have or_4 := he4.cellE (show World.cell? (World.alloc w3 (.cells #[.slice A6 ov.length c6, .slice A7 orr.length c7, .slice A8 oq.length c8] 29)) ⟨w3.heap.size, 1, none⟩ = some (.slice A7 orr.length c7) by simp [go_sem])
 have oq_4 := he4.cellE (show World.cell? (World.alloc w3 (.cells #[.slice A6 ov.length c6, .slice A7 orr.length c7, .slice A8 oq.length c8] 29)) ⟨w3.heap.size, 2, none⟩ = some (.slice A8 oq.length c8) by simp [go_sem])
 clear he4 lg_3 lv_3 lr_3 lq_3 pv_3 pr_3 pq_3 blg_3 blv_3 blr_3 blq_3 bpv_3 bpr_3 bpq_3 X3_3 X3_4
 have blg_4 := blt lg_4
 have blv_4 := blt lv_4
 have blr_4 := blt lr_4
 have blq_4 := blt lq_4
 have bpv_4 := blt pv_4
 have bpr_4 := blt pr_4
 have bpq_4 := blt pq_4
 have bov_4 := blt ov_4
 have bor_4 := blt or_4
 have boq_4 := blt oq_4
 have sz4 := U4.out.size
 have zx : (b != b) = false := by simp
 have zy : (b == b) = true := by simp
 cases b
 ·skip
  have X4_5 := lh (((Ext.rfl' w2).tr U3.out).tr U4.out)
  have X4_6 := lh ((Ext.rfl' w3).tr U4.out)
  go_wp2_with fail
  refine (l_equalLazy A2 A6 A3 A7 A4 A8 c2 c6 c3 c7 c4 c8 ov orr oq _ (Hv2.out.ext X4_5.out) (Hv6.out.ext X4_6.out) (Hr2.out.ext X4_5.out).rdL (Hr6.out.ext X4_6.out).rdL (Hq2.out.ext X4_5.out) (Hq6.out.ext X4_6.out)).mono ?_
  rintro e w5 ⟨rfl, he5⟩
  have U5 := lh ((Ext.rfl' w4).tr he5)
  have E5 := lh (E4.out.tr U5.out)
  have lg_5 := U5.out.cellE lg_4
  have lv_5 := U5.out.cellE lv_4
  have lr_5 := U5.out.cellE lr_4
  have lq_5 := U5.out.cellE lq_4
  have pv_5 := U5.out.cellE pv_4
  have pr_5 := U5.out.cellE pr_4
  have pq_5 := U5.out.cellE pq_4
  have ov_5 := U5.out.cellE ov_4
  have or_5 := U5.out.cellE or_4
  have oq_5 := U5.out.cellE oq_4
  clear he5 lg_4 lv_4 lr_4 lq_4 pv_4 pr_4 pq_4 ov_4 or_4 oq_4 blg_4 blv_4 blr_4 blq_4 bpv_4 bpr_4 bpq_4 bov_4 bor_4 boq_4 X4_5 X4_6
  have blg_5 := blt lg_5
  have blv_5 := blt lv_5
  have blr_5 := blt lr_5
  have blq_5 := blt lq_5
  have bpv_5 := blt pv_5
  have bpr_5 := blt pr_5
  have bpq_5 := blt pq_5
  have bov_5 := blt ov_5
  have bor_5 := blt or_5
  have boq_5 := blt oq_5
  have sz5 := U5.out.size
  go_wp2
  go_ret
  exact ⟨rfl, E5.out⟩
 ·skip
  have hW := HW.out
  have hm : Sg.mayWriteL g ⟨v, r, q⟩ kn xv = true := by cases hm : Sg.mayWriteL g ⟨v, r, q⟩ kn xv; unfold Sg.writeLO at hW; rw [hm] at hW; exact absurd (congrArg Prod.snd hW) (by simp); rfl
  obtain ⟨hE, -, -, k0, rfl, hk0⟩ := Sg.write_parts hm
  have hWe : Sg.writeL ⟨v, r, q⟩ (k0 : Int).toNat xv = ⟨ov, orr, oq⟩ := by unfold Sg.writeLO at hW; rw [if_pos hm] at hW; exact congrArg Prod.fst hW
  have hovl9 : ov.length ≤ 1048576 := SM.out.v
  have hoql9 : oq.length ≤ 1048576 := SM.out.q
  have hB := Sg.back_law hm
  have hvl0 : v.length = g.length := (Sg.validL_shape hE).2.1
  rw [hWe, Int.toNat_natCast] at hB
  obtain ⟨bv, ov0, yv, rfl, hyv, hcyv⟩ := (V1.out.ext ((((Ext.rfl' w1).tr U2.out).tr U3.out).tr U4.out)).at1 (show k0 < v.length by omega)
  have hyv2 : v.getD k0 0 = yv := by rw [List.getD_eq_getElem?_getD, hyv]; rfl
  have hB : Sg.mayWriteL g ⟨ov, orr, oq⟩ (k0 : Int) yv = true ∧ ∀ i : Nat, i < g.length → (Sg.readLO g (Sg.writeL ⟨ov, orr, oq⟩ k0 yv) i).2.1 = (Sg.readLO g ⟨v, r, q⟩ i).2.1 := by rw [← hyv2]; exact hB
  have hsb := writeLO_smallQ g ⟨ov, orr, oq⟩ (k0 : Int) yv
  obtain ⟨⟨⟨bv1, br1, bq1⟩, b2⟩, hWb⟩ : ∃ p, Sg.writeLO g ⟨ov, orr, oq⟩ (k0 : Int) yv = p := ⟨_, rfl⟩
  rw [hWb] at hsb
  have SB := lh (show SmallZ ⟨bv1, br1, bq1⟩ from hsb)
  have hb2 : b2 = true := by have := hWb; unfold Sg.writeLO at this; rw [if_pos hB.1] at this; exact (congrArg Prod.snd this).symm
  have hbe : Sg.writeL ⟨ov, orr, oq⟩ k0 yv = ⟨bv1, br1, bq1⟩ := by have := hWb; unfold Sg.writeLO at this; rw [if_pos hB.1, Int.toNat_natCast] at this; exact congrArg Prod.fst this
  subst hb2
  have hR := hB.2
  rw [hbe] at hR
  have HR := lh hR
  have hbvl9 : bv1.length ≤ 1048576 := SB.out.v
  have hbql9 : bq1.length ≤ 1048576 := SB.out.q
  have HWB := lh (fun w h hv hr hq => by have := i_WriteLazy Ag A2 A3 A4 cg c2 c3 c4 g ov oq orr (k0 : Int) yv w h hv hr hq hovl9 hoql9; rw [hWb] at this; exact this)
  have hkv : k0 < v.length := by omega
  clear hE hW hm hWe hB hyv hyv2 hsb hWb hbe hR hvl0
  have bhcyv := blt hcyv
  go_wp2_with fail
  have klg := lg_4
  have klv := lv_4
  have klr := lr_4
  have klq := lq_4
  have kpv := pv_4
  have kpr := pr_4
  have kpq := pq_4
  have kov := ov_4
  have kor := or_4
  have koq := oq_4
  have kyv := hcyv
  refine wp_region_held_drew (S := (fun W => W.cell? ⟨w1.heap.size, 0, none⟩ = some (.slice Ag g.length cg) ∧ W.cell? ⟨w1.heap.size + 1, 0, none⟩ = some (.slice (some ⟨bv, ov0, none⟩) v.length cv) ∧ W.cell? ⟨w1.heap.size + 1, 1, none⟩ = some (.slice Ar r.length cr) ∧ W.cell? ⟨w1.heap.size + 1, 2, none⟩ = some (.slice Aq q.length cq) ∧ W.cell? ⟨w2.heap.size, 0, none⟩ = some (.slice A2 ov.length c2) ∧ W.cell? ⟨w2.heap.size, 1, none⟩ = some (.slice A3 orr.length c3) ∧ W.cell? ⟨w2.heap.size, 2, none⟩ = some (.slice A4 oq.length c4) ∧ W.cell? ⟨bv, ov0 + k0, none⟩ = some (.int .i64 yv))) (by kernel_rfl) ?_ (fun hHeld => ?_)
  ·exact ⟨((Ext.rfl' _).dr).cellE klg, ((Ext.rfl' _).dr).cellE klv, ((Ext.rfl' _).dr).cellE klr, ((Ext.rfl' _).dr).cellE klq, ((Ext.rfl' _).dr).cellE kpv, ((Ext.rfl' _).dr).cellE kpr, ((Ext.rfl' _).dr).cellE kpq, ((Ext.rfl' _).dr).cellE kyv⟩
  refine ty 0 ?_
  refine ty 1 ?_
  refine ty 2 ?_
  refine ty 3 ?_
  refine ty 4 ?_
  refine ty 5 ?_
  refine ty 6 ?_
  refine ty 7 ?_
  refine wpAnyH_ready (rs := [8, 12]) (by kernel_rfl) (by simp) ?_
  refine AllReadyH.cons rfl (fun K hK => ?_) ?_
  ·skip
   go_simp
   have X4_5 := lh (((((Ext.rfl' w1).tr U2.out).tr U3.out).tr U4.out).dr)
   have X4_6 := lh ((((Ext.rfl' w2).tr U3.out).tr U4.out).dr)
   refine (HWB.out _ (H1.out.ext X4_5.out) (Hv2.out.ext X4_6.out) (Hr2.out.ext X4_6.out) (Hq2.out.ext X4_6.out)).mono ?_
   rintro e w5 ⟨A30, c30, A31, c31, A32, c32, z30, rfl, hoz, he5⟩
   have OZ := lh hoz
   clear hoz
   have U5 := lh (((Ext.rfl' w4).dr).tr he5)
   have E5 := lh (E4.out.tr U5.out)
   have lg_5 := U5.out.cellE lg_4
   have lv_5 := U5.out.cellE lv_4
   have lr_5 := U5.out.cellE lr_4
   have lq_5 := U5.out.cellE lq_4
   have pv_5 := U5.out.cellE pv_4
   have pr_5 := U5.out.cellE pr_4
   have pq_5 := U5.out.cellE pq_4
   have ov_5 := U5.out.cellE ov_4
   have or_5 := U5.out.cellE or_4
   have oq_5 := U5.out.cellE oq_4
   have yv_5 := U5.out.cellE hcyv
   clear he5 lg_4 lv_4 lr_4 lq_4 pv_4 pr_4 pq_4 ov_4 or_4 oq_4 hcyv blg_4 blv_4 blr_4 blq_4 bpv_4 bpr_4 bpq_4 bov_4 bor_4 boq_4 bhcyv X4_5 X4_6
   have blg_5 := blt lg_5
   have blv_5 := blt lv_5
   have blr_5 := blt lr_5
   have blq_5 := blt lq_5
   have bpv_5 := blt pv_5
   have bpr_5 := blt pr_5
   have bpq_5 := blt pq_5
   have bov_5 := blt ov_5
   have bor_5 := blt or_5
   have boq_5 := blt oq_5
   have byv_5 := blt yv_5
   have sz5 := U5.out.size
   try go_wp2_with fail
   refine hK.out _ _ (by exact ⟨(((Ext.rfl' w4).tr U5.out)).cellE klg, (((Ext.rfl' w4).tr U5.out)).cellE klv, (((Ext.rfl' w4).tr U5.out)).cellE klr, (((Ext.rfl' w4).tr U5.out)).cellE klq, (((Ext.rfl' w4).tr U5.out)).cellE kpv, (((Ext.rfl' w4).tr U5.out)).cellE kpr, (((Ext.rfl' w4).tr U5.out)).cellE kpq, (((Ext.rfl' w4).tr U5.out)).cellE kyv⟩) fun hh2 => ?_; clear hK K hHeld; have hHeld := hh2; clear hh2
   try simp only [Act.put, pu]
   refine ty 9 ?_
   refine ty 10 ?_
   refine ty 11 ?_
   refine rd1 12 rfl fun K hK => ?_
   refine held_alZ rfl rfl ?_
   intro bT w6 hbT hBT he6
   try simp only [World.size_drew] at hbT
   have HBT := lh hbT
   have BT_6 := lh hBT
   clear hBT hbT
   have U6 := lh ((Ext.rfl' w5).tr he6)
   have E6 := lh (E5.out.tr U6.out)
   have lg_6 := U6.out.cellE lg_5
   have lv_6 := U6.out.cellE lv_5
   have lr_6 := U6.out.cellE lr_5
   have lq_6 := U6.out.cellE lq_5
   have pv_6 := U6.out.cellE pv_5
   have pr_6 := U6.out.cellE pr_5
   have pq_6 := U6.out.cellE pq_5
   have ov_6 := U6.out.cellE ov_5
   have or_6 := U6.out.cellE or_5
   have oq_6 := U6.out.cellE oq_5
   have yv_6 := U6.out.cellE yv_5
   clear he6 lg_5 lv_5 lr_5 lq_5 pv_5 pr_5 pq_5 ov_5 or_5 oq_5 yv_5 blg_5 blv_5 blr_5 blq_5 bpv_5 bpr_5 bpq_5 bov_5 bor_5 boq_5 byv_5
   have blg_6 := blt lg_6
   have blv_6 := blt lv_6
   have blr_6 := blt lr_6
   have blq_6 := blt lq_6
   have bpv_6 := blt pv_6
   have bpr_6 := blt pr_6
   have bpq_6 := blt pq_6
   have bov_6 := blt ov_6
   have bor_6 := blt or_6
   have boq_6 := blt oq_6
   have byv_6 := blt yv_6
   have sz6 := U6.out.size
   have ltT := BT_6.out.lt
   try simp only [pg]
   refine hK.out _ _ (by exact ⟨((((Ext.rfl' w4).tr U5.out).tr U6.out)).cellE klg, ((((Ext.rfl' w4).tr U5.out).tr U6.out)).cellE klv, ((((Ext.rfl' w4).tr U5.out).tr U6.out)).cellE klr, ((((Ext.rfl' w4).tr U5.out).tr U6.out)).cellE klq, ((((Ext.rfl' w4).tr U5.out).tr U6.out)).cellE kpv, ((((Ext.rfl' w4).tr U5.out).tr U6.out)).cellE kpr, ((((Ext.rfl' w4).tr U5.out).tr U6.out)).cellE kpq, ((((Ext.rfl' w4).tr U5.out).tr U6.out)).cellE kyv⟩) fun hh2 => ?_; clear hK K hHeld; have hHeld := hh2; clear hh2
   try simp only [Act.put, pu]
   refine rd1 13 rfl fun K hK => ?_
   have hbT := HBT.out
   have fT0 := BT_6.out.free 0
   have fT1 := BT_6.out.free 1
   have fT2 := BT_6.out.free 2
   have xT0 := BT_6.out.cell (j := 0) rfl
   have xT1 := BT_6.out.cell (j := 1) rfl
   have xT2 := BT_6.out.cell (j := 2) rfl
   have bT9 := BT_6.out.lt
   have eS : Ext w4 (World.setCell (World.setCell (World.setCell w6 ⟨bT, 0, none⟩ (.slice A30 bv1.length c30)) ⟨bT, 1, none⟩ (.slice A31 br1.length c31)) ⟨bT, 2, none⟩ (.slice A32 bq1.length c32)) := (Ext.set (Ext.set (Ext.set (((Ext.rfl' w4).tr U5.out).tr U6.out) (p := ⟨bT, 0, none⟩) (show w4.heap.size ≤ bT by omega) (.slice A30 bv1.length c30)) (p := ⟨bT, 1, none⟩) (show w4.heap.size ≤ bT by omega) (.slice A31 br1.length c31)) (p := ⟨bT, 2, none⟩) (show w4.heap.size ≤ bT by omega) (.slice A32 bq1.length c32))
   have ES := lh eS
   have M6 := lh (Mod.set3 w6 bT (.slice A30 bv1.length c30) (.slice A31 br1.length c31) (.slice A32 bq1.length c32))
   have B6 := lh (Bx.set3 BT_6.out (.slice A30 bv1.length c30) (.slice A31 br1.length c31) (.slice A32 bq1.length c32))
   clear eS hbT
   go_simp
   refine hK.out _ _ (by exact ⟨(ES.out).cellE klg, (ES.out).cellE klv, (ES.out).cellE klr, (ES.out).cellE klq, (ES.out).cellE kpv, (ES.out).cellE kpr, (ES.out).cellE kpq, (ES.out).cellE kyv⟩) fun hh2 => ?_; clear hK K hHeld; have hHeld := hh2; clear hh2
   try simp only [Act.put]
   generalize hwS : (World.setCell (World.setCell (World.setCell w6 ⟨bT, 0, none⟩ (.slice A30 bv1.length c30)) ⟨bT, 1, none⟩ (.slice A31 br1.length c31)) ⟨bT, 2, none⟩ (.slice A32 bq1.length c32)) = w7 at *
   clear hwS
   have E7 := lh (E4.out.tr ES.out)
   have sz7 := ES.out.size
   have lg_7 := ES.out.cellE klg
   have lv_7 := ES.out.cellE klv
   have lr_7 := ES.out.cellE klr
   have lq_7 := ES.out.cellE klq
   have pv_7 := ES.out.cellE kpv
   have pr_7 := ES.out.cellE kpr
   have pq_7 := ES.out.cellE kpq
   have ov_7 := ES.out.cellE kov
   have or_7 := ES.out.cellE kor
   have oq_7 := ES.out.cellE koq
   have yv_7 := ES.out.cellE kyv
   have T0_7 := B6.out.cell (j := 0) rfl
   have T1_7 := B6.out.cell (j := 1) rfl
   have T2_7 := B6.out.cell (j := 2) rfl
   have hzb := (OwnZ.ext OZ.out ((Ext.rfl' w5).tr U6.out)).mod M6.out (fun b hb e => by subst e; have h1 := OZ.out.lt hb; have := HBT.out; omega)
   have Hv30 := lh hzb.v.rd
   have Hr30 := lh (OwnL.rdLC hzb.r SB.out.r SB.out.e)
   have Hq30 := lh hzb.q.rd
   clear hzb OZ
   clear lg_6 lv_6 lr_6 lq_6 pv_6 pr_6 pq_6 ov_6 or_6 oq_6 yv_6 blg_6 blv_6 blr_6 blq_6 bpv_6 bpr_6 bpq_6 bov_6 bor_6 boq_6 byv_6 fT0 xT0 fT1 xT1 fT2 xT2 klg klv klr klq kpv kpr kpq kov kor koq kyv
   have blg_7 := blt lg_7
   have blv_7 := blt lv_7
   have blr_7 := blt lr_7
   have blq_7 := blt lq_7
   have bpv_7 := blt pv_7
   have bpr_7 := blt pr_7
   have bpq_7 := blt pq_7
   have bov_7 := blt ov_7
   have bor_7 := blt or_7
   have boq_7 := blt oq_7
   have byv_7 := blt yv_7
   have bT0_7 := blt T0_7
   have bT1_7 := blt T1_7
   have bT2_7 := blt T2_7
   refine ty 14 ?_
   refine dn ?_
   go_wp2_with fail
   go_loopw [13, 14, 15, 16, 17, 18, 19] (fun s13 s14 s15 s16 s17 s18 s19 wr => ∃ n : Nat, n ≤ g.length ∧ s13 = .int .i64 n ∧ Hid (Ext w7 wr)) (fun s13 _ _ _ _ _ _ _ => g.length - (intOf s13).toNat)
   case atStart => exact ⟨0, Nat.zero_le _, rfl, lh (Ext.rfl' _)⟩
   case round =>
    obtain ⟨n, hn, rfl, hext⟩ := hrel
    have lE0 := lh (Ext.rfl' wr)
    have lg_r := hext.out.cellE lg_7
    have blg_r := blt lg_r
    have lv_r := hext.out.cellE lv_7
    have blv_r := blt lv_r
    have lr_r := hext.out.cellE lr_7
    have blr_r := blt lr_r
    have lq_r := hext.out.cellE lq_7
    have blq_r := blt lq_r
    have pv_r := hext.out.cellE pv_7
    have bpv_r := blt pv_r
    have pr_r := hext.out.cellE pr_7
    have bpr_r := blt pr_r
    have pq_r := hext.out.cellE pq_7
    have bpq_r := blt pq_r
    have ov_r := hext.out.cellE ov_7
    have bov_r := blt ov_r
    have or_r := hext.out.cellE or_7
    have bor_r := blt or_r
    have oq_r := hext.out.cellE oq_7
    have boq_r := blt oq_r
    have yv_r := hext.out.cellE yv_7
    have byv_r := blt yv_r
    have T0_r := hext.out.cellE T0_7
    have bT0_r := blt T0_r
    have T1_r := hext.out.cellE T1_7
    have bT1_r := blt T1_r
    have T2_r := hext.out.cellE T2_7
    have bT2_r := blt T2_r
    clear lg_7 lv_7 lr_7 lq_7 pv_7 pr_7 pq_7 ov_7 or_7 oq_7 yv_7 T0_7 T1_7 T2_7 blg_7 blv_7 blr_7 blq_7 bpv_7 bpr_7 bpq_7 bov_7 bor_7 boq_7 byv_7 bT0_7 bT1_7 bT2_7
    have H1r := lh (H1.out.ext ((((((Ext.rfl' w1).tr U2.out).tr U3.out).tr U4.out).tr ES.out).tr hext.out))
    have V1r := lh (V1.out.ext ((((((Ext.rfl' w1).tr U2.out).tr U3.out).tr U4.out).tr ES.out).tr hext.out))
    have R1r := lh (R1.out.ext ((((((Ext.rfl' w1).tr U2.out).tr U3.out).tr U4.out).tr ES.out).tr hext.out))
    have Q1r := lh (Q1.out.ext ((((((Ext.rfl' w1).tr U2.out).tr U3.out).tr U4.out).tr ES.out).tr hext.out))
    have Hv30r := lh (Hv30.out.ext ((Ext.rfl' w7).tr hext.out))
    have Hr30r := lh (Hr30.out.ext ((Ext.rfl' w7).tr hext.out))
    have Hq30r := lh (Hq30.out.ext ((Ext.rfl' w7).tr hext.out))
    by_cases hlt : n < g.length
    ·skip
     have hlt2 : (n : Int) < (g.length : Int) := by omega
     have hlt3 : decide ((n : Int) < (g.length : Int)) = true := by simp [hlt]
     obtain ⟨⟨⟨a1, a2, a3⟩, x1, rn1⟩, hW1⟩ : ∃ p, Sg.readLO g ⟨bv1, br1, bq1⟩ (n : Int) = p := ⟨_, rfl⟩
     obtain ⟨⟨⟨d1, d2, d3⟩, x2, rn2⟩, hW2⟩ : ∃ p, Sg.readLO g ⟨v, r, q⟩ (n : Int) = p := ⟨_, rfl⟩
     have hx := HR.out n hlt
     rw [hW1, hW2] at hx
     dsimp only at hx
     obtain rfl : x1 = x2 := hx
     have HR1 := lh (i_ReadLazyW Ag A30 A31 A32 cg c30 c31 c32 g bv1 bq1 br1 (n : Int) _ _ _ hW1 hbvl9 hbql9)
     have HR2 := lh (i_ReadLazyW Ag (some ⟨bv, ov0, none⟩) Ar Aq cg cv cr cq g v q r (n : Int) _ _ _ hW2 hvl9 hql9)
     clear hW1 hW2
     have zz : (x1 != x1) = false := by simp
     have lX0_1 := lh (Ext.rfl' wr)
     go_wp2_with fail
     refine (HR1.out _ (H1r.out.ext lX0_1.out) (Hv30r.out.ext lX0_1.out) (Hr30r.out.ext lX0_1.out) (Hq30r.out.ext lX0_1.out)).mono ?_
     rintro e lw1 ⟨A20, c20, A21, c21, A22, c22, z20, A23, c23, rfl, -, -, -, lhe1⟩
     have lU1 := lh ((Ext.rfl' wr).tr lhe1)
     have lE1 := lh (lE0.out.tr lU1.out)
     have lg_l1 := lU1.out.cellE lg_r
     have lv_l1 := lU1.out.cellE lv_r
     have lr_l1 := lU1.out.cellE lr_r
     have lq_l1 := lU1.out.cellE lq_r
     have pv_l1 := lU1.out.cellE pv_r
     have pr_l1 := lU1.out.cellE pr_r
     have pq_l1 := lU1.out.cellE pq_r
     have ov_l1 := lU1.out.cellE ov_r
     have or_l1 := lU1.out.cellE or_r
     have oq_l1 := lU1.out.cellE oq_r
     have yv_l1 := lU1.out.cellE yv_r
     have T0_l1 := lU1.out.cellE T0_r
     have T1_l1 := lU1.out.cellE T1_r
     have T2_l1 := lU1.out.cellE T2_r
     clear lhe1 lg_r lv_r lr_r lq_r pv_r pr_r pq_r ov_r or_r oq_r yv_r T0_r T1_r T2_r blg_r blv_r blr_r blq_r bpv_r bpr_r bpq_r bov_r bor_r boq_r byv_r bT0_r bT1_r bT2_r lX0_1
     have blg_l1 := blt lg_l1
     have blv_l1 := blt lv_l1
     have blr_l1 := blt lr_l1
     have blq_l1 := blt lq_l1
     have bpv_l1 := blt pv_l1
     have bpr_l1 := blt pr_l1
     have bpq_l1 := blt pq_l1
     have bov_l1 := blt ov_l1
     have bor_l1 := blt or_l1
     have boq_l1 := blt oq_l1
     have byv_l1 := blt yv_l1
     have bT0_l1 := blt T0_l1
     have bT1_l1 := blt T1_l1
     have bT2_l1 := blt T2_l1
     have szl1 := lU1.out.size
     have lX1_2 := lh (Ext.al ((Ext.rfl' wr).tr lU1.out) (.cells #[.slice A20 a1.length c20, .slice A21 a2.length c21, .slice A22 a3.length c22] 29))
     go_wp2_with fail
     refine (HR2.out _ (H1r.out.ext lX1_2.out) (V1r.out.ext lX1_2.out) (R1r.out.ext lX1_2.out) (Q1r.out.ext lX1_2.out)).mono ?_
     rintro e lw2 ⟨A24, c24, A25, c25, A26, c26, z24, A27, c27, rfl, -, -, -, lhe2⟩
     have lU2 := lh ((Ext.al (Ext.rfl' lw1) (.cells #[.slice A20 a1.length c20, .slice A21 a2.length c21, .slice A22 a3.length c22] 29)).tr lhe2)
     have lE2 := lh (lE1.out.tr lU2.out)
     have lg_l2 := lU2.out.cellE lg_l1
     have lv_l2 := lU2.out.cellE lv_l1
     have lr_l2 := lU2.out.cellE lr_l1
     have lq_l2 := lU2.out.cellE lq_l1
     have pv_l2 := lU2.out.cellE pv_l1
     have pr_l2 := lU2.out.cellE pr_l1
     have pq_l2 := lU2.out.cellE pq_l1
     have ov_l2 := lU2.out.cellE ov_l1
     have or_l2 := lU2.out.cellE or_l1
     have oq_l2 := lU2.out.cellE oq_l1
     have yv_l2 := lU2.out.cellE yv_l1
     have T0_l2 := lU2.out.cellE T0_l1
     have T1_l2 := lU2.out.cellE T1_l1
     have T2_l2 := lU2.out.cellE T2_l1
     have t20v_l2 := lhe2.cellE (show World.cell? (World.alloc lw1 (.cells #[.slice A20 a1.length c20, .slice A21 a2.length c21, .slice A22 a3.length c22] 29)) ⟨lw1.heap.size, 0, none⟩ = some (.slice A20 a1.length c20) by simp [go_sem])
     have t20r_l2 := lhe2.cellE (show World.cell? (World.alloc lw1 (.cells #[.slice A20 a1.length c20, .slice A21 a2.length c21, .slice A22 a3.length c22] 29)) ⟨lw1.heap.size, 1, none⟩ = some (.slice A21 a2.length c21) by simp [go_sem])
     have t20q_l2 := lhe2.cellE (show World.cell? (World.alloc lw1 (.cells #[.slice A20 a1.length c20, .slice A21 a2.length c21, .slice A22 a3.length c22] 29)) ⟨lw1.heap.size, 2, none⟩ = some (.slice A22 a3.length c22) by simp [go_sem])
     clear lhe2 lg_l1 lv_l1 lr_l1 lq_l1 pv_l1 pr_l1 pq_l1 ov_l1 or_l1 oq_l1 yv_l1 T0_l1 T1_l1 T2_l1 blg_l1 blv_l1 blr_l1 blq_l1 bpv_l1 bpr_l1 bpq_l1 bov_l1 bor_l1 boq_l1 byv_l1 bT0_l1 bT1_l1 bT2_l1 lX1_2
     have blg_l2 := blt lg_l2
     have blv_l2 := blt lv_l2
     have blr_l2 := blt lr_l2
     have blq_l2 := blt lq_l2
     have bpv_l2 := blt pv_l2
     have bpr_l2 := blt pr_l2
     have bpq_l2 := blt pq_l2
     have bov_l2 := blt ov_l2
     have bor_l2 := blt or_l2
     have boq_l2 := blt oq_l2
     have byv_l2 := blt yv_l2
     have bT0_l2 := blt T0_l2
     have bT1_l2 := blt T1_l2
     have bT2_l2 := blt T2_l2
     have bt20v_l2 := blt t20v_l2
     have bt20r_l2 := blt t20r_l2
     have bt20q_l2 := blt t20q_l2
     have szl2 := lU2.out.size
     go_wp2
     go_roundw
     case rel => exact ⟨n + 1, by omega, by go_num, lh (hext.out.tr (Ext.al lE2.out (.cells #[.slice A24 d1.length c24, .slice A25 d2.length c25, .slice A26 d3.length c26] 29)))⟩
     case measure => simp [intOf]; omega
    ·skip
     obtain rfl : n = g.length := by omega
     go_wp2
     go_ret
     exact ⟨rfl, (E7.out.tr hext.out).tr lE0.out⟩
  refine AllReadyH.cons rfl (fun K hK => ?_) ?_
  ·skip
   refine held_alZ rfl rfl ?_
   intro bT w5 hbT hBT he5
   try simp only [World.size_drew] at hbT
   have HBT := lh hbT
   have BT_5 := lh hBT
   clear hBT hbT
   have U5 := lh (((Ext.rfl' w4).dr).tr he5)
   have E5 := lh (E4.out.tr U5.out)
   have lg_5 := U5.out.cellE lg_4
   have lv_5 := U5.out.cellE lv_4
   have lr_5 := U5.out.cellE lr_4
   have lq_5 := U5.out.cellE lq_4
   have pv_5 := U5.out.cellE pv_4
   have pr_5 := U5.out.cellE pr_4
   have pq_5 := U5.out.cellE pq_4
   have ov_5 := U5.out.cellE ov_4
   have or_5 := U5.out.cellE or_4
   have oq_5 := U5.out.cellE oq_4
   have yv_5 := U5.out.cellE hcyv
   clear he5 lg_4 lv_4 lr_4 lq_4 pv_4 pr_4 pq_4 ov_4 or_4 oq_4 hcyv blg_4 blv_4 blr_4 blq_4 bpv_4 bpr_4 bpq_4 bov_4 bor_4 boq_4 bhcyv
   have blg_5 := blt lg_5
   have blv_5 := blt lv_5
   have blr_5 := blt lr_5
   have blq_5 := blt lq_5
   have bpv_5 := blt pv_5
   have bpr_5 := blt pr_5
   have bpq_5 := blt pq_5
   have bov_5 := blt ov_5
   have bor_5 := blt or_5
   have boq_5 := blt oq_5
   have byv_5 := blt yv_5
   have sz5 := U5.out.size
   have ltT := BT_5.out.lt
   try simp only [pg]
   refine hK.out _ _ (by exact ⟨(((Ext.rfl' w4).tr U5.out)).cellE klg, (((Ext.rfl' w4).tr U5.out)).cellE klv, (((Ext.rfl' w4).tr U5.out)).cellE klr, (((Ext.rfl' w4).tr U5.out)).cellE klq, (((Ext.rfl' w4).tr U5.out)).cellE kpv, (((Ext.rfl' w4).tr U5.out)).cellE kpr, (((Ext.rfl' w4).tr U5.out)).cellE kpq, (((Ext.rfl' w4).tr U5.out)).cellE kyv⟩) fun hh2 => ?_; clear hK K hHeld; have hHeld := hh2; clear hh2
   try simp only [Act.put, pu]
   refine rd1 8 rfl fun K hK => ?_
   go_simp
   have X5_5 := lh (((((Ext.rfl' w1).tr U2.out).tr U3.out).tr U4.out).tr U5.out)
   have X5_6 := lh ((((Ext.rfl' w2).tr U3.out).tr U4.out).tr U5.out)
   refine (HWB.out _ (H1.out.ext X5_5.out) (Hv2.out.ext X5_6.out) (Hr2.out.ext X5_6.out) (Hq2.out.ext X5_6.out)).mono ?_
   rintro e w6 ⟨A30, c30, A31, c31, A32, c32, z30, rfl, hoz, he6⟩
   have OZ := lh hoz
   clear hoz
   have U6 := lh ((Ext.rfl' w5).tr he6)
   have E6 := lh (E5.out.tr U6.out)
   have lg_6 := U6.out.cellE lg_5
   have lv_6 := U6.out.cellE lv_5
   have lr_6 := U6.out.cellE lr_5
   have lq_6 := U6.out.cellE lq_5
   have pv_6 := U6.out.cellE pv_5
   have pr_6 := U6.out.cellE pr_5
   have pq_6 := U6.out.cellE pq_5
   have ov_6 := U6.out.cellE ov_5
   have or_6 := U6.out.cellE or_5
   have oq_6 := U6.out.cellE oq_5
   have yv_6 := U6.out.cellE yv_5
   clear he6 lg_5 lv_5 lr_5 lq_5 pv_5 pr_5 pq_5 ov_5 or_5 oq_5 yv_5 blg_5 blv_5 blr_5 blq_5 bpv_5 bpr_5 bpq_5 bov_5 bor_5 boq_5 byv_5 X5_5 X5_6
   have blg_6 := blt lg_6
   have blv_6 := blt lv_6
   have blr_6 := blt lr_6
   have blq_6 := blt lq_6
   have bpv_6 := blt pv_6
   have bpr_6 := blt pr_6
   have bpq_6 := blt pq_6
   have bov_6 := blt ov_6
   have bor_6 := blt or_6
   have boq_6 := blt oq_6
   have byv_6 := blt yv_6
   have BT_6 := lh (BT_5.out.ext U6.out)
   have sz6 := U6.out.size
   try go_wp2_with fail
   refine hK.out _ _ (by exact ⟨((((Ext.rfl' w4).tr U5.out).tr U6.out)).cellE klg, ((((Ext.rfl' w4).tr U5.out).tr U6.out)).cellE klv, ((((Ext.rfl' w4).tr U5.out).tr U6.out)).cellE klr, ((((Ext.rfl' w4).tr U5.out).tr U6.out)).cellE klq, ((((Ext.rfl' w4).tr U5.out).tr U6.out)).cellE kpv, ((((Ext.rfl' w4).tr U5.out).tr U6.out)).cellE kpr, ((((Ext.rfl' w4).tr U5.out).tr U6.out)).cellE kpq, ((((Ext.rfl' w4).tr U5.out).tr U6.out)).cellE kyv⟩) fun hh2 => ?_; clear hK K hHeld; have hHeld := hh2; clear hh2
   try simp only [Act.put, pu]
   refine ty 9 ?_
   refine ty 10 ?_
   refine ty 11 ?_
   refine rd1 13 rfl fun K hK => ?_
   have hbT := HBT.out
   have fT0 := BT_6.out.free 0
   have fT1 := BT_6.out.free 1
   have fT2 := BT_6.out.free 2
   have xT0 := BT_6.out.cell (j := 0) rfl
   have xT1 := BT_6.out.cell (j := 1) rfl
   have xT2 := BT_6.out.cell (j := 2) rfl
   have bT9 := BT_6.out.lt
   have eS : Ext w4 (World.setCell (World.setCell (World.setCell w6 ⟨bT, 0, none⟩ (.slice A30 bv1.length c30)) ⟨bT, 1, none⟩ (.slice A31 br1.length c31)) ⟨bT, 2, none⟩ (.slice A32 bq1.length c32)) := (Ext.set (Ext.set (Ext.set (((Ext.rfl' w4).tr U5.out).tr U6.out) (p := ⟨bT, 0, none⟩) (show w4.heap.size ≤ bT by omega) (.slice A30 bv1.length c30)) (p := ⟨bT, 1, none⟩) (show w4.heap.size ≤ bT by omega) (.slice A31 br1.length c31)) (p := ⟨bT, 2, none⟩) (show w4.heap.size ≤ bT by omega) (.slice A32 bq1.length c32))
   have ES := lh eS
   have M6 := lh (Mod.set3 w6 bT (.slice A30 bv1.length c30) (.slice A31 br1.length c31) (.slice A32 bq1.length c32))
   have B6 := lh (Bx.set3 BT_6.out (.slice A30 bv1.length c30) (.slice A31 br1.length c31) (.slice A32 bq1.length c32))
   clear eS hbT
   go_simp
   refine hK.out _ _ (by exact ⟨(ES.out).cellE klg, (ES.out).cellE klv, (ES.out).cellE klr, (ES.out).cellE klq, (ES.out).cellE kpv, (ES.out).cellE kpr, (ES.out).cellE kpq, (ES.out).cellE kyv⟩) fun hh2 => ?_; clear hK K hHeld; have hHeld := hh2; clear hh2
   try simp only [Act.put]
   generalize hwS : (World.setCell (World.setCell (World.setCell w6 ⟨bT, 0, none⟩ (.slice A30 bv1.length c30)) ⟨bT, 1, none⟩ (.slice A31 br1.length c31)) ⟨bT, 2, none⟩ (.slice A32 bq1.length c32)) = w7 at *
   clear hwS
   have E7 := lh (E4.out.tr ES.out)
   have sz7 := ES.out.size
   have lg_7 := ES.out.cellE klg
   have lv_7 := ES.out.cellE klv
   have lr_7 := ES.out.cellE klr
   have lq_7 := ES.out.cellE klq
   have pv_7 := ES.out.cellE kpv
   have pr_7 := ES.out.cellE kpr
   have pq_7 := ES.out.cellE kpq
   have ov_7 := ES.out.cellE kov
   have or_7 := ES.out.cellE kor
   have oq_7 := ES.out.cellE koq
   have yv_7 := ES.out.cellE kyv
   have T0_7 := B6.out.cell (j := 0) rfl
   have T1_7 := B6.out.cell (j := 1) rfl
   have T2_7 := B6.out.cell (j := 2) rfl
   have hzb := (OwnZ.ext OZ.out (Ext.rfl' w6)).mod M6.out (fun b hb e => by subst e; have h1 := OZ.out.lt hb; have := HBT.out; omega)
   have Hv30 := lh hzb.v.rd
   have Hr30 := lh (OwnL.rdLC hzb.r SB.out.r SB.out.e)
   have Hq30 := lh hzb.q.rd
   clear hzb OZ
   clear lg_6 lv_6 lr_6 lq_6 pv_6 pr_6 pq_6 ov_6 or_6 oq_6 yv_6 blg_6 blv_6 blr_6 blq_6 bpv_6 bpr_6 bpq_6 bov_6 bor_6 boq_6 byv_6 fT0 xT0 fT1 xT1 fT2 xT2 klg klv klr klq kpv kpr kpq kov kor koq kyv
   have blg_7 := blt lg_7
   have blv_7 := blt lv_7
   have blr_7 := blt lr_7
   have blq_7 := blt lq_7
   have bpv_7 := blt pv_7
   have bpr_7 := blt pr_7
   have bpq_7 := blt pq_7
   have bov_7 := blt ov_7
   have bor_7 := blt or_7
   have boq_7 := blt oq_7
   have byv_7 := blt yv_7
   have bT0_7 := blt T0_7
   have bT1_7 := blt T1_7
   have bT2_7 := blt T2_7
   refine ty 14 ?_
   refine dn ?_
   go_wp2_with fail
   go_loopw [13, 14, 15, 16, 17, 18, 19] (fun s13 s14 s15 s16 s17 s18 s19 wr => ∃ n : Nat, n ≤ g.length ∧ s13 = .int .i64 n ∧ Hid (Ext w7 wr)) (fun s13 _ _ _ _ _ _ _ => g.length - (intOf s13).toNat)
   case atStart => exact ⟨0, Nat.zero_le _, rfl, lh (Ext.rfl' _)⟩
   case round =>
    obtain ⟨n, hn, rfl, hext⟩ := hrel
    have lE0 := lh (Ext.rfl' wr)
    have lg_r := hext.out.cellE lg_7
    have blg_r := blt lg_r
    have lv_r := hext.out.cellE lv_7
    have blv_r := blt lv_r
    have lr_r := hext.out.cellE lr_7
    have blr_r := blt lr_r
    have lq_r := hext.out.cellE lq_7
    have blq_r := blt lq_r
    have pv_r := hext.out.cellE pv_7
    have bpv_r := blt pv_r
    have pr_r := hext.out.cellE pr_7
    have bpr_r := blt pr_r
    have pq_r := hext.out.cellE pq_7
    have bpq_r := blt pq_r
    have ov_r := hext.out.cellE ov_7
    have bov_r := blt ov_r
    have or_r := hext.out.cellE or_7
    have bor_r := blt or_r
    have oq_r := hext.out.cellE oq_7
    have boq_r := blt oq_r
    have yv_r := hext.out.cellE yv_7
    have byv_r := blt yv_r
    have T0_r := hext.out.cellE T0_7
    have bT0_r := blt T0_r
    have T1_r := hext.out.cellE T1_7
    have bT1_r := blt T1_r
    have T2_r := hext.out.cellE T2_7
    have bT2_r := blt T2_r
    clear lg_7 lv_7 lr_7 lq_7 pv_7 pr_7 pq_7 ov_7 or_7 oq_7 yv_7 T0_7 T1_7 T2_7 blg_7 blv_7 blr_7 blq_7 bpv_7 bpr_7 bpq_7 bov_7 bor_7 boq_7 byv_7 bT0_7 bT1_7 bT2_7
    have H1r := lh (H1.out.ext ((((((Ext.rfl' w1).tr U2.out).tr U3.out).tr U4.out).tr ES.out).tr hext.out))
    have V1r := lh (V1.out.ext ((((((Ext.rfl' w1).tr U2.out).tr U3.out).tr U4.out).tr ES.out).tr hext.out))
    have R1r := lh (R1.out.ext ((((((Ext.rfl' w1).tr U2.out).tr U3.out).tr U4.out).tr ES.out).tr hext.out))
    have Q1r := lh (Q1.out.ext ((((((Ext.rfl' w1).tr U2.out).tr U3.out).tr U4.out).tr ES.out).tr hext.out))
    have Hv30r := lh (Hv30.out.ext ((Ext.rfl' w7).tr hext.out))
    have Hr30r := lh (Hr30.out.ext ((Ext.rfl' w7).tr hext.out))
    have Hq30r := lh (Hq30.out.ext ((Ext.rfl' w7).tr hext.out))
    by_cases hlt : n < g.length
    ·skip
     have hlt2 : (n : Int) < (g.length : Int) := by omega
     have hlt3 : decide ((n : Int) < (g.length : Int)) = true := by simp [hlt]
     obtain ⟨⟨⟨a1, a2, a3⟩, x1, rn1⟩, hW1⟩ : ∃ p, Sg.readLO g ⟨bv1, br1, bq1⟩ (n : Int) = p := ⟨_, rfl⟩
     obtain ⟨⟨⟨d1, d2, d3⟩, x2, rn2⟩, hW2⟩ : ∃ p, Sg.readLO g ⟨v, r, q⟩ (n : Int) = p := ⟨_, rfl⟩
     have hx := HR.out n hlt
     rw [hW1, hW2] at hx
     dsimp only at hx
     obtain rfl : x1 = x2 := hx
     have HR1 := lh (i_ReadLazyW Ag A30 A31 A32 cg c30 c31 c32 g bv1 bq1 br1 (n : Int) _ _ _ hW1 hbvl9 hbql9)
     have HR2 := lh (i_ReadLazyW Ag (some ⟨bv, ov0, none⟩) Ar Aq cg cv cr cq g v q r (n : Int) _ _ _ hW2 hvl9 hql9)
     clear hW1 hW2
     have zz : (x1 != x1) = false := by simp
     have lX0_1 := lh (Ext.rfl' wr)
     go_wp2_with fail
     refine (HR1.out _ (H1r.out.ext lX0_1.out) (Hv30r.out.ext lX0_1.out) (Hr30r.out.ext lX0_1.out) (Hq30r.out.ext lX0_1.out)).mono ?_
     rintro e lw1 ⟨A20, c20, A21, c21, A22, c22, z20, A23, c23, rfl, -, -, -, lhe1⟩
     have lU1 := lh ((Ext.rfl' wr).tr lhe1)
     have lE1 := lh (lE0.out.tr lU1.out)
     have lg_l1 := lU1.out.cellE lg_r
     have lv_l1 := lU1.out.cellE lv_r
     have lr_l1 := lU1.out.cellE lr_r
     have lq_l1 := lU1.out.cellE lq_r
     have pv_l1 := lU1.out.cellE pv_r
     have pr_l1 := lU1.out.cellE pr_r
     have pq_l1 := lU1.out.cellE pq_r
     have ov_l1 := lU1.out.cellE ov_r
     have or_l1 := lU1.out.cellE or_r
     have oq_l1 := lU1.out.cellE oq_r
     have yv_l1 := lU1.out.cellE yv_r
     have T0_l1 := lU1.out.cellE T0_r
     have T1_l1 := lU1.out.cellE T1_r
     have T2_l1 := lU1.out.cellE T2_r
     clear lhe1 lg_r lv_r lr_r lq_r pv_r pr_r pq_r ov_r or_r oq_r yv_r T0_r T1_r T2_r blg_r blv_r blr_r blq_r bpv_r bpr_r bpq_r bov_r bor_r boq_r byv_r bT0_r bT1_r bT2_r lX0_1
     have blg_l1 := blt lg_l1
     have blv_l1 := blt lv_l1
     have blr_l1 := blt lr_l1
     have blq_l1 := blt lq_l1
     have bpv_l1 := blt pv_l1
     have bpr_l1 := blt pr_l1
     have bpq_l1 := blt pq_l1
     have bov_l1 := blt ov_l1
     have bor_l1 := blt or_l1
     have boq_l1 := blt oq_l1
     have byv_l1 := blt yv_l1
     have bT0_l1 := blt T0_l1
     have bT1_l1 := blt T1_l1
     have bT2_l1 := blt T2_l1
     have szl1 := lU1.out.size
     have lX1_2 := lh (Ext.al ((Ext.rfl' wr).tr lU1.out) (.cells #[.slice A20 a1.length c20, .slice A21 a2.length c21, .slice A22 a3.length c22] 29))
     go_wp2_with fail
     refine (HR2.out _ (H1r.out.ext lX1_2.out) (V1r.out.ext lX1_2.out) (R1r.out.ext lX1_2.out) (Q1r.out.ext lX1_2.out)).mono ?_
     rintro e lw2 ⟨A24, c24, A25, c25, A26, c26, z24, A27, c27, rfl, -, -, -, lhe2⟩
     have lU2 := lh ((Ext.al (Ext.rfl' lw1) (.cells #[.slice A20 a1.length c20, .slice A21 a2.length c21, .slice A22 a3.length c22] 29)).tr lhe2)
     have lE2 := lh (lE1.out.tr lU2.out)
     have lg_l2 := lU2.out.cellE lg_l1
     have lv_l2 := lU2.out.cellE lv_l1
     have lr_l2 := lU2.out.cellE lr_l1
     have lq_l2 := lU2.out.cellE lq_l1
     have pv_l2 := lU2.out.cellE pv_l1
     have pr_l2 := lU2.out.cellE pr_l1
     have pq_l2 := lU2.out.cellE pq_l1
     have ov_l2 := lU2.out.cellE ov_l1
     have or_l2 := lU2.out.cellE or_l1
     have oq_l2 := lU2.out.cellE oq_l1
     have yv_l2 := lU2.out.cellE yv_l1
     have T0_l2 := lU2.out.cellE T0_l1
     have T1_l2 := lU2.out.cellE T1_l1
     have T2_l2 := lU2.out.cellE T2_l1
     have t20v_l2 := lhe2.cellE (show World.cell? (World.alloc lw1 (.cells #[.slice A20 a1.length c20, .slice A21 a2.length c21, .slice A22 a3.length c22] 29)) ⟨lw1.heap.size, 0, none⟩ = some (.slice A20 a1.length c20) by simp [go_sem])
     have t20r_l2 := lhe2.cellE (show World.cell? (World.alloc lw1 (.cells #[.slice A20 a1.length c20, .slice A21 a2.length c21, .slice A22 a3.length c22] 29)) ⟨lw1.heap.size, 1, none⟩ = some (.slice A21 a2.length c21) by simp [go_sem])
     have t20q_l2 := lhe2.cellE (show World.cell? (World.alloc lw1 (.cells #[.slice A20 a1.length c20, .slice A21 a2.length c21, .slice A22 a3.length c22] 29)) ⟨lw1.heap.size, 2, none⟩ = some (.slice A22 a3.length c22) by simp [go_sem])
     clear lhe2 lg_l1 lv_l1 lr_l1 lq_l1 pv_l1 pr_l1 pq_l1 ov_l1 or_l1 oq_l1 yv_l1 T0_l1 T1_l1 T2_l1 blg_l1 blv_l1 blr_l1 blq_l1 bpv_l1 bpr_l1 bpq_l1 bov_l1 bor_l1 boq_l1 byv_l1 bT0_l1 bT1_l1 bT2_l1 lX1_2
     have blg_l2 := blt lg_l2
     have blv_l2 := blt lv_l2
     have blr_l2 := blt lr_l2
     have blq_l2 := blt lq_l2
     have bpv_l2 := blt pv_l2
     have bpr_l2 := blt pr_l2
     have bpq_l2 := blt pq_l2
     have bov_l2 := blt ov_l2
     have bor_l2 := blt or_l2
     have boq_l2 := blt oq_l2
     have byv_l2 := blt yv_l2
     have bT0_l2 := blt T0_l2
     have bT1_l2 := blt T1_l2
     have bT2_l2 := blt T2_l2
     have bt20v_l2 := blt t20v_l2
     have bt20r_l2 := blt t20r_l2
     have bt20q_l2 := blt t20q_l2
     have szl2 := lU2.out.size
     go_wp2
     go_roundw
     case rel => exact ⟨n + 1, by omega, by go_num, lh (hext.out.tr (Ext.al lE2.out (.cells #[.slice A24 d1.length c24, .slice A25 d2.length c25, .slice A26 d3.length c26] 29)))⟩
     case measure => simp [intOf]; omega
    ·skip
     obtain rfl : n = g.length := by omega
     go_wp2
     go_ret
     exact ⟨rfl, (E7.out.tr hext.out).tr lE0.out⟩
  exact AllReadyH.nil
end Go.Proofs.YtmkfjnkdaeoppaaGreat
