/- FnValidLazy: the law's walk. Conditions: the code can be read. -/
import Derived.Test.YtmkfjnkdaeoppaaGreatTy
import Derived.Test.YtmkfjnkdaeoppaaGreatDrawS
import Derived.Test.YtmkfjnkdaeoppaaGreatLawVW
import Derived.Test.YtmkfjnkdaeoppaaGreatImplA1
import Derived.Test.YtmkfjnkdaeoppaaGreatMeanAll
import Derived.Test.YtmkfjnkdaeoppaaGreatPlAll
import Derived.Test.YtmkfjnkdaeoppaaGreatEqAll
import Derived.Test.YtmkfjnkdaeoppaaGreatImplVW
namespace Go.Proofs.YtmkfjnkdaeoppaaGreat
open Go.RowKit

set_option maxRecDepth 100000 in
set_option maxHeartbeats 8000000 in
theorem ex_FnValidLazy (A : Option Addr) (c : Nat) (l : List Int) (w : World) (h : Rd w 1 A l.length (u8s l)) (hr : ∀ x ∈ l, 0 ≤ x ∧ x ≤ 255) (hc : l.length ≤ c) (hcm : c ≤ maxLen) :
  Calls Tryz.prog 4 #[.slice A l.length c] w fun e w' => e = .returned (.bool true) ∧ Ext w w' := by
 have hbig := h.big
 have HD := lh (s_DrawValidLazy A c l w h hr hc hcm)
 clear h hr hc hcm
 by_cases hb : 1048576 < l.length
 ·have hb2 : (1048576 : Int) < (l.length : Int) := by omega
  go_enter Tryz.func4, Tryz.ntmps4
  go_wp2
  go_ret
  exact ⟨rfl, Ext.rfl' _⟩
 have hb2 : ¬ (1048576 : Int) < (l.length : Int) := by omega
 clear hb
 have E0 := lh ((Ext.rfl' w) : Ext w w)
 go_enter Tryz.func4, Tryz.ntmps4
 go_wp2_with fail
 refine (HD.out).mono ?_
 rintro e w1 ⟨g, Ag, cg, v, Av, cv, r, Ar, cr, q, Aq, cq, rfl, hg2, hg10, hvl, hrl, hql, hN, hV, hR, hQ, he1⟩
 have H1 := lh hN
 have V1 := lh hV
 have R1 := lh hR
 have Q1 := lh hQ
 have hvl9 : v.length ≤ 1048576 := by omega
 have hql9 : q.length ≤ 1048576 := by omega
 clear hN hV hR hQ HD
 have U1 := lh ((Ext.rfl' w).tr he1)
 have E1 := lh (E0.out.tr U1.out)
 clear he1 
 have HV := lh (fun w h hv hr hq => i_ValidLazy Ag Av Ar Aq cg cv cr cq g v q r w h hv hr hq hvl9 hql9)
 have HS := lh (fun w h hv hr hq => s_ValidLazy Ag Av Ar Aq cg cv cr cq g v q r w h hv hr hq hvl9 hql9)
 have X1_1 := lh (Ext.al (Ext.al (Ext.rfl' w1) (.cells #[.slice Ag g.length cg] 25)) (.cells #[.slice Av v.length cv, .slice Ar r.length cr, .slice Aq q.length cq] 29))
 go_wp2_with fail
 refine (HV.out _ (H1.out.ext X1_1.out) (V1.out.ext X1_1.out) (R1.out.ext X1_1.out) (Q1.out.ext X1_1.out)).mono ?_
 rintro e w2 ⟨rfl, he2⟩
 have U2 := lh ((Ext.al (Ext.al (Ext.rfl' w1) (.cells #[.slice Ag g.length cg] 25)) (.cells #[.slice Av v.length cv, .slice Ar r.length cr, .slice Aq q.length cq] 29)).tr he2)
 have E2 := lh (E1.out.tr U2.out)
 have lg_2 := he2.cellE (show World.cell? (World.alloc (World.alloc w1 (.cells #[.slice Ag g.length cg] 25)) (.cells #[.slice Av v.length cv, .slice Ar r.length cr, .slice Aq q.length cq] 29)) ⟨w1.heap.size, 0, none⟩ = some (.slice Ag g.length cg) by simp [go_sem])
 have lv_2 := he2.cellE (show World.cell? (World.alloc (World.alloc w1 (.cells #[.slice Ag g.length cg] 25)) (.cells #[.slice Av v.length cv, .slice Ar r.length cr, .slice Aq q.length cq] 29)) ⟨w1.heap.size + 1, 0, none⟩ = some (.slice Av v.length cv) by simp [go_sem])
 have lr_2 := he2.cellE (show World.cell? (World.alloc (World.alloc w1 (.cells #[.slice Ag g.length cg] 25)) (.cells #[.slice Av v.length cv, .slice Ar r.length cr, .slice Aq q.length cq] 29)) ⟨w1.heap.size + 1, 1, none⟩ = some (.slice Ar r.length cr) by simp [go_sem])
 have lq_2 := he2.cellE (show World.cell? (World.alloc (World.alloc w1 (.cells #[.slice Ag g.length cg] 25)) (.cells #[.slice Av v.length cv, .slice Ar r.length cr, .slice Aq q.length cq] 29)) ⟨w1.heap.size + 1, 2, none⟩ = some (.slice Aq q.length cq) by simp [go_sem])
 clear he2 X1_1
 have blg_2 := blt lg_2
 have blv_2 := blt lv_2
 have blr_2 := blt lr_2
 have blq_2 := blt lq_2
 have X2_2 := lh ((Ext.rfl' w1).tr U2.out)
 go_wp2_with fail
 refine (HS.out _ (H1.out.ext X2_2.out) (V1.out.ext X2_2.out) (R1.out.ext X2_2.out).rdL (Q1.out.ext X2_2.out)).mono ?_
 rintro e w3 ⟨rfl, he3⟩
 have U3 := lh ((Ext.rfl' w2).tr he3)
 have E3 := lh (E2.out.tr U3.out)
 have lg_3 := U3.out.cellE lg_2
 have lv_3 := U3.out.cellE lv_2
 have lr_3 := U3.out.cellE lr_2
 have lq_3 := U3.out.cellE lq_2
 clear he3 lg_2 lv_2 lr_2 lq_2 blg_2 blv_2 blr_2 blq_2 X2_2
 have blg_3 := blt lg_3
 have blv_3 := blt lv_3
 have blr_3 := blt lr_3
 have blq_3 := blt lq_3
 cases hE : Sg.validL g ⟨v, r, q⟩
 ·skip
  have HE := lh hE
  clear hE
  have X3_3 := lh (((Ext.rfl' w1).tr U2.out).tr U3.out)
  go_wp2_with fail
  refine (HS.out _ (H1.out.ext X3_3.out) (V1.out.ext X3_3.out) (R1.out.ext X3_3.out).rdL (Q1.out.ext X3_3.out)).mono ?_
  rintro e w4 ⟨rfl, he4⟩
  rw [HE.out]
  have U4 := lh ((Ext.rfl' w3).tr he4)
  have E4 := lh (E3.out.tr U4.out)
  have lg_4 := U4.out.cellE lg_3
  have lv_4 := U4.out.cellE lv_3
  have lr_4 := U4.out.cellE lr_3
  have lq_4 := U4.out.cellE lq_3
  clear he4 lg_3 lv_3 lr_3 lq_3 blg_3 blv_3 blr_3 blq_3 X3_3
  have blg_4 := blt lg_4
  have blv_4 := blt lv_4
  have blr_4 := blt lr_4
  have blq_4 := blt lq_4
  go_wp2
  go_ret
  exact ⟨rfl, E4.out⟩
 ·obtain ⟨so, hso0⟩ : ∃ so, so = Sg.staleOf g ⟨v, r, q⟩ := ⟨_, rfl⟩
  have HSO := lh (fun w h hv hr hq => by have := i_StaleOf Ag Av Ar Aq cg cv cr cq g v q r w h hv hr hq hvl9 hql9; rw [← hso0] at this; exact this)
  by_cases hs : so.length > 0
  ·skip
   have hs2 : (so.length : Int) > 0 := by omega
   have hs3 : so ≠ [] := by intro e; rw [e] at hs; simp at hs
   clear hE hso0
   go_wp2_with fail
   refine wp_region_held_drew (S := (fun W => W.cell? ⟨w1.heap.size, 0, none⟩ = some (.slice Ag g.length cg) ∧ W.cell? ⟨w1.heap.size + 1, 0, none⟩ = some (.slice Av v.length cv) ∧ W.cell? ⟨w1.heap.size + 1, 1, none⟩ = some (.slice Ar r.length cr) ∧ W.cell? ⟨w1.heap.size + 1, 2, none⟩ = some (.slice Aq q.length cq))) (by kernel_rfl) ?_ (fun hHeld => ?_)
   ·exact ⟨((Ext.rfl' _).dr).cellE lg_3, ((Ext.rfl' _).dr).cellE lv_3, ((Ext.rfl' _).dr).cellE lr_3, ((Ext.rfl' _).dr).cellE lq_3⟩
   refine ty 0 ?_
   refine ty 1 ?_
   refine rd1 2 rfl fun K hK => ?_
   go_simp
   have X3_3 := lh ((((Ext.rfl' w1).tr U2.out).tr U3.out).dr)
   refine (HSO.out _ (H1.out.ext X3_3.out) (V1.out.ext X3_3.out) (R1.out.ext X3_3.out) (Q1.out.ext X3_3.out)).mono ?_
   rintro e w4 ⟨A10, c10, rfl, hos, he4⟩
   clear hos
   have U4 := lh (((Ext.rfl' w3).dr).tr he4)
   have E4 := lh (E3.out.tr U4.out)
   have lg_4 := U4.out.cellE lg_3
   have lv_4 := U4.out.cellE lv_3
   have lr_4 := U4.out.cellE lr_3
   have lq_4 := U4.out.cellE lq_3
   clear he4 lg_3 lv_3 lr_3 lq_3 blg_3 blv_3 blr_3 blq_3 X3_3
   have blg_4 := blt lg_4
   have blv_4 := blt lv_4
   have blr_4 := blt lr_4
   have blq_4 := blt lq_4
   try go_wp2_with fail
   refine hK.out _ _ (by exact ⟨lg_4, lv_4, lr_4, lq_4⟩) fun hh2 => ?_; clear hK K hHeld; have hHeld := hh2; clear hh2
   try simp only [Act.put, pu]
   refine ty 3 ?_
   refine ty 4 ?_
   refine ty 5 ?_
   refine tn 6 ?_
   refine tn 7 ?_
   refine tn 8 ?_
   refine tn 9 ?_
   refine tn 10 ?_
   refine tn 11 ?_
   refine tn 12 ?_
   refine tn 13 ?_
   refine ty 14 ?_
   refine ty 15 ?_
   refine dn ?_
   go_wp2
   go_ret
   exact ⟨rfl, E4.out⟩
  ·skip
   obtain rfl : so = [] := List.eq_nil_of_length_eq_zero (by omega)
   have hsn := hso0.symm
   have hmv := Sg.valid_law hE hsn
   have hG := (Sg.validL_shape hE).1
   have hC : Sg.validC g (Sg.cellsOf g v) = true := Sg.lazy_cellsC hE
   have hlc : Sg.lazyCells g ⟨v, r, q⟩ = Sg.cellsOf g v := by unfold Sg.lazyCells; rw [if_pos hE]
   obtain ⟨cl, hcl0⟩ : ∃ cl, cl = Sg.cellsOf g v := ⟨_, rfl⟩
   rw [← hcl0] at hlc hC
   rw [← hcl0] at hmv
   dsimp only at hmv
   have HLC := lh (fun w h hv hr hq => by have := i_LazyCells Ag Av Ar Aq cg cv cr cq g v q r w h hv hr hq hvl9 hql9; rw [hlc] at this; exact this)
   have HME := lh (fun A2 c2 w h hc => by have := i_MeaningOf Ag A2 cg c2 g cl w h hc hG hC; rw [hmv] at this; exact this)
   clear hE hso0 hs hsn hmv hG hC hlc hcl0
   go_wp2_with fail
   refine wp_region_held_drew (S := (fun W => W.cell? ⟨w1.heap.size, 0, none⟩ = some (.slice Ag g.length cg) ∧ W.cell? ⟨w1.heap.size + 1, 0, none⟩ = some (.slice Av v.length cv) ∧ W.cell? ⟨w1.heap.size + 1, 1, none⟩ = some (.slice Ar r.length cr) ∧ W.cell? ⟨w1.heap.size + 1, 2, none⟩ = some (.slice Aq q.length cq))) (by kernel_rfl) ?_ (fun hHeld => ?_)
   ·exact ⟨((Ext.rfl' _).dr).cellE lg_3, ((Ext.rfl' _).dr).cellE lv_3, ((Ext.rfl' _).dr).cellE lr_3, ((Ext.rfl' _).dr).cellE lq_3⟩
   refine ty 0 ?_
   refine ty 1 ?_
   refine rd1 2 rfl fun K hK => ?_
   go_simp
   have X3_3 := lh ((((Ext.rfl' w1).tr U2.out).tr U3.out).dr)
   refine (HSO.out _ (H1.out.ext X3_3.out) (V1.out.ext X3_3.out) (R1.out.ext X3_3.out) (Q1.out.ext X3_3.out)).mono ?_
   rintro e w4 ⟨A10, c10, rfl, hos, he4⟩
   clear hos
   have U4 := lh (((Ext.rfl' w3).dr).tr he4)
   have E4 := lh (E3.out.tr U4.out)
   have lg_4 := U4.out.cellE lg_3
   have lv_4 := U4.out.cellE lv_3
   have lr_4 := U4.out.cellE lr_3
   have lq_4 := U4.out.cellE lq_3
   clear he4 lg_3 lv_3 lr_3 lq_3 blg_3 blv_3 blr_3 blq_3 X3_3
   have blg_4 := blt lg_4
   have blv_4 := blt lv_4
   have blr_4 := blt lr_4
   have blq_4 := blt lq_4
   try go_wp2_with fail
   refine hK.out _ _ (by exact ⟨lg_4, lv_4, lr_4, lq_4⟩) fun hh2 => ?_; clear hK K hHeld; have hHeld := hh2; clear hh2
   try simp only [Act.put, pu]
   refine ty 3 ?_
   refine ty 4 ?_
   refine ty 5 ?_
   refine ty 6 ?_
   refine ty 7 ?_
   refine ty 8 ?_
   refine ty 11 ?_
   refine ty 12 ?_
   refine rd1 9 rfl fun K hK => ?_
   go_simp
   have X4_4 := lh ((((Ext.rfl' w1).tr U2.out).tr U3.out).tr U4.out)
   refine (HLC.out _ (H1.out.ext X4_4.out) (V1.out.ext X4_4.out) (R1.out.ext X4_4.out) (Q1.out.ext X4_4.out)).mono ?_
   rintro e w5 ⟨A11, c11, rfl, hoc, he5⟩
   have Hc11 := lh hoc.rd
   clear hoc
   have U5 := lh ((Ext.rfl' w4).tr he5)
   have E5 := lh (E4.out.tr U5.out)
   have lg_5 := U5.out.cellE lg_4
   have lv_5 := U5.out.cellE lv_4
   have lr_5 := U5.out.cellE lr_4
   have lq_5 := U5.out.cellE lq_4
   clear he5 lg_4 lv_4 lr_4 lq_4 blg_4 blv_4 blr_4 blq_4 X4_4
   have blg_5 := blt lg_5
   have blv_5 := blt lv_5
   have blr_5 := blt lr_5
   have blq_5 := blt lq_5
   try go_wp2_with fail
   refine hK.out _ _ (by exact ⟨lg_5, lv_5, lr_5, lq_5⟩) fun hh2 => ?_; clear hK K hHeld; have hHeld := hh2; clear hh2
   try simp only [Act.put, pu]
   refine rd1 10 rfl fun K hK => ?_
   go_simp
   have X5_5 := lh (((((Ext.rfl' w1).tr U2.out).tr U3.out).tr U4.out).tr U5.out)
   refine (HME.out A11 c11 _ (H1.out.ext X5_5.out) Hc11.out).mono ?_
   rintro e w6 ⟨A12, rfl, hom, he6⟩
   have Hm12 := lh hom.rd
   clear hom
   have U6 := lh ((Ext.rfl' w5).tr he6)
   have E6 := lh (E5.out.tr U6.out)
   have lg_6 := U6.out.cellE lg_5
   have lv_6 := U6.out.cellE lv_5
   have lr_6 := U6.out.cellE lr_5
   have lq_6 := U6.out.cellE lq_5
   clear he6 lg_5 lv_5 lr_5 lq_5 blg_5 blv_5 blr_5 blq_5 X5_5
   have blg_6 := blt lg_6
   have blv_6 := blt lv_6
   have blr_6 := blt lr_6
   have blq_6 := blt lq_6
   try go_wp2_with fail
   refine hK.out _ _ (by exact ⟨lg_6, lv_6, lr_6, lq_6⟩) fun hh2 => ?_; clear hK K hHeld; have hHeld := hh2; clear hh2
   try simp only [Act.put, pu]
   refine rd1 13 rfl fun K hK => ?_
   go_simp
   have X6_6 := lh ((((((Ext.rfl' w1).tr U2.out).tr U3.out).tr U4.out).tr U5.out).tr U6.out)
   refine (l_equalInts A12 Av _ cv v _ Hm12.out (V1.out.ext X6_6.out)).mono ?_
   rintro e w7 ⟨rfl, he7⟩
   have U7 := lh ((Ext.rfl' w6).tr he7)
   have E7 := lh (E6.out.tr U7.out)
   have lg_7 := U7.out.cellE lg_6
   have lv_7 := U7.out.cellE lv_6
   have lr_7 := U7.out.cellE lr_6
   have lq_7 := U7.out.cellE lq_6
   clear he7 lg_6 lv_6 lr_6 lq_6 blg_6 blv_6 blr_6 blq_6 X6_6
   have blg_7 := blt lg_7
   have blv_7 := blt lv_7
   have blr_7 := blt lr_7
   have blq_7 := blt lq_7
   try go_wp2_with fail
   refine hK.out _ _ (by exact ⟨lg_7, lv_7, lr_7, lq_7⟩) fun hh2 => ?_; clear hK K hHeld; have hHeld := hh2; clear hh2
   try simp only [Act.put, pu]
   refine ty 14 ?_
   refine ty 15 ?_
   refine dn ?_
   go_wp2
   go_ret
   exact ⟨rfl, E7.out⟩
end Go.Proofs.YtmkfjnkdaeoppaaGreat
