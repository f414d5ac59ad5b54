/- FnCellsOf: the law's walk. Conditions: the code can be read. -/
import Derived.Test.YtkbihkggneaeeaaDrawK
import Derived.Test.YtkbihkggneaeeaaLawD1
import Derived.Test.YtkbihkggneaeeaaLawOne
import Derived.Test.YtkbihkggneaeeaaSpecU
import Derived.Test.YtkbihkggneaeeaaLawD2
namespace Go.Proofs.Ytkbihkggneaeeaa
open Go.RowKit

set_option maxRecDepth 100000 in
set_option maxHeartbeats 8000000 in
theorem ex_FnCellsOf (A : Option Addr) (c : Nat) (l : List Int) (w : World) (h : Rd w 1 A l.length (u8s l)) (hr : ∀ x ∈ l, 0 ≤ x ∧ x ≤ 255) (hc : l.length ≤ c) (hcm : c ≤ maxLen) :
    Calls Try.prog 6 #[.slice A l.length c] w fun e w' => e = .returned (.bool true) ∧ Ext w w' := by
  have hbig := h.big
  have HD := Lib.hid (s_DrawCellsOf A c l w h hr hc hcm)
  clear h hr hc hcm
  by_cases hb : 1048576 < l.length
  · have hb2 : (1048576 : Int) < (l.length : Int) := by omega
    go_enter Try.func6, Try.ntmps6
    go_wp2
    go_ret
    exact ⟨rfl, Ext.rfl' _⟩
  have hb2 : ¬ (1048576 : Int) < (l.length : Int) := by omega
  clear hb
  have E0 := Lib.hid ((Ext.rfl' w) : Ext w w)
  go_enter Try.func6, Try.ntmps6
  go_wp2_with fail
  refine (HD.out).mono ?_
  rintro e w1 ⟨g, Ag, cg, v, Av, cv, r, Ar, cr, rfl, hg2, hg10, hvl, hrl, hN, hV, hR, he1⟩
  have H1 := Lib.hid hN
  have V1 := Lib.hid hV
  have R1 := Lib.hid hR
  have hvl9 : v.length ≤ 1048576 := by omega
  clear hN hV hR HD
  have U1 := Lib.hid ((Ext.rfl' w).tr he1)
  have E1 := Lib.hid (E0.out.tr U1.out)
  clear he1 
  obtain ⟨cl, hcl0⟩ : ∃ cl, cl = Sg.cellsE g ⟨v, r⟩ := ⟨_, rfl⟩
  have HI := Lib.hid (fun w h hv hr => by have := i_CellsOf Ag Av Ar cg cv cr g v r w h hv hr hvl9; rw [← hcl0] at this; exact this)
  have HS := Lib.hid (fun w h hv hr => by have := s_CellsOf Ag Av Ar cg cv cr g v r w h hv hr hvl9; rw [← hcl0] at this; exact this)
  by_cases h0 : cl.length = 0
  · have z0 : ((cl.length : Int) == 0) = true := by simp [h0]
    have H0 := Lib.hid h0
    clear h0 hcl0
    go_wp2_with fail
    refine (HI.out _ (H1.out.ext (Ext.al (Ext.al (Ext.rfl' w1) (.cells #[.slice Ag g.length cg] 25)) (.cells #[.slice Av v.length cv, .slice Ar r.length cr] 31))) (V1.out.ext (Ext.al (Ext.al (Ext.rfl' w1) (.cells #[.slice Ag g.length cg] 25)) (.cells #[.slice Av v.length cv, .slice Ar r.length cr] 31))) (R1.out.ext (Ext.al (Ext.al (Ext.rfl' w1) (.cells #[.slice Ag g.length cg] 25)) (.cells #[.slice Av v.length cv, .slice Ar r.length cr] 31)))).mono ?_
    rintro e w2 ⟨A2, c2, rfl, ho2, he2⟩
    have Hc2 := Lib.hid ho2.rd
    clear ho2
    have U2 := Lib.hid ((Ext.al (Ext.al (Ext.rfl' w1) (.cells #[.slice Ag g.length cg] 25)) (.cells #[.slice Av v.length cv, .slice Ar r.length cr] 31)).tr he2)
    have E2 := Lib.hid (E1.out.tr U2.out)
    have lg_2 := he2.cellE (show World.cell? (World.alloc (World.alloc w1 (.cells #[.slice Ag g.length cg] 25)) (.cells #[.slice Av v.length cv, .slice Ar r.length cr] 31)) ⟨w1.heap.size, 0, none⟩ = some (.slice Ag g.length cg) by simp [go_sem])
    have lv_2 := he2.cellE (show World.cell? (World.alloc (World.alloc w1 (.cells #[.slice Ag g.length cg] 25)) (.cells #[.slice Av v.length cv, .slice Ar r.length cr] 31)) ⟨w1.heap.size + 1, 0, none⟩ = some (.slice Av v.length cv) by simp [go_sem])
    have lr_2 := he2.cellE (show World.cell? (World.alloc (World.alloc w1 (.cells #[.slice Ag g.length cg] 25)) (.cells #[.slice Av v.length cv, .slice Ar r.length cr] 31)) ⟨w1.heap.size + 1, 1, none⟩ = some (.slice Ar r.length cr) by simp [go_sem])
    clear he2 
    have blg_2 := blt lg_2
    have blv_2 := blt lv_2
    have blr_2 := blt lr_2
    go_wp2_with fail
    refine (HS.out _ (H1.out.ext ((Ext.rfl' w1).tr U2.out)) (V1.out.ext ((Ext.rfl' w1).tr U2.out)) (R1.out.ext ((Ext.rfl' w1).tr U2.out))).mono ?_
    rintro e w3 ⟨A3, c3, rfl, ho3, he3⟩
    have Hc3 := Lib.hid ho3.rd
    clear ho3
    have U3 := Lib.hid ((Ext.rfl' w2).tr he3)
    have E3 := Lib.hid (E2.out.tr U3.out)
    have lg_3 := U3.out.cellE lg_2
    have lv_3 := U3.out.cellE lv_2
    have lr_3 := U3.out.cellE lr_2
    clear he3 lg_2 lv_2 lr_2 blg_2 blv_2 blr_2
    have blg_3 := blt lg_3
    have blv_3 := blt lv_3
    have blr_3 := blt lr_3
    go_wp2_with fail
    refine (l_equalInts A2 A3 c2 c3 cl _ (Hc2.out.ext ((Ext.rfl' w2).tr U3.out)) Hc3.out).mono ?_
    rintro e w4 ⟨rfl, he4⟩
    have U4 := Lib.hid ((Ext.rfl' w3).tr he4)
    have E4 := Lib.hid (E3.out.tr U4.out)
    have lg_4 := U4.out.cellE lg_3
    have lv_4 := U4.out.cellE lv_3
    have lr_4 := U4.out.cellE lr_3
    clear he4 lg_3 lv_3 lr_3 blg_3 blv_3 blr_3
    have blg_4 := blt lg_4
    have blv_4 := blt lv_4
    have blr_4 := blt lr_4
    go_wp2_with fail
    refine (HS.out _ (H1.out.ext ((((Ext.rfl' w1).tr U2.out).tr U3.out).tr U4.out)) (V1.out.ext ((((Ext.rfl' w1).tr U2.out).tr U3.out).tr U4.out)) (R1.out.ext ((((Ext.rfl' w1).tr U2.out).tr U3.out).tr U4.out))).mono ?_
    rintro e w5 ⟨A4, c4, rfl, ho4, he5⟩
    have Hc4 := Lib.hid ho4.rd
    clear ho4
    have U5 := Lib.hid ((Ext.rfl' w4).tr he5)
    have E5 := Lib.hid (E4.out.tr U5.out)
    have lg_5 := U5.out.cellE lg_4
    have lv_5 := U5.out.cellE lv_4
    have lr_5 := U5.out.cellE lr_4
    clear he5 lg_4 lv_4 lr_4 blg_4 blv_4 blr_4
    have blg_5 := blt lg_5
    have blv_5 := blt lv_5
    have blr_5 := blt lr_5
    go_wp2_with fail
    refine (l_equalInts A2 A4 c2 c4 cl _ (Hc2.out.ext ((((Ext.rfl' w2).tr U3.out).tr U4.out).tr U5.out)) Hc4.out).mono ?_
    rintro e w6 ⟨rfl, he6⟩
    have U6 := Lib.hid ((Ext.rfl' w5).tr he6)
    have E6 := Lib.hid (E5.out.tr U6.out)
    have lg_6 := U6.out.cellE lg_5
    have lv_6 := U6.out.cellE lv_5
    have lr_6 := U6.out.cellE lr_5
    clear he6 lg_5 lv_5 lr_5 blg_5 blv_5 blr_5
    have blg_6 := blt lg_6
    have blv_6 := blt lv_6
    have blr_6 := blt lr_6
    go_wp2
    go_ret
    exact ⟨rfl, E6.out⟩
  · have z0 : ((cl.length : Int) == 0) = false := by rw [beq_eq_false_iff_ne]; omega
    have hE : Sg.validE g ⟨v, r⟩ = true := by cases hE : Sg.validE g ⟨v, r⟩; exact absurd (show cl.length = 0 by rw [hcl0]; unfold Sg.cellsE; rw [hE]; rfl) h0; rfl
    have hso := validE_startOr hE
    have hcc : cl = Sg.cellsOf g v := by rw [hcl0]; exact hso.2.1
    have HVC := Lib.hid (fun A5 c5 w h hc => by have := i_ValidCells Ag A5 cg c5 g cl w h hc; rw [hso.2.2.1, hcc, hso.2.2.2.1, ← hcc] at this; exact this)
    have HME := Lib.hid (fun A5 c5 w h hc => by have := i_MeaningOf Ag A5 cg c5 g cl w h hc hso.2.2.1 (by rw [hcc]; exact hso.2.2.2.1); rw [hcc, hso.2.2.2.2, ← hcc] at this; exact this)
    clear h0 hcl0 hE hso hcc
    go_wp2_with fail
    refine (HI.out _ (H1.out.ext (Ext.al (Ext.al (Ext.rfl' w1) (.cells #[.slice Ag g.length cg] 25)) (.cells #[.slice Av v.length cv, .slice Ar r.length cr] 31))) (V1.out.ext (Ext.al (Ext.al (Ext.rfl' w1) (.cells #[.slice Ag g.length cg] 25)) (.cells #[.slice Av v.length cv, .slice Ar r.length cr] 31))) (R1.out.ext (Ext.al (Ext.al (Ext.rfl' w1) (.cells #[.slice Ag g.length cg] 25)) (.cells #[.slice Av v.length cv, .slice Ar r.length cr] 31)))).mono ?_
    rintro e w2 ⟨A2, c2, rfl, ho2, he2⟩
    have Hc2 := Lib.hid ho2.rd
    clear ho2
    have U2 := Lib.hid ((Ext.al (Ext.al (Ext.rfl' w1) (.cells #[.slice Ag g.length cg] 25)) (.cells #[.slice Av v.length cv, .slice Ar r.length cr] 31)).tr he2)
    have E2 := Lib.hid (E1.out.tr U2.out)
    have lg_2 := he2.cellE (show World.cell? (World.alloc (World.alloc w1 (.cells #[.slice Ag g.length cg] 25)) (.cells #[.slice Av v.length cv, .slice Ar r.length cr] 31)) ⟨w1.heap.size, 0, none⟩ = some (.slice Ag g.length cg) by simp [go_sem])
    have lv_2 := he2.cellE (show World.cell? (World.alloc (World.alloc w1 (.cells #[.slice Ag g.length cg] 25)) (.cells #[.slice Av v.length cv, .slice Ar r.length cr] 31)) ⟨w1.heap.size + 1, 0, none⟩ = some (.slice Av v.length cv) by simp [go_sem])
    have lr_2 := he2.cellE (show World.cell? (World.alloc (World.alloc w1 (.cells #[.slice Ag g.length cg] 25)) (.cells #[.slice Av v.length cv, .slice Ar r.length cr] 31)) ⟨w1.heap.size + 1, 1, none⟩ = some (.slice Ar r.length cr) by simp [go_sem])
    clear he2 
    have blg_2 := blt lg_2
    have blv_2 := blt lv_2
    have blr_2 := blt lr_2
    go_wp2_with fail
    refine (HS.out _ (H1.out.ext ((Ext.rfl' w1).tr U2.out)) (V1.out.ext ((Ext.rfl' w1).tr U2.out)) (R1.out.ext ((Ext.rfl' w1).tr U2.out))).mono ?_
    rintro e w3 ⟨A3, c3, rfl, ho3, he3⟩
    have Hc3 := Lib.hid ho3.rd
    clear ho3
    have U3 := Lib.hid ((Ext.rfl' w2).tr he3)
    have E3 := Lib.hid (E2.out.tr U3.out)
    have lg_3 := U3.out.cellE lg_2
    have lv_3 := U3.out.cellE lv_2
    have lr_3 := U3.out.cellE lr_2
    clear he3 lg_2 lv_2 lr_2 blg_2 blv_2 blr_2
    have blg_3 := blt lg_3
    have blv_3 := blt lv_3
    have blr_3 := blt lr_3
    go_wp2_with fail
    refine (l_equalInts A2 A3 c2 c3 cl _ (Hc2.out.ext ((Ext.rfl' w2).tr U3.out)) Hc3.out).mono ?_
    rintro e w4 ⟨rfl, he4⟩
    have U4 := Lib.hid ((Ext.rfl' w3).tr he4)
    have E4 := Lib.hid (E3.out.tr U4.out)
    have lg_4 := U4.out.cellE lg_3
    have lv_4 := U4.out.cellE lv_3
    have lr_4 := U4.out.cellE lr_3
    clear he4 lg_3 lv_3 lr_3 blg_3 blv_3 blr_3
    have blg_4 := blt lg_4
    have blv_4 := blt lv_4
    have blr_4 := blt lr_4
    go_wp2_with fail
    go_wp2_with fail
    refine wp_region_held_drew (S := (fun W => W.cell? ⟨w1.heap.size, 0, none⟩ = some (.slice Ag g.length cg) ∧ W.cell? ⟨w1.heap.size + 1, 0, none⟩ = some (.slice Av v.length cv))) (by kernel_rfl) ?_ (fun hHeld => ?_)
    · exact ⟨((Ext.rfl' _).dr).cellE lg_4, ((Ext.rfl' _).dr).cellE lv_4⟩
    refine wpAnyH_take (i := 0) (v := ?_) (by simp only [List.getElem?_toArray, List.getElem?_cons_zero]; rfl) (by kernel_rfl) (by kernel_rfl) (by kernel_rfl) (by exact fun _ _ _ h => h) (Or.inl ⟨by kernel_rfl, ?_⟩) (by assumption) ?_
    rotate_left
    · intro w hSw; (try dsimp only at hSw); go_simp; try with_reducible rfl
    try simp only [Act.put, List.setIfInBounds_toArray, List.set_cons_zero, List.set_cons_succ]
    refine wpAnyH_take (i := 1) (v := ?_) (by simp only [List.getElem?_toArray, List.getElem?_cons_succ, List.getElem?_cons_zero]; rfl) (by kernel_rfl) (by kernel_rfl) (by kernel_rfl) (by exact fun _ _ _ h => h) (Or.inl ⟨by kernel_rfl, ?_⟩) (by assumption) ?_
    rotate_left
    · intro w hSw; (try dsimp only at hSw); go_simp; try with_reducible rfl
    try simp only [Act.put, List.setIfInBounds_toArray, List.set_cons_zero, List.set_cons_succ]
    refine wpAnyH_ready (rs := [2]) (by kernel_rfl) (by simp) ?_
    refine AllReadyH.cons rfl (fun K hK => ?_) AllReadyH.nil
    go_simp
    refine (HVC.out A2 c2 _ (H1.out.ext (((((Ext.rfl' w1).tr U2.out).tr U3.out).tr U4.out).dr)) (Hc2.out.ext ((((Ext.rfl' w2).tr U3.out).tr U4.out).dr))).mono ?_
    rintro e w5 ⟨rfl, he5⟩
    have U5 := Lib.hid (((Ext.rfl' w4).dr).tr he5)
    have E5 := Lib.hid (E4.out.tr U5.out)
    have lg_5 := U5.out.cellE lg_4
    have lv_5 := U5.out.cellE lv_4
    have lr_5 := U5.out.cellE lr_4
    clear he5 lg_4 lv_4 lr_4 blg_4 blv_4 blr_4
    have blg_5 := blt lg_5
    have blv_5 := blt lv_5
    have blr_5 := blt lr_5
    try go_wp2_with fail
    refine hK.out _ _ ?_ (fun hHeld2 => ?_)
    · exact ⟨lg_5, lv_5⟩
    clear hK K hHeld
    have hHeld := hHeld2
    clear hHeld2
    try simp only [Act.put, List.setIfInBounds_toArray, List.set_cons_zero, List.set_cons_succ]
    refine wpAnyH_take (i := 3) (v := ?_) (by simp only [List.getElem?_toArray, List.getElem?_cons_succ, List.getElem?_cons_zero]; rfl) (by kernel_rfl) (by kernel_rfl) (by kernel_rfl) (by exact fun _ _ _ h => h) (Or.inl ⟨by kernel_rfl, ?_⟩) (by assumption) ?_
    rotate_left
    · intro w hSw; (try dsimp only at hSw); go_simp; try with_reducible rfl
    try simp only [Act.put, List.setIfInBounds_toArray, List.set_cons_zero, List.set_cons_succ]
    refine wpAnyH_take (i := 4) (v := ?_) (by simp only [List.getElem?_toArray, List.getElem?_cons_succ, List.getElem?_cons_zero]; rfl) (by kernel_rfl) (by kernel_rfl) (by kernel_rfl) (by exact fun _ _ _ h => h) (Or.inl ⟨by kernel_rfl, ?_⟩) (by assumption) ?_
    rotate_left
    · intro w hSw; (try dsimp only at hSw); go_simp; try with_reducible rfl
    try simp only [Act.put, List.setIfInBounds_toArray, List.set_cons_zero, List.set_cons_succ]
    refine wpAnyH_take (i := 5) (v := ?_) (by simp only [List.getElem?_toArray, List.getElem?_cons_succ, List.getElem?_cons_zero]; rfl) (by kernel_rfl) (by kernel_rfl) (by kernel_rfl) (by exact fun _ _ _ h => h) (Or.inl ⟨by kernel_rfl, ?_⟩) (by assumption) ?_
    rotate_left
    · intro w hSw; (try dsimp only at hSw); go_simp; try with_reducible rfl
    try simp only [Act.put, List.setIfInBounds_toArray, List.set_cons_zero, List.set_cons_succ]
    refine wpAnyH_take (i := 7) (v := ?_) (by simp only [List.getElem?_toArray, List.getElem?_cons_succ, List.getElem?_cons_zero]; rfl) (by kernel_rfl) (by kernel_rfl) (by kernel_rfl) (by exact fun _ _ _ h => h) (Or.inl ⟨by kernel_rfl, ?_⟩) (by assumption) ?_
    rotate_left
    · intro w hSw; (try dsimp only at hSw); go_simp; try with_reducible rfl
    try simp only [Act.put, List.setIfInBounds_toArray, List.set_cons_zero, List.set_cons_succ]
    refine wpAnyH_take (i := 8) (v := ?_) (by simp only [List.getElem?_toArray, List.getElem?_cons_succ, List.getElem?_cons_zero]; rfl) (by kernel_rfl) (by kernel_rfl) (by kernel_rfl) (by exact fun _ _ _ h => h) (Or.inl ⟨by kernel_rfl, ?_⟩) (by assumption) ?_
    rotate_left
    · intro w hSw; (try dsimp only at hSw); go_simp; try with_reducible rfl
    try simp only [Act.put, List.setIfInBounds_toArray, List.set_cons_zero, List.set_cons_succ]
    refine wpAnyH_ready (rs := [6]) (by kernel_rfl) (by simp) ?_
    refine AllReadyH.cons rfl (fun K hK => ?_) AllReadyH.nil
    go_simp
    refine (HME.out A2 c2 _ (H1.out.ext (((((Ext.rfl' w1).tr U2.out).tr U3.out).tr U4.out).tr U5.out)) (Hc2.out.ext ((((Ext.rfl' w2).tr U3.out).tr U4.out).tr U5.out))).mono ?_
    rintro e w6 ⟨A6, rfl, hm6, he6⟩
    have Hm6 := Lib.hid hm6.rd
    clear hm6
    have U6 := Lib.hid ((Ext.rfl' w5).tr he6)
    have E6 := Lib.hid (E5.out.tr U6.out)
    have lg_6 := U6.out.cellE lg_5
    have lv_6 := U6.out.cellE lv_5
    have lr_6 := U6.out.cellE lr_5
    clear he6 lg_5 lv_5 lr_5 blg_5 blv_5 blr_5
    have blg_6 := blt lg_6
    have blv_6 := blt lv_6
    have blr_6 := blt lr_6
    try go_wp2_with fail
    refine hK.out _ _ ?_ (fun hHeld2 => ?_)
    · exact ⟨lg_6, lv_6⟩
    clear hK K hHeld
    have hHeld := hHeld2
    clear hHeld2
    try simp only [Act.put, List.setIfInBounds_toArray, List.set_cons_zero, List.set_cons_succ]
    refine wpAnyH_ready (rs := [9]) (by kernel_rfl) (by simp) ?_
    refine AllReadyH.cons rfl (fun K hK => ?_) AllReadyH.nil
    go_simp
    refine (l_equalInts A6 Av g.length cv v _ Hm6.out (V1.out.ext ((((((Ext.rfl' w1).tr U2.out).tr U3.out).tr U4.out).tr U5.out).tr U6.out))).mono ?_
    rintro e w7 ⟨rfl, he7⟩
    have U7 := Lib.hid ((Ext.rfl' w6).tr he7)
    have E7 := Lib.hid (E6.out.tr U7.out)
    have lg_7 := U7.out.cellE lg_6
    have lv_7 := U7.out.cellE lv_6
    have lr_7 := U7.out.cellE lr_6
    clear he7 lg_6 lv_6 lr_6 blg_6 blv_6 blr_6
    have blg_7 := blt lg_7
    have blv_7 := blt lv_7
    have blr_7 := blt lr_7
    try go_wp2_with fail
    refine hK.out _ _ ?_ (fun hHeld2 => ?_)
    · exact ⟨lg_7, lv_7⟩
    clear hK K hHeld
    have hHeld := hHeld2
    clear hHeld2
    try simp only [Act.put, List.setIfInBounds_toArray, List.set_cons_zero, List.set_cons_succ]
    refine wpAnyH_take (i := 10) (v := ?_) (by simp only [List.getElem?_toArray, List.getElem?_cons_succ, List.getElem?_cons_zero]; rfl) (by kernel_rfl) (by kernel_rfl) (by kernel_rfl) (by exact fun _ _ _ h => h) (Or.inl ⟨by kernel_rfl, ?_⟩) (by assumption) ?_
    rotate_left
    · intro w hSw; (try dsimp only at hSw); go_simp; try with_reducible rfl
    try simp only [Act.put, List.setIfInBounds_toArray, List.set_cons_zero, List.set_cons_succ]
    refine wpAnyH_take (i := 11) (v := ?_) (by simp only [List.getElem?_toArray, List.getElem?_cons_succ, List.getElem?_cons_zero]; rfl) (by kernel_rfl) (by kernel_rfl) (by kernel_rfl) (by exact fun _ _ _ h => h) (Or.inl ⟨by kernel_rfl, ?_⟩) (by assumption) ?_
    rotate_left
    · intro w hSw; (try dsimp only at hSw); go_simp; try with_reducible rfl
    try simp only [Act.put, List.setIfInBounds_toArray, List.set_cons_zero, List.set_cons_succ]
    refine wpAnyH_done (by kernel_rfl) ?_ _
    go_wp2
    go_ret
    exact ⟨rfl, E7.out⟩
end Go.Proofs.Ytkbihkggneaeeaa
