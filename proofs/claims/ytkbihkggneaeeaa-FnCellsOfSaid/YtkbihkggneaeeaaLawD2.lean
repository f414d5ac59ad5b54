/- FnValidEager: the law's walk. Conditions: the code can be read. -/
import Derived.Test.YtkbihkggneaeeaaDrawK
import Derived.Test.YtkbihkggneaeeaaLawD1
import Derived.Test.YtkbihkggneaeeaaLawOne
import Derived.Test.YtkbihkggneaeeaaSpecU
namespace Go.Proofs.Ytkbihkggneaeeaa
open Go.RowKit
theorem RdL.bound {w : World} {A : Option Addr} {ll : List (List Int)} (h : RdL w A ll) : ∀ x ∈ ll, x.length ≤ 1048576 := by
  intro x hx
  obtain ⟨i, hi⟩ := List.getElem?_of_mem hx
  obtain ⟨b, o, Al, cl, _, _, _, h4⟩ := h.2 i x hi
  exact h4
theorem validE_startOr {g : Sg.Graph} {v : List Int} {r : List (List Int)} (h : Sg.validE g ⟨v, r⟩ = true) : startOr g (Sg.cellsE g ⟨v, r⟩) = ⟨v, r⟩ ∧ Sg.cellsE g ⟨v, r⟩ = Sg.cellsOf g v ∧ Sg.validG g = true ∧ Sg.validC g (Sg.cellsOf g v) = true ∧ Sg.mean g (Sg.cellsOf g v) = v := by
  have hc : Sg.cellsE g ⟨v, r⟩ = Sg.cellsOf g v := by unfold Sg.cellsE; rw [if_pos h]
  have hG := (Sg.validE_parts h).1
  have hC := Sg.validE_cells h
  refine ⟨?_, hc, hG, hC, Sg.validE_mean h⟩
  rw [hc, startOr_ok hG hC]
  exact Sg.validE_start h
set_option maxRecDepth 100000 in
set_option maxHeartbeats 8000000 in
theorem ex_FnValidEager (A : Option Addr) (c : Nat) (l : List Int) (w : World) (h : Rd w 1 A l.length (u8s l)) (hr : ∀ x ∈ l, 0 ≤ x ∧ x ≤ 255) (hc : l.length ≤ c) (hcm : c ≤ maxLen) :
    Calls Try.prog 5 #[.slice A l.length c] w fun e w' => e = .returned (.bool true) ∧ Ext w w' := by
  have hbig := h.big
  have HD := Lib.hid (s_DrawValidEager A c l w h hr hc hcm)
  clear h hr hc hcm
  by_cases hb : 1048576 < l.length
  · have hb2 : (1048576 : Int) < (l.length : Int) := by omega
    go_enter Try.func5, Try.ntmps5
    go_wp2
    go_ret
    exact ⟨rfl, Ext.rfl' _⟩
  have hb2 : ¬ (1048576 : Int) < (l.length : Int) := by omega
  clear hb
  have E0 := Lib.hid ((Ext.rfl' w) : Ext w w)
  go_enter Try.func5, Try.ntmps5
  go_wp2_with fail
  refine (HD.out).mono ?_
  rintro e w1 ⟨g, Ag, cg, v, Av, cv, r, Ar, cr, rfl, hg2, hg10, hvl, hrl, hN, hV, hR, he1⟩
  have H1 := Lib.hid hN
  have V1 := Lib.hid hV
  have R1 := Lib.hid hR
  have hvl9 : v.length ≤ 1048576 := by omega
  clear hN hV hR HD
  have U1 := Lib.hid ((Ext.rfl' w).tr he1)
  have E1 := Lib.hid (E0.out.tr U1.out)
  clear he1 
  have HI := Lib.hid (fun w h hv hr => i_ValidEager Ag Av Ar cg cv cr g v r w h hv hr)
  have HS := Lib.hid (fun w h hv hr => s_ValidEager Ag Av Ar cg cv cr g v r w h hv hr hvl9)
  cases hE : Sg.validE g ⟨v, r⟩
  · have HE := Lib.hid hE
    clear hE
    go_wp2_with fail
    refine (HI.out _ (H1.out.ext (Ext.al (Ext.al (Ext.rfl' w1) (.cells #[.slice Ag g.length cg] 25)) (.cells #[.slice Av v.length cv, .slice Ar r.length cr] 31))) (V1.out.ext (Ext.al (Ext.al (Ext.rfl' w1) (.cells #[.slice Ag g.length cg] 25)) (.cells #[.slice Av v.length cv, .slice Ar r.length cr] 31))) (R1.out.ext (Ext.al (Ext.al (Ext.rfl' w1) (.cells #[.slice Ag g.length cg] 25)) (.cells #[.slice Av v.length cv, .slice Ar r.length cr] 31)))).mono ?_
    rintro e w2 ⟨rfl, he2⟩
    rw [HE.out]
    have U2 := Lib.hid ((Ext.al (Ext.al (Ext.rfl' w1) (.cells #[.slice Ag g.length cg] 25)) (.cells #[.slice Av v.length cv, .slice Ar r.length cr] 31)).tr he2)
    have E2 := Lib.hid (E1.out.tr U2.out)
    have lg_2 := he2.cellE (show World.cell? (World.alloc (World.alloc w1 (.cells #[.slice Ag g.length cg] 25)) (.cells #[.slice Av v.length cv, .slice Ar r.length cr] 31)) ⟨w1.heap.size, 0, none⟩ = some (.slice Ag g.length cg) by simp [go_sem])
    have lv_2 := he2.cellE (show World.cell? (World.alloc (World.alloc w1 (.cells #[.slice Ag g.length cg] 25)) (.cells #[.slice Av v.length cv, .slice Ar r.length cr] 31)) ⟨w1.heap.size + 1, 0, none⟩ = some (.slice Av v.length cv) by simp [go_sem])
    have lr_2 := he2.cellE (show World.cell? (World.alloc (World.alloc w1 (.cells #[.slice Ag g.length cg] 25)) (.cells #[.slice Av v.length cv, .slice Ar r.length cr] 31)) ⟨w1.heap.size + 1, 1, none⟩ = some (.slice Ar r.length cr) by simp [go_sem])
    clear he2 
    have blg_2 := blt lg_2
    have blv_2 := blt lv_2
    have blr_2 := blt lr_2
    go_wp2_with fail
    refine (HS.out _ (H1.out.ext ((Ext.rfl' w1).tr U2.out)) (V1.out.ext ((Ext.rfl' w1).tr U2.out)) (R1.out.ext ((Ext.rfl' w1).tr U2.out))).mono ?_
    rintro e w3 ⟨rfl, he3⟩
    rw [HE.out]
    have U3 := Lib.hid ((Ext.rfl' w2).tr he3)
    have E3 := Lib.hid (E2.out.tr U3.out)
    have lg_3 := U3.out.cellE lg_2
    have lv_3 := U3.out.cellE lv_2
    have lr_3 := U3.out.cellE lr_2
    clear he3 lg_2 lv_2 lr_2 blg_2 blv_2 blr_2
    have blg_3 := blt lg_3
    have blv_3 := blt lv_3
    have blr_3 := blt lr_3
    go_wp2_with fail
    refine (HS.out _ (H1.out.ext (((Ext.rfl' w1).tr U2.out).tr U3.out)) (V1.out.ext (((Ext.rfl' w1).tr U2.out).tr U3.out)) (R1.out.ext (((Ext.rfl' w1).tr U2.out).tr U3.out))).mono ?_
    rintro e w4 ⟨rfl, he4⟩
    rw [HE.out]
    have U4 := Lib.hid ((Ext.rfl' w3).tr he4)
    have E4 := Lib.hid (E3.out.tr U4.out)
    have lg_4 := U4.out.cellE lg_3
    have lv_4 := U4.out.cellE lv_3
    have lr_4 := U4.out.cellE lr_3
    clear he4 lg_3 lv_3 lr_3 blg_3 blv_3 blr_3
    have blg_4 := blt lg_4
    have blv_4 := blt lv_4
    have blr_4 := blt lr_4
    go_wp2
    go_ret
    exact ⟨rfl, E4.out⟩
  · have HE := Lib.hid hE
    have hso := validE_startOr hE
    have HBD := Lib.hid (show r.length ≤ 1048576 ∧ ∀ x ∈ r, x.length ≤ 1048576 from ⟨by omega, R1.out.bound⟩)
    have hcl : (Sg.cellsE g ⟨v, r⟩).length ≤ 1048576 := by rw [hso.2.1, Sg.length_cellsOf]; omega
    obtain ⟨cl, hcl0⟩ : ∃ cl, cl = Sg.cellsE g ⟨v, r⟩ := ⟨_, rfl⟩
    rw [← hcl0] at hso hcl
    have HCC := Lib.hid (fun w h hv hr => by have := i_CellsOf Ag Av Ar cg cv cr g v r w h hv hr hvl9; rw [← hcl0] at this; exact this)
    have HSI := Lib.hid (fun A2 c2 w h hc => by have := i_StartEager Ag A2 cg c2 g cl w h hc; rw [hso.1] at this; exact this)
    clear hE hso hcl0
    go_wp2_with fail
    refine (HI.out _ (H1.out.ext (Ext.al (Ext.al (Ext.rfl' w1) (.cells #[.slice Ag g.length cg] 25)) (.cells #[.slice Av v.length cv, .slice Ar r.length cr] 31))) (V1.out.ext (Ext.al (Ext.al (Ext.rfl' w1) (.cells #[.slice Ag g.length cg] 25)) (.cells #[.slice Av v.length cv, .slice Ar r.length cr] 31))) (R1.out.ext (Ext.al (Ext.al (Ext.rfl' w1) (.cells #[.slice Ag g.length cg] 25)) (.cells #[.slice Av v.length cv, .slice Ar r.length cr] 31)))).mono ?_
    rintro e w2 ⟨rfl, he2⟩
    rw [HE.out]
    have U2 := Lib.hid ((Ext.al (Ext.al (Ext.rfl' w1) (.cells #[.slice Ag g.length cg] 25)) (.cells #[.slice Av v.length cv, .slice Ar r.length cr] 31)).tr he2)
    have E2 := Lib.hid (E1.out.tr U2.out)
    have lg_2 := he2.cellE (show World.cell? (World.alloc (World.alloc w1 (.cells #[.slice Ag g.length cg] 25)) (.cells #[.slice Av v.length cv, .slice Ar r.length cr] 31)) ⟨w1.heap.size, 0, none⟩ = some (.slice Ag g.length cg) by simp [go_sem])
    have lv_2 := he2.cellE (show World.cell? (World.alloc (World.alloc w1 (.cells #[.slice Ag g.length cg] 25)) (.cells #[.slice Av v.length cv, .slice Ar r.length cr] 31)) ⟨w1.heap.size + 1, 0, none⟩ = some (.slice Av v.length cv) by simp [go_sem])
    have lr_2 := he2.cellE (show World.cell? (World.alloc (World.alloc w1 (.cells #[.slice Ag g.length cg] 25)) (.cells #[.slice Av v.length cv, .slice Ar r.length cr] 31)) ⟨w1.heap.size + 1, 1, none⟩ = some (.slice Ar r.length cr) by simp [go_sem])
    clear he2 
    have blg_2 := blt lg_2
    have blv_2 := blt lv_2
    have blr_2 := blt lr_2
    go_wp2_with fail
    refine (HS.out _ (H1.out.ext ((Ext.rfl' w1).tr U2.out)) (V1.out.ext ((Ext.rfl' w1).tr U2.out)) (R1.out.ext ((Ext.rfl' w1).tr U2.out))).mono ?_
    rintro e w3 ⟨rfl, he3⟩
    rw [HE.out]
    have U3 := Lib.hid ((Ext.rfl' w2).tr he3)
    have E3 := Lib.hid (E2.out.tr U3.out)
    have lg_3 := U3.out.cellE lg_2
    have lv_3 := U3.out.cellE lv_2
    have lr_3 := U3.out.cellE lr_2
    clear he3 lg_2 lv_2 lr_2 blg_2 blv_2 blr_2
    have blg_3 := blt lg_3
    have blv_3 := blt lv_3
    have blr_3 := blt lr_3
    go_wp2_with fail
    go_wp2_with fail
    refine wp_region_held_drew (S := (fun W => W.cell? ⟨w1.heap.size, 0, none⟩ = some (.slice Ag g.length cg) ∧ W.cell? ⟨w1.heap.size + 1, 0, none⟩ = some (.slice Av v.length cv) ∧ W.cell? ⟨w1.heap.size + 1, 1, none⟩ = some (.slice Ar r.length cr))) (by kernel_rfl) ?_ (fun hHeld => ?_)
    · exact ⟨((Ext.rfl' _).dr).cellE lg_3, ((Ext.rfl' _).dr).cellE lv_3, ((Ext.rfl' _).dr).cellE lr_3⟩
    refine wpAnyH_take (i := 0) (v := ?_) (by simp only [List.getElem?_toArray, List.getElem?_cons_zero]; rfl) (by kernel_rfl) (by kernel_rfl) (by kernel_rfl) (by exact fun _ _ _ h => h) (Or.inl ⟨by kernel_rfl, ?_⟩) (by assumption) ?_
    rotate_left
    · intro w hSw; (try dsimp only at hSw); go_simp; try with_reducible rfl
    try simp only [Act.put, List.setIfInBounds_toArray, List.set_cons_zero, List.set_cons_succ]
    refine wpAnyH_take (i := 1) (v := ?_) (by simp only [List.getElem?_toArray, List.getElem?_cons_succ, List.getElem?_cons_zero]; rfl) (by kernel_rfl) (by kernel_rfl) (by kernel_rfl) (by exact fun _ _ _ h => h) (Or.inl ⟨by kernel_rfl, ?_⟩) (by assumption) ?_
    rotate_left
    · intro w hSw; (try dsimp only at hSw); go_simp; try with_reducible rfl
    try simp only [Act.put, List.setIfInBounds_toArray, List.set_cons_zero, List.set_cons_succ]
    refine wpAnyH_take (i := 2) (v := ?_) (by simp only [List.getElem?_toArray, List.getElem?_cons_succ, List.getElem?_cons_zero]; rfl) (by kernel_rfl) (by kernel_rfl) (by kernel_rfl) (by exact fun _ _ _ h => h) (Or.inl ⟨by kernel_rfl, ?_⟩) (by assumption) ?_
    rotate_left
    · intro w hSw; (try dsimp only at hSw); go_simp; try with_reducible rfl
    try simp only [Act.put, List.setIfInBounds_toArray, List.set_cons_zero, List.set_cons_succ]
    refine wpAnyH_take (i := 5) (v := ?_) (by simp only [List.getElem?_toArray, List.getElem?_cons_succ, List.getElem?_cons_zero]; rfl) (by kernel_rfl) (by kernel_rfl) (by kernel_rfl) (by exact fun _ _ _ h => h) (Or.inl ⟨by kernel_rfl, ?_⟩) (by assumption) ?_
    rotate_left
    · intro w hSw; (try dsimp only at hSw); go_simp; try with_reducible rfl
    try simp only [Act.put, List.setIfInBounds_toArray, List.set_cons_zero, List.set_cons_succ]
    refine wpAnyH_ready (rs := [3]) (by kernel_rfl) (by simp) ?_
    refine AllReadyH.cons rfl (fun K hK => ?_) AllReadyH.nil
    go_simp
    refine (HCC.out _ (H1.out.ext ((((Ext.rfl' w1).tr U2.out).tr U3.out).dr)) (V1.out.ext ((((Ext.rfl' w1).tr U2.out).tr U3.out).dr)) (R1.out.ext ((((Ext.rfl' w1).tr U2.out).tr U3.out).dr))).mono ?_
    rintro e w4 ⟨A5, c5, rfl, hoc, he4⟩
    have Hc5 := Lib.hid hoc.rd
    clear hoc
    have U4 := Lib.hid (((Ext.rfl' w3).dr).tr he4)
    have E4 := Lib.hid (E3.out.tr U4.out)
    have lg_4 := U4.out.cellE lg_3
    have lv_4 := U4.out.cellE lv_3
    have lr_4 := U4.out.cellE lr_3
    clear he4 lg_3 lv_3 lr_3 blg_3 blv_3 blr_3
    have blg_4 := blt lg_4
    have blv_4 := blt lv_4
    have blr_4 := blt lr_4
    try go_wp2_with fail
    refine hK.out _ _ ?_ (fun hHeld2 => ?_)
    · exact ⟨lg_4, lv_4, lr_4⟩
    clear hK K hHeld
    have hHeld := hHeld2
    clear hHeld2
    try simp only [Act.put, List.setIfInBounds_toArray, List.set_cons_zero, List.set_cons_succ]
    refine wpAnyH_ready (rs := [4]) (by kernel_rfl) (by simp) ?_
    refine AllReadyH.cons rfl (fun K hK => ?_) AllReadyH.nil
    go_simp
    refine (HSI.out A5 c5 _ (H1.out.ext ((((Ext.rfl' w1).tr U2.out).tr U3.out).tr U4.out)) Hc5.out).mono ?_
    rintro e w5 ⟨A6, A7, hs6, rfl, hoe, he5⟩
    have Hv6 := Lib.hid hoe.v.rd
    have Hr6 := Lib.hid (OwnL.rdL hoe.r HBD.out.1 HBD.out.2)
    clear hoe
    have U5 := Lib.hid ((Ext.rfl' w4).tr he5)
    have E5 := Lib.hid (E4.out.tr U5.out)
    have lg_5 := U5.out.cellE lg_4
    have lv_5 := U5.out.cellE lv_4
    have lr_5 := U5.out.cellE lr_4
    clear he5 lg_4 lv_4 lr_4 blg_4 blv_4 blr_4
    have blg_5 := blt lg_5
    have blv_5 := blt lv_5
    have blr_5 := blt lr_5
    try go_wp2_with fail
    refine hK.out _ _ ?_ (fun hHeld2 => ?_)
    · exact ⟨lg_5, lv_5, lr_5⟩
    clear hK K hHeld
    have hHeld := hHeld2
    clear hHeld2
    try simp only [Act.put, List.setIfInBounds_toArray, List.set_cons_zero, List.set_cons_succ]
    refine wpAnyH_ready (rs := [6]) (by kernel_rfl) (by simp) ?_
    refine AllReadyH.cons rfl (fun K hK => ?_) AllReadyH.nil
    go_simp
    refine (l_equalEager A6 Av A7 Ar v.length cv r.length cr v r _ Hv6.out (V1.out.ext (((((Ext.rfl' w1).tr U2.out).tr U3.out).tr U4.out).tr U5.out)) Hr6.out (R1.out.ext (((((Ext.rfl' w1).tr U2.out).tr U3.out).tr U4.out).tr U5.out))).mono ?_
    rintro e w6 ⟨rfl, he6⟩
    have U6 := Lib.hid ((Ext.rfl' w5).tr he6)
    have E6 := Lib.hid (E5.out.tr U6.out)
    have lg_6 := U6.out.cellE lg_5
    have lv_6 := U6.out.cellE lv_5
    have lr_6 := U6.out.cellE lr_5
    clear he6 lg_5 lv_5 lr_5 blg_5 blv_5 blr_5
    have blg_6 := blt lg_6
    have blv_6 := blt lv_6
    have blr_6 := blt lr_6
    try go_wp2_with fail
    refine hK.out _ _ ?_ (fun hHeld2 => ?_)
    · exact ⟨lg_6, lv_6, lr_6⟩
    clear hK K hHeld
    have hHeld := hHeld2
    clear hHeld2
    try simp only [Act.put, List.setIfInBounds_toArray, List.set_cons_zero, List.set_cons_succ]
    refine wpAnyH_take (i := 7) (v := ?_) (by simp only [List.getElem?_toArray, List.getElem?_cons_succ, List.getElem?_cons_zero]; rfl) (by kernel_rfl) (by kernel_rfl) (by kernel_rfl) (by exact fun _ _ _ h => h) (Or.inl ⟨by kernel_rfl, ?_⟩) (by assumption) ?_
    rotate_left
    · intro w hSw; (try dsimp only at hSw); go_simp; try with_reducible rfl
    try simp only [Act.put, List.setIfInBounds_toArray, List.set_cons_zero, List.set_cons_succ]
    refine wpAnyH_done (by kernel_rfl) ?_ _
    go_wp2
    go_ret
    exact ⟨rfl, E6.out⟩
end Go.Proofs.Ytkbihkggneaeeaa
