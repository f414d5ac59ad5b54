/- FnStartEager: the law's walk. Conditions: the code can be read. -/
import Derived.Test.YtkbihkggneaeeaaDrawI
import Derived.Test.YtkbihkggneaeeaaMeanA
import Derived.Test.YtkbihkggneaeeaaEqA
import Derived.Test.YtkbihkggneaeeaaModelV
import Derived.Test.YtkbihkggneaeeaaImplR
import Derived.Test.YtkbihkggneaeeaaImplN
import Derived.Test.YtkbihkggneaeeaaImplX
namespace Go.Proofs.Ytkbihkggneaeeaa
open Go.RowKit

theorem startOr_ok {g : Sg.Graph} {l : List Int} (hG : Sg.validG g = true) (hC : Sg.validC g l = true) : startOr g l = Sg.startE g l := by unfold startOr; rw [hG, hC]; rfl
theorem startOr_no {g : Sg.Graph} {l : List Int} (h : (Sg.validG g && Sg.validC g l) = false) : startOr g l = ⟨[], []⟩ := by unfold startOr; rw [h]; rfl
theorem startOr_bound (g : Sg.Graph) (l : List Int) (hg : g.length ≤ 1048576) : (startOr g l).reads.length ≤ 1048576 ∧ ∀ x ∈ (startOr g l).reads, x.length ≤ 1048576 := by
  unfold startOr
  split
  · rename_i h
    simp only [Bool.and_eq_true] at h
    unfold Sg.startE Sg.depsTo
    refine ⟨by simpa using hg, fun x hx => ?_⟩
    obtain ⟨i, hi, rfl⟩ := List.mem_map.1 hx
    exact Nat.le_trans (Sg.depAt_len h.1 _ (List.mem_range.1 hi)) (by omega)
  · simp

set_option maxRecDepth 100000 in
set_option maxHeartbeats 8000000 in
theorem ex_FnStartEager (A : Option Addr) (c : Nat) (l : List Int) (w : World) (h : Rd w 1 A l.length (u8s l)) (hr : ∀ x ∈ l, 0 ≤ x ∧ x ≤ 255) (hc : l.length ≤ c) (hcm : c ≤ maxLen) :
    Calls Try.prog 3 #[.slice A l.length c] w fun e w' => e = .returned (.bool true) ∧ Ext w w' := by
  have hbig := h.big
  have HD := Lib.hid (s_DrawStartEager A c l w h hr hc hcm)
  clear h hr hc hcm
  by_cases hb : 1048576 < l.length
  · have hb2 : (1048576 : Int) < (l.length : Int) := by omega
    go_enter Try.func3, Try.ntmps3
    go_wp2
    go_ret
    exact ⟨rfl, Ext.rfl' _⟩
  have hb2 : ¬ (1048576 : Int) < (l.length : Int) := by omega
  clear hb
  have E0 := Lib.hid ((Ext.rfl' w) : Ext w w)
  go_enter Try.func3, Try.ntmps3
  go_wp2_with fail
  refine (HD.out).mono ?_
  rintro e w1 ⟨g, Ag, cg, hs, cl, Ac, cc, rfl, hK, hO, hcl, he1⟩
  have hgl : g.length ≤ 10 := hK.hi
  have H1 := Lib.hid hK.rd
  have Hc1 := Lib.hid hO.rd
  clear hK hO HD
  obtain ⟨v, r, hST⟩ : ∃ v r, startOr g cl = ⟨v, r⟩ := ⟨_, _, rfl⟩
  have hbd := startOr_bound g cl (by omega)
  rw [hST] at hbd
  have HBD := Lib.hid hbd
  have HSI := Lib.hid (fun w h hc => by have := i_StartEager Ag Ac cg cc g cl w h hc; rw [hST] at this; exact this)
  have HSS := Lib.hid (fun w h hc => by have := s_StartEager Ag Ac cg cc g cl w h hc; rw [hST] at this; exact this)
  have HVC := Lib.hid (fun w h hc => i_ValidCells Ag Ac cg cc g cl w h hc)
  have HST := Lib.hid hST
  clear hST hbd
  have U1 := Lib.hid ((Ext.rfl' w).tr he1)
  have E1 := Lib.hid (E0.out.tr U1.out)
  clear he1 
  go_wp2_with fail
  refine (HSI.out _ (H1.out.ext (Ext.al (Ext.rfl' w1) (.cells #[.slice Ag g.length cg] 25))) (Hc1.out.ext (Ext.al (Ext.rfl' w1) (.cells #[.slice Ag g.length cg] 25)))).mono ?_
  rintro e w2 ⟨A1, A2, hs2, rfl, hoe, he2⟩
  have Hv2 := Lib.hid hoe.v.rd
  have Hr2 := Lib.hid (OwnL.rdL hoe.r HBD.out.1 HBD.out.2)
  clear hoe
  have U2 := Lib.hid ((Ext.al (Ext.rfl' w1) (.cells #[.slice Ag g.length cg] 25)).tr he2)
  have E2 := Lib.hid (E1.out.tr U2.out)
  have lg_2 := he2.cellE (show World.cell? (World.alloc w1 (.cells #[.slice Ag g.length cg] 25)) ⟨w1.heap.size, 0, none⟩ = some (.slice Ag g.length cg) by simp [go_sem])
  clear he2 
  have blg_2 := blt lg_2
  go_upto_region 5 with fail
  have he3 := Ext.rfl' (World.alloc w2 (.cells #[.slice A1 v.length v.length, .slice A2 r.length r.length] 31))
  have U3 := Lib.hid ((Ext.al (Ext.rfl' w2) (.cells #[.slice A1 v.length v.length, .slice A2 r.length r.length] 31)).tr he3)
  have E3 := Lib.hid (E2.out.tr U3.out)
  have lg_3 := U3.out.cellE lg_2
  have lv_3 := he3.cellE (show World.cell? (World.alloc w2 (.cells #[.slice A1 v.length v.length, .slice A2 r.length r.length] 31)) ⟨w2.heap.size, 0, none⟩ = some (.slice A1 v.length v.length) by simp [go_sem])
  have lr_3 := he3.cellE (show World.cell? (World.alloc w2 (.cells #[.slice A1 v.length v.length, .slice A2 r.length r.length] 31)) ⟨w2.heap.size, 1, none⟩ = some (.slice A2 r.length r.length) by simp [go_sem])
  clear he3 lg_2 blg_2
  have blg_3 := blt lg_3
  have blv_3 := blt lv_3
  have blr_3 := blt lr_3
  generalize (World.alloc w2 (.cells #[.slice A1 v.length v.length, .slice A2 r.length r.length] 31)) = w3 at *
  cases hV : (Sg.validG g && Sg.validC g cl)
  · have HV := Lib.hid hV
    clear hV
    go_wp2_with fail
    refine wp_region_held_drew (S := (fun W => W.cell? ⟨w2.heap.size, 0, none⟩ = some (.slice A1 v.length v.length) ∧ W.cell? ⟨w2.heap.size, 1, none⟩ = some (.slice A2 r.length r.length) ∧ W.cell? ⟨w1.heap.size, 0, none⟩ = some (.slice Ag g.length cg))) (by kernel_rfl) ?_ (fun hHeld => ?_)
    · exact ⟨((Ext.rfl' _).dr).cellE lv_3, ((Ext.rfl' _).dr).cellE lr_3, ((Ext.rfl' _).dr).cellE lg_3⟩
    refine wpAnyH_take (i := 0) (v := ?_) (by simp only [List.getElem?_toArray, List.getElem?_cons_zero]; rfl) (by kernel_rfl) (by kernel_rfl) (by kernel_rfl) (by exact fun _ _ _ h => h) (Or.inl ⟨by kernel_rfl, ?_⟩) (by assumption) ?_
    rotate_left
    · intro w hSw; (try dsimp only at hSw); go_simp; try with_reducible rfl
    try simp only [Act.put, List.setIfInBounds_toArray, List.set_cons_zero, List.set_cons_succ]
    refine wpAnyH_take (i := 1) (v := ?_) (by simp only [List.getElem?_toArray, List.getElem?_cons_succ, List.getElem?_cons_zero]; rfl) (by kernel_rfl) (by kernel_rfl) (by kernel_rfl) (by exact fun _ _ _ h => h) (Or.inl ⟨by kernel_rfl, ?_⟩) (by assumption) ?_
    rotate_left
    · intro w hSw; (try dsimp only at hSw); go_simp; try with_reducible rfl
    try simp only [Act.put, List.setIfInBounds_toArray, List.set_cons_zero, List.set_cons_succ]
    refine wpAnyH_take (i := 2) (v := ?_) (by simp only [List.getElem?_toArray, List.getElem?_cons_succ, List.getElem?_cons_zero]; rfl) (by kernel_rfl) (by kernel_rfl) (by kernel_rfl) (by exact fun _ _ _ h => h) (Or.inl ⟨by kernel_rfl, ?_⟩) (by assumption) ?_
    rotate_left
    · intro w hSw; (try dsimp only at hSw); go_simp; try with_reducible rfl
    try simp only [Act.put, List.setIfInBounds_toArray, List.set_cons_zero, List.set_cons_succ]
    refine wpAnyH_ready (rs := [3]) (by kernel_rfl) (by simp) ?_
    refine AllReadyH.cons rfl (fun K hK => ?_) AllReadyH.nil
    go_simp
    refine (HSS.out _ (H1.out.ext ((((Ext.rfl' w1).tr U2.out).tr U3.out).dr)) (Hc1.out.ext ((((Ext.rfl' w1).tr U2.out).tr U3.out).dr))).mono ?_
    rintro e w4 ⟨A3, c3, A4, c4, hs3, rfl, hoe3, he4⟩
    have Hv3 := Lib.hid hoe3.v.rd
    have Hr3 := Lib.hid (OwnL.rdL hoe3.r HBD.out.1 HBD.out.2)
    clear hoe3
    have U4 := Lib.hid (((Ext.rfl' w3).dr).tr he4)
    have E4 := Lib.hid (E3.out.tr U4.out)
    have lg_4 := U4.out.cellE lg_3
    have lv_4 := U4.out.cellE lv_3
    have lr_4 := U4.out.cellE lr_3
    clear he4 lg_3 lv_3 lr_3 blg_3 blv_3 blr_3
    have blg_4 := blt lg_4
    have blv_4 := blt lv_4
    have blr_4 := blt lr_4
    try go_wp2_with fail
    refine hK.out _ _ ?_ (fun hHeld2 => ?_)
    · exact ⟨lv_4, lr_4, lg_4⟩
    clear hK K hHeld
    have hHeld := hHeld2
    clear hHeld2
    try simp only [Act.put, List.setIfInBounds_toArray, List.set_cons_zero, List.set_cons_succ]
    refine wpAnyH_ready (rs := [4]) (by kernel_rfl) (by simp) ?_
    refine AllReadyH.cons rfl (fun K hK => ?_) AllReadyH.nil
    go_simp
    refine (l_equalEager A1 A3 A2 A4 v.length c3 r.length c4 v r _ (Hv2.out.ext (((Ext.rfl' w2).tr U3.out).tr U4.out)) (Hv3.out.ext (Ext.rfl' w4)) (Hr2.out.ext (((Ext.rfl' w2).tr U3.out).tr U4.out)) (Hr3.out.ext (Ext.rfl' w4))).mono ?_
    rintro e w5 ⟨rfl, he5⟩
    have U5 := Lib.hid ((Ext.rfl' w4).tr he5)
    have E5 := Lib.hid (E4.out.tr U5.out)
    have lg_5 := U5.out.cellE lg_4
    have lv_5 := U5.out.cellE lv_4
    have lr_5 := U5.out.cellE lr_4
    clear he5 lg_4 lv_4 lr_4 blg_4 blv_4 blr_4
    have blg_5 := blt lg_5
    have blv_5 := blt lv_5
    have blr_5 := blt lr_5
    try go_wp2_with fail
    refine hK.out _ _ ?_ (fun hHeld2 => ?_)
    · exact ⟨lv_5, lr_5, lg_5⟩
    clear hK K hHeld
    have hHeld := hHeld2
    clear hHeld2
    try simp only [Act.put, List.setIfInBounds_toArray, List.set_cons_zero, List.set_cons_succ]
    refine wpAnyH_take (i := 5) (v := ?_) (by simp only [List.getElem?_toArray, List.getElem?_cons_succ, List.getElem?_cons_zero]; rfl) (by kernel_rfl) (by kernel_rfl) (by kernel_rfl) (by exact fun _ _ _ h => h) (Or.inl ⟨by kernel_rfl, ?_⟩) (by assumption) ?_
    rotate_left
    · intro w hSw; (try dsimp only at hSw); go_simp; try with_reducible rfl
    try simp only [Act.put, List.setIfInBounds_toArray, List.set_cons_zero, List.set_cons_succ]
    refine wpAnyH_take (i := 6) (v := ?_) (by simp only [List.getElem?_toArray, List.getElem?_cons_succ, List.getElem?_cons_zero]; rfl) (by kernel_rfl) (by kernel_rfl) (by kernel_rfl) (by exact fun _ _ _ h => h) (Or.inl ⟨by kernel_rfl, ?_⟩) (by assumption) ?_
    rotate_left
    · intro w hSw; (try dsimp only at hSw); go_simp; try with_reducible rfl
    try simp only [Act.put, List.setIfInBounds_toArray, List.set_cons_zero, List.set_cons_succ]
    refine wpAnyH_take (i := 7) (v := ?_) (by simp only [List.getElem?_toArray, List.getElem?_cons_succ, List.getElem?_cons_zero]; rfl) (by kernel_rfl) (by kernel_rfl) (by kernel_rfl) (by exact fun _ _ _ h => h) (Or.inl ⟨by kernel_rfl, ?_⟩) (by assumption) ?_
    rotate_left
    · intro w hSw; (try dsimp only at hSw); go_simp; try with_reducible rfl
    try simp only [Act.put, List.setIfInBounds_toArray, List.set_cons_zero, List.set_cons_succ]
    refine wpAnyH_take (i := 8) (v := ?_) (by simp only [List.getElem?_toArray, List.getElem?_cons_succ, List.getElem?_cons_zero]; rfl) (by kernel_rfl) (by kernel_rfl) (by kernel_rfl) (by exact fun _ _ _ h => h) (Or.inl ⟨by kernel_rfl, ?_⟩) (by assumption) ?_
    rotate_left
    · intro w hSw; (try dsimp only at hSw); go_simp; try with_reducible rfl
    try simp only [Act.put, List.setIfInBounds_toArray, List.set_cons_zero, List.set_cons_succ]
    refine wpAnyH_ready (rs := [9]) (by kernel_rfl) (by simp) ?_
    refine AllReadyH.cons rfl (fun K hK => ?_) AllReadyH.nil
    go_simp
    refine (HVC.out _ (H1.out.ext (((((Ext.rfl' w1).tr U2.out).tr U3.out).tr U4.out).tr U5.out)) (Hc1.out.ext (((((Ext.rfl' w1).tr U2.out).tr U3.out).tr U4.out).tr U5.out))).mono ?_
    rintro e w6 ⟨rfl, he6⟩
    rw [HV.out]
    have U6 := Lib.hid ((Ext.rfl' w5).tr he6)
    have E6 := Lib.hid (E5.out.tr U6.out)
    have lg_6 := U6.out.cellE lg_5
    have lv_6 := U6.out.cellE lv_5
    have lr_6 := U6.out.cellE lr_5
    clear he6 lg_5 lv_5 lr_5 blg_5 blv_5 blr_5
    have blg_6 := blt lg_6
    have blv_6 := blt lv_6
    have blr_6 := blt lr_6
    try go_wp2_with fail
    refine hK.out _ _ ?_ (fun hHeld2 => ?_)
    · exact ⟨lv_6, lr_6, lg_6⟩
    clear hK K hHeld
    have hHeld := hHeld2
    clear hHeld2
    try simp only [Act.put, List.setIfInBounds_toArray, List.set_cons_zero, List.set_cons_succ]
    refine wpAnyH_take (i := 10) (v := ?_) (by simp only [List.getElem?_toArray, List.getElem?_cons_succ, List.getElem?_cons_zero]; rfl) (by kernel_rfl) (by kernel_rfl) (by kernel_rfl) (by exact fun _ _ _ h => h) (Or.inl ⟨by kernel_rfl, ?_⟩) (by assumption) ?_
    rotate_left
    · intro w hSw; (try dsimp only at hSw); go_simp; try with_reducible rfl
    try simp only [Act.put, List.setIfInBounds_toArray, List.set_cons_zero, List.set_cons_succ]
    refine wpAnyH_take (i := 11) (v := ?_) (by simp only [List.getElem?_toArray, List.getElem?_cons_succ, List.getElem?_cons_zero]; rfl) (by kernel_rfl) (by kernel_rfl) (by kernel_rfl) (by exact fun _ _ _ h => h) (Or.inl ⟨by kernel_rfl, ?_⟩) (by assumption) ?_
    rotate_left
    · intro w hSw; (try dsimp only at hSw); go_simp; try with_reducible rfl
    try simp only [Act.put, List.setIfInBounds_toArray, List.set_cons_zero, List.set_cons_succ]
    refine wpAnyH_done (by kernel_rfl) ?_ _
    go_wp2_with fail
    go_wp2_with fail
    refine wp_region_held_drew (S := (fun W => W.cell? ⟨w2.heap.size, 0, none⟩ = some (.slice A1 v.length v.length) ∧ W.cell? ⟨w2.heap.size, 1, none⟩ = some (.slice A2 r.length r.length) ∧ W.cell? ⟨w1.heap.size, 0, none⟩ = some (.slice Ag g.length cg))) (by kernel_rfl) ?_ (fun hHeld => ?_)
    · exact ⟨((Ext.rfl' _).dr).cellE lv_6, ((Ext.rfl' _).dr).cellE lr_6, ((Ext.rfl' _).dr).cellE lg_6⟩
    refine wpAnyH_take (i := 0) (v := ?_) (by simp only [List.getElem?_toArray, List.getElem?_cons_zero]; rfl) (by kernel_rfl) (by kernel_rfl) (by kernel_rfl) (by exact fun _ _ _ h => h) (Or.inl ⟨by kernel_rfl, ?_⟩) (by assumption) ?_
    rotate_left
    · intro w hSw; (try dsimp only at hSw); go_simp; try with_reducible rfl
    try simp only [Act.put, List.setIfInBounds_toArray, List.set_cons_zero, List.set_cons_succ]
    refine wpAnyH_take (i := 1) (v := ?_) (by simp only [List.getElem?_toArray, List.getElem?_cons_succ, List.getElem?_cons_zero]; rfl) (by kernel_rfl) (by kernel_rfl) (by kernel_rfl) (by exact fun _ _ _ h => h) (Or.inl ⟨by kernel_rfl, ?_⟩) (by assumption) ?_
    rotate_left
    · intro w hSw; (try dsimp only at hSw); go_simp; try with_reducible rfl
    try simp only [Act.put, List.setIfInBounds_toArray, List.set_cons_zero, List.set_cons_succ]
    refine wpAnyH_take (i := 2) (v := ?_) (by simp only [List.getElem?_toArray, List.getElem?_cons_succ, List.getElem?_cons_zero]; rfl) (by kernel_rfl) (by kernel_rfl) (by kernel_rfl) (by exact fun _ _ _ h => h) (Or.inl ⟨by kernel_rfl, ?_⟩) (by assumption) ?_
    rotate_left
    · intro w hSw; (try dsimp only at hSw); go_simp; try with_reducible rfl
    try simp only [Act.put, List.setIfInBounds_toArray, List.set_cons_zero, List.set_cons_succ]
    refine wpAnyH_ready (rs := [3]) (by kernel_rfl) (by simp) ?_
    refine AllReadyH.cons rfl (fun K hK => ?_) AllReadyH.nil
    go_simp
    refine (HSS.out _ (H1.out.ext (((((((Ext.rfl' w1).tr U2.out).tr U3.out).tr U4.out).tr U5.out).tr U6.out).dr)) (Hc1.out.ext (((((((Ext.rfl' w1).tr U2.out).tr U3.out).tr U4.out).tr U5.out).tr U6.out).dr))).mono ?_
    rintro e w7 ⟨A5, c5, A6, c6, hs5, rfl, hoe5, he7⟩
    have Hv5 := Lib.hid hoe5.v.rd
    have Hr5 := Lib.hid (OwnL.rdL hoe5.r HBD.out.1 HBD.out.2)
    clear hoe5
    have U7 := Lib.hid (((Ext.rfl' w6).dr).tr he7)
    have E7 := Lib.hid (E6.out.tr U7.out)
    have lg_7 := U7.out.cellE lg_6
    have lv_7 := U7.out.cellE lv_6
    have lr_7 := U7.out.cellE lr_6
    clear he7 lg_6 lv_6 lr_6 blg_6 blv_6 blr_6
    have blg_7 := blt lg_7
    have blv_7 := blt lv_7
    have blr_7 := blt lr_7
    try go_wp2_with fail
    refine hK.out _ _ ?_ (fun hHeld2 => ?_)
    · exact ⟨lv_7, lr_7, lg_7⟩
    clear hK K hHeld
    have hHeld := hHeld2
    clear hHeld2
    try simp only [Act.put, List.setIfInBounds_toArray, List.set_cons_zero, List.set_cons_succ]
    refine wpAnyH_ready (rs := [4]) (by kernel_rfl) (by simp) ?_
    refine AllReadyH.cons rfl (fun K hK => ?_) AllReadyH.nil
    go_simp
    refine (l_equalEager A1 A5 A2 A6 v.length c5 r.length c6 v r _ (Hv2.out.ext ((((((Ext.rfl' w2).tr U3.out).tr U4.out).tr U5.out).tr U6.out).tr U7.out)) (Hv5.out.ext (Ext.rfl' w7)) (Hr2.out.ext ((((((Ext.rfl' w2).tr U3.out).tr U4.out).tr U5.out).tr U6.out).tr U7.out)) (Hr5.out.ext (Ext.rfl' w7))).mono ?_
    rintro e w8 ⟨rfl, he8⟩
    have U8 := Lib.hid ((Ext.rfl' w7).tr he8)
    have E8 := Lib.hid (E7.out.tr U8.out)
    have lg_8 := U8.out.cellE lg_7
    have lv_8 := U8.out.cellE lv_7
    have lr_8 := U8.out.cellE lr_7
    clear he8 lg_7 lv_7 lr_7 blg_7 blv_7 blr_7
    have blg_8 := blt lg_8
    have blv_8 := blt lv_8
    have blr_8 := blt lr_8
    try go_wp2_with fail
    refine hK.out _ _ ?_ (fun hHeld2 => ?_)
    · exact ⟨lv_8, lr_8, lg_8⟩
    clear hK K hHeld
    have hHeld := hHeld2
    clear hHeld2
    try simp only [Act.put, List.setIfInBounds_toArray, List.set_cons_zero, List.set_cons_succ]
    refine wpAnyH_take (i := 5) (v := ?_) (by simp only [List.getElem?_toArray, List.getElem?_cons_succ, List.getElem?_cons_zero]; rfl) (by kernel_rfl) (by kernel_rfl) (by kernel_rfl) (by exact fun _ _ _ h => h) (Or.inl ⟨by kernel_rfl, ?_⟩) (by assumption) ?_
    rotate_left
    · intro w hSw; (try dsimp only at hSw); go_simp; try with_reducible rfl
    try simp only [Act.put, List.setIfInBounds_toArray, List.set_cons_zero, List.set_cons_succ]
    refine wpAnyH_done (by kernel_rfl) ?_ _
    go_wp2
    go_ret
    exact ⟨rfl, E8.out⟩
  · have HV := Lib.hid hV
    have hG : Sg.validG g = true := by simp only [Bool.and_eq_true] at hV; exact hV.1
    have hC : Sg.validC g cl = true := by simp only [Bool.and_eq_true] at hV; exact hV.2
    have hvr : v = Sg.mean g cl ∧ r = Sg.depsTo g (Sg.mean g cl) g.length := by have := HST.out; rw [startOr_ok hG hC] at this; unfold Sg.startE at this; simp only [Sg.Eager.mk.injEq] at this; exact ⟨this.1.symm, this.2.symm⟩
    have HME := Lib.hid (fun w h hc => by have := i_MeaningOf Ag Ac cg cc g cl w h hc hG hC; rw [← hvr.1] at this; exact this)
    have hrl : g.length = r.length := by rw [hvr.2]; simp
    have HDE := Lib.hid (fun w h hc => (show Calls Try.prog 16 #[.agg #[.slice Ag g.length cg], .slice Ac cl.length cc] w fun e w' => ∃ A2 hs, e = .returned (.slice A2 r.length g.length) ∧ OwnL w' w.heap.size A2 g.length r hs ∧ Ext w w' from by have := i_DepsOf Ag Ac cg cc g cl w h hc hG hC; rw [← hvr.2] at this; exact this.mono fun e w' ⟨A2, hs, he, ho, hx⟩ => ⟨A2, hs, by rw [he]; exact congrArg (fun n => Ending.returned (.slice A2 n g.length)) hrl, ho, hx⟩))
    have HVE := Lib.hid (show Sg.validE g ⟨v, r⟩ = true by have := Sg.start_validE hG hC; unfold Sg.startE at this; rw [hvr.1, hvr.2]; exact this)
    have HCE := Lib.hid (show Sg.cellsE g ⟨v, r⟩ = cl by unfold Sg.cellsE; rw [HVE.out, if_pos rfl, hvr.1]; exact Sg.start_cells hC)
    have HVV := Lib.hid (fun w h hv hr => i_ValidEager Ag A1 A2 cg v.length r.length g v r w h hv hr)
    have HCC := Lib.hid (fun w h hv hr hvl => by have := i_CellsOf Ag A1 A2 cg v.length r.length g v r w h hv hr hvl; rw [HCE.out] at this; exact this)
    have hvl : v.length ≤ 1048576 := by rw [hvr.1, Sg.length_mean]; omega
    have HRL := Lib.hid hrl
    clear hV hG hC hvr hrl
    go_wp2_with fail
    refine wp_region_held_drew (S := (fun W => W.cell? ⟨w2.heap.size, 0, none⟩ = some (.slice A1 v.length v.length) ∧ W.cell? ⟨w2.heap.size, 1, none⟩ = some (.slice A2 r.length r.length) ∧ W.cell? ⟨w1.heap.size, 0, none⟩ = some (.slice Ag g.length cg))) (by kernel_rfl) ?_ (fun hHeld => ?_)
    · exact ⟨((Ext.rfl' _).dr).cellE lv_3, ((Ext.rfl' _).dr).cellE lr_3, ((Ext.rfl' _).dr).cellE lg_3⟩
    refine wpAnyH_take (i := 0) (v := ?_) (by simp only [List.getElem?_toArray, List.getElem?_cons_zero]; rfl) (by kernel_rfl) (by kernel_rfl) (by kernel_rfl) (by exact fun _ _ _ h => h) (Or.inl ⟨by kernel_rfl, ?_⟩) (by assumption) ?_
    rotate_left
    · intro w hSw; (try dsimp only at hSw); go_simp; try with_reducible rfl
    try simp only [Act.put, List.setIfInBounds_toArray, List.set_cons_zero, List.set_cons_succ]
    refine wpAnyH_take (i := 1) (v := ?_) (by simp only [List.getElem?_toArray, List.getElem?_cons_succ, List.getElem?_cons_zero]; rfl) (by kernel_rfl) (by kernel_rfl) (by kernel_rfl) (by exact fun _ _ _ h => h) (Or.inl ⟨by kernel_rfl, ?_⟩) (by assumption) ?_
    rotate_left
    · intro w hSw; (try dsimp only at hSw); go_simp; try with_reducible rfl
    try simp only [Act.put, List.setIfInBounds_toArray, List.set_cons_zero, List.set_cons_succ]
    refine wpAnyH_take (i := 2) (v := ?_) (by simp only [List.getElem?_toArray, List.getElem?_cons_succ, List.getElem?_cons_zero]; rfl) (by kernel_rfl) (by kernel_rfl) (by kernel_rfl) (by exact fun _ _ _ h => h) (Or.inl ⟨by kernel_rfl, ?_⟩) (by assumption) ?_
    rotate_left
    · intro w hSw; (try dsimp only at hSw); go_simp; try with_reducible rfl
    try simp only [Act.put, List.setIfInBounds_toArray, List.set_cons_zero, List.set_cons_succ]
    refine wpAnyH_ready (rs := [3]) (by kernel_rfl) (by simp) ?_
    refine AllReadyH.cons rfl (fun K hK => ?_) AllReadyH.nil
    go_simp
    refine (HSS.out _ (H1.out.ext ((((Ext.rfl' w1).tr U2.out).tr U3.out).dr)) (Hc1.out.ext ((((Ext.rfl' w1).tr U2.out).tr U3.out).dr))).mono ?_
    rintro e w4 ⟨A3, c3, A4, c4, hs3, rfl, hoe3, he4⟩
    have Hv3 := Lib.hid hoe3.v.rd
    have Hr3 := Lib.hid (OwnL.rdL hoe3.r HBD.out.1 HBD.out.2)
    clear hoe3
    have U4 := Lib.hid (((Ext.rfl' w3).dr).tr he4)
    have E4 := Lib.hid (E3.out.tr U4.out)
    have lg_4 := U4.out.cellE lg_3
    have lv_4 := U4.out.cellE lv_3
    have lr_4 := U4.out.cellE lr_3
    clear he4 lg_3 lv_3 lr_3 blg_3 blv_3 blr_3
    have blg_4 := blt lg_4
    have blv_4 := blt lv_4
    have blr_4 := blt lr_4
    try go_wp2_with fail
    refine hK.out _ _ ?_ (fun hHeld2 => ?_)
    · exact ⟨lv_4, lr_4, lg_4⟩
    clear hK K hHeld
    have hHeld := hHeld2
    clear hHeld2
    try simp only [Act.put, List.setIfInBounds_toArray, List.set_cons_zero, List.set_cons_succ]
    refine wpAnyH_ready (rs := [4]) (by kernel_rfl) (by simp) ?_
    refine AllReadyH.cons rfl (fun K hK => ?_) AllReadyH.nil
    go_simp
    refine (l_equalEager A1 A3 A2 A4 v.length c3 r.length c4 v r _ (Hv2.out.ext (((Ext.rfl' w2).tr U3.out).tr U4.out)) (Hv3.out.ext (Ext.rfl' w4)) (Hr2.out.ext (((Ext.rfl' w2).tr U3.out).tr U4.out)) (Hr3.out.ext (Ext.rfl' w4))).mono ?_
    rintro e w5 ⟨rfl, he5⟩
    have U5 := Lib.hid ((Ext.rfl' w4).tr he5)
    have E5 := Lib.hid (E4.out.tr U5.out)
    have lg_5 := U5.out.cellE lg_4
    have lv_5 := U5.out.cellE lv_4
    have lr_5 := U5.out.cellE lr_4
    clear he5 lg_4 lv_4 lr_4 blg_4 blv_4 blr_4
    have blg_5 := blt lg_5
    have blv_5 := blt lv_5
    have blr_5 := blt lr_5
    try go_wp2_with fail
    refine hK.out _ _ ?_ (fun hHeld2 => ?_)
    · exact ⟨lv_5, lr_5, lg_5⟩
    clear hK K hHeld
    have hHeld := hHeld2
    clear hHeld2
    try simp only [Act.put, List.setIfInBounds_toArray, List.set_cons_zero, List.set_cons_succ]
    refine wpAnyH_take (i := 5) (v := ?_) (by simp only [List.getElem?_toArray, List.getElem?_cons_succ, List.getElem?_cons_zero]; rfl) (by kernel_rfl) (by kernel_rfl) (by kernel_rfl) (by exact fun _ _ _ h => h) (Or.inl ⟨by kernel_rfl, ?_⟩) (by assumption) ?_
    rotate_left
    · intro w hSw; (try dsimp only at hSw); go_simp; try with_reducible rfl
    try simp only [Act.put, List.setIfInBounds_toArray, List.set_cons_zero, List.set_cons_succ]
    refine wpAnyH_take (i := 6) (v := ?_) (by simp only [List.getElem?_toArray, List.getElem?_cons_succ, List.getElem?_cons_zero]; rfl) (by kernel_rfl) (by kernel_rfl) (by kernel_rfl) (by exact fun _ _ _ h => h) (Or.inl ⟨by kernel_rfl, ?_⟩) (by assumption) ?_
    rotate_left
    · intro w hSw; (try dsimp only at hSw); go_simp; try with_reducible rfl
    try simp only [Act.put, List.setIfInBounds_toArray, List.set_cons_zero, List.set_cons_succ]
    refine wpAnyH_take (i := 7) (v := ?_) (by simp only [List.getElem?_toArray, List.getElem?_cons_succ, List.getElem?_cons_zero]; rfl) (by kernel_rfl) (by kernel_rfl) (by kernel_rfl) (by exact fun _ _ _ h => h) (Or.inl ⟨by kernel_rfl, ?_⟩) (by assumption) ?_
    rotate_left
    · intro w hSw; (try dsimp only at hSw); go_simp; try with_reducible rfl
    try simp only [Act.put, List.setIfInBounds_toArray, List.set_cons_zero, List.set_cons_succ]
    refine wpAnyH_take (i := 8) (v := ?_) (by simp only [List.getElem?_toArray, List.getElem?_cons_succ, List.getElem?_cons_zero]; rfl) (by kernel_rfl) (by kernel_rfl) (by kernel_rfl) (by exact fun _ _ _ h => h) (Or.inl ⟨by kernel_rfl, ?_⟩) (by assumption) ?_
    rotate_left
    · intro w hSw; (try dsimp only at hSw); go_simp; try with_reducible rfl
    try simp only [Act.put, List.setIfInBounds_toArray, List.set_cons_zero, List.set_cons_succ]
    refine wpAnyH_ready (rs := [9]) (by kernel_rfl) (by simp) ?_
    refine AllReadyH.cons rfl (fun K hK => ?_) AllReadyH.nil
    go_simp
    refine (HVC.out _ (H1.out.ext (((((Ext.rfl' w1).tr U2.out).tr U3.out).tr U4.out).tr U5.out)) (Hc1.out.ext (((((Ext.rfl' w1).tr U2.out).tr U3.out).tr U4.out).tr U5.out))).mono ?_
    rintro e w6 ⟨rfl, he6⟩
    rw [HV.out]
    have U6 := Lib.hid ((Ext.rfl' w5).tr he6)
    have E6 := Lib.hid (E5.out.tr U6.out)
    have lg_6 := U6.out.cellE lg_5
    have lv_6 := U6.out.cellE lv_5
    have lr_6 := U6.out.cellE lr_5
    clear he6 lg_5 lv_5 lr_5 blg_5 blv_5 blr_5
    have blg_6 := blt lg_6
    have blv_6 := blt lv_6
    have blr_6 := blt lr_6
    try go_wp2_with fail
    refine hK.out _ _ ?_ (fun hHeld2 => ?_)
    · exact ⟨lv_6, lr_6, lg_6⟩
    clear hK K hHeld
    have hHeld := hHeld2
    clear hHeld2
    try simp only [Act.put, List.setIfInBounds_toArray, List.set_cons_zero, List.set_cons_succ]
    refine wpAnyH_take (i := 10) (v := ?_) (by simp only [List.getElem?_toArray, List.getElem?_cons_succ, List.getElem?_cons_zero]; rfl) (by kernel_rfl) (by kernel_rfl) (by kernel_rfl) (by exact fun _ _ _ h => h) (Or.inl ⟨by kernel_rfl, ?_⟩) (by assumption) ?_
    rotate_left
    · intro w hSw; (try dsimp only at hSw); go_simp; try with_reducible rfl
    try simp only [Act.put, List.setIfInBounds_toArray, List.set_cons_zero, List.set_cons_succ]
    refine wpAnyH_take (i := 11) (v := ?_) (by simp only [List.getElem?_toArray, List.getElem?_cons_succ, List.getElem?_cons_zero]; rfl) (by kernel_rfl) (by kernel_rfl) (by kernel_rfl) (by exact fun _ _ _ h => h) (Or.inl ⟨by kernel_rfl, ?_⟩) (by assumption) ?_
    rotate_left
    · intro w hSw; (try dsimp only at hSw); go_simp; try with_reducible rfl
    try simp only [Act.put, List.setIfInBounds_toArray, List.set_cons_zero, List.set_cons_succ]
    refine wpAnyH_done (by kernel_rfl) ?_ _
    go_wp2_with fail
    go_wp2_with fail
    refine wp_region_held_drew (S := (fun W => W.cell? ⟨w2.heap.size, 0, none⟩ = some (.slice A1 v.length v.length) ∧ W.cell? ⟨w2.heap.size, 1, none⟩ = some (.slice A2 r.length r.length) ∧ W.cell? ⟨w1.heap.size, 0, none⟩ = some (.slice Ag g.length cg))) (by kernel_rfl) ?_ (fun hHeld => ?_)
    · exact ⟨((Ext.rfl' _).dr).cellE lv_6, ((Ext.rfl' _).dr).cellE lr_6, ((Ext.rfl' _).dr).cellE lg_6⟩
    refine wpAnyH_take (i := 0) (v := ?_) (by simp only [List.getElem?_toArray, List.getElem?_cons_zero]; rfl) (by kernel_rfl) (by kernel_rfl) (by kernel_rfl) (by exact fun _ _ _ h => h) (Or.inl ⟨by kernel_rfl, ?_⟩) (by assumption) ?_
    rotate_left
    · intro w hSw; (try dsimp only at hSw); go_simp; try with_reducible rfl
    try simp only [Act.put, List.setIfInBounds_toArray, List.set_cons_zero, List.set_cons_succ]
    refine wpAnyH_take (i := 1) (v := ?_) (by simp only [List.getElem?_toArray, List.getElem?_cons_succ, List.getElem?_cons_zero]; rfl) (by kernel_rfl) (by kernel_rfl) (by kernel_rfl) (by exact fun _ _ _ h => h) (Or.inl ⟨by kernel_rfl, ?_⟩) (by assumption) ?_
    rotate_left
    · intro w hSw; (try dsimp only at hSw); go_simp; try with_reducible rfl
    try simp only [Act.put, List.setIfInBounds_toArray, List.set_cons_zero, List.set_cons_succ]
    refine wpAnyH_take (i := 2) (v := ?_) (by simp only [List.getElem?_toArray, List.getElem?_cons_succ, List.getElem?_cons_zero]; rfl) (by kernel_rfl) (by kernel_rfl) (by kernel_rfl) (by exact fun _ _ _ h => h) (Or.inl ⟨by kernel_rfl, ?_⟩) (by assumption) ?_
    rotate_left
    · intro w hSw; (try dsimp only at hSw); go_simp; try with_reducible rfl
    try simp only [Act.put, List.setIfInBounds_toArray, List.set_cons_zero, List.set_cons_succ]
    refine wpAnyH_take (i := 3) (v := ?_) (by simp only [List.getElem?_toArray, List.getElem?_cons_succ, List.getElem?_cons_zero]; rfl) (by kernel_rfl) (by kernel_rfl) (by kernel_rfl) (by exact fun _ _ _ h => h) (Or.inl ⟨by kernel_rfl, ?_⟩) (by assumption) ?_
    rotate_left
    · intro w hSw; (try dsimp only at hSw); go_simp; try with_reducible rfl
    try simp only [Act.put, List.setIfInBounds_toArray, List.set_cons_zero, List.set_cons_succ]
    refine wpAnyH_ready (rs := [4]) (by kernel_rfl) (by simp) ?_
    refine AllReadyH.cons rfl (fun K hK => ?_) AllReadyH.nil
    go_simp
    refine (HME.out _ (H1.out.ext (((((((Ext.rfl' w1).tr U2.out).tr U3.out).tr U4.out).tr U5.out).tr U6.out).dr)) (Hc1.out.ext (((((((Ext.rfl' w1).tr U2.out).tr U3.out).tr U4.out).tr U5.out).tr U6.out).dr))).mono ?_
    rintro e w7 ⟨A7, rfl, hm7, he7⟩
    have Hm7 := Lib.hid hm7.rd
    clear hm7
    have U7 := Lib.hid (((Ext.rfl' w6).dr).tr he7)
    have E7 := Lib.hid (E6.out.tr U7.out)
    have lg_7 := U7.out.cellE lg_6
    have lv_7 := U7.out.cellE lv_6
    have lr_7 := U7.out.cellE lr_6
    clear he7 lg_6 lv_6 lr_6 blg_6 blv_6 blr_6
    have blg_7 := blt lg_7
    have blv_7 := blt lv_7
    have blr_7 := blt lr_7
    try go_wp2_with fail
    refine hK.out _ _ ?_ (fun hHeld2 => ?_)
    · exact ⟨lv_7, lr_7, lg_7⟩
    clear hK K hHeld
    have hHeld := hHeld2
    clear hHeld2
    try simp only [Act.put, List.setIfInBounds_toArray, List.set_cons_zero, List.set_cons_succ]
    refine wpAnyH_ready (rs := [5]) (by kernel_rfl) (by simp) ?_
    refine AllReadyH.cons rfl (fun K hK => ?_) AllReadyH.nil
    go_simp
    refine (l_equalInts A1 A7 v.length g.length v _ (Hv2.out.ext ((((((Ext.rfl' w2).tr U3.out).tr U4.out).tr U5.out).tr U6.out).tr U7.out)) Hm7.out).mono ?_
    rintro e w8 ⟨rfl, he8⟩
    have U8 := Lib.hid ((Ext.rfl' w7).tr he8)
    have E8 := Lib.hid (E7.out.tr U8.out)
    have lg_8 := U8.out.cellE lg_7
    have lv_8 := U8.out.cellE lv_7
    have lr_8 := U8.out.cellE lr_7
    clear he8 lg_7 lv_7 lr_7 blg_7 blv_7 blr_7
    have blg_8 := blt lg_8
    have blv_8 := blt lv_8
    have blr_8 := blt lr_8
    try go_wp2_with fail
    refine hK.out _ _ ?_ (fun hHeld2 => ?_)
    · exact ⟨lv_8, lr_8, lg_8⟩
    clear hK K hHeld
    have hHeld := hHeld2
    clear hHeld2
    try simp only [Act.put, List.setIfInBounds_toArray, List.set_cons_zero, List.set_cons_succ]
    refine wpAnyH_take (i := 6) (v := ?_) (by simp only [List.getElem?_toArray, List.getElem?_cons_succ, List.getElem?_cons_zero]; rfl) (by kernel_rfl) (by kernel_rfl) (by kernel_rfl) (by exact fun _ _ _ h => h) (Or.inl ⟨by kernel_rfl, ?_⟩) (by assumption) ?_
    rotate_left
    · intro w hSw; (try dsimp only at hSw); go_simp; try with_reducible rfl
    try simp only [Act.put, List.setIfInBounds_toArray, List.set_cons_zero, List.set_cons_succ]
    refine wpAnyH_take (i := 7) (v := ?_) (by simp only [List.getElem?_toArray, List.getElem?_cons_succ, List.getElem?_cons_zero]; rfl) (by kernel_rfl) (by kernel_rfl) (by kernel_rfl) (by exact fun _ _ _ h => h) (Or.inl ⟨by kernel_rfl, ?_⟩) (by assumption) ?_
    rotate_left
    · intro w hSw; (try dsimp only at hSw); go_simp; try with_reducible rfl
    try simp only [Act.put, List.setIfInBounds_toArray, List.set_cons_zero, List.set_cons_succ]
    refine wpAnyH_take (i := 8) (v := ?_) (by simp only [List.getElem?_toArray, List.getElem?_cons_succ, List.getElem?_cons_zero]; rfl) (by kernel_rfl) (by kernel_rfl) (by kernel_rfl) (by exact fun _ _ _ h => h) (Or.inl ⟨by kernel_rfl, ?_⟩) (by assumption) ?_
    rotate_left
    · intro w hSw; (try dsimp only at hSw); go_simp; try with_reducible rfl
    try simp only [Act.put, List.setIfInBounds_toArray, List.set_cons_zero, List.set_cons_succ]
    refine wpAnyH_take (i := 9) (v := ?_) (by simp only [List.getElem?_toArray, List.getElem?_cons_succ, List.getElem?_cons_zero]; rfl) (by kernel_rfl) (by kernel_rfl) (by kernel_rfl) (by exact fun _ _ _ h => h) (Or.inl ⟨by kernel_rfl, ?_⟩) (by assumption) ?_
    rotate_left
    · intro w hSw; (try dsimp only at hSw); go_simp; try with_reducible rfl
    try simp only [Act.put, List.setIfInBounds_toArray, List.set_cons_zero, List.set_cons_succ]
    refine wpAnyH_take (i := 10) (v := ?_) (by simp only [List.getElem?_toArray, List.getElem?_cons_succ, List.getElem?_cons_zero]; rfl) (by kernel_rfl) (by kernel_rfl) (by kernel_rfl) (by exact fun _ _ _ h => h) (Or.inl ⟨by kernel_rfl, ?_⟩) (by assumption) ?_
    rotate_left
    · intro w hSw; (try dsimp only at hSw); go_simp; try with_reducible rfl
    try simp only [Act.put, List.setIfInBounds_toArray, List.set_cons_zero, List.set_cons_succ]
    refine wpAnyH_ready (rs := [11]) (by kernel_rfl) (by simp) ?_
    refine AllReadyH.cons rfl (fun K hK => ?_) AllReadyH.nil
    go_simp
    refine (HDE.out _ (H1.out.ext ((((((((Ext.rfl' w1).tr U2.out).tr U3.out).tr U4.out).tr U5.out).tr U6.out).tr U7.out).tr U8.out)) (Hc1.out.ext ((((((((Ext.rfl' w1).tr U2.out).tr U3.out).tr U4.out).tr U5.out).tr U6.out).tr U7.out).tr U8.out))).mono ?_
    rintro e w9 ⟨A8, hs8, rfl, hd8, he9⟩
    have Hd8 := Lib.hid (OwnL.rdL hd8 HBD.out.1 HBD.out.2)
    clear hd8
    have U9 := Lib.hid ((Ext.rfl' w8).tr he9)
    have E9 := Lib.hid (E8.out.tr U9.out)
    have lg_9 := U9.out.cellE lg_8
    have lv_9 := U9.out.cellE lv_8
    have lr_9 := U9.out.cellE lr_8
    clear he9 lg_8 lv_8 lr_8 blg_8 blv_8 blr_8
    have blg_9 := blt lg_9
    have blv_9 := blt lv_9
    have blr_9 := blt lr_9
    try go_wp2_with fail
    refine hK.out _ _ ?_ (fun hHeld2 => ?_)
    · exact ⟨lv_9, lr_9, lg_9⟩
    clear hK K hHeld
    have hHeld := hHeld2
    clear hHeld2
    try simp only [Act.put, List.setIfInBounds_toArray, List.set_cons_zero, List.set_cons_succ]
    refine wpAnyH_ready (rs := [12]) (by kernel_rfl) (by simp) ?_
    refine AllReadyH.cons rfl (fun K hK => ?_) AllReadyH.nil
    go_simp
    refine (l_equalLists A2 A8 r.length g.length r _ (Hr2.out.ext ((((((((Ext.rfl' w2).tr U3.out).tr U4.out).tr U5.out).tr U6.out).tr U7.out).tr U8.out).tr U9.out)) Hd8.out).mono ?_
    rintro e w10 ⟨rfl, he10⟩
    have U10 := Lib.hid ((Ext.rfl' w9).tr he10)
    have E10 := Lib.hid (E9.out.tr U10.out)
    have lg_10 := U10.out.cellE lg_9
    have lv_10 := U10.out.cellE lv_9
    have lr_10 := U10.out.cellE lr_9
    clear he10 lg_9 lv_9 lr_9 blg_9 blv_9 blr_9
    have blg_10 := blt lg_10
    have blv_10 := blt lv_10
    have blr_10 := blt lr_10
    try go_wp2_with fail
    refine hK.out _ _ ?_ (fun hHeld2 => ?_)
    · exact ⟨lv_10, lr_10, lg_10⟩
    clear hK K hHeld
    have hHeld := hHeld2
    clear hHeld2
    try simp only [Act.put, List.setIfInBounds_toArray, List.set_cons_zero, List.set_cons_succ]
    refine wpAnyH_take (i := 13) (v := ?_) (by simp only [List.getElem?_toArray, List.getElem?_cons_succ, List.getElem?_cons_zero]; rfl) (by kernel_rfl) (by kernel_rfl) (by kernel_rfl) (by exact fun _ _ _ h => h) (Or.inl ⟨by kernel_rfl, ?_⟩) (by assumption) ?_
    rotate_left
    · intro w hSw; (try dsimp only at hSw); go_simp; try with_reducible rfl
    try simp only [Act.put, List.setIfInBounds_toArray, List.set_cons_zero, List.set_cons_succ]
    refine wpAnyH_take (i := 14) (v := ?_) (by simp only [List.getElem?_toArray, List.getElem?_cons_succ, List.getElem?_cons_zero]; rfl) (by kernel_rfl) (by kernel_rfl) (by kernel_rfl) (by exact fun _ _ _ h => h) (Or.inl ⟨by kernel_rfl, ?_⟩) (by assumption) ?_
    rotate_left
    · intro w hSw; (try dsimp only at hSw); go_simp; try with_reducible rfl
    try simp only [Act.put, List.setIfInBounds_toArray, List.set_cons_zero, List.set_cons_succ]
    refine wpAnyH_take (i := 15) (v := ?_) (by simp only [List.getElem?_toArray, List.getElem?_cons_succ, List.getElem?_cons_zero]; rfl) (by kernel_rfl) (by kernel_rfl) (by kernel_rfl) (by exact fun _ _ _ h => h) (Or.inl ⟨by kernel_rfl, ?_⟩) (by assumption) ?_
    rotate_left
    · intro w hSw; (try dsimp only at hSw); go_simp; try with_reducible rfl
    try simp only [Act.put, List.setIfInBounds_toArray, List.set_cons_zero, List.set_cons_succ]
    refine wpAnyH_take (i := 16) (v := ?_) (by simp only [List.getElem?_toArray, List.getElem?_cons_succ, List.getElem?_cons_zero]; rfl) (by kernel_rfl) (by kernel_rfl) (by kernel_rfl) (by exact fun _ _ _ h => h) (Or.inl ⟨by kernel_rfl, ?_⟩) (by assumption) ?_
    rotate_left
    · intro w hSw; (try dsimp only at hSw); go_simp; try with_reducible rfl
    try simp only [Act.put, List.setIfInBounds_toArray, List.set_cons_zero, List.set_cons_succ]
    refine wpAnyH_ready (rs := [17]) (by kernel_rfl) (by simp) ?_
    refine AllReadyH.cons rfl (fun K hK => ?_) AllReadyH.nil
    go_simp
    refine (HVV.out _ (H1.out.ext ((((((((((Ext.rfl' w1).tr U2.out).tr U3.out).tr U4.out).tr U5.out).tr U6.out).tr U7.out).tr U8.out).tr U9.out).tr U10.out)) (Hv2.out.ext (((((((((Ext.rfl' w2).tr U3.out).tr U4.out).tr U5.out).tr U6.out).tr U7.out).tr U8.out).tr U9.out).tr U10.out)) (Hr2.out.ext (((((((((Ext.rfl' w2).tr U3.out).tr U4.out).tr U5.out).tr U6.out).tr U7.out).tr U8.out).tr U9.out).tr U10.out))).mono ?_
    rintro e w11 ⟨rfl, he11⟩
    rw [HVE.out]
    have U11 := Lib.hid ((Ext.rfl' w10).tr he11)
    have E11 := Lib.hid (E10.out.tr U11.out)
    have lg_11 := U11.out.cellE lg_10
    have lv_11 := U11.out.cellE lv_10
    have lr_11 := U11.out.cellE lr_10
    clear he11 lg_10 lv_10 lr_10 blg_10 blv_10 blr_10
    have blg_11 := blt lg_11
    have blv_11 := blt lv_11
    have blr_11 := blt lr_11
    try go_wp2_with fail
    refine hK.out _ _ ?_ (fun hHeld2 => ?_)
    · exact ⟨lv_11, lr_11, lg_11⟩
    clear hK K hHeld
    have hHeld := hHeld2
    clear hHeld2
    try simp only [Act.put, List.setIfInBounds_toArray, List.set_cons_zero, List.set_cons_succ]
    refine wpAnyH_take (i := 18) (v := ?_) (by simp only [List.getElem?_toArray, List.getElem?_cons_succ, List.getElem?_cons_zero]; rfl) (by kernel_rfl) (by kernel_rfl) (by kernel_rfl) (by exact fun _ _ _ h => h) (Or.inl ⟨by kernel_rfl, ?_⟩) (by assumption) ?_
    rotate_left
    · intro w hSw; (try dsimp only at hSw); go_simp; try with_reducible rfl
    try simp only [Act.put, List.setIfInBounds_toArray, List.set_cons_zero, List.set_cons_succ]
    refine wpAnyH_take (i := 19) (v := ?_) (by simp only [List.getElem?_toArray, List.getElem?_cons_succ, List.getElem?_cons_zero]; rfl) (by kernel_rfl) (by kernel_rfl) (by kernel_rfl) (by exact fun _ _ _ h => h) (Or.inl ⟨by kernel_rfl, ?_⟩) (by assumption) ?_
    rotate_left
    · intro w hSw; (try dsimp only at hSw); go_simp; try with_reducible rfl
    try simp only [Act.put, List.setIfInBounds_toArray, List.set_cons_zero, List.set_cons_succ]
    refine wpAnyH_take (i := 20) (v := ?_) (by simp only [List.getElem?_toArray, List.getElem?_cons_succ, List.getElem?_cons_zero]; rfl) (by kernel_rfl) (by kernel_rfl) (by kernel_rfl) (by exact fun _ _ _ h => h) (Or.inl ⟨by kernel_rfl, ?_⟩) (by assumption) ?_
    rotate_left
    · intro w hSw; (try dsimp only at hSw); go_simp; try with_reducible rfl
    try simp only [Act.put, List.setIfInBounds_toArray, List.set_cons_zero, List.set_cons_succ]
    refine wpAnyH_take (i := 21) (v := ?_) (by simp only [List.getElem?_toArray, List.getElem?_cons_succ, List.getElem?_cons_zero]; rfl) (by kernel_rfl) (by kernel_rfl) (by kernel_rfl) (by exact fun _ _ _ h => h) (Or.inl ⟨by kernel_rfl, ?_⟩) (by assumption) ?_
    rotate_left
    · intro w hSw; (try dsimp only at hSw); go_simp; try with_reducible rfl
    try simp only [Act.put, List.setIfInBounds_toArray, List.set_cons_zero, List.set_cons_succ]
    refine wpAnyH_take (i := 23) (v := ?_) (by simp only [List.getElem?_toArray, List.getElem?_cons_succ, List.getElem?_cons_zero]; rfl) (by kernel_rfl) (by kernel_rfl) (by kernel_rfl) (by exact fun _ _ _ h => h) (Or.inl ⟨by kernel_rfl, ?_⟩) (by assumption) ?_
    rotate_left
    · intro w hSw; (try dsimp only at hSw); go_simp; try with_reducible rfl
    try simp only [Act.put, List.setIfInBounds_toArray, List.set_cons_zero, List.set_cons_succ]
    refine wpAnyH_ready (rs := [22]) (by kernel_rfl) (by simp) ?_
    refine AllReadyH.cons rfl (fun K hK => ?_) AllReadyH.nil
    go_simp
    refine (HCC.out _ (H1.out.ext (((((((((((Ext.rfl' w1).tr U2.out).tr U3.out).tr U4.out).tr U5.out).tr U6.out).tr U7.out).tr U8.out).tr U9.out).tr U10.out).tr U11.out)) (Hv2.out.ext ((((((((((Ext.rfl' w2).tr U3.out).tr U4.out).tr U5.out).tr U6.out).tr U7.out).tr U8.out).tr U9.out).tr U10.out).tr U11.out)) (Hr2.out.ext ((((((((((Ext.rfl' w2).tr U3.out).tr U4.out).tr U5.out).tr U6.out).tr U7.out).tr U8.out).tr U9.out).tr U10.out).tr U11.out)) hvl).mono ?_
    rintro e w12 ⟨A9, c9, rfl, hc9, he12⟩
    have Hc9 := Lib.hid hc9.rd
    clear hc9
    have U12 := Lib.hid ((Ext.rfl' w11).tr he12)
    have E12 := Lib.hid (E11.out.tr U12.out)
    have lg_12 := U12.out.cellE lg_11
    have lv_12 := U12.out.cellE lv_11
    have lr_12 := U12.out.cellE lr_11
    clear he12 lg_11 lv_11 lr_11 blg_11 blv_11 blr_11
    have blg_12 := blt lg_12
    have blv_12 := blt lv_12
    have blr_12 := blt lr_12
    try go_wp2_with fail
    refine hK.out _ _ ?_ (fun hHeld2 => ?_)
    · exact ⟨lv_12, lr_12, lg_12⟩
    clear hK K hHeld
    have hHeld := hHeld2
    clear hHeld2
    try simp only [Act.put, List.setIfInBounds_toArray, List.set_cons_zero, List.set_cons_succ]
    refine wpAnyH_ready (rs := [24]) (by kernel_rfl) (by simp) ?_
    refine AllReadyH.cons rfl (fun K hK => ?_) AllReadyH.nil
    go_simp
    refine (l_equalInts A9 Ac c9 cc cl _ Hc9.out (Hc1.out.ext ((((((((((((Ext.rfl' w1).tr U2.out).tr U3.out).tr U4.out).tr U5.out).tr U6.out).tr U7.out).tr U8.out).tr U9.out).tr U10.out).tr U11.out).tr U12.out))).mono ?_
    rintro e w13 ⟨rfl, he13⟩
    have U13 := Lib.hid ((Ext.rfl' w12).tr he13)
    have E13 := Lib.hid (E12.out.tr U13.out)
    have lg_13 := U13.out.cellE lg_12
    have lv_13 := U13.out.cellE lv_12
    have lr_13 := U13.out.cellE lr_12
    clear he13 lg_12 lv_12 lr_12 blg_12 blv_12 blr_12
    have blg_13 := blt lg_13
    have blv_13 := blt lv_13
    have blr_13 := blt lr_13
    try go_wp2_with fail
    refine hK.out _ _ ?_ (fun hHeld2 => ?_)
    · exact ⟨lv_13, lr_13, lg_13⟩
    clear hK K hHeld
    have hHeld := hHeld2
    clear hHeld2
    try simp only [Act.put, List.setIfInBounds_toArray, List.set_cons_zero, List.set_cons_succ]
    refine wpAnyH_take (i := 25) (v := ?_) (by simp only [List.getElem?_toArray, List.getElem?_cons_succ, List.getElem?_cons_zero]; rfl) (by kernel_rfl) (by kernel_rfl) (by kernel_rfl) (by exact fun _ _ _ h => h) (Or.inl ⟨by kernel_rfl, ?_⟩) (by assumption) ?_
    rotate_left
    · intro w hSw; (try dsimp only at hSw); go_simp; try with_reducible rfl
    try simp only [Act.put, List.setIfInBounds_toArray, List.set_cons_zero, List.set_cons_succ]
    refine wpAnyH_take (i := 26) (v := ?_) (by simp only [List.getElem?_toArray, List.getElem?_cons_succ, List.getElem?_cons_zero]; rfl) (by kernel_rfl) (by kernel_rfl) (by kernel_rfl) (by exact fun _ _ _ h => h) (Or.inl ⟨by kernel_rfl, ?_⟩) (by assumption) ?_
    rotate_left
    · intro w hSw; (try dsimp only at hSw); go_simp; try with_reducible rfl
    try simp only [Act.put, List.setIfInBounds_toArray, List.set_cons_zero, List.set_cons_succ]
    refine wpAnyH_done (by kernel_rfl) ?_ _
    go_wp2
    go_ret
    exact ⟨rfl, E13.out⟩
end Go.Proofs.Ytkbihkggneaeeaa
