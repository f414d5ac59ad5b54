/- The reference's goodWrites: its contract. Conditions: bounds on lengths. -/
import Derived.Test.YtmelggoagbhieaaGreatCellA
import Derived.Deep.QuietTactic
import Derived.BigQuiet
namespace Sg
def goodW (g : Graph) (nodes values : List Int) : Bool := decide (nodes.length = values.length) && decide (nodes.length ≤ 10) && inR999 values && cellsDiffer g nodes
theorem goodW_same {g : Graph} (hG : g.length ≤ 10) (nodes values : List Int) : goodW g nodes values = (cellsDiffer g nodes && decide (nodes.length = values.length) && inR999 values) := by
  unfold goodW
  cases hc : cellsDiffer g nodes
  · simp
  · have := cellsDiffer_len hc
    have h10 : decide (nodes.length ≤ 10) = true := by simp; omega
    rw [h10]; simp
end Sg
namespace Go.Proofs.YtmelggoagbhieaaGreat
open Go.RowKit
section
variable {P : Program} {ops : Array Oper} {Q : Exit → Act → World → Prop} {md : Region.Mode} {S : World → Prop}
theorem tySpecX (i : Nat) {oi : Oper} {v : Value} {fuel : Nat} {listed : Array Bool} {a : Act} {w : World} (hv : ∀ w, S w → (execOp a.eval oi).run P w = .ok (.value v) w) (h : wpAnyH P md ops Q S fuel (listed.setIfInBounds i true) (a.put oi.dst v) w)
    (hi : ops[i]? = some oi := by simp only [List.getElem?_toArray, List.getElem?_cons_succ, List.getElem?_cons_zero]; rfl) (hs : Region.noSelect ops = true := by kernel_rfl) (hf : Region.free md ops listed i = true := by kernel_rfl) (hr : (Region.ready md ops listed).contains i = true := by kernel_rfl)
    (hQ : ∀ c a w, Q (.panic c) (a.put oi.dst v) w → Q (.panic c) a w := by exact fun _ _ _ h => h) (hw : Region.wanted oi (yielded ops a.tmps) = true := by kernel_rfl) (hS : S w := by assumption) : wpAnyH P md ops Q S (fuel + 1) listed a w := wpAnyH_take hi hs hf hr hQ (Or.inl ⟨hw, hv⟩) hS h
theorem tnSpecX (i : Nat) {oi : Oper} {fuel : Nat} {listed : Array Bool} {a : Act} {w : World} (h : wpAnyH P md ops Q S fuel (listed.setIfInBounds i true) (a.put oi.dst undef) w)
    (hi : ops[i]? = some oi := by simp only [List.getElem?_toArray, List.getElem?_cons_succ, List.getElem?_cons_zero]; rfl) (hs : Region.noSelect ops = true := by kernel_rfl) (hf : Region.free md ops listed i = true := by kernel_rfl) (hr : (Region.ready md ops listed).contains i = true := by kernel_rfl)
    (hQ : ∀ c a w, Q (.panic c) (a.put oi.dst undef) w → Q (.panic c) a w := by exact fun _ _ _ h => h) (hw : Region.wanted oi (yielded ops a.tmps) = false := by kernel_rfl) (hS : S w := by assumption) : wpAnyH P md ops Q S (fuel + 1) listed a w := wpAnyH_take hi hs hf hr hQ (Or.inr ⟨hw, rfl⟩) hS h
end
theorem s_placeE (A : Option Addr) (len c : Nat) (l : List Int) (n p : Int) (w : World) (h : Rd w 1 A len (ints l)) (hp : p = placeIn l n) :
    Calls Tryz.prog 147 #[.slice A len c, .int .i64 n] w fun e w' => e = .returned (.int .i64 p) ∧ Ext w w' := by
  subst hp
  exact (s_placeIn A len c l n w h).mono fun e w' hh => ⟨hh.1, by have := hh.2; subst this; exact Ext.rfl' _⟩

set_option maxRecDepth 100000 in
set_option maxHeartbeats 4000000 in
theorem s_goodWrites (A Al Av : Option Addr) (c cl cv : Nat) (g : Sg.Graph) (l v : List Int) (w : World) (h : RdN w A g) (hl : Rd w 1 Al l.length (ints l)) (hv : Rd w 1 Av v.length (ints v)) (hcl : l.length ≤ cl) (_hcm : cl ≤ maxLen) :
    Calls Tryz.prog 83 #[.agg #[.slice A g.length c], .slice Al l.length cl, .slice Av v.length cv] w fun e w' => e = .returned (.bool (Sg.goodW g l v)) ∧ Ext w w' := by
  have hgl := h.1
  have hbig := hl.big
  have hbig2 := hv.big
  have E0 := Lib.hid ((Ext.rfl' w).al (.cells #[.slice A g.length c] 25))
  have q0 : (w.alloc (.cells #[.slice A g.length c] 25)).cell? ⟨w.heap.size, 0, none⟩ = some (.slice A g.length c) := by simp [go_sem]
  have Q0 := Lib.hid q0
  have H := Lib.hid h
  have Hl := Lib.hid hl
  have HA := Lib.hid (s_allIn Av v.length cv v 0 999 (w.alloc (.cells #[.slice A g.length c] 25)) (hv.ext E0.out))
  have HC := Lib.hid (fun k w h => s_isCell A c g k w h)
  clear h hl hv q0
  by_cases h1 : l.length = v.length
  case neg =>
    have z1 : ((l.length : Int) != (v.length : Int)) = true := by simp; omega
    have HS := Lib.hid (show Sg.goodW g l v = false by unfold Sg.goodW; simp [h1])
    clear h1
    go_enter Tryz.func83, Tryz.ntmps83
    go_wp2
    go_ret
    exact ⟨ret_bool HS.out.symm, E0.out⟩
  have z1 : ((l.length : Int) != (v.length : Int)) = false := by simp; omega
  by_cases h2 : l.length ≤ 10
  case neg =>
    have z2 : (10 : Int) < (l.length : Int) := by omega
    have HS := Lib.hid (show Sg.goodW g l v = false by unfold Sg.goodW; simp [h2])
    clear h1 h2
    go_enter Tryz.func83, Tryz.ntmps83
    go_wp2
    go_ret
    exact ⟨ret_bool HS.out.symm, E0.out⟩
  have z2 : ¬ (10 : Int) < (l.length : Int) := by omega
  cases h3 : Sg.inR999 v
  case false =>
    have HS := Lib.hid (show Sg.goodW g l v = false by unfold Sg.goodW; simp [h3])
    have H3 := Lib.hid h3
    clear h1 h2 h3
    go_enter Tryz.func83, Tryz.ntmps83
    go_wp2_with fail
    refine HA.out.mono ?_
    rintro e w2 ⟨rfl, rfl⟩
    rw [show (v.all fun x => Sg.inR x 0 999) = false from H3.out]
    go_wp2
    go_ret
    exact ⟨ret_bool HS.out.symm, E0.out⟩
  have HF := Lib.hid (fun (k : Nat) (hk : k < l.length) (hp : Sg.placeOk g l k = false) => (show Sg.goodW g l v = false by unfold Sg.goodW; rw [show Sg.cellsDiffer g l = false from Sg.all_range_false hk hp]; simp))
  have HT := Lib.hid (fun (hp : ∀ k, k < l.length → Sg.placeOk g l k = true) => (show Sg.goodW g l v = true by unfold Sg.goodW; rw [show Sg.cellsDiffer g l = true from Sg.all_range_true hp, h3]; simp [h1]; omega))
  have H3 := Lib.hid h3
  clear h1 h2 h3
  go_enter Tryz.func83, Tryz.ntmps83
  go_wp2_with fail
  refine HA.out.mono ?_
  rintro e w2 ⟨rfl, hw2⟩
  subst hw2
  rw [show (v.all fun x => Sg.inR x 0 999) = true from H3.out]
  go_wp2
  go_loopw [7] (fun i wr => ∃ k : Nat, k ≤ l.length ∧ i = .int .i64 k ∧ Hid (∀ j, j < k → Sg.placeOk g l j = true) ∧ Hid (Ext (w.alloc (.cells #[.slice A g.length c] 25)) wr)) (fun i _ => l.length - (intOf i).toNat)
  case atStart => exact ⟨0, Nat.zero_le _, rfl, Lib.hid (by omega), Lib.hid (Ext.rfl' _)⟩
  case round =>
    obtain ⟨k, hk, rfl, hP, hE⟩ := hrel
    have q1 := hE.out.cellE Q0.out
    have bq := blt q1
    by_cases hlt : k < l.length
    · obtain ⟨b, o, x, rfl, hx, hcx⟩ := (Hl.out.ext (E0.out.tr hE.out)).at1 hlt
      have bx := blt hcx
      have HX := Lib.hid (show l.getD k 0 = x by simp [hx])
      have RF := Lib.hid ((Hl.out.ext (E0.out.tr hE.out)).front k (by omega))
      have HG := Lib.hid (H.out.ext (E0.out.tr hE.out))
      have EE := Lib.hid (E0.out.tr hE.out)
      have hk1 : (k : Int) ≤ (cl : Int) := by omega
      have hk2 : k ≤ cl := by omega
      obtain ⟨p, hp⟩ : ∃ p : Int, p = placeIn (l.take k) x := ⟨_, rfl⟩
      have HPN := Lib.hid (show p < 0 ↔ x ∉ l.take k by rw [hp]; exact placeIn_neg _ _)
      have HCT := Lib.hid (fun w h => s_placeE (some ⟨b, o, none⟩) k cl (l.take k) x p w h hp)
      clear hx hp
      have rE0 := Lib.hid ((Ext.rfl' wr) : Ext wr wr)
      cases hc : Sg.isCell g x
      · have HPF := Lib.hid (HF.out k hlt (by unfold Sg.placeOk; rw [HX.out, hc]; rfl))
        have Hc := Lib.hid hc
        clear hc
        go_upto_region 6 with fail
        go_wp2_with fail
        refine wp_region_held_drew (S := (fun W => W.cell? ⟨w.heap.size, 0, none⟩ = some (.slice A g.length c) ∧ W.cell? ⟨b, o + k, none⟩ = some (.int .i64 x))) (by kernel_rfl) ?_ (fun hHeld => ?_)
        · exact ⟨((Ext.rfl' _).dr).cellE (rE0.out.cellE q1), ((Ext.rfl' _).dr).cellE (rE0.out.cellE hcx)⟩
        refine tySpecX 0 (v := ?_) ?_ ?_
        rotate_left
        · intro w hSw; (try dsimp only at hSw); go_simp; try with_reducible rfl
        try simp only [Act.put, List.setIfInBounds_toArray, List.set_cons_zero, List.set_cons_succ]
        refine tySpecX 1 (v := ?_) ?_ ?_
        rotate_left
        · intro w hSw; (try dsimp only at hSw); go_simp; try with_reducible rfl
        try simp only [Act.put, List.setIfInBounds_toArray, List.set_cons_zero, List.set_cons_succ]
        refine tySpecX 2 (v := ?_) ?_ ?_
        rotate_left
        · intro w hSw; (try dsimp only at hSw); go_simp; try with_reducible rfl
        try simp only [Act.put, List.setIfInBounds_toArray, List.set_cons_zero, List.set_cons_succ]
        refine tySpecX 3 (v := ?_) ?_ ?_
        rotate_left
        · intro w hSw; (try dsimp only at hSw); go_simp; try with_reducible rfl
        try simp only [Act.put, List.setIfInBounds_toArray, List.set_cons_zero, List.set_cons_succ]
        refine tySpecX 4 (v := ?_) ?_ ?_
        rotate_left
        · intro w hSw; (try dsimp only at hSw); go_simp; try with_reducible rfl
        try simp only [Act.put, List.setIfInBounds_toArray, List.set_cons_zero, List.set_cons_succ]
        refine wpAnyH_ready (rs := [5]) (by kernel_rfl) (by simp) ?_
        refine AllReadyH.cons rfl (fun K hK => ?_) AllReadyH.nil
        go_simp
        refine (HC.out x _ (HG.out.ext (rE0.out.dr))).mono ?_
        rintro e rw1 ⟨rfl, rhe1⟩
        rw [Hc.out]
        have rU1 := Lib.hid (((Ext.rfl' wr).dr).tr rhe1)
        have rE1 := Lib.hid (rE0.out.tr rU1.out)
        have lg_r1 := rU1.out.cellE (rE0.out.cellE q1)
        have lx_r1 := rU1.out.cellE (rE0.out.cellE hcx)
        clear rhe1 
        have blg_r1 := blt lg_r1
        have blx_r1 := blt lx_r1
        try go_wp2_with fail
        refine hK.out _ _ ?_ (fun hHeld2 => ?_)
        · exact ⟨lg_r1, lx_r1⟩
        clear hK K hHeld
        have hHeld := hHeld2
        clear hHeld2
        try simp only [Act.put, List.setIfInBounds_toArray, List.set_cons_zero, List.set_cons_succ]
        refine tySpecX 6 (v := ?_) ?_ ?_
        rotate_left
        · intro w hSw; (try dsimp only at hSw); go_simp; try with_reducible rfl
        try simp only [Act.put, List.setIfInBounds_toArray, List.set_cons_zero, List.set_cons_succ]
        refine tySpecX 7 (v := ?_) ?_ ?_
        rotate_left
        · intro w hSw; (try dsimp only at hSw); go_simp; try with_reducible rfl
        try simp only [Act.put, List.setIfInBounds_toArray, List.set_cons_zero, List.set_cons_succ]
        refine tnSpecX 8 ?_
        try simp only [Act.put, List.setIfInBounds_toArray, List.set_cons_zero, List.set_cons_succ]
        refine tnSpecX 9 ?_
        try simp only [Act.put, List.setIfInBounds_toArray, List.set_cons_zero, List.set_cons_succ]
        refine tnSpecX 10 ?_
        try simp only [Act.put, List.setIfInBounds_toArray, List.set_cons_zero, List.set_cons_succ]
        refine tnSpecX 11 ?_
        try simp only [Act.put, List.setIfInBounds_toArray, List.set_cons_zero, List.set_cons_succ]
        refine tnSpecX 12 ?_
        try simp only [Act.put, List.setIfInBounds_toArray, List.set_cons_zero, List.set_cons_succ]
        refine tnSpecX 13 ?_
        try simp only [Act.put, List.setIfInBounds_toArray, List.set_cons_zero, List.set_cons_succ]
        refine tnSpecX 14 ?_
        try simp only [Act.put, List.setIfInBounds_toArray, List.set_cons_zero, List.set_cons_succ]
        refine tnSpecX 15 ?_
        try simp only [Act.put, List.setIfInBounds_toArray, List.set_cons_zero, List.set_cons_succ]
        refine tnSpecX 16 ?_
        try simp only [Act.put, List.setIfInBounds_toArray, List.set_cons_zero, List.set_cons_succ]
        refine tySpecX 17 (v := ?_) ?_ ?_
        rotate_left
        · intro w hSw; (try dsimp only at hSw); go_simp; try with_reducible rfl
        try simp only [Act.put, List.setIfInBounds_toArray, List.set_cons_zero, List.set_cons_succ]
        refine wpAnyH_done (by kernel_rfl) ?_ _
        go_wp2_with fail
        go_wp2
        go_ret
        exact ⟨ret_bool HPF.out.symm, EE.out.tr rE1.out⟩
      · have Hc := Lib.hid hc
        clear hc
        by_cases hp0 : p < 0
        · have HPT := Lib.hid (show Sg.placeOk g l k = true by unfold Sg.placeOk; rw [HX.out, Hc.out]; simpa using HPN.out.1 hp0)
          have hp1 : ¬ (0 : Int) ≤ p := by omega
          clear hp0
          go_upto_region 6 with fail
          go_wp2_with fail
          refine wp_region_held_drew (S := (fun W => W.cell? ⟨w.heap.size, 0, none⟩ = some (.slice A g.length c) ∧ W.cell? ⟨b, o + k, none⟩ = some (.int .i64 x))) (by kernel_rfl) ?_ (fun hHeld => ?_)
          · exact ⟨((Ext.rfl' _).dr).cellE (rE0.out.cellE q1), ((Ext.rfl' _).dr).cellE (rE0.out.cellE hcx)⟩
          refine tySpecX 0 (v := ?_) ?_ ?_
          rotate_left
          · intro w hSw; (try dsimp only at hSw); go_simp; try with_reducible rfl
          try simp only [Act.put, List.setIfInBounds_toArray, List.set_cons_zero, List.set_cons_succ]
          refine tySpecX 1 (v := ?_) ?_ ?_
          rotate_left
          · intro w hSw; (try dsimp only at hSw); go_simp; try with_reducible rfl
          try simp only [Act.put, List.setIfInBounds_toArray, List.set_cons_zero, List.set_cons_succ]
          refine tySpecX 2 (v := ?_) ?_ ?_
          rotate_left
          · intro w hSw; (try dsimp only at hSw); go_simp; try with_reducible rfl
          try simp only [Act.put, List.setIfInBounds_toArray, List.set_cons_zero, List.set_cons_succ]
          refine tySpecX 3 (v := ?_) ?_ ?_
          rotate_left
          · intro w hSw; (try dsimp only at hSw); go_simp; try with_reducible rfl
          try simp only [Act.put, List.setIfInBounds_toArray, List.set_cons_zero, List.set_cons_succ]
          refine tySpecX 4 (v := ?_) ?_ ?_
          rotate_left
          · intro w hSw; (try dsimp only at hSw); go_simp; try with_reducible rfl
          try simp only [Act.put, List.setIfInBounds_toArray, List.set_cons_zero, List.set_cons_succ]
          refine wpAnyH_ready (rs := [5]) (by kernel_rfl) (by simp) ?_
          refine AllReadyH.cons rfl (fun K hK => ?_) AllReadyH.nil
          go_simp
          refine (HC.out x _ (HG.out.ext (rE0.out.dr))).mono ?_
          rintro e rw1 ⟨rfl, rhe1⟩
          rw [Hc.out]
          have rU1 := Lib.hid (((Ext.rfl' wr).dr).tr rhe1)
          have rE1 := Lib.hid (rE0.out.tr rU1.out)
          have lg_r1 := rU1.out.cellE (rE0.out.cellE q1)
          have lx_r1 := rU1.out.cellE (rE0.out.cellE hcx)
          clear rhe1 
          have blg_r1 := blt lg_r1
          have blx_r1 := blt lx_r1
          try go_wp2_with fail
          refine hK.out _ _ ?_ (fun hHeld2 => ?_)
          · exact ⟨lg_r1, lx_r1⟩
          clear hK K hHeld
          have hHeld := hHeld2
          clear hHeld2
          try simp only [Act.put, List.setIfInBounds_toArray, List.set_cons_zero, List.set_cons_succ]
          refine tySpecX 6 (v := ?_) ?_ ?_
          rotate_left
          · intro w hSw; (try dsimp only at hSw); go_simp; try with_reducible rfl
          try simp only [Act.put, List.setIfInBounds_toArray, List.set_cons_zero, List.set_cons_succ]
          refine tySpecX 7 (v := ?_) ?_ ?_
          rotate_left
          · intro w hSw; (try dsimp only at hSw); go_simp; try with_reducible rfl
          try simp only [Act.put, List.setIfInBounds_toArray, List.set_cons_zero, List.set_cons_succ]
          refine tySpecX 8 (v := ?_) ?_ ?_
          rotate_left
          · intro w hSw; (try dsimp only at hSw); go_simp; try with_reducible rfl
          try simp only [Act.put, List.setIfInBounds_toArray, List.set_cons_zero, List.set_cons_succ]
          refine tySpecX 9 (v := ?_) ?_ ?_
          rotate_left
          · intro w hSw; (try dsimp only at hSw); go_simp; try with_reducible rfl
          try simp only [Act.put, List.setIfInBounds_toArray, List.set_cons_zero, List.set_cons_succ]
          refine tySpecX 10 (v := ?_) ?_ ?_
          rotate_left
          · intro w hSw; (try dsimp only at hSw); go_simp; try with_reducible rfl
          try simp only [Act.put, List.setIfInBounds_toArray, List.set_cons_zero, List.set_cons_succ]
          refine tySpecX 11 (v := ?_) ?_ ?_
          rotate_left
          · intro w hSw; (try dsimp only at hSw); go_simp; try with_reducible rfl
          try simp only [Act.put, List.setIfInBounds_toArray, List.set_cons_zero, List.set_cons_succ]
          refine tySpecX 12 (v := ?_) ?_ ?_
          rotate_left
          · intro w hSw; (try dsimp only at hSw); go_simp; try with_reducible rfl
          try simp only [Act.put, List.setIfInBounds_toArray, List.set_cons_zero, List.set_cons_succ]
          refine tySpecX 13 (v := ?_) ?_ ?_
          rotate_left
          · intro w hSw; (try dsimp only at hSw); go_simp; try with_reducible rfl
          try simp only [Act.put, List.setIfInBounds_toArray, List.set_cons_zero, List.set_cons_succ]
          refine tySpecX 14 (v := ?_) ?_ ?_
          rotate_left
          · intro w hSw; (try dsimp only at hSw); go_simp; try with_reducible rfl
          try simp only [Act.put, List.setIfInBounds_toArray, List.set_cons_zero, List.set_cons_succ]
          refine wpAnyH_ready (rs := [15]) (by kernel_rfl) (by simp) ?_
          refine AllReadyH.cons rfl (fun K hK => ?_) AllReadyH.nil
          go_simp
          refine (HCT.out _ (RF.out.ext rE1.out)).mono ?_
          rintro e rw2 ⟨rfl, rhe2⟩
          have rU2 := Lib.hid ((Ext.rfl' rw1).tr rhe2)
          have rE2 := Lib.hid (rE1.out.tr rU2.out)
          have lg_r2 := rU2.out.cellE lg_r1
          have lx_r2 := rU2.out.cellE lx_r1
          clear rhe2 lg_r1 lx_r1 blg_r1 blx_r1
          have blg_r2 := blt lg_r2
          have blx_r2 := blt lx_r2
          try go_wp2_with fail
          refine hK.out _ _ ?_ (fun hHeld2 => ?_)
          · exact ⟨lg_r2, lx_r2⟩
          clear hK K hHeld
          have hHeld := hHeld2
          clear hHeld2
          try simp only [Act.put, List.setIfInBounds_toArray, List.set_cons_zero, List.set_cons_succ]
          refine tySpecX 16 (v := ?_) ?_ ?_
          rotate_left
          · intro w hSw; (try dsimp only at hSw); go_simp; try with_reducible rfl
          try simp only [Act.put, List.setIfInBounds_toArray, List.set_cons_zero, List.set_cons_succ]
          refine tySpecX 17 (v := ?_) ?_ ?_
          rotate_left
          · intro w hSw; (try dsimp only at hSw); go_simp; try with_reducible rfl
          try simp only [Act.put, List.setIfInBounds_toArray, List.set_cons_zero, List.set_cons_succ]
          refine wpAnyH_done (by kernel_rfl) ?_ _
          go_wp2_with fail
          go_wp2
          go_roundw
          case rel => exact ⟨k + 1, by omega, by go_num, Lib.hid (lt_more hP.out HPT.out), Lib.hid (hE.out.tr rE2.out)⟩
          case measure => simp [intOf]; omega
        · have HPF := Lib.hid (HF.out k hlt (by unfold Sg.placeOk; rw [HX.out, Hc.out]; have := fun h => hp0 (HPN.out.2 h); simpa using this))
          have hp1 : (0 : Int) ≤ p := by omega
          clear hp0
          go_upto_region 6 with fail
          go_wp2_with fail
          refine wp_region_held_drew (S := (fun W => W.cell? ⟨w.heap.size, 0, none⟩ = some (.slice A g.length c) ∧ W.cell? ⟨b, o + k, none⟩ = some (.int .i64 x))) (by kernel_rfl) ?_ (fun hHeld => ?_)
          · exact ⟨((Ext.rfl' _).dr).cellE (rE0.out.cellE q1), ((Ext.rfl' _).dr).cellE (rE0.out.cellE hcx)⟩
          refine tySpecX 0 (v := ?_) ?_ ?_
          rotate_left
          · intro w hSw; (try dsimp only at hSw); go_simp; try with_reducible rfl
          try simp only [Act.put, List.setIfInBounds_toArray, List.set_cons_zero, List.set_cons_succ]
          refine tySpecX 1 (v := ?_) ?_ ?_
          rotate_left
          · intro w hSw; (try dsimp only at hSw); go_simp; try with_reducible rfl
          try simp only [Act.put, List.setIfInBounds_toArray, List.set_cons_zero, List.set_cons_succ]
          refine tySpecX 2 (v := ?_) ?_ ?_
          rotate_left
          · intro w hSw; (try dsimp only at hSw); go_simp; try with_reducible rfl
          try simp only [Act.put, List.setIfInBounds_toArray, List.set_cons_zero, List.set_cons_succ]
          refine tySpecX 3 (v := ?_) ?_ ?_
          rotate_left
          · intro w hSw; (try dsimp only at hSw); go_simp; try with_reducible rfl
          try simp only [Act.put, List.setIfInBounds_toArray, List.set_cons_zero, List.set_cons_succ]
          refine tySpecX 4 (v := ?_) ?_ ?_
          rotate_left
          · intro w hSw; (try dsimp only at hSw); go_simp; try with_reducible rfl
          try simp only [Act.put, List.setIfInBounds_toArray, List.set_cons_zero, List.set_cons_succ]
          refine wpAnyH_ready (rs := [5]) (by kernel_rfl) (by simp) ?_
          refine AllReadyH.cons rfl (fun K hK => ?_) AllReadyH.nil
          go_simp
          refine (HC.out x _ (HG.out.ext (rE0.out.dr))).mono ?_
          rintro e rw1 ⟨rfl, rhe1⟩
          rw [Hc.out]
          have rU1 := Lib.hid (((Ext.rfl' wr).dr).tr rhe1)
          have rE1 := Lib.hid (rE0.out.tr rU1.out)
          have lg_r1 := rU1.out.cellE (rE0.out.cellE q1)
          have lx_r1 := rU1.out.cellE (rE0.out.cellE hcx)
          clear rhe1 
          have blg_r1 := blt lg_r1
          have blx_r1 := blt lx_r1
          try go_wp2_with fail
          refine hK.out _ _ ?_ (fun hHeld2 => ?_)
          · exact ⟨lg_r1, lx_r1⟩
          clear hK K hHeld
          have hHeld := hHeld2
          clear hHeld2
          try simp only [Act.put, List.setIfInBounds_toArray, List.set_cons_zero, List.set_cons_succ]
          refine tySpecX 6 (v := ?_) ?_ ?_
          rotate_left
          · intro w hSw; (try dsimp only at hSw); go_simp; try with_reducible rfl
          try simp only [Act.put, List.setIfInBounds_toArray, List.set_cons_zero, List.set_cons_succ]
          refine tySpecX 7 (v := ?_) ?_ ?_
          rotate_left
          · intro w hSw; (try dsimp only at hSw); go_simp; try with_reducible rfl
          try simp only [Act.put, List.setIfInBounds_toArray, List.set_cons_zero, List.set_cons_succ]
          refine tySpecX 8 (v := ?_) ?_ ?_
          rotate_left
          · intro w hSw; (try dsimp only at hSw); go_simp; try with_reducible rfl
          try simp only [Act.put, List.setIfInBounds_toArray, List.set_cons_zero, List.set_cons_succ]
          refine tySpecX 9 (v := ?_) ?_ ?_
          rotate_left
          · intro w hSw; (try dsimp only at hSw); go_simp; try with_reducible rfl
          try simp only [Act.put, List.setIfInBounds_toArray, List.set_cons_zero, List.set_cons_succ]
          refine tySpecX 10 (v := ?_) ?_ ?_
          rotate_left
          · intro w hSw; (try dsimp only at hSw); go_simp; try with_reducible rfl
          try simp only [Act.put, List.setIfInBounds_toArray, List.set_cons_zero, List.set_cons_succ]
          refine tySpecX 11 (v := ?_) ?_ ?_
          rotate_left
          · intro w hSw; (try dsimp only at hSw); go_simp; try with_reducible rfl
          try simp only [Act.put, List.setIfInBounds_toArray, List.set_cons_zero, List.set_cons_succ]
          refine tySpecX 12 (v := ?_) ?_ ?_
          rotate_left
          · intro w hSw; (try dsimp only at hSw); go_simp; try with_reducible rfl
          try simp only [Act.put, List.setIfInBounds_toArray, List.set_cons_zero, List.set_cons_succ]
          refine tySpecX 13 (v := ?_) ?_ ?_
          rotate_left
          · intro w hSw; (try dsimp only at hSw); go_simp; try with_reducible rfl
          try simp only [Act.put, List.setIfInBounds_toArray, List.set_cons_zero, List.set_cons_succ]
          refine tySpecX 14 (v := ?_) ?_ ?_
          rotate_left
          · intro w hSw; (try dsimp only at hSw); go_simp; try with_reducible rfl
          try simp only [Act.put, List.setIfInBounds_toArray, List.set_cons_zero, List.set_cons_succ]
          refine wpAnyH_ready (rs := [15]) (by kernel_rfl) (by simp) ?_
          refine AllReadyH.cons rfl (fun K hK => ?_) AllReadyH.nil
          go_simp
          refine (HCT.out _ (RF.out.ext rE1.out)).mono ?_
          rintro e rw2 ⟨rfl, rhe2⟩
          have rU2 := Lib.hid ((Ext.rfl' rw1).tr rhe2)
          have rE2 := Lib.hid (rE1.out.tr rU2.out)
          have lg_r2 := rU2.out.cellE lg_r1
          have lx_r2 := rU2.out.cellE lx_r1
          clear rhe2 lg_r1 lx_r1 blg_r1 blx_r1
          have blg_r2 := blt lg_r2
          have blx_r2 := blt lx_r2
          try go_wp2_with fail
          refine hK.out _ _ ?_ (fun hHeld2 => ?_)
          · exact ⟨lg_r2, lx_r2⟩
          clear hK K hHeld
          have hHeld := hHeld2
          clear hHeld2
          try simp only [Act.put, List.setIfInBounds_toArray, List.set_cons_zero, List.set_cons_succ]
          refine tySpecX 16 (v := ?_) ?_ ?_
          rotate_left
          · intro w hSw; (try dsimp only at hSw); go_simp; try with_reducible rfl
          try simp only [Act.put, List.setIfInBounds_toArray, List.set_cons_zero, List.set_cons_succ]
          refine tySpecX 17 (v := ?_) ?_ ?_
          rotate_left
          · intro w hSw; (try dsimp only at hSw); go_simp; try with_reducible rfl
          try simp only [Act.put, List.setIfInBounds_toArray, List.set_cons_zero, List.set_cons_succ]
          refine wpAnyH_done (by kernel_rfl) ?_ _
          go_wp2_with fail
          go_wp2
          go_ret
          exact ⟨ret_bool HPF.out.symm, EE.out.tr rE2.out⟩
    · obtain rfl : k = l.length := by omega
      have HAT := Lib.hid (HT.out hP.out)
      go_wp2
      go_ret
      exact ⟨ret_bool HAT.out.symm, E0.out.tr hE.out⟩
end Go.Proofs.YtmelggoagbhieaaGreat
