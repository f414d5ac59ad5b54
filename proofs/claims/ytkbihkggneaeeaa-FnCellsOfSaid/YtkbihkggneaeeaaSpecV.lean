/- The reference's common, ChangedBy and WhyChanged: contracts. Conditions: bounds on lengths. -/
import Derived.Test.YtkbihkggneaeeaaSpecQ
import Derived.Test.YtkbihkggneaeeaaSpecP
import Derived.Test.YtkbihkggneaeeaaModelY
namespace Go.Proofs.Ytkbihkggneaeeaa
open Go.RowKit

def CMN (a b : List Int) (k : Nat) : List Int := Sg.common (a.take k) b
theorem CMN_succ (a b : List Int) (k : Nat) {x : Int} (h : a[k]? = some x) : CMN a b (k + 1) = if x ∈ b then CMN a b k ++ [x] else CMN a b k := by
  unfold CMN Sg.common
  rw [take_snoc a k h, List.filter_append]
  by_cases hx : x ∈ b
  · rw [if_pos hx]; simp [hx]
  · rw [if_neg hx]; simp [hx]
theorem CMN_len (a b : List Int) (k : Nat) : (CMN a b k).length ≤ k := by
  unfold CMN Sg.common
  have h1 := List.length_filter_le (fun x => decide (x ∈ b)) (a.take k)
  have h2 : (a.take k).length ≤ k := by simp; omega
  omega

set_option maxHeartbeats 1000000 in
theorem s_common (A B : Option Addr) (ca cb nb : Nat) (a b : List Int) (w : World) (h : Rd w 1 A a.length (ints a)) (k : Rd w 1 B nb (ints b)) (hb : a.length ≤ 4194304) :
    Calls Try.prog 71 #[.slice A a.length ca, .slice B nb cb] w fun e w' => ∃ A' c', e = .returned (.slice A' (Sg.common a b).length c') ∧ Own w' w.heap.size 3 1 A' (Sg.common a b).length c' (ints (Sg.common a b)) ∧ Ext w w' := by
  have HN := Lib.hid (fun n => placeIn_neg b n)
  go_enter Try.func71, Try.ntmps71
  go_wp2
  go_loopw [5, 6] (fun v i wr => ∃ (n : Nat) (A' : Option Addr) (c' : Nat), n ≤ a.length ∧ i = .int .i64 n ∧ v = .slice A' (CMN a b n).length c' ∧ Own wr w.heap.size 3 1 A' (CMN a b n).length c' (ints (CMN a b n)) ∧ Ext w wr) (fun _ i _ => a.length - (intOf i).toNat)
  case atStart => exact ⟨0, _, _, Nat.zero_le _, rfl, rfl, Own.new w 3 1 #[] 0 (Nat.le_refl _) (by unfold maxLen; omega) rfl, (Ext.rfl' w).al _⟩
  case round =>
    obtain ⟨n, A', c', hn, rfl, rfl, hown, hext⟩ := hrel
    have hdl := CMN_len a b n
    by_cases hlt : n < a.length
    · obtain ⟨ba, oa, x, rfl, hx, hcx⟩ := (h.ext hext).at1 hlt
      have H := Lib.hid (CMN_succ a b n hx)
      have HP := Lib.hid (s_placeIn B nb cb b x wr (k.ext hext))
      clear hx
      by_cases hxy : x ∈ b
      · have e1 := H.out
        rw [if_pos hxy] at e1
        have E1 := Lib.hid e1
        have hp : decide (0 ≤ placeIn b x) = true := by have := (HN.out x).1; rw [decide_eq_true_eq]; exact Int.not_lt.1 (fun h0 => this h0 hxy)
        clear e1 H hxy
        go_wp2_with (first
          | (go_at_call 70; refine HP.out.mono ?_; rintro e w' ⟨rfl, rfl⟩)
          | (at_builtin; refine wpList_app1 rfl rfl eiInt rfl hown rfl rfl (one_int _ _) (by omega) (by omega) hext.size ?_; intro A2 c2 w2 hown2 hg2 hat2))
        go_roundw
        case rel => exact ⟨n + 1, A2, c2, by omega, by go_num, by rw [E1.out]; simp, by rw [E1.out]; simpa using hown2, hext.gr hg2 fun g hg => (hown.lt hg).1⟩
        case measure => simp [intOf]; omega
      · have e1 := H.out
        rw [if_neg hxy] at e1
        have E1 := Lib.hid e1
        have hp : decide (0 ≤ placeIn b x) = false := by have := (HN.out x).2 hxy; simp only [decide_eq_false_iff_not]; omega
        clear e1 H hxy
        go_wp2_with (go_at_call 70; refine HP.out.mono ?_; rintro e w' ⟨rfl, rfl⟩)
        go_roundw
        case rel => exact ⟨n + 1, A', c', by omega, by go_num, by rw [E1.out], by rw [E1.out]; exact hown, hext⟩
        case measure => simp [intOf]; omega
    · obtain rfl : n = a.length := by omega
      have e1 : CMN a b a.length = Sg.common a b := by unfold CMN; rw [List.take_length]
      rw [e1] at hown ⊢
      go_wp2
      go_ret
      exact ⟨A', c', rfl, hown, hext⟩
theorem common_len (a b : List Int) : (Sg.common a b).length ≤ a.length := List.length_filter_le _ _

def changedOr (g : Sg.Graph) (a b : List Int) : List Int := if (Sg.validG g && Sg.validC g a && Sg.validC g b) = true then Sg.diffL (Sg.mean g a) (Sg.mean g b) else []
theorem changedOr_len (g : Sg.Graph) (a b : List Int) : (changedOr g a b).length ≤ 10 := by
  unfold changedOr
  split
  · rename_i h
    simp only [Bool.and_eq_true] at h
    have h1 : g.length ≤ 10 := by have := h.1.1; unfold Sg.validG at this; simp only [Bool.and_eq_true, decide_eq_true_eq] at this; exact this.2
    have h2 := Sg.whichL_len (fun i => (Sg.mean g a).getD i 0 != (Sg.mean g b).getD i 0) (Sg.mean g a).length
    simp only [Sg.length_mean] at h2
    unfold Sg.diffL
    simp only [Sg.length_mean]
    omega
  · simp
theorem whyOr_len (g : Sg.Graph) (a b : List Int) (n : Int) : (Sg.whyOr g a b n).length ≤ 1048576 := by
  unfold Sg.whyOr
  split
  · rename_i h
    simp only [Bool.and_eq_true] at h
    have h1 : g.length ≤ 10 := by have := h.1.1.1; unfold Sg.validG at this; simp only [Bool.and_eq_true, decide_eq_true_eq] at this; exact this.2
    have hn := h.2
    simp only [Sg.inR, Bool.and_eq_true, decide_eq_true_eq] at hn
    split
    · have := Sg.whyGo_len (g := g) (Sg.mean g a) (Sg.diffL (Sg.mean g a) (Sg.mean g b)) (n.toNat + 1) n []
      simp only [List.length_nil] at this
      omega
    · simp
  · simp

set_option maxHeartbeats 2000000 in
theorem s_ChangedBy (A Aa Ab : Option Addr) (c ca cb : Nat) (g : Sg.Graph) (a b : List Int) (w : World) (h : RdN w A g) (ha : Rd w 1 Aa a.length (ints a)) (hb : Rd w 1 Ab b.length (ints b)) :
    Calls Try.prog 54 #[.agg #[.slice A g.length c], .slice Aa a.length ca, .slice Ab b.length cb] w fun e w' => ∃ A1 c1, e = .returned (.slice A1 (changedOr g a b).length c1) ∧ Own w' w.heap.size 3 1 A1 (changedOr g a b).length c1 (ints (changedOr g a b)) ∧ Ext w w' := by
  have hgl := h.1
  have HVG := Lib.hid (s_validGraph A c g)
  have HVA := Lib.hid (s_validCells A Aa c ca g a)
  have HVB := Lib.hid (s_validCells A Ab c cb g b)
  have H := Lib.hid h
  have Ha := Lib.hid ha
  have Hb := Lib.hid hb
  clear h ha hb
  have E0 := Lib.hid (((Ext.rfl' w).al (.cells #[.slice A g.length c] 25)) : Ext w (World.alloc w (.cells #[.slice A g.length c] 25)))
  have qlg : World.cell? (World.alloc w (.cells #[.slice A g.length c] 25)) ⟨w.heap.size, 0, none⟩ = some (.slice A g.length c) := by simp [go_sem]
  have Qlg := Lib.hid qlg
  clear qlg
  cases hG : Sg.validG g
  · have HG := Lib.hid hG
    have HS := Lib.hid (show changedOr g a b = [] by unfold changedOr; simp [HG.out])
    clear hG
    go_enter Try.func54, Try.ntmps54
    go_wp2_with fail
    refine (HVG.out _ (H.out.ext E0.out)).mono ?_
    rintro e w1 ⟨rfl, he1⟩
    rw [HG.out]
    have U1 := Lib.hid ((Ext.rfl' (World.alloc w (.cells #[.slice A g.length c] 25))).tr he1)
    have E1 := Lib.hid (E0.out.tr U1.out)
    have lg_1 := U1.out.cellE Qlg.out
    clear he1 
    have blg_1 := blt lg_1
    go_wp2
    go_ret
    rw [HS.out]
    exact ⟨none, 0, rfl, Own.nil _ _ _ _, E1.out⟩
  have HG := Lib.hid hG
  clear hG
  cases hA : Sg.validC g a
  · have HA := Lib.hid hA
    have HS := Lib.hid (show changedOr g a b = [] by unfold changedOr; simp [HG.out, HA.out])
    clear hA
    go_enter Try.func54, Try.ntmps54
    go_wp2_with fail
    refine (HVG.out _ (H.out.ext E0.out)).mono ?_
    rintro e w1 ⟨rfl, he1⟩
    rw [HG.out]
    have U1 := Lib.hid ((Ext.rfl' (World.alloc w (.cells #[.slice A g.length c] 25))).tr he1)
    have E1 := Lib.hid (E0.out.tr U1.out)
    have lg_1 := U1.out.cellE Qlg.out
    clear he1 
    have blg_1 := blt lg_1
    go_wp2_with fail
    refine (HVA.out _ (H.out.ext E1.out) (Ha.out.ext E1.out)).mono ?_
    rintro e w2 ⟨rfl, he2⟩
    rw [HA.out]
    have U2 := Lib.hid ((Ext.rfl' w1).tr he2)
    have E2 := Lib.hid (E1.out.tr U2.out)
    have lg_2 := U2.out.cellE lg_1
    clear he2 lg_1 blg_1
    have blg_2 := blt lg_2
    go_wp2
    go_ret
    rw [HS.out]
    exact ⟨none, 0, rfl, Own.nil _ _ _ _, E2.out⟩
  have HA := Lib.hid hA
  clear hA
  cases hB : Sg.validC g b
  · have HB := Lib.hid hB
    have HS := Lib.hid (show changedOr g a b = [] by unfold changedOr; simp [HG.out, HA.out, HB.out])
    clear hB
    go_enter Try.func54, Try.ntmps54
    go_wp2_with fail
    refine (HVG.out _ (H.out.ext E0.out)).mono ?_
    rintro e w1 ⟨rfl, he1⟩
    rw [HG.out]
    have U1 := Lib.hid ((Ext.rfl' (World.alloc w (.cells #[.slice A g.length c] 25))).tr he1)
    have E1 := Lib.hid (E0.out.tr U1.out)
    have lg_1 := U1.out.cellE Qlg.out
    clear he1 
    have blg_1 := blt lg_1
    go_wp2_with fail
    refine (HVA.out _ (H.out.ext E1.out) (Ha.out.ext E1.out)).mono ?_
    rintro e w2 ⟨rfl, he2⟩
    rw [HA.out]
    have U2 := Lib.hid ((Ext.rfl' w1).tr he2)
    have E2 := Lib.hid (E1.out.tr U2.out)
    have lg_2 := U2.out.cellE lg_1
    clear he2 lg_1 blg_1
    have blg_2 := blt lg_2
    go_wp2_with fail
    refine (HVB.out _ (H.out.ext E2.out) (Hb.out.ext E2.out)).mono ?_
    rintro e w3 ⟨rfl, he3⟩
    rw [HB.out]
    have U3 := Lib.hid ((Ext.rfl' w2).tr he3)
    have E3 := Lib.hid (E2.out.tr U3.out)
    have lg_3 := U3.out.cellE lg_2
    clear he3 lg_2 blg_2
    have blg_3 := blt lg_3
    go_wp2
    go_ret
    rw [HS.out]
    exact ⟨none, 0, rfl, Own.nil _ _ _ _, E3.out⟩
  have HB := Lib.hid hB
  clear hB
  have hg10 : g.length ≤ 10 := by have := HG.out; unfold Sg.validG at this; simp only [Bool.and_eq_true, decide_eq_true_eq] at this; exact this.2
  have HMA := Lib.hid (fun w h hc => s_meaning A Aa c ca g a w h hc HG.out HA.out)
  have HMB := Lib.hid (fun w h hc => s_meaning A Ab c cb g b w h hc HG.out HB.out)
  have HDF := Lib.hid (fun (B1 B2 : Option Addr) (c1 c2 : Nat) (w : World) (h : Rd w 1 B1 g.length (ints (Sg.mean g a))) (kk : Rd w 1 B2 g.length (ints (Sg.mean g b))) => (show Calls Try.prog 69 #[.slice B1 g.length c1, .slice B2 g.length c2] w fun e w' => ∃ A' c', e = .returned (.slice A' (Sg.diffL (Sg.mean g a) (Sg.mean g b)).length c') ∧ Own w' w.heap.size 3 1 A' (Sg.diffL (Sg.mean g a) (Sg.mean g b)).length c' (ints (Sg.diffL (Sg.mean g a) (Sg.mean g b))) ∧ Ext w w' from by
    have := s_differing B1 B2 c1 c2 g.length (Sg.mean g a) (Sg.mean g b) w (by rw [Sg.length_mean]; exact h) kk (by rw [Sg.length_mean]; exact Nat.le_refl _) (by rw [Sg.length_mean]; omega)
    rw [Sg.length_mean] at this
    have e1 : DF (Sg.mean g a) (Sg.mean g b) g.length = Sg.diffL (Sg.mean g a) (Sg.mean g b) := by unfold Sg.diffL; rw [Sg.length_mean]; rfl
    rw [e1] at this
    exact this))
  have HS := Lib.hid (show changedOr g a b = Sg.diffL (Sg.mean g a) (Sg.mean g b) by unfold changedOr; simp [HG.out, HA.out, HB.out])
  clear hg10
  go_enter Try.func54, Try.ntmps54
  go_wp2_with fail
  refine (HVG.out _ (H.out.ext E0.out)).mono ?_
  rintro e w1 ⟨rfl, he1⟩
  rw [HG.out]
  have U1 := Lib.hid ((Ext.rfl' (World.alloc w (.cells #[.slice A g.length c] 25))).tr he1)
  have E1 := Lib.hid (E0.out.tr U1.out)
  have lg_1 := U1.out.cellE Qlg.out
  clear he1 
  have blg_1 := blt lg_1
  go_wp2_with fail
  refine (HVA.out _ (H.out.ext E1.out) (Ha.out.ext E1.out)).mono ?_
  rintro e w2 ⟨rfl, he2⟩
  rw [HA.out]
  have U2 := Lib.hid ((Ext.rfl' w1).tr he2)
  have E2 := Lib.hid (E1.out.tr U2.out)
  have lg_2 := U2.out.cellE lg_1
  clear he2 lg_1 blg_1
  have blg_2 := blt lg_2
  go_wp2_with fail
  refine (HVB.out _ (H.out.ext E2.out) (Hb.out.ext E2.out)).mono ?_
  rintro e w3 ⟨rfl, he3⟩
  rw [HB.out]
  have U3 := Lib.hid ((Ext.rfl' w2).tr he3)
  have E3 := Lib.hid (E2.out.tr U3.out)
  have lg_3 := U3.out.cellE lg_2
  clear he3 lg_2 blg_2
  have blg_3 := blt lg_3
  go_wp2_with fail
  refine wp_region_held_drew (S := (fun W => W.cell? ⟨w.heap.size, 0, none⟩ = some (.slice A g.length c))) (by kernel_rfl) ?_ (fun hHeld => ?_)
  · exact ((Ext.rfl' _).dr).cellE lg_3
  refine wpAnyH_take (i := 0) (v := ?_) (by simp only [List.getElem?_toArray, List.getElem?_cons_zero]; rfl) (by kernel_rfl) (by kernel_rfl) (by kernel_rfl) (by exact fun _ _ _ h => h) (Or.inl ⟨by kernel_rfl, ?_⟩) (by assumption) ?_
  rotate_left
  · intro w hSw; (try dsimp only at hSw); go_simp; try with_reducible rfl
  try simp only [Act.put, List.setIfInBounds_toArray, List.set_cons_zero, List.set_cons_succ]
  refine wpAnyH_take (i := 1) (v := ?_) (by simp only [List.getElem?_toArray, List.getElem?_cons_succ, List.getElem?_cons_zero]; rfl) (by kernel_rfl) (by kernel_rfl) (by kernel_rfl) (by exact fun _ _ _ h => h) (Or.inl ⟨by kernel_rfl, ?_⟩) (by assumption) ?_
  rotate_left
  · intro w hSw; (try dsimp only at hSw); go_simp; try with_reducible rfl
  try simp only [Act.put, List.setIfInBounds_toArray, List.set_cons_zero, List.set_cons_succ]
  refine wpAnyH_take (i := 3) (v := ?_) (by simp only [List.getElem?_toArray, List.getElem?_cons_succ, List.getElem?_cons_zero]; rfl) (by kernel_rfl) (by kernel_rfl) (by kernel_rfl) (by exact fun _ _ _ h => h) (Or.inl ⟨by kernel_rfl, ?_⟩) (by assumption) ?_
  rotate_left
  · intro w hSw; (try dsimp only at hSw); go_simp; try with_reducible rfl
  try simp only [Act.put, List.setIfInBounds_toArray, List.set_cons_zero, List.set_cons_succ]
  refine wpAnyH_take (i := 4) (v := ?_) (by simp only [List.getElem?_toArray, List.getElem?_cons_succ, List.getElem?_cons_zero]; rfl) (by kernel_rfl) (by kernel_rfl) (by kernel_rfl) (by exact fun _ _ _ h => h) (Or.inl ⟨by kernel_rfl, ?_⟩) (by assumption) ?_
  rotate_left
  · intro w hSw; (try dsimp only at hSw); go_simp; try with_reducible rfl
  try simp only [Act.put, List.setIfInBounds_toArray, List.set_cons_zero, List.set_cons_succ]
  refine wpAnyH_ready (rs := [2]) (by kernel_rfl) (by simp) ?_
  refine AllReadyH.cons rfl (fun K hK => ?_) AllReadyH.nil
  go_simp
  refine (HMA.out _ (H.out.ext (E3.out.dr)) (Ha.out.ext (E3.out.dr))).mono ?_
  rintro e w4 ⟨A1, c1, rfl, ho, he4⟩
  have Ho1 := Lib.hid ho.rd
  clear ho
  have U4 := Lib.hid (((Ext.rfl' w3).dr).tr he4)
  have E4 := Lib.hid (E3.out.tr U4.out)
  have lg_4 := U4.out.cellE lg_3
  clear he4 lg_3 blg_3
  have blg_4 := blt lg_4
  try go_wp2_with fail
  refine hK.out _ _ ?_ (fun hHeld2 => ?_)
  · exact lg_4
  clear hK K hHeld
  have hHeld := hHeld2
  clear hHeld2
  try simp only [Act.put, List.setIfInBounds_toArray, List.set_cons_zero, List.set_cons_succ]
  refine wpAnyH_ready (rs := [5]) (by kernel_rfl) (by simp) ?_
  refine AllReadyH.cons rfl (fun K hK => ?_) AllReadyH.nil
  go_simp
  refine (HMB.out _ (H.out.ext E4.out) (Hb.out.ext E4.out)).mono ?_
  rintro e w5 ⟨A2, c2, rfl, ho, he5⟩
  have Ho2 := Lib.hid ho.rd
  clear ho
  have U5 := Lib.hid ((Ext.rfl' w4).tr he5)
  have E5 := Lib.hid (E4.out.tr U5.out)
  have lg_5 := U5.out.cellE lg_4
  clear he5 lg_4 blg_4
  have blg_5 := blt lg_5
  try go_wp2_with fail
  refine hK.out _ _ ?_ (fun hHeld2 => ?_)
  · exact lg_5
  clear hK K hHeld
  have hHeld := hHeld2
  clear hHeld2
  try simp only [Act.put, List.setIfInBounds_toArray, List.set_cons_zero, List.set_cons_succ]
  refine wpAnyH_ready (rs := [6]) (by kernel_rfl) (by simp) ?_
  refine AllReadyH.cons rfl (fun K hK => ?_) AllReadyH.nil
  go_simp
  refine (HDF.out A1 A2 c1 c2 _ (Ho1.out.ext ((Ext.rfl' w4).tr U5.out)) Ho2.out).mono ?_
  rintro e w6 ⟨A3, c3, rfl, ho, he6⟩
  have Ho3 := Lib.hid ho
  clear ho
  have U6 := Lib.hid ((Ext.rfl' w5).tr he6)
  have E6 := Lib.hid (E5.out.tr U6.out)
  have lg_6 := U6.out.cellE lg_5
  clear he6 lg_5 blg_5
  have blg_6 := blt lg_6
  try go_wp2_with fail
  refine hK.out _ _ ?_ (fun hHeld2 => ?_)
  · exact lg_6
  clear hK K hHeld
  have hHeld := hHeld2
  clear hHeld2
  try simp only [Act.put, List.setIfInBounds_toArray, List.set_cons_zero, List.set_cons_succ]
  refine wpAnyH_take (i := 7) (v := ?_) (by simp only [List.getElem?_toArray, List.getElem?_cons_succ, List.getElem?_cons_zero]; rfl) (by kernel_rfl) (by kernel_rfl) (by kernel_rfl) (by exact fun _ _ _ h => h) (Or.inl ⟨by kernel_rfl, ?_⟩) (by assumption) ?_
  rotate_left
  · intro w hSw; (try dsimp only at hSw); go_simp; try with_reducible rfl
  try simp only [Act.put, List.setIfInBounds_toArray, List.set_cons_zero, List.set_cons_succ]
  refine wpAnyH_done (by kernel_rfl) ?_ _
  have z1 := E5.out.size
  go_wp2
  go_ret
  rw [HS.out]
  exact ⟨A3, c3, rfl, Ho3.out.mono z1, E6.out⟩

set_option maxRecDepth 100000 in
set_option maxHeartbeats 4000000 in
theorem s_WhyChanged (A Aa Ab : Option Addr) (c ca cb : Nat) (g : Sg.Graph) (a b : List Int) (n : Int) (w : World) (h : RdN w A g) (ha : Rd w 1 Aa a.length (ints a)) (hb : Rd w 1 Ab b.length (ints b)) (hn0 : -9223372036854775808 ≤ n) (hn1 : n ≤ 9223372036854775807) :
    Calls Try.prog 30 #[.agg #[.slice A g.length c], .slice Aa a.length ca, .slice Ab b.length cb, .int .i64 n] w fun e w' => ∃ A1 c1, e = .returned (.slice A1 (Sg.whyOr g a b n).length c1) ∧ Own w' w.heap.size 3 1 A1 (Sg.whyOr g a b n).length c1 (ints (Sg.whyOr g a b n)) ∧ Ext w w' := by
  have hgl := h.1
  have HVG := Lib.hid (s_validGraph A c g)
  have HVA := Lib.hid (s_validCells A Aa c ca g a)
  have HVB := Lib.hid (s_validCells A Ab c cb g b)
  have H := Lib.hid h
  have Ha := Lib.hid ha
  have Hb := Lib.hid hb
  clear h ha hb
  have E0 := Lib.hid (((Ext.rfl' w).al (.cells #[.slice A g.length c] 25)) : Ext w (World.alloc w (.cells #[.slice A g.length c] 25)))
  have qlg : World.cell? (World.alloc w (.cells #[.slice A g.length c] 25)) ⟨w.heap.size, 0, none⟩ = some (.slice A g.length c) := by simp [go_sem]
  have Qlg := Lib.hid qlg
  clear qlg
  cases hG : Sg.validG g
  · have HG := Lib.hid hG
    have HS := Lib.hid (show Sg.whyOr g a b n = [] by unfold Sg.whyOr; simp [HG.out])
    clear hG
    go_enter Try.func30, Try.ntmps30
    go_wp2_with fail
    refine (HVG.out _ (H.out.ext E0.out)).mono ?_
    rintro e w1 ⟨rfl, he1⟩
    rw [HG.out]
    have U1 := Lib.hid ((Ext.rfl' (World.alloc w (.cells #[.slice A g.length c] 25))).tr he1)
    have E1 := Lib.hid (E0.out.tr U1.out)
    have lg_1 := U1.out.cellE Qlg.out
    clear he1 
    have blg_1 := blt lg_1
    go_wp2
    go_ret
    rw [HS.out]
    exact ⟨none, 0, rfl, Own.nil _ _ _ _, E1.out⟩
  have HG := Lib.hid hG
  clear hG
  cases hA : Sg.validC g a
  · have HA := Lib.hid hA
    have HS := Lib.hid (show Sg.whyOr g a b n = [] by unfold Sg.whyOr; simp [HG.out, HA.out])
    clear hA
    go_enter Try.func30, Try.ntmps30
    go_wp2_with fail
    refine (HVG.out _ (H.out.ext E0.out)).mono ?_
    rintro e w1 ⟨rfl, he1⟩
    rw [HG.out]
    have U1 := Lib.hid ((Ext.rfl' (World.alloc w (.cells #[.slice A g.length c] 25))).tr he1)
    have E1 := Lib.hid (E0.out.tr U1.out)
    have lg_1 := U1.out.cellE Qlg.out
    clear he1 
    have blg_1 := blt lg_1
    go_wp2_with fail
    refine (HVA.out _ (H.out.ext E1.out) (Ha.out.ext E1.out)).mono ?_
    rintro e w2 ⟨rfl, he2⟩
    rw [HA.out]
    have U2 := Lib.hid ((Ext.rfl' w1).tr he2)
    have E2 := Lib.hid (E1.out.tr U2.out)
    have lg_2 := U2.out.cellE lg_1
    clear he2 lg_1 blg_1
    have blg_2 := blt lg_2
    go_wp2
    go_ret
    rw [HS.out]
    exact ⟨none, 0, rfl, Own.nil _ _ _ _, E2.out⟩
  have HA := Lib.hid hA
  clear hA
  cases hB : Sg.validC g b
  · have HB := Lib.hid hB
    have HS := Lib.hid (show Sg.whyOr g a b n = [] by unfold Sg.whyOr; simp [HG.out, HA.out, HB.out])
    clear hB
    go_enter Try.func30, Try.ntmps30
    go_wp2_with fail
    refine (HVG.out _ (H.out.ext E0.out)).mono ?_
    rintro e w1 ⟨rfl, he1⟩
    rw [HG.out]
    have U1 := Lib.hid ((Ext.rfl' (World.alloc w (.cells #[.slice A g.length c] 25))).tr he1)
    have E1 := Lib.hid (E0.out.tr U1.out)
    have lg_1 := U1.out.cellE Qlg.out
    clear he1 
    have blg_1 := blt lg_1
    go_wp2_with fail
    refine (HVA.out _ (H.out.ext E1.out) (Ha.out.ext E1.out)).mono ?_
    rintro e w2 ⟨rfl, he2⟩
    rw [HA.out]
    have U2 := Lib.hid ((Ext.rfl' w1).tr he2)
    have E2 := Lib.hid (E1.out.tr U2.out)
    have lg_2 := U2.out.cellE lg_1
    clear he2 lg_1 blg_1
    have blg_2 := blt lg_2
    go_wp2_with fail
    refine (HVB.out _ (H.out.ext E2.out) (Hb.out.ext E2.out)).mono ?_
    rintro e w3 ⟨rfl, he3⟩
    rw [HB.out]
    have U3 := Lib.hid ((Ext.rfl' w2).tr he3)
    have E3 := Lib.hid (E2.out.tr U3.out)
    have lg_3 := U3.out.cellE lg_2
    clear he3 lg_2 blg_2
    have blg_3 := blt lg_3
    go_wp2
    go_ret
    rw [HS.out]
    exact ⟨none, 0, rfl, Own.nil _ _ _ _, E3.out⟩
  have HB := Lib.hid hB
  clear hB
  cases hN : Sg.inR n 0 ((g.length : Int) - 1)
  · have HN := Lib.hid hN
    have HS := Lib.hid (show Sg.whyOr g a b n = [] by unfold Sg.whyOr; simp [HG.out, HA.out, HB.out, HN.out])
    clear hN
    go_enter Try.func30, Try.ntmps30
    go_wp2_with fail
    refine (HVG.out _ (H.out.ext E0.out)).mono ?_
    rintro e w1 ⟨rfl, he1⟩
    rw [HG.out]
    have U1 := Lib.hid ((Ext.rfl' (World.alloc w (.cells #[.slice A g.length c] 25))).tr he1)
    have E1 := Lib.hid (E0.out.tr U1.out)
    have lg_1 := U1.out.cellE Qlg.out
    clear he1 
    have blg_1 := blt lg_1
    go_wp2_with fail
    refine (HVA.out _ (H.out.ext E1.out) (Ha.out.ext E1.out)).mono ?_
    rintro e w2 ⟨rfl, he2⟩
    rw [HA.out]
    have U2 := Lib.hid ((Ext.rfl' w1).tr he2)
    have E2 := Lib.hid (E1.out.tr U2.out)
    have lg_2 := U2.out.cellE lg_1
    clear he2 lg_1 blg_1
    have blg_2 := blt lg_2
    go_wp2_with fail
    refine (HVB.out _ (H.out.ext E2.out) (Hb.out.ext E2.out)).mono ?_
    rintro e w3 ⟨rfl, he3⟩
    rw [HB.out]
    have U3 := Lib.hid ((Ext.rfl' w2).tr he3)
    have E3 := Lib.hid (E2.out.tr U3.out)
    have lg_3 := U3.out.cellE lg_2
    clear he3 lg_2 blg_2
    have blg_3 := blt lg_3
    go_wp2_with fail
    refine (s_inRange _ _ _ _).mono ?_
    rintro e w' ⟨rfl, rfl⟩
    rw [HN.out]
    go_wp2
    go_ret
    rw [HS.out]
    exact ⟨none, 0, rfl, Own.nil _ _ _ _, E3.out⟩
  have HN := Lib.hid hN
  clear hN
  have hg10 : g.length ≤ 10 := by have := HG.out; unfold Sg.validG at this; simp only [Bool.and_eq_true, decide_eq_true_eq] at this; exact this.2
  have HMA := Lib.hid (fun w h hc => s_meaning A Aa c ca g a w h hc HG.out HA.out)
  have HMB := Lib.hid (fun w h hc => s_meaning A Ab c cb g b w h hc HG.out HB.out)
  have HDF := Lib.hid (fun (B1 B2 : Option Addr) (c1 c2 : Nat) (w : World) (h : Rd w 1 B1 g.length (ints (Sg.mean g a))) (kk : Rd w 1 B2 g.length (ints (Sg.mean g b))) => (show Calls Try.prog 69 #[.slice B1 g.length c1, .slice B2 g.length c2] w fun e w' => ∃ A' c', e = .returned (.slice A' (Sg.diffL (Sg.mean g a) (Sg.mean g b)).length c') ∧ Own w' w.heap.size 3 1 A' (Sg.diffL (Sg.mean g a) (Sg.mean g b)).length c' (ints (Sg.diffL (Sg.mean g a) (Sg.mean g b))) ∧ Ext w w' from by
    have := s_differing B1 B2 c1 c2 g.length (Sg.mean g a) (Sg.mean g b) w (by rw [Sg.length_mean]; exact h) kk (by rw [Sg.length_mean]; exact Nat.le_refl _) (by rw [Sg.length_mean]; omega)
    rw [Sg.length_mean] at this
    have e1 : DF (Sg.mean g a) (Sg.mean g b) g.length = Sg.diffL (Sg.mean g a) (Sg.mean g b) := by unfold Sg.diffL; rw [Sg.length_mean]; rfl
    rw [e1] at this
    exact this))
  have hnr : 0 ≤ n ∧ n ≤ (g.length : Int) - 1 := by have := HN.out; simp only [Sg.inR, Bool.and_eq_true, decide_eq_true_eq] at this; exact this
  obtain ⟨n0, rfl⟩ := Int.eq_ofNat_of_zero_le hnr.1
  have hn9 : n0 < g.length := by omega
  clear hnr hn0 hn1
  have HPL := Lib.hid (placeIn_neg (Sg.diffL (Sg.mean g a) (Sg.mean g b)) (n0 : Int))
  by_cases hm : (n0 : Int) ∈ Sg.diffL (Sg.mean g a) (Sg.mean g b)
  case neg =>
    have HS := Lib.hid (show Sg.whyOr g a b n0 = [] by unfold Sg.whyOr; simp [HG.out, HA.out, HB.out, HN.out, hm])
    have hp : decide (placeIn (Sg.diffL (Sg.mean g a) (Sg.mean g b)) (n0 : Int) < 0) = true := by have := HPL.out.2 hm; simpa using this
    clear hm
    go_enter Try.func30, Try.ntmps30
    go_wp2_with fail
    refine (HVG.out _ (H.out.ext E0.out)).mono ?_
    rintro e w1 ⟨rfl, he1⟩
    rw [HG.out]
    have U1 := Lib.hid ((Ext.rfl' (World.alloc w (.cells #[.slice A g.length c] 25))).tr he1)
    have E1 := Lib.hid (E0.out.tr U1.out)
    have lg_1 := U1.out.cellE Qlg.out
    clear he1 
    have blg_1 := blt lg_1
    go_wp2_with fail
    refine (HVA.out _ (H.out.ext E1.out) (Ha.out.ext E1.out)).mono ?_
    rintro e w2 ⟨rfl, he2⟩
    rw [HA.out]
    have U2 := Lib.hid ((Ext.rfl' w1).tr he2)
    have E2 := Lib.hid (E1.out.tr U2.out)
    have lg_2 := U2.out.cellE lg_1
    clear he2 lg_1 blg_1
    have blg_2 := blt lg_2
    go_wp2_with fail
    refine (HVB.out _ (H.out.ext E2.out) (Hb.out.ext E2.out)).mono ?_
    rintro e w3 ⟨rfl, he3⟩
    rw [HB.out]
    have U3 := Lib.hid ((Ext.rfl' w2).tr he3)
    have E3 := Lib.hid (E2.out.tr U3.out)
    have lg_3 := U3.out.cellE lg_2
    clear he3 lg_2 blg_2
    have blg_3 := blt lg_3
    go_wp2_with fail
    refine (s_inRange _ _ _ _).mono ?_
    rintro e w' ⟨rfl, rfl⟩
    rw [HN.out]
    go_wp2_with fail
    refine (HMA.out _ (H.out.ext E3.out) (Ha.out.ext E3.out)).mono ?_
    rintro e w4 ⟨A1, c1, rfl, ho, he4⟩
    have Ho1 := Lib.hid ho.rd
    clear ho
    have U4 := Lib.hid ((Ext.rfl' w3).tr he4)
    have E4 := Lib.hid (E3.out.tr U4.out)
    have lg_4 := U4.out.cellE lg_3
    clear he4 lg_3 blg_3
    have blg_4 := blt lg_4
    go_wp2_with fail
    refine (HMB.out _ (H.out.ext E4.out) (Hb.out.ext E4.out)).mono ?_
    rintro e w5 ⟨A2, c2, rfl, ho, he5⟩
    have Ho2 := Lib.hid ho.rd
    clear ho
    have U5 := Lib.hid ((Ext.rfl' w4).tr he5)
    have E5 := Lib.hid (E4.out.tr U5.out)
    have lg_5 := U5.out.cellE lg_4
    clear he5 lg_4 blg_4
    have blg_5 := blt lg_5
    go_wp2_with fail
    refine (HDF.out A1 A2 c1 c2 _ (Ho1.out.ext ((Ext.rfl' w4).tr U5.out)) Ho2.out).mono ?_
    rintro e w6 ⟨A3, c3, rfl, ho, he6⟩
    have Ho3 := Lib.hid ho.rd
    clear ho
    have U6 := Lib.hid ((Ext.rfl' w5).tr he6)
    have E6 := Lib.hid (E5.out.tr U6.out)
    have lg_6 := U6.out.cellE lg_5
    clear he6 lg_5 blg_5
    have blg_6 := blt lg_6
    go_wp2_with fail
    refine (s_placeIn A3 _ c3 _ (n0 : Int) _ (Ho3.out.ext (Ext.al (Ext.rfl' w6) (.cells #[] 3)))).mono ?_
    rintro e w' ⟨rfl, rfl⟩
    go_wp2
    go_ret
    rw [HS.out]
    exact ⟨_, _, rfl, by have := Own.new w6 3 1 #[] 0 (Nat.le_refl _) (by unfold maxLen; omega) rfl; simpa [ints] using this.mono (B' := w.heap.size) E6.out.size, (Ext.al E6.out (.cells #[] 3))⟩
  have HS := Lib.hid (show Sg.whyOr g a b n0 = Sg.whyGo g (Sg.mean g a) (Sg.diffL (Sg.mean g a) (Sg.mean g b)) (n0 + 1) n0 [] by unfold Sg.whyOr; simp [HG.out, HA.out, HB.out, HN.out, hm])
  have hp : decide (placeIn (Sg.diffL (Sg.mean g a) (Sg.mean g b)) (n0 : Int) < 0) = false := by have := HPL.out.1; simp only [decide_eq_false_iff_not]; intro h0; exact this h0 hm
  have HM := Lib.hid hm
  have HST := Lib.hid (fun (i : Nat) (hi : (i : Int) ∈ Sg.diffL (Sg.mean g a) (Sg.mean g b)) (h0 : Sg.kindAt g (i : Int) ≠ 0) (out : List Int) => Sg.whyGo_step HG.out a b hi h0 out)
  have HNS := Lib.hid (fun (i : Nat) (hi : (i : Int) ∈ Sg.diffL (Sg.mean g a) (Sg.mean g b)) (h0 : Sg.kindAt g (i : Int) ≠ 0) => Sg.nxt_spec HG.out a b hi h0)
  have HNF := Lib.hid (fun (i : Nat) (hi : (i : Int) ∈ Sg.diffL (Sg.mean g a) (Sg.mean g b)) (h0 : Sg.kindAt g (i : Int) ≠ 0) => Sg.nxt_first HG.out a b hi h0)
  have HDL := Lib.hid (fun (i : Nat) (hi : (i : Int) ∈ Sg.diffL (Sg.mean g a) (Sg.mean g b)) => (show i < g.length by obtain ⟨j, hj, hl, _⟩ := Sg.mem_diffL.1 hi; rw [Sg.length_mean] at hl; omega))
  have HDE := Lib.hid (fun (B1 : Option Addr) (c1 i : Nat) (w : World) (h : RdN w A g) (hv : Rd w 1 B1 g.length (ints (Sg.mean g a))) (hi : i < g.length) => (show Calls Try.prog 72 #[.agg #[.slice A g.length c], .slice B1 g.length c1, .int .i64 i] w fun e w' => ∃ A' c', e = .returned (.slice A' (Sg.depAt g (Sg.mean g a) i).length c') ∧ Own w' w.heap.size 3 1 A' (Sg.depAt g (Sg.mean g a) i).length c' (ints (Sg.depAt g (Sg.mean g a) i)) ∧ Ext w w' from by
    have := s_deps A B1 c c1 g (Sg.mean g a) i w h (by rw [Sg.length_mean]; exact hv) HG.out hi (Sg.length_mean g a) (Sg.meanTo_range HG.out HA.out _ (Nat.le_refl _))
    rw [Sg.length_mean] at this
    exact this))
  have hdl : (Sg.diffL (Sg.mean g a) (Sg.mean g b)).length ≤ 10 := by have := changedOr_len g a b; unfold changedOr at this; simpa [HG.out, HA.out, HB.out] using this
  clear hm
  generalize Sg.diffL (Sg.mean g a) (Sg.mean g b) = ch at *
  generalize Sg.mean g a = X at *
  go_enter Try.func30, Try.ntmps30
  go_wp2_with fail
  refine (HVG.out _ (H.out.ext E0.out)).mono ?_
  rintro e w1 ⟨rfl, he1⟩
  rw [HG.out]
  have U1 := Lib.hid ((Ext.rfl' (World.alloc w (.cells #[.slice A g.length c] 25))).tr he1)
  have E1 := Lib.hid (E0.out.tr U1.out)
  have lg_1 := U1.out.cellE Qlg.out
  clear he1 
  have blg_1 := blt lg_1
  go_wp2_with fail
  refine (HVA.out _ (H.out.ext E1.out) (Ha.out.ext E1.out)).mono ?_
  rintro e w2 ⟨rfl, he2⟩
  rw [HA.out]
  have U2 := Lib.hid ((Ext.rfl' w1).tr he2)
  have E2 := Lib.hid (E1.out.tr U2.out)
  have lg_2 := U2.out.cellE lg_1
  clear he2 lg_1 blg_1
  have blg_2 := blt lg_2
  go_wp2_with fail
  refine (HVB.out _ (H.out.ext E2.out) (Hb.out.ext E2.out)).mono ?_
  rintro e w3 ⟨rfl, he3⟩
  rw [HB.out]
  have U3 := Lib.hid ((Ext.rfl' w2).tr he3)
  have E3 := Lib.hid (E2.out.tr U3.out)
  have lg_3 := U3.out.cellE lg_2
  clear he3 lg_2 blg_2
  have blg_3 := blt lg_3
  go_wp2_with fail
  refine (s_inRange _ _ _ _).mono ?_
  rintro e w' ⟨rfl, rfl⟩
  rw [HN.out]
  go_wp2_with fail
  refine (HMA.out _ (H.out.ext E3.out) (Ha.out.ext E3.out)).mono ?_
  rintro e w4 ⟨A1, c1, rfl, ho, he4⟩
  have Ho1 := Lib.hid ho.rd
  clear ho
  have U4 := Lib.hid ((Ext.rfl' w3).tr he4)
  have E4 := Lib.hid (E3.out.tr U4.out)
  have lg_4 := U4.out.cellE lg_3
  clear he4 lg_3 blg_3
  have blg_4 := blt lg_4
  go_wp2_with fail
  refine (HMB.out _ (H.out.ext E4.out) (Hb.out.ext E4.out)).mono ?_
  rintro e w5 ⟨A2, c2, rfl, ho, he5⟩
  have Ho2 := Lib.hid ho.rd
  clear ho
  have U5 := Lib.hid ((Ext.rfl' w4).tr he5)
  have E5 := Lib.hid (E4.out.tr U5.out)
  have lg_5 := U5.out.cellE lg_4
  clear he5 lg_4 blg_4
  have blg_5 := blt lg_5
  go_wp2_with fail
  refine (HDF.out A1 A2 c1 c2 _ (Ho1.out.ext ((Ext.rfl' w4).tr U5.out)) Ho2.out).mono ?_
  rintro e w6 ⟨A3, c3, rfl, ho, he6⟩
  have Ho3 := Lib.hid ho.rd
  clear ho
  have U6 := Lib.hid ((Ext.rfl' w5).tr he6)
  have E6 := Lib.hid (E5.out.tr U6.out)
  have lg_6 := U6.out.cellE lg_5
  clear he6 lg_5 blg_5
  have blg_6 := blt lg_6
  go_wp2_with fail
  refine (s_placeIn A3 _ c3 _ (n0 : Int) _ (Ho3.out.ext (Ext.al (Ext.rfl' w6) (.cells #[] 3)))).mono ?_
  rintro e w' ⟨rfl, rfl⟩
  go_wp2
  have O0 := Lib.hid (show Own (World.alloc w6 (.cells #[] 3)) (w.heap.size + 1) 3 1 (some ⟨w6.heap.size, 0, none⟩) ([] : List Int).length 0 (ints []) from by have := (Own.new w6 3 1 #[] 0 (Nat.le_refl _) (by unfold maxLen; omega) rfl).mono (B' := w.heap.size + 1) (by have := blt lg_6; omega); simpa [ints] using this)
  have EA := Lib.hid (show Ext w6 (World.alloc w6 (.cells #[] 3)) from (Ext.rfl' _).al _)
  have LG := Lib.hid lg_6
  clear lg_6 blg_6
  go_loopw [3, 11] (fun s3 s11 wr => ∃ (i : Nat) (out : List Int) (A' : Option Addr) (c' : Nat), s3 = .int .i64 i ∧ s11 = .slice A' out.length c' ∧ Hid (Own wr (w.heap.size + 1) 3 1 A' out.length c' (ints out)) ∧ Hid ((i : Int) ∈ ch) ∧ Hid (Sg.whyGo g X ch (i + 1) i out = Sg.whyGo g X ch (n0 + 1) n0 []) ∧ Hid (Ext w6 wr) ∧ out.length + i ≤ 20) (fun s3 _ _ => (intOf s3).toNat)
  case atStart => exact ⟨n0, [], _, _, rfl, rfl, O0.out |> Lib.hid, HM, Lib.hid rfl, EA, by simp; omega⟩
  case round =>
    obtain ⟨i, out, A', c', rfl, rfl, hO, hI, hW, hE, hL⟩ := hrel
    have hi := HDL.out i hI.out
    have k1 := hE.out.cellE LG.out
    have b1 := blt k1
    obtain ⟨⟨nk, nf⟩, bb, oo, Ap, cp, hng, hA, hkc, hsc, _, _⟩ := (H.out.ext (E6.out.tr hE.out)).at_ hi
    subst hA
    dsimp only at hkc
    have b2 := blt hkc
    have hkd : Sg.kindAt g (i : Int) = nk := by unfold Sg.kindAt; rw [Int.toNat_natCast]; simp [hng]
    have HK := Lib.hid hkd
    have hs1 := (E6.out.tr hE.out).size
    clear hng hsc hkd
    by_cases hz : nk = 0
    · have z1 : (nk != 0) = false := by simp [hz]
      have HF := Lib.hid (show Sg.whyGo g X ch (i + 1) i out = (i : Int) :: out from Sg.whyGo_end (by rw [HK.out]; exact hz) i out)
      have N1 := Lib.hid (Own.new wr (B := wr.heap.size) 3 1 #[.int .i64 (i : Int)] 1 (Nat.le_refl _) (by unfold maxLen; omega) rfl)
      clear hz
      go_wp2_with (at_builtin; refine wpList_appR rfl rfl eiInt rfl N1.out rfl (hO.out.al _).rd (one_ints _) (by unfold maxLen; omega) (by omega) (by simp) ?_; intro A5 c5 x5 ho5 hg5 hat5)
      go_ret
      have hgr := (Ext.rfl' wr).al (.cells #[.int .i64 (i : Int)] 3)
      rw [HS.out, ← hW.out, HF.out]
      refine ⟨A5, c5, by simp [Nat.add_comm], ?_, (E6.out.tr hE.out).tr (hgr.gr hg5 (fun x hx => by simp [blk] at hx; omega))⟩
      have := ho5.mono (B' := w.heap.size) (by omega)
      simpa [ints, Nat.add_comm] using this
    · have z1 : (nk != 0) = true := by simp [hz]
      have HNE := Lib.hid (show Sg.kindAt g (i : Int) ≠ 0 by rw [HK.out]; exact hz)
      have N1 := Lib.hid (Own.new wr (B := wr.heap.size) 3 1 #[.int .i64 (i : Int)] 1 (Nat.le_refl _) (by unfold maxLen; omega) rfl)
      clear hz
      go_wp2_with (at_builtin; refine wpList_appR rfl rfl eiInt rfl N1.out rfl (hO.out.al _).rd (one_ints _) (by unfold maxLen; omega) (by omega) (by simp) ?_; intro A5 c5 x5 ho5 hg5 hat5; have E5 := Lib.hid (((Ext.rfl' wr).al (.cells #[.int .i64 (i : Int)] 3)).gr hg5 (fun x hx => by simp [blk] at hx; omega)); have k5 := E5.out.cellE k1; clear k1)
      have O5 := Lib.hid (show Own x5 (w.heap.size + 1) 3 1 A5 ((i : Int) :: out).length c5 (ints ((i : Int) :: out)) from by have := ho5.mono (B' := w.heap.size + 1) (by omega); simpa [ints, Nat.add_comm] using this)
      clear ho5 hg5 hat5 b1 hkc b2
      go_wp2_with fail
      refine (HDE.out A1 c1 i _ (H.out.ext ((E6.out.tr hE.out).tr E5.out)) (Ho1.out.ext (((((Ext.rfl' w4).tr U5.out).tr U6.out).tr hE.out).tr E5.out)) hi).mono ?_
      rintro e x6 ⟨A6, c6, rfl, ho6, he6⟩
      have O6 := Lib.hid ho6.rd
      have E6 := Lib.hid (E5.out.tr he6)
      have O5b := Lib.hid (O5.out.ext he6)
      clear ho6 k5
      go_wp2_with fail
      refine (s_common A3 A6 c3 c6 _ ch (Sg.depAt g X i) _ (Ho3.out.ext (((Ext.rfl' w6).tr hE.out).tr E6.out)) O6.out (by omega)).mono ?_
      rintro e x7 ⟨A7, c7, rfl, ho7, he7⟩
      have E7 := Lib.hid (E6.out.tr he7)
      have O5c := Lib.hid (O5b.out.ext he7)
      have hf := HNF.out i hI.out HNE.out
      rw [Int.toNat_natCast] at hf
      have hl0 := (List.getElem?_eq_some_iff.1 hf).1
      obtain ⟨g7, rfl, hg7⟩ := ho7.at_ (by omega)
      have hc7 := ho7.cell (j := 0) (u := .int .i64 (Sg.nxt g X ch (i : Int))) (by rw [ints_at, hf]; rfl)
      have b7 := blt hc7
      obtain ⟨m, hm⟩ := Int.eq_ofNat_of_zero_le (HNS.out i hI.out HNE.out).2.1
      have hmi : m < i := by have := (HNS.out i hI.out HNE.out).2.2.1; omega
      have HMm := Lib.hid (show (m : Int) ∈ ch by rw [← hm]; exact (HNS.out i hI.out HNE.out).1)
      have HW2 := Lib.hid (show Sg.whyGo g X ch (m + 1) m ((i : Int) :: out) = Sg.whyGo g X ch (n0 + 1) n0 [] by have := HST.out i hI.out HNE.out out; rw [Int.toNat_natCast, hm, Int.toNat_natCast] at this; rw [← this]; exact hW.out)
      rw [hm] at hc7
      clear hf ho7 he7 hm
      go_wp2
      go_roundw
      case rel => exact ⟨m, (i : Int) :: out, A5, c5, rfl, by simp [Nat.add_comm], O5c, HMm, HW2, Lib.hid (hE.out.tr E7.out), by simp; omega⟩
      case measure => simp [intOf]; omega
end Go.Proofs.Ytkbihkggneaeeaa
