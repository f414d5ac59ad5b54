/- The laws' marks of formulas and graphs as results: contracts. Conditions: bounds on lengths. -/
import Derived.Test.YtdnlpklmihoapaaGreatDoorLawAll
namespace Go.Proofs.YtdnlpklmihoapaaGreatDoor
open Go.RowKit
theorem numN_at (k : Int) (g : Sg.Graph) (j : Nat) (n : Sg.Node) (h : g[j]? = some n) : (numN k g)[j]? = some ⟨k + (totN (g.take j) : Int), numP (k + (totN (g.take j) : Int) + 1) n.f.length⟩ := by
 induction g generalizing k j with
 | nil => simp at h
 | cons x g ih =>
  cases j with
  | zero =>
   simp at h
   subst h
   simp [numN, totN]
  | succ j =>
   rw [List.getElem?_cons_succ] at h
   show (numN (k + 1 + 5 * (x.f.length : Int)) g)[j]? = _
   rw [ih _ j h]
   have e : (totN ((x :: g).take (j + 1)) : Int) = 1 + 5 * (x.f.length : Int) + (totN (g.take j) : Int) := by simp [totN]
   rw [e, show k + 1 + 5 * (x.f.length : Int) + (totN (g.take j) : Int) = k + (1 + 5 * (x.f.length : Int) + (totN (g.take j) : Int)) by omega]
set_option maxHeartbeats 1000000 in
theorem l_heldPartS (A : Option Addr) (c n : Nat) (k : Int) (w : World) (h : Rd w 5 A n (parts (numP k n))) (hk : 0 ≤ k) (hb : k + 5 * (n : Int) ≤ 1000000000000) :
  Calls Tryz.prog 62 #[.slice A n c, .int .i64 k] w fun e w' => e = .returned (.int .i64 (k + 5 * (n : Int))) ∧ w = w' := by
 go_enter Tryz.func62, Tryz.ntmps62
 go_wp2
 go_loop [1, 5] (fun s i => ∃ j : Nat, j ≤ n ∧ i = .int .i64 j ∧ s = .int .i64 (k + 5 * (j : Int))) (fun _ i => n - (intOf i).toNat)
 case atStart => exact ⟨0, Nat.zero_le _, rfl, by simp⟩
 case round =>
  obtain ⟨j, hj, rfl, rfl⟩ := hrel
  by_cases hlt : j < n
  ·obtain ⟨b, o, p, rfl, hp, h0, h1, h2, h3, h4⟩ := h.atP hlt
   rw [numP_at k n j hlt] at hp
   injection hp with hp
   subst hp
   have hne : ∀ x : Int, (x != x) = false := fun x => by simp
   go_wp2
   go_round
   case rel => exact ⟨j + 1, by omega, by go_num, by simp only [Value.int.injEq, true_and]; omega⟩
   case measure => simp [intOf]; omega
  ·obtain rfl : j = n := by omega
   go_wp2
   go_ret
   exact ⟨rfl, rfl⟩
set_option maxHeartbeats 2000000 in
theorem l_heldNodeS (A : Option Addr) (c : Nat) (g : Sg.Graph) (k : Int) (w : World) (h : RdN w A (numN k g)) (hk : 0 ≤ k) (hb : k + (totN g : Int) ≤ 1000000000000) :
  Calls Tryz.prog 32 #[.slice A g.length c, .int .i64 k] w fun e w' => e = .returned (.int .i64 (k + (totN g : Int))) ∧ w = w' := by
 have hbl := h.1
 simp only [length_numN] at hbl
 have HM := lh l_heldPartS
 go_enter Tryz.func32, Tryz.ntmps32
 go_wp2
 go_loop [1, 5] (fun s i => ∃ j : Nat, j ≤ g.length ∧ i = .int .i64 j ∧ s = .int .i64 (k + (totN (g.take j) : Int))) (fun _ i => g.length - (intOf i).toNat)
 case atStart => exact ⟨0, Nat.zero_le _, rfl, by simp [totN]⟩
 case round =>
  obtain ⟨j, hj, rfl, rfl⟩ := hrel
  by_cases hlt : j < g.length
  ·obtain ⟨n, hl⟩ : ∃ n, g[j]? = some n := ⟨_, List.getElem?_eq_getElem hlt⟩
   obtain ⟨n', b, o, Al, cl, hl', rfl, hkc, hc, hr, _⟩ := h.at_ (i := j) (by simpa using hlt)
   rw [numN_at k g j n hl] at hl'
   injection hl' with hl'
   subst hl'
   have htk : totN (g.take (j + 1)) = totN (g.take j) + (1 + 5 * n.f.length) := by rw [take_snoc g j hl, totN_snoc]
   have htl := totN_take_le g (j + 1)
   obtain ⟨t, ht⟩ : ∃ t, t = totN (g.take j) := ⟨_, rfl⟩
   dsimp only at hr hc hkc
   rw [← ht] at htk hr hc hkc
   rw [htk] at htl
   rw [← ht]
   simp only [length_numP] at hr hc
   have Ht := lh htk
   have Hr := lh hr
   have hkt : 0 ≤ k + (t : Int) := by omega
   have hne : ∀ x : Int, (x != x) = false := fun x => by simp
   have hk2 : decide (k + (t : Int) + 1 + 5 * (n.f.length : Int) < 0) = false := by simp; omega
   have hbk : k + (t : Int) + 1 + 5 * (n.f.length : Int) ≤ 1000000000000 := by omega
   generalize n.f.length = m at *
   clear htk hr hl ht h
   go_wp2_with (go_at_call 62; refine (HM.out Al cl m (k + (t : Int) + 1) _ Hr.out (by omega) hbk).mono ?_; rintro e w1 ⟨rfl, rfl⟩)
   go_round
   case rel => exact ⟨j + 1, by omega, by go_num, by rw [Ht.out]; simp only [Value.int.injEq, true_and]; omega⟩
   case measure => simp [intOf]; omega
  ·obtain rfl : j = g.length := by omega
   have e1 : g.take g.length = g := List.take_length
   rw [e1]
   clear e1
   go_wp2
   go_ret
   exact ⟨rfl, rfl⟩
theorem l_heldGraph (A : Option Addr) (c : Nat) (g : Sg.Graph) (k : Int) (w : World) (h : RdN w A (numN k g)) (hk : 0 ≤ k) (hb : k + (totN g : Int) ≤ 1000000000000) :
  Calls Tryz.prog 12 #[.agg #[.slice A g.length c], .int .i64 k] w fun e w' => e = .returned (.int .i64 (k + (totN g : Int))) ∧ Ext w w' := by
 have HM := lh (fun w h => l_heldNodeS A c g k w h hk hb)
 have H := lh h
 have hn : decide (k + (totN g : Int) < 0) = false := by simp; omega
 clear h
 go_enter Tryz.func12, Tryz.ntmps12
 go_wp2_with (go_at_call 32; refine (HM.out _ (H.out.ext ((Ext.rfl' w).al _))).mono ?_; rintro e w1 ⟨rfl, rfl⟩)
 go_ret
 exact ⟨rfl, (Ext.rfl' w).al _⟩
end Go.Proofs.YtdnlpklmihoapaaGreatDoor
