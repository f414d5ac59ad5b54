/- The laws' marks of formulas and graphs as results: contracts. Conditions: bounds on lengths. -/
import Derived.Test.YtdnlpklmihoapaaDoorLawAll
namespace Go.Proofs.YtdnlpklmihoapaaDoor
open Go.RowKit
theorem numN_at (k : Int) (g : Sg.Graph) (j : Nat) (n : Sg.Node) (h : g[j]? = some n) : (numN k g)[j]? = some ⟨k + (totN (g.take j) : Int), numP (k + (totN (g.take j) : Int) + 1) n.f.length⟩ := by
 induction g generalizing k j with
 | nil => simp at h
 | cons x g ih =>
  cases j with
  | zero =>
   simp at h
   subst h
   simp [numN, totN]
  | succ j =>
   rw [List.getElem?_cons_succ] at h
   show (numN (k + 1 + 5 * (x.f.length : Int)) g)[j]? = _
   rw [ih _ j h]
   have e : (totN ((x :: g).take (j + 1)) : Int) = 1 + 5 * (x.f.length : Int) + (totN (g.take j) : Int) := by simp [totN]
   rw [e, show k + 1 + 5 * (x.f.length : Int) + (totN (g.take j) : Int) = k + (1 + 5 * (x.f.length : Int) + (totN (g.take j) : Int)) by omega]
set_option maxHeartbeats 1000000 in
theorem l_heldPartS (A : Option Addr) (c n : Nat) (k : Int) (w : World) (h : Rd w 5 A n (parts (numP k n))) (hk : 0 ≤ k) (hb : k + 5 * (n : Int) ≤ 1000000000000) :
  Calls Tryd.prog 56 #[.slice A n c, .int .i64 k] w fun e w' => e = .returned (.int .i64 (k + 5 * (n : Int))) ∧ w = w' := by
 go_enter Tryd.func56, Tryd.ntmps56
 go_wp2
 go_loop [1, 5] (fun s i => ∃ j : Nat, j ≤ n ∧ i = .int .i64 j ∧ s = .int .i64 (k + 5 * (j : Int))) (fun _ i => n - (intOf i).toNat)
 case atStart => exact ⟨0, Nat.zero_le _, rfl, by simp⟩
 case round =>
  obtain ⟨j, hj, rfl, rfl⟩ := hrel
  by_cases hlt : j < n
  ·obtain ⟨b, o, p, rfl, hp, h0, h1, h2, h3, h4⟩ := h.atP hlt
   rw [numP_at k n j hlt] at hp
   injection hp with hp
   subst hp
   have hne : ∀ x : Int, (x != x) = false := fun x => by simp
   go_wp2
   go_round
   case rel => exact ⟨j + 1, by omega, by go_num, by simp only [Value.int.injEq, true_and]; omega⟩
   case measure => simp [intOf]; omega
  ·obtain rfl : j = n := by omega
   go_wp2
   go_ret
   exact ⟨rfl, rfl⟩
theorem l_markFormula {B : Nat} (A : Option Addr) (c : Nat) (f : List Sg.Part) (k : Int) (w : World) (h : Own w B 73 5 A f.length c (parts f)) (hk : 0 ≤ k) (hb : k + 5 * (f.length : Int) ≤ 1000000000000) :
  Calls Tryd.prog 23 #[.agg #[.slice A f.length c], .int .i64 k] w fun e w' => e = .returned (.int .i64 (k + 5 * (f.length : Int))) ∧ Own w' B 73 5 A f.length c (parts (numP k f.length)) ∧ Mod (fun b => blk A = some b) w w' := by
 have HM := lh (fun w h => l_markPartS (B := B) A c f k w h hk hb)
 go_enter Tryd.func23, Tryd.ntmps23
 go_wp2_with (go_at_call 55; refine (HM.out _ (h.ext ((Ext.rfl' w).al _))).mono ?_; rintro e w1 ⟨rfl, ho1, hm1⟩)
 go_ret
 exact ⟨rfl, ho1, ((Mod.rfl' _ w).al _).tr' hm1⟩
theorem l_heldFormula (A : Option Addr) (c n : Nat) (k : Int) (w : World) (h : Rd w 5 A n (parts (numP k n))) (hk : 0 ≤ k) (hb : k + 5 * (n : Int) ≤ 1000000000000) :
  Calls Tryd.prog 24 #[.agg #[.slice A n c], .int .i64 k] w fun e w' => e = .returned (.int .i64 (k + 5 * (n : Int))) ∧ Ext w w' := by
 have HM := lh (fun w h => l_heldPartS A c n k w h hk hb)
 have H := lh h
 have hn : decide (k + 5 * (n : Int) < 0) = false := by simp; omega
 clear h
 go_enter Tryd.func24, Tryd.ntmps24
 go_wp2_with (go_at_call 56; refine (HM.out _ (H.out.ext ((Ext.rfl' w).al _))).mono ?_; rintro e w1 ⟨rfl, rfl⟩)
 go_ret
 exact ⟨rfl, (Ext.rfl' w).al _⟩
end Go.Proofs.YtdnlpklmihoapaaDoor
