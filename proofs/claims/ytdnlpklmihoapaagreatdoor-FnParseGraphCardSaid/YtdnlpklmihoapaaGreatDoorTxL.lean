/- The reference's ParseFormula, in memory: its contract. Conditions: texts of at most 2^20 bytes. -/
import Derived.Test.YtdnlpklmihoapaaGreatDoorTxK
namespace Sg
theorem split_sum (c : UInt8) : ∀ l : Txt, ((splitC c l).map List.length).sum + (splitC c l).length = l.length + 1
 | [] => rfl
 | b :: r => by
  have ih := split_sum c r
  by_cases h : b = c
  ·rw [splitC, if_pos h]
   simp only [List.map_cons, List.sum_cons, List.length_cons, List.length_nil]
   omega
  ·cases hr : splitC c r with
   | nil => exact absurd hr (splitC_ne c r)
   | cons p t =>
    rw [splitC_cons h hr]
    rw [hr] at ih
    simp only [List.map_cons, List.sum_cons, List.length_cons] at ih ⊢
    omega
theorem le_sum {l : List Txt} {p : Txt} (h : p ∈ l) : p.length ≤ (l.map List.length).sum := by
 induction l with
 | nil => cases h
 | cons q t ih =>
  rw [List.map_cons, List.sum_cons]
  rcases List.mem_cons.1 h with rfl | h
  ·omega
  ·have := ih h; omega
theorem sum_ge {l : List Txt} (h : ∀ p ∈ l, p ≠ []) : l.length ≤ (l.map List.length).sum := by
 induction l with
 | nil => simp
 | cons q t ih =>
  rw [List.map_cons, List.sum_cons, List.length_cons]
  have h1 := ih fun p hp => h p (by simp [hp])
  have h2 := List.length_pos_iff.2 (h q (by simp))
  omega
/-- what ParseFormula returns -/
def parsed (o : Option (List Part)) : List Part × Bool := match o with
 | none => ([], false)
 | some f => (f, true)
end Sg
namespace Go.Proofs.YtdnlpklmihoapaaGreatDoor
open Go.RowKit
end Go.Proofs.YtdnlpklmihoapaaGreatDoor
