/- The reference's missing: its contract. Conditions: bounds on lengths. -/
import Derived.Test.YtkbihkggneaeeaaSpecO
import Derived.Test.YtkbihkggneaeeaaModelL
namespace Go.Proofs.Ytkbihkggneaeeaa
open Go.RowKit

def MS (a b : List Int) (k : Nat) : List Int := Sg.missing (a.take k) b
theorem MS_succ (a b : List Int) (k : Nat) {x : Int} (h : a[k]? = some x) : MS a b (k + 1) = if x ∈ b then MS a b k else MS a b k ++ [x] := by
  unfold MS Sg.missing
  rw [take_snoc a k h, List.filter_append]
  by_cases hx : x ∈ b
  · rw [if_pos hx]; simp [hx]
  · rw [if_neg hx]; simp [hx]
theorem MS_len (a b : List Int) (k : Nat) : (MS a b k).length ≤ k := by
  unfold MS Sg.missing
  have h1 := List.length_filter_le (fun x => decide (x ∉ b)) (a.take k)
  have h2 : (a.take k).length ≤ k := by simp; omega
  omega

end Go.Proofs.Ytkbihkggneaeeaa
