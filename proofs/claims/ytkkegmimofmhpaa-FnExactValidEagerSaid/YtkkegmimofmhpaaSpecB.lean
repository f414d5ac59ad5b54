/- The reference's functions on parts: contracts. Conditions: values in 0..999 for joined. -/
import Derived.Test.YtkkegmimofmhpaaSpecA
namespace Go.Proofs.Ytkkegmimofmhpaa
open Go.RowKit

def arity (k : Int) : Int := if k = 0 ∨ k = 1 then 0 else if 2 ≤ k ∧ k ≤ 7 then 2 else if k = 8 then 3 else -1

set_option maxHeartbeats 800000 in
theorem s_arity (k : Int) (w : World) : Calls Try.prog 190 #[.int .i64 k] w fun e w' => e = .returned (.int .i64 (arity k)) ∧ w = w' := by
  have cases : k = 0 ∨ k = 1 ∨ k = 2 ∨ k = 3 ∨ k = 4 ∨ k = 5 ∨ k = 6 ∨ k = 7 ∨ k = 8 ∨ (k < 0 ∨ 8 < k) := by omega
  rcases cases with rfl | rfl | rfl | rfl | rfl | rfl | rfl | rfl | rfl | h
  all_goals
    go_enter Try.func190, Try.ntmps190
    go_wp2
    go_ret
    exact ⟨ret_int (by unfold arity; first | rfl | (rw [if_neg (by omega), if_neg (by omega), if_neg (by omega)])), rfl⟩

set_option maxHeartbeats 800000 in
theorem s_joined (k x y : Int) (w : World) (hx : 0 ≤ x) (hx' : x ≤ 999) (hy : 0 ≤ y) (hy' : y ≤ 999) :
    Calls Try.prog 194 #[.int .i64 k, .int .i64 x, .int .i64 y] w fun e w' => e = .returned (.int .i64 (Sg.joined k x y)) ∧ w = w' := by
  have hxy : 0 ≤ x * y := Int.mul_nonneg hx hy
  have hxy' : x * y ≤ 999 * 999 := Int.mul_le_mul hx' hy' hy (by omega)
  have cases : k = 2 ∨ k = 3 ∨ k = 4 ∨ k = 5 ∨ k = 6 ∨ (k < 2 ∨ 6 < k) := by omega
  rcases cases with rfl | rfl | rfl | rfl | rfl | h
  all_goals
    go_enter Try.func194, Try.ntmps194
    go_wp2
    all_goals (go_ret; exact ⟨ret_int (by simp [Sg.joined] <;> omega), rfl⟩)
end Go.Proofs.Ytkkegmimofmhpaa
