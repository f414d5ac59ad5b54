/- Zero nodes in memory. Conditions: none. -/
import Derived.Test.YtkkegmimofmhpaaLawH
import Derived.Test.YtkkegmimofmhpaaLawI
namespace Go.Proofs.Ytkkegmimofmhpaa
open Go.RowKit
theorem fill2 (hs Z : List Value) (k : Nat) (h : hs.length = k * 2) (z0 z1 x y : Value) : ((hs ++ (z0 :: z1 :: Z)).set (k * 2) x).set (k * 2 + 1) y = (hs ++ [x, y]) ++ Z := by
  rw [← h]
  simp
def zs (m : Nat) : List Value := (List.replicate m [Value.int .i64 0, .slice none 0 0]).flatten
theorem zs_succ (m : Nat) : zs (m + 1) = .int .i64 0 :: .slice none 0 0 :: zs m := by simp [zs, List.replicate_succ]
theorem length_zs (m : Nat) : (zs m).length = m * 2 := by
  induction m with
  | zero => rfl
  | succ m ih => rw [zs_succ]; simp [ih]; omega
theorem zs_get (m j : Nat) (h : j < m * 2) : (zs m)[j]? = some (if j % 2 = 0 then .int .i64 0 else .slice none 0 0) := by
  induction m generalizing j with
  | zero => omega
  | succ m ih =>
    rw [zs_succ]
    match j, h with
    | 0, _ => rfl
    | 1, _ => rfl
    | j + 2, h =>
      simp only [List.getElem?_cons_succ]
      rw [ih j (by omega), show (j + 2) % 2 = j % 2 from by omega]
theorem made_nodes (n : Nat) : (madeCells (Value.agg #[.int .i64 0, .slice none 0 0]).cells (n * 2)).toList = zs n := by
  apply List.ext_getElem?
  intro j
  by_cases hj : j < n * 2
  · rw [zs_get n j hj]
    change ((madeCells #[.int .i64 0, .slice none 0 0] (n * 2)).toList)[j]? = _
    have hm : j % 2 = 0 ∨ j % 2 = 1 := by omega
    rcases hm with hm | hm <;> simp [madeCells, hj, hm]
  · rw [List.getElem?_eq_none (by rw [Array.length_toList, size_madeCells]; omega), List.getElem?_eq_none (by rw [length_zs]; omega)]
end Go.Proofs.Ytkkegmimofmhpaa
