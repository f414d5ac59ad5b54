/- Parts of one proof, joined. The laws' copies of ints and parts: contracts. Conditions: at most 2^20 elements. The laws' copies of formulas and nodes: contracts. Conditions: at most 2^20 elements. The laws' copies of nodes: contracts. Conditions: at most 2^20 elements. The laws' copies of lists of lists: contract. Conditions: at most 2^20 elements. Zero nodes in memory. Conditions: none. The laws' copies of lists of nodes: contract. The laws' copies of graphs and states: contracts. -/
import Derived.Test.YtkbihkggneaeeaaCore
import Derived.Handy
/- The laws' copies of ints and parts: contracts. Conditions: at most 2^20 elements. -/
namespace Go.Proofs.Ytkbihkggneaeeaa
open Go.RowKit

theorem ints_fill (a : List Int) (k : Nat) {x : Int} (hx : a[k]? = some x) : (ints (a.take k ++ List.replicate (a.length - k) 0)).set k (.int .i64 x) = ints (a.take (k + 1) ++ List.replicate (a.length - (k + 1)) 0) := by
  obtain ⟨hk, rfl⟩ := List.getElem?_eq_some_iff.1 hx
  unfold ints
  rw [← List.map_set (f := Value.int .i64)]
  congr 1
  rw [List.set_append_right _ _ (by simp; omega), take_snoc a k (List.getElem?_eq_getElem hk)]
  have h1 : k - (a.take k).length = 0 := by simp; omega
  rw [h1, show a.length - k = (a.length - (k + 1)) + 1 from by omega, List.replicate_succ, List.set_cons_zero, List.append_assoc]
  rfl

/-- parts of value zero -/
def zpart : Sg.Part := ⟨0, 0, 0, 0, 0⟩
theorem parts_fill (f : List Sg.Part) (k : Nat) {p : Sg.Part} (hp : f[k]? = some p) :
    ((((((parts (f.take k ++ List.replicate (f.length - k) zpart)).set (k * 5) (.int .i64 p.kind)).set (k * 5 + 1) (.int .i64 p.a)).set (k * 5 + 2) (.int .i64 p.b)).set (k * 5 + 3) (.int .i64 p.c)).set (k * 5 + 4) (.int .i64 p.n)) = parts (f.take (k + 1) ++ List.replicate (f.length - (k + 1)) zpart) := by
  obtain ⟨hk, rfl⟩ := List.getElem?_eq_some_iff.1 hp
  have e1 : parts (f.take k ++ List.replicate (f.length - k) zpart) = parts (f.take k) ++ (pcs zpart ++ parts (List.replicate (f.length - (k + 1)) zpart)) := by
    rw [show f.length - k = (f.length - (k + 1)) + 1 from by omega, List.replicate_succ]; simp [parts]
  have e2 : parts (f.take (k + 1) ++ List.replicate (f.length - (k + 1)) zpart) = parts (f.take k) ++ (pcs f[k] ++ parts (List.replicate (f.length - (k + 1)) zpart)) := by
    rw [take_snoc f k (List.getElem?_eq_getElem hk), List.append_assoc]; simp [parts]
  have hl : (parts (f.take k)).length = k * 5 := by simp; omega
  rw [e1, e2]
  generalize parts (f.take k) = X at *
  generalize parts (List.replicate (f.length - (k + 1)) zpart) = Y
  subst_vars
  rw [← hl]
  simp [pcs, zpart]
theorem made_parts (f : List Sg.Part) : (madeCells (Value.agg #[.int .i64 0, .int .i64 0, .int .i64 0, .int .i64 0, .int .i64 0]).cells (f.length * 5)).toList = parts (f.take 0 ++ List.replicate (f.length - 0) zpart) := by
  have h1 : (madeCells (Value.agg #[.int .i64 0, .int .i64 0, .int .i64 0, .int .i64 0, .int .i64 0]).cells (f.length * 5)).toList = List.replicate (f.length * 5) (.int .i64 0) := by
    rw [List.eq_replicate_iff]
    refine ⟨by rw [Array.length_toList, size_madeCells], fun b hb => ?_⟩
    show b = _
    change b ∈ (madeCells #[.int .i64 0, .int .i64 0, .int .i64 0, .int .i64 0, .int .i64 0] (f.length * 5)).toList at hb
    simp only [madeCells, Array.toList_map, List.mem_map] at hb
    obtain ⟨j, _, rfl⟩ := hb
    have hj : j % 5 < 5 := Nat.mod_lt _ (by omega)
    show #[Value.int .i64 0, .int .i64 0, .int .i64 0, .int .i64 0, .int .i64 0][j % 5]! = _
    generalize j % 5 = m at hj
    match m, hj with
    | 0, _ => rfl
    | 1, _ => rfl
    | 2, _ => rfl
    | 3, _ => rfl
    | 4, _ => rfl
  have h2 : parts (f.take 0 ++ List.replicate (f.length - 0) zpart) = List.replicate (f.length * 5) (.int .i64 0) := by
    rw [List.eq_replicate_iff]
    refine ⟨by simp, fun b hb => ?_⟩
    unfold parts at hb
    rw [List.mem_flatMap] at hb
    obtain ⟨p, hp, hb⟩ := hb
    simp at hp
    rw [hp.2] at hb
    simpa [pcs, zpart] using hb
  rw [h1, h2]

end Go.Proofs.Ytkbihkggneaeeaa

/- The laws' copies of formulas and nodes: contracts. Conditions: at most 2^20 elements. -/
namespace Go.Proofs.Ytkbihkggneaeeaa
open Go.RowKit

end Go.Proofs.Ytkbihkggneaeeaa

/- The laws' copies of nodes: contracts. Conditions: at most 2^20 elements. -/
namespace Go.Proofs.Ytkbihkggneaeeaa
open Go.RowKit

end Go.Proofs.Ytkbihkggneaeeaa

/- The laws' copies of lists of lists: contract. Conditions: at most 2^20 elements. -/
namespace Go.Proofs.Ytkbihkggneaeeaa
open Go.RowKit

theorem fill1 (hs : List Value) (k n : Nat) (h : hs.length = k) (hk : k < n) (z x : Value) : (hs ++ List.replicate (n - k) z).set k x = (hs ++ [x]) ++ List.replicate (n - (k + 1)) z := by
  rw [List.set_append_right _ _ (by omega), h, Nat.sub_self, show n - k = (n - (k + 1)) + 1 from by omega, List.replicate_succ, List.set_cons_zero, List.append_assoc]
  rfl

end Go.Proofs.Ytkbihkggneaeeaa

/- Zero nodes in memory. Conditions: none. -/
namespace Go.Proofs.Ytkbihkggneaeeaa
open Go.RowKit
theorem fill2 (hs Z : List Value) (k : Nat) (h : hs.length = k * 2) (z0 z1 x y : Value) : ((hs ++ (z0 :: z1 :: Z)).set (k * 2) x).set (k * 2 + 1) y = (hs ++ [x, y]) ++ Z := by
  rw [← h]
  simp
def zs (m : Nat) : List Value := (List.replicate m [Value.int .i64 0, .slice none 0 0]).flatten
theorem zs_succ (m : Nat) : zs (m + 1) = .int .i64 0 :: .slice none 0 0 :: zs m := by simp [zs, List.replicate_succ]
theorem length_zs (m : Nat) : (zs m).length = m * 2 := by
  induction m with
  | zero => rfl
  | succ m ih => rw [zs_succ]; simp [ih]; omega
theorem zs_get (m j : Nat) (h : j < m * 2) : (zs m)[j]? = some (if j % 2 = 0 then .int .i64 0 else .slice none 0 0) := by
  induction m generalizing j with
  | zero => omega
  | succ m ih =>
    rw [zs_succ]
    match j, h with
    | 0, _ => rfl
    | 1, _ => rfl
    | j + 2, h =>
      simp only [List.getElem?_cons_succ]
      rw [ih j (by omega), show (j + 2) % 2 = j % 2 from by omega]
theorem made_nodes (n : Nat) : (madeCells (Value.agg #[.int .i64 0, .slice none 0 0]).cells (n * 2)).toList = zs n := by
  apply List.ext_getElem?
  intro j
  by_cases hj : j < n * 2
  · rw [zs_get n j hj]
    change ((madeCells #[.int .i64 0, .slice none 0 0] (n * 2)).toList)[j]? = _
    have hm : j % 2 = 0 ∨ j % 2 = 1 := by omega
    rcases hm with hm | hm <;> simp [madeCells, hj, hm]
  · rw [List.getElem?_eq_none (by rw [Array.length_toList, size_madeCells]; omega), List.getElem?_eq_none (by rw [length_zs]; omega)]
end Go.Proofs.Ytkbihkggneaeeaa

/- The laws' copies of lists of nodes: contract. -/
namespace Go.Proofs.Ytkbihkggneaeeaa
open Go.RowKit

end Go.Proofs.Ytkbihkggneaeeaa

/- The laws' copies of graphs and states: contracts. -/
namespace Go.Proofs.Ytkbihkggneaeeaa
open Go.RowKit

end Go.Proofs.Ytkbihkggneaeeaa
