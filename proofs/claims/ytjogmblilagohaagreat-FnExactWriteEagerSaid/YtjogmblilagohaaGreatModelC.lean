/- The plain model of the cells of states: no program in sight. Conditions: none. -/
import Derived.Test.YtjogmblilagohaaGreatModelW
namespace Sg
/-- values, with 0 for the first k nodes that are no cells -/
def cellsTo (g : Graph) (v : List Int) (k : Nat) : List Int := (List.range v.length).map fun i => if i < k ∧ (g.getD i default).kind ≠ 0 then 0 else v.getD i 0
def cellsOf (g : Graph) (v : List Int) : List Int := cellsTo g v v.length
def cellsE (g : Graph) (st : Eager) : List Int := if validE g st = true then cellsOf g st.vals else []
@[simp] theorem length_cellsTo (g : Graph) (v : List Int) (k : Nat) : (cellsTo g v k).length = v.length := by simp [cellsTo]
@[simp] theorem length_cellsOf (g : Graph) (v : List Int) : (cellsOf g v).length = v.length := by simp [cellsOf]
theorem cellsTo_zero (g : Graph) (v : List Int) : cellsTo g v 0 = v := by
  refine List.ext_getElem (by simp) fun i h1 h2 => ?_
  simp [cellsTo, h2]
theorem cellsTo_keep (g : Graph) (v : List Int) (k : Nat) {n : Node} (hn : g[k]? = some n) (h : n.kind = 0) : cellsTo g v (k + 1) = cellsTo g v k := by
  refine List.ext_getElem (by simp) fun i h1 h2 => ?_
  simp only [cellsTo, List.getElem_map, List.getElem_range]
  by_cases hi : i = k
  · subst hi
    have : (g.getD i default).kind = 0 := by simp [hn, h]
    rw [if_neg (fun h => h.2 this), if_neg (fun h => h.2 this)]
  · have : i < k + 1 ↔ i < k := by omega
    simp only [this]
theorem cellsTo_zap (g : Graph) (v : List Int) (k : Nat) {n : Node} (hn : g[k]? = some n) (h : n.kind ≠ 0) : cellsTo g v (k + 1) = (cellsTo g v k).set k 0 := by
  refine List.ext_getElem (by simp) fun i h1 h2 => ?_
  rw [List.getElem_set]
  simp only [cellsTo, List.getElem_map, List.getElem_range]
  by_cases hi : k = i
  · subst hi
    have : (g.getD k default).kind ≠ 0 := by simpa [hn] using h
    rw [if_pos rfl, if_pos ⟨by omega, this⟩]
  · rw [if_neg hi]
    have : i < k + 1 ↔ i < k := by omega
    simp only [this]
theorem cellsOf_at (g : Graph) (v : List Int) (i : Nat) (h : i < v.length) : (cellsOf g v).getD i 0 = if (g.getD i default).kind ≠ 0 then 0 else v.getD i 0 := by
  have h' : i < (cellsOf g v).length := by simpa using h
  rw [List.getD_eq_getElem?_getD, List.getElem?_eq_getElem h']
  simp only [cellsOf, cellsTo, List.getElem_map, List.getElem_range, Option.getD_some, h, true_and]
end Sg
