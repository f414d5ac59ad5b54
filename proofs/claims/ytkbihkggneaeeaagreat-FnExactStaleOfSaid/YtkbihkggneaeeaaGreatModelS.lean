/- The plain model of what is stale, and of the cells of lazy states: no program in sight. Conditions: none. -/
import Derived.Test.YtkbihkggneaeeaaGreatModelC
import Derived.Test.YtkbihkggneaeeaaGreatModelL
namespace Sg
def staleL (q : List Int) (k : Nat) : List Int := whichL (fun i => rd q (i : Int) != 0) k
def staleOf (g : Graph) (st : Lazy) : List Int := if validL g st = true then staleL st.cols g.length else []
def lazyCells (g : Graph) (st : Lazy) : List Int := if validL g st = true then cellsOf g st.vals else []
theorem validL_shape {g : Graph} {st : Lazy} (h : validL g st = true) : validG g = true ∧ st.vals.length = g.length ∧ st.reads.length = g.length ∧ st.cols.length = g.length ∧ inR999 st.vals = true := by
  unfold validL shapeL at h
  simp only [Bool.and_eq_true, decide_eq_true_eq] at h
  exact ⟨h.1.1.1.1.1, h.1.1.1.1.2, h.1.1.1.2, h.1.1.2, h.1.2⟩
theorem validG_len10 {g : Graph} (h : validG g = true) : g.length ≤ 10 := by
  unfold validG at h
  simp only [Bool.and_eq_true, decide_eq_true_eq] at h
  exact h.2
theorem staleOf_len (g : Graph) (st : Lazy) : (staleOf g st).length ≤ 1048576 := by
  unfold staleOf
  split
  · rename_i h
    have h1 := validG_len10 (validL_shape h).1
    have h2 := whichL_len (fun i => rd st.cols (i : Int) != 0) g.length
    unfold staleL
    omega
  · simp
theorem lazyCells_len (g : Graph) (st : Lazy) : (lazyCells g st).length ≤ 1048576 := by
  unfold lazyCells
  split
  · rename_i h
    have h1 := validL_shape h
    have h2 := validG_len10 h1.1
    rw [length_cellsOf]
    omega
  · simp
end Sg
