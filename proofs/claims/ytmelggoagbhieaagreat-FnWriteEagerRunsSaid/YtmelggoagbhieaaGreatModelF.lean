/- The plain model of eager writes: what is read stays ahead of the node. Conditions: none. -/
import Derived.Test.YtmelggoagbhieaaGreatModelsA
import Derived.Test.YtmelggoagbhieaaGreatLawP
namespace Sg
structure WrIn (g : Graph) (r : List (List Int)) : Prop where
  rd : ∀ k, k < g.length → ∀ x ∈ r.getD k [], 0 ≤ x ∧ x < (k : Int)
  le : ∀ l ∈ r, l.length ≤ 4096
theorem WrIn.of {g : Graph} {st : Eager} (h : validE g st = true) : WrIn g st.reads := by
  obtain ⟨hG, hv, hr, hn, hR⟩ := validE_parts h
  have key : ∀ k, k < g.length → st.reads.getD k [] = depAt g st.vals k := by
    intro k hk
    obtain ⟨n, hi⟩ : ∃ n, g[k]? = some n := ⟨_, List.getElem?_eq_getElem hk⟩
    unfold depAt
    rw [getD_of hi]
    by_cases h0 : n.kind = 0
    · rw [if_pos h0, rightAt_cell hi h0 (hR k hk)]
    · rw [if_neg h0, rightAt_run hi h0 (hR k hk)]
  refine ⟨fun k hk x hx => ?_, fun l hl => ?_⟩
  · rw [key k hk] at hx
    exact depAt_mem hG hk hx
  · obtain ⟨i, hi⟩ := List.getElem?_of_mem hl
    have hil : i < g.length := by have := (List.getElem?_eq_some_iff.1 hi).1; omega
    have h1 := key i hil
    have h2 : st.reads.getD i [] = l := by simp [hi]
    rw [← h2, h1]
    exact depAt_len hG _ hil
theorem WrIn.put {g : Graph} {r : List (List Int)} (hG : validG g = true) (h : WrIn g r) (v : List Int) {i : Nat} {n : Node} (hn : g[i]? = some n) (h0 : n.kind ≠ 0) : WrIn g (r.set i (runF n.f v).2) := by
  have hi := (List.getElem?_eq_some_iff.1 hn).1
  have hd : depAt g v i = (runF n.f v).2 := by unfold depAt; rw [getD_of hn, if_neg h0]
  refine ⟨fun k hk x hx => ?_, fun l hl => ?_⟩
  · by_cases hki : k = i
    · subst hki
      by_cases hkr : k < r.length
      · rw [List.getD_eq_getElem?_getD, List.getElem?_set_self hkr] at hx
        exact depAt_mem hG hk (by rw [hd]; exact hx)
      · rw [List.getD_eq_getElem?_getD, List.getElem?_eq_none (by simp; omega)] at hx
        cases hx
    · rw [List.getD_eq_getElem?_getD, List.getElem?_set_ne (fun e => hki e.symm), ← List.getD_eq_getElem?_getD] at hx
      exact h.rd k hk x hx
  · rcases List.mem_or_eq_of_mem_set hl with hl | rfl
    · exact h.le l hl
    · rw [← hd]; exact depAt_len hG _ hi
theorem rstep_no {g : Graph} {s : WrS} {i : Nat} {n : Node} (hn : g[i]? = some n) (h : n.kind = 0 ∨ hit s (s.reads.getD i []) = false) : rstep g s i = s := by
  unfold rstep
  rw [getD_of hn, if_neg]
  rcases h with h | h
  · simp [h]
  · rw [h]; simp
theorem rstep_yes {g : Graph} {s : WrS} {i : Nat} {n : Node} (hn : g[i]? = some n) (h0 : n.kind ≠ 0) (h : hit s (s.reads.getD i []) = true) :
    rstep g s i = ⟨s.vals.set i (runF n.f s.vals).1, s.reads.set i (runF n.f s.vals).2, s.ch.set i ((runF n.f s.vals).1 != s.vals.getD i 0), s.ran ++ [(i : Int)]⟩ := by
  unfold rstep
  rw [getD_of hn, if_pos (by rw [h]; simp [h0])]
end Sg
