/- The plain model of the lazy machine's states: no program in sight. Conditions: none. -/
import Derived.Test.YtjogmblilagohaaGreatModelW
namespace Sg
/-- a state of the lazy machine -/
structure Lazy where
  vals : List Int
  reads : List (List Int)
  cols : List Int
deriving DecidableEq, Inhabited
def missing (a b : List Int) : List Int := a.filter fun x => decide (x ∉ b)
/-- no number twice -/
def distinct (r : List Int) : Bool := (List.range r.length).all fun k => decide (r.getD k 0 ∉ r.take k)
/-- as the program sees a node -/
def colAt (g : Graph) (st : Lazy) (i : Nat) : Bool :=
  let n := g.getD i default
  let c := st.cols.getD i 0
  let r := st.reads.getD i []
  if n.kind = 0 then decide (c = 0) && r.isEmpty
  else if c = 2 then r.all (fun x => decide (x ∈ mayRead n.f)) && distinct r
  else if c = 1 then rightAt g st.vals st.reads i
  else if c = 0 then rightAt g st.vals st.reads i && r.all fun x => rd st.cols x == 0
  else false
/-- as the reference sees it -/
def colS (g : Graph) (st : Lazy) (i : Nat) : Bool :=
  let n := g.getD i default
  let c := st.cols.getD i 0
  let r := st.reads.getD i []
  if n.kind = 0 then decide (c = 0) && decide (r.length = 0)
  else if c = 2 then decide (r.length = (firstOnly r).length) && decide ((missing r (mayRead n.f)).length = 0)
  else (if c = 0 then (runF n.f st.vals).2.all fun x => rd st.cols x == 0 else true) && decide ((runF n.f st.vals).1 = st.vals.getD i 0) && decide ((runF n.f st.vals).2 = r)
def shapeL (g : Graph) (st : Lazy) : Bool := validG g && decide (st.vals.length = g.length) && decide (st.reads.length = g.length) && decide (st.cols.length = g.length) && inR999 st.vals
def validL (g : Graph) (st : Lazy) : Bool := shapeL g st && (List.range g.length).all (colAt g st)
def validLS (g : Graph) (st : Lazy) : Bool := shapeL g st && (st.cols.all fun x => inR x 0 2) && (List.range g.length).all (colS g st)

theorem once_len' (l out : List Int) : (l.foldl once out).length ≤ out.length + l.length := by
  induction l generalizing out with
  | nil => simp
  | cons x l ih =>
    rw [List.foldl_cons]
    have := ih (once out x)
    have h1 : (once out x).length ≤ out.length + 1 := by
      unfold once
      split
      · omega
      · simp
    simp only [List.length_cons]
    omega
theorem once_full (l out : List Int) : (l.foldl once out).length = out.length + l.length ↔ ∀ k, k < l.length → l.getD k 0 ∉ out ++ l.take k := by
  induction l generalizing out with
  | nil => simp
  | cons x l ih =>
    rw [List.foldl_cons, List.length_cons]
    by_cases hx : x ∈ out
    · have e : once out x = out := by unfold once; rw [if_pos hx]
      rw [e]
      have := once_len' l out
      constructor
      · intro h; omega
      · intro h
        have := h 0 (by omega)
        simp at this
        exact absurd hx this
    · have e : once out x = out ++ [x] := by unfold once; rw [if_neg hx]
      rw [e]
      have := ih (out ++ [x])
      rw [List.length_append, List.length_singleton] at this
      rw [show out.length + (l.length + 1) = out.length + 1 + l.length from by omega, this]
      constructor
      · intro h k hk
        cases k with
        | zero => simpa using hx
        | succ k =>
          have := h k (by omega)
          simpa using this
      · intro h k hk
        have := h (k + 1) (by omega)
        simpa using this
theorem distinct_len (r : List Int) : decide (r.length = (firstOnly r).length) = distinct r := by
  rw [Bool.eq_iff_iff, decide_eq_true_eq]
  unfold distinct firstOnly
  rw [List.all_eq_true]
  have := once_full r []
  simp only [List.length_nil, Nat.zero_add, List.nil_append] at this
  rw [eq_comm, this]
  constructor
  · intro h k hk
    rw [decide_eq_true_eq]
    exact h k (List.mem_range.1 hk)
  · intro h k hk
    have := h k (List.mem_range.2 hk)
    rwa [decide_eq_true_eq] at this
theorem missing_none (a b : List Int) : decide ((missing a b).length = 0) = a.all fun x => decide (x ∈ b) := by
  rw [Bool.eq_iff_iff, decide_eq_true_eq, List.length_eq_zero_iff]
  unfold missing
  rw [List.filter_eq_nil_iff, List.all_eq_true]
  constructor
  · intro h x hx
    have := h x hx
    simpa using this
  · intro h x hx
    have := h x hx
    simpa using this
theorem col_same (g : Graph) (st : Lazy) (i : Nat) (h : inR (st.cols.getD i 0) 0 2 = true) : colS g st i = colAt g st i := by
  unfold colS colAt
  dsimp only
  by_cases h0 : (g.getD i default).kind = 0
  · rw [if_pos h0, if_pos h0]
    cases st.reads.getD i [] <;> simp
  · rw [if_neg h0, if_neg h0]
    by_cases h2 : st.cols.getD i 0 = 2
    · rw [if_pos h2, if_pos h2, distinct_len, missing_none, Bool.and_comm]
    · rw [if_neg h2, if_neg h2]
      have hr : rightAt g st.vals st.reads i = (decide ((runF (g.getD i default).f st.vals).1 = st.vals.getD i 0) && decide ((runF (g.getD i default).f st.vals).2 = st.reads.getD i [])) := by
        unfold rightAt
        dsimp only
        rw [if_neg h0]
      by_cases h1 : st.cols.getD i 0 = 1
      · rw [if_pos h1, if_neg (by omega), hr, Bool.true_and]
      · have h00 : st.cols.getD i 0 = 0 := by
          simp only [inR, Bool.and_eq_true, decide_eq_true_eq] at h
          omega
        rw [if_neg h1, if_pos h00, if_pos h00, hr]
        by_cases he : (runF (g.getD i default).f st.vals).2 = st.reads.getD i []
        · rw [he, Bool.and_assoc, Bool.and_comm]
        · have : decide ((runF (g.getD i default).f st.vals).2 = st.reads.getD i []) = false := by simpa using he
          rw [this]
          simp
theorem colAt_range {g : Graph} {st : Lazy} {i : Nat} (h : colAt g st i = true) : inR (st.cols.getD i 0) 0 2 = true := by
  unfold colAt at h
  dsimp only at h
  simp only [inR, Bool.and_eq_true, decide_eq_true_eq]
  split at h
  · simp only [Bool.and_eq_true, decide_eq_true_eq] at h; omega
  · split at h
    · omega
    · split at h
      · omega
      · split at h
        · omega
        · cases h
theorem validL_same (g : Graph) (st : Lazy) : validLS g st = validL g st := by
  unfold validLS validL
  rw [Bool.eq_iff_iff]
  simp only [Bool.and_eq_true, List.all_eq_true, List.mem_range]
  constructor
  · rintro ⟨⟨h1, h2⟩, h3⟩
    refine ⟨h1, fun i hi => ?_⟩
    have hl : st.cols.length = g.length := by
      unfold shapeL at h1
      simp only [Bool.and_eq_true, decide_eq_true_eq] at h1
      exact h1.1.2
    rw [← col_same g st i]
    · exact h3 i hi
    · have hi' : i < st.cols.length := by omega
      rw [List.getD_eq_getElem?_getD, List.getElem?_eq_getElem hi']
      exact h2 _ (List.getElem_mem hi')
  · rintro ⟨h1, h3⟩
    have hl : st.cols.length = g.length := by
      unfold shapeL at h1
      simp only [Bool.and_eq_true, decide_eq_true_eq] at h1
      exact h1.1.2
    refine ⟨⟨h1, fun x hx => ?_⟩, fun i hi => ?_⟩
    · obtain ⟨i, hi⟩ := List.getElem?_of_mem hx
      have hi' := (List.getElem?_eq_some_iff.1 hi).1
      have := colAt_range (h3 i (by omega))
      rw [List.getD_eq_getElem?_getD, hi] at this
      exact this
    · rw [col_same g st i (colAt_range (h3 i hi))]
      exact h3 i hi
end Sg
