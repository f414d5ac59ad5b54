/- The plain model of graphs and states: no program in sight. Conditions: none. -/
import Derived.Test.YtkkegmimofmhpaaModel
namespace Sg
def kindAt (g : Graph) (x : Int) : Int := (g.getD x.toNat default).kind
def goodRead (g : Graph) (i : Nat) (x : Int) : Bool := decide (x < i) && (kindAt g x != 2)
def goodReads (g : Graph) (i : Nat) : Bool := (mayRead (g.getD i default).f).all (goodRead g i)
def goodNode (g : Graph) (i : Nat) : Bool :=
  let n := g.getD i default
  if n.kind = 0 then n.f.length == 0 else if n.kind = 1 ∨ n.kind = 2 then validF n.f && goodReads g i else false
def validG (g : Graph) : Bool := ((List.range g.length).all (goodNode g)) && decide (g.length ≤ 10)

theorem mayRead_range {f : List Part} {x : Int} (h : x ∈ mayRead f) : 0 ≤ x ∧ x ≤ 9 := by
  unfold mayRead at h
  rw [List.mem_filter, List.mem_map] at h
  obtain ⟨⟨y, hy, rfl⟩, _⟩ := h
  rw [List.mem_range] at hy
  simp; omega
theorem validF_good {f : List Part} (h : validF f = true) : ∀ (i : Nat) (p : Part), f[i]? = some p → goodPart p i = true := by
  unfold validF at h
  simp only [Bool.and_eq_true] at h
  have key : ∀ (f : List Part) (j i : Nat) (p : Part), goodFrom j f = true → f[i]? = some p → goodPart p (j + i) = true := by
    intro f
    induction f with
    | nil => intro j i p _ h; simp at h
    | cons q f ih =>
      intro j i p hg hp
      simp only [goodFrom, Bool.and_eq_true] at hg
      cases i with
      | zero => simp at hp; subst hp; exact hg.1
      | succ i =>
        have := ih (j + 1) i p hg.2 (by simpa using hp)
        rwa [show j + 1 + i = j + (i + 1) from by omega] at this
  intro i p hp
  have := key f 0 i p h.1.2 hp
  rwa [Nat.zero_add] at this
theorem validF_len {f : List Part} (h : validF f = true) : 1 ≤ f.length ∧ f.length ≤ 12 := by
  unfold validF inR at h
  simp only [Bool.and_eq_true, decide_eq_true_eq] at h
  omega
theorem mem_mayRead {f : List Part} (h : validF f = true) {p : Part} (hp : p ∈ f) (hk : p.kind = 1) : p.n ∈ mayRead f := by
  obtain ⟨i, hi⟩ := List.getElem?_of_mem hp
  have hg := validF_good h i p hi
  unfold goodPart alone at hg
  rw [if_neg (by omega), if_pos hk] at hg
  simp only [Bool.and_eq_true, inR, decide_eq_true_eq] at hg
  unfold mayRead
  rw [List.mem_filter, List.mem_map]
  refine ⟨⟨p.n.toNat, by rw [List.mem_range]; omega, by simp; omega⟩, ?_⟩
  unfold hasRead
  rw [List.any_eq_true]
  exact ⟨p, hp, by simp [hk]⟩
theorem validG_node {g : Graph} (h : validG g = true) (i : Nat) (hi : i < g.length) : goodNode g i = true := by
  unfold validG at h
  simp only [Bool.and_eq_true, List.all_eq_true, List.mem_range] at h
  exact h.1 i hi
/-- a formula of a valid graph's node can be run with the values ahead of it -/
theorem validG_fok {g : Graph} (h : validG g = true) (i : Nat) {n : Node} (hn : g[i]? = some n) (hk : n.kind ≠ 0) : FOK n.f i := by
  have hi : i < g.length := (List.getElem?_eq_some_iff.1 hn).1
  have hgn := validG_node h i hi
  unfold goodNode at hgn
  have hd : g.getD i default = n := by simp [hn]
  rw [hd] at hgn
  dsimp only at hgn
  rw [if_neg hk] at hgn
  split at hgn
  · simp only [Bool.and_eq_true] at hgn
    have hl := validF_len hgn.1
    refine ⟨validF_good hgn.1, hl.2, hl.1, fun p hp hpk => ?_⟩
    have hm := mem_mayRead hgn.1 hp hpk
    have := hgn.2
    unfold goodReads at this
    rw [List.all_eq_true] at this
    rw [hd] at this
    have := this _ hm
    unfold goodRead at this
    simp only [Bool.and_eq_true, decide_eq_true_eq] at this
    exact this.1
  · cases hgn


/-- a state of the eager machine -/
structure Eager where
  vals : List Int
  reads : List (List Int)
deriving DecidableEq, Inhabited
def inR999 (l : List Int) : Bool := l.all fun x => inR x 0 999
def rightAt (g : Graph) (vals : List Int) (reads : List (List Int)) (i : Nat) : Bool :=
  let n := g.getD i default
  if n.kind = 0 then (reads.getD i []).isEmpty else decide ((runF n.f vals).1 = vals.getD i 0) && decide ((runF n.f vals).2 = reads.getD i [])
def validE (g : Graph) (st : Eager) : Bool :=
  validG g && decide (st.vals.length = g.length) && decide (st.reads.length = g.length) && inR999 st.vals && (List.range g.length).all (rightAt g st.vals st.reads)
theorem inR999_range {l : List Int} (h : inR999 l = true) : inRange l := by
  intro x hx
  unfold inR999 at h
  rw [List.all_eq_true] at h
  have := h x hx
  simp [inR] at this
  omega

end Sg
