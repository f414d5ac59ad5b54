/- The plain model of what must run, and of chosen nodes: no program in sight. Conditions: none. -/
import Derived.Test.YtjogmblilagohaaGreatCore
namespace Sg
/-- the numbers below k for which p holds -/
def whichL (p : Nat → Bool) (k : Nat) : List Int := ((List.range k).filter p).map Int.ofNat
theorem whichL_succ (p : Nat → Bool) (k : Nat) : whichL p (k + 1) = if p k = true then whichL p k ++ [(k : Int)] else whichL p k := by
  unfold whichL
  rw [List.range_succ, List.filter_append, List.map_append]
  by_cases h : p k = true
  · rw [if_pos h]; simp [h]
  · rw [if_neg h]; simp [h]
theorem whichL_len (p : Nat → Bool) (k : Nat) : (whichL p k).length ≤ k := by
  unfold whichL
  have := List.length_filter_le p (List.range k)
  simpa using this
theorem whichL_congr {p q : Nat → Bool} {k : Nat} (h : ∀ i, i < k → p i = q i) : whichL p k = whichL q k := by
  unfold whichL
  congr 1
  exact List.filter_congr fun i hi => h i (List.mem_range.1 hi)
theorem mem_whichL {p : Nat → Bool} {k : Nat} {n : Int} : n ∈ whichL p k ↔ ∃ i : Nat, n = i ∧ i < k ∧ p i = true := by
  unfold whichL
  rw [List.mem_map]
  constructor
  · rintro ⟨i, hi, rfl⟩
    rw [List.mem_filter, List.mem_range] at hi
    exact ⟨i, rfl, hi.1, hi.2⟩
  · rintro ⟨i, rfl, h1, h2⟩
    exact ⟨i, List.mem_filter.2 ⟨List.mem_range.2 h1, h2⟩, rfl⟩
/-- lists with a number in common -/
def meets (a b : List Int) : Bool := a.any fun x => decide (x ∈ b)
theorem mem_foldl_once (l out : List Int) (x : Int) : x ∈ l.foldl once out ↔ x ∈ out ∨ x ∈ l := by
  induction l generalizing out with
  | nil => simp
  | cons y l ih =>
    rw [List.foldl_cons, ih, List.mem_cons]
    unfold once
    split
    · rename_i h
      constructor
      · rintro (h1 | h1)
        · exact .inl h1
        · exact .inr (.inr h1)
      · rintro (h1 | rfl | h1)
        · exact .inl h1
        · exact .inl h
        · exact .inr h1
    · rw [List.mem_append, List.mem_singleton, or_assoc]
theorem mem_firstOnly (l : List Int) (x : Int) : x ∈ firstOnly l ↔ x ∈ l := by
  unfold firstOnly
  rw [mem_foldl_once]
  simp
/-- what is read is read by some part -/
theorem reck_mem (f : List Part) (v : List Int) (m : Nat) (i : Int) (x : Int) (h : x ∈ (reck f v m i).2) : ∃ p ∈ f, p.kind = 1 ∧ p.n = x := by
  induction m generalizing i with
  | zero => simp [reck] at h
  | succ m ih =>
    simp only [reck] at h
    by_cases h0 : (f.getD i.toNat default).kind = 0
    · rw [if_pos h0] at h; cases h
    · rw [if_neg h0] at h
      by_cases h1 : (f.getD i.toNat default).kind = 1
      · rw [if_pos h1] at h
        simp only [List.mem_singleton] at h
        exact ⟨_, getD_mem h1, h1, h.symm⟩
      · rw [if_neg h1] at h
        split at h
        · rcases List.mem_append.1 h with h | h
          · exact ih _ h
          · exact ih _ h
        · rcases List.mem_append.1 h with h | h
          · exact ih _ h
          · exact ih _ h
theorem reck_same (f : List Part) (a b : List Int) (m : Nat) (i : Int) (h : ∀ x ∈ (reck f a m i).2, rd a x = rd b x) : reck f a m i = reck f b m i := by
  induction m generalizing i with
  | zero => rfl
  | succ m ih =>
    simp only [reck] at h ⊢
    by_cases h0 : (f.getD i.toNat default).kind = 0
    · rw [if_pos h0, if_pos h0]
    · rw [if_neg h0] at h
      rw [if_neg h0, if_neg h0]
      by_cases h1 : (f.getD i.toNat default).kind = 1
      · rw [if_pos h1] at h
        rw [if_pos h1, if_pos h1, h _ (List.mem_singleton.2 rfl)]
      · rw [if_neg h1] at h
        rw [if_neg h1, if_neg h1]
        by_cases h8 : (f.getD i.toNat default).kind = 8
        · rw [if_pos h8] at h
          rw [if_pos h8, if_pos h8]
          have e1 := ih (f.getD i.toNat default).a (fun x hx => h x (List.mem_append.2 (.inl hx)))
          rw [← e1]
          have e2 := ih _ (fun x hx => h x (List.mem_append.2 (.inr hx)))
          rw [← e2]
        · rw [if_neg h8] at h
          rw [if_neg h8, if_neg h8]
          have e1 := ih (f.getD i.toNat default).a (fun x hx => h x (List.mem_append.2 (.inl hx)))
          have e2 := ih (f.getD i.toNat default).b (fun x hx => h x (List.mem_append.2 (.inr hx)))
          rw [← e1, ← e2]
theorem runF_same {f : List Part} {a b : List Int} (h : ∀ x ∈ (runF f a).2, rd a x = rd b x) : runF f a = runF f b := by
  unfold runF at h ⊢
  have := reck_same f a b _ _ (fun x hx => h x ((mem_firstOnly _ _).2 hx))
  rw [this]
theorem depAt_mem {g : Graph} (hg : validG g = true) {v : List Int} {i : Nat} {x : Int} (hi : i < g.length) (h : x ∈ depAt g v i) : 0 ≤ x ∧ x < i := by
  unfold depAt at h
  have hn : g[i]? = some g[i] := List.getElem?_eq_getElem hi
  have hd : g.getD i default = g[i] := by simp [hn]
  rw [hd] at h
  by_cases h0 : g[i].kind = 0
  · rw [if_pos h0] at h; cases h
  · rw [if_neg h0] at h
    unfold runF at h
    obtain ⟨p, hp, h1, rfl⟩ := reck_mem _ _ _ _ _ ((mem_firstOnly _ _).1 h)
    exact (validG_fok hg i hn h0).read0 p hp h1
/-- the nodes at which values differ -/
def diffL (x y : List Int) : List Int := whichL (fun i => x.getD i 0 != y.getD i 0) x.length
def mustAt (g : Graph) (x y : List Int) (i : Nat) : Bool := (kindAt g (i : Int) != 0) && ((x.getD i 0 != y.getD i 0) || (depAt g x i).any fun n => rd x n != rd y n)
def mustS (g : Graph) (x y : List Int) (i : Nat) : Bool := (kindAt g (i : Int) != 0) && meets (depAt g x i) (diffL x y)
theorem meets_diff {g : Graph} (hg : validG g = true) {x y v : List Int} (hx : x.length = g.length) {i : Nat} (hi : i < g.length) : meets (depAt g v i) (diffL x y) = (depAt g v i).any fun n => rd x n != rd y n := by
  unfold meets
  rw [Bool.eq_iff_iff, List.any_eq_true, List.any_eq_true]
  refine exists_congr fun n => and_congr_right fun hn => ?_
  have := depAt_mem hg hi hn
  obtain ⟨k, rfl⟩ := Int.eq_ofNat_of_zero_le this.1
  unfold diffL rd
  rw [decide_eq_true_eq, mem_whichL]
  constructor
  · rintro ⟨j, hj, _, h⟩
    have : k = j := by omega
    subst this
    simpa using h
  · intro h
    exact ⟨k, rfl, by omega, by simpa using h⟩
theorem mean_at {g : Graph} (cells : List Int) {i : Nat} {n : Node} (hn : g[i]? = some n) : (mean g cells).getD i 0 = valAt g cells (meanTo g cells i) i := by
  have hi : i < g.length := (List.getElem?_eq_some_iff.1 hn).1
  unfold mean
  rw [meanTo_getD g cells (i + 1) _ i (by omega) (by omega)]
  simp [meanTo, List.getD_eq_getElem?_getD]
theorem mean_form {g : Graph} {cells : List Int} (hg : validG g = true) {i : Nat} {n : Node} (hn : g[i]? = some n) (h0 : n.kind ≠ 0) : (mean g cells).getD i 0 = (runF n.f (mean g cells)).1 := by
  rw [mean_at cells hn, mean_dep hg hn h0]
  unfold valAt
  have hd : g.getD i default = n := by simp [hn]
  rw [hd, if_neg h0]
/-- what must run: both accounts -/
theorem must_same {g : Graph} (hg : validG g = true) (a b : List Int) {i : Nat} (hi : i < g.length) : mustS g (mean g a) (mean g b) i = mustAt g (mean g a) (mean g b) i := by
  unfold mustS mustAt
  rw [meets_diff hg (length_mean g a) hi]
  have hn : g[i]? = some g[i] := List.getElem?_eq_getElem hi
  have hd : g.getD i default = g[i] := by simp [hn]
  by_cases h0 : g[i].kind = 0
  · have : kindAt g (i : Int) = 0 := by unfold kindAt; rw [Int.toNat_natCast, hd]; exact h0
    rw [this]
    rfl
  · cases hv : (depAt g (mean g a) i).any fun n => rd (mean g a) n != rd (mean g b) n
    · have hs : runF g[i].f (mean g a) = runF g[i].f (mean g b) := by
        refine runF_same fun x hx => ?_
        have := (List.any_eq_false.1 hv) x (by unfold depAt; rw [hd, if_neg h0]; exact hx)
        simpa using this
      have : (mean g a).getD i 0 = (mean g b).getD i 0 := by rw [mean_form hg hn h0, mean_form hg hn h0, hs]
      rw [this]
      simp
    · simp
def mustOr (g : Graph) (a b : List Int) : List Int := if (validG g && validC g a && validC g b) = true then whichL (mustAt g (mean g a) (mean g b)) g.length else []
end Sg
