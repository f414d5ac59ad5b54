/- The plain model of why a value changed: no program in sight. Conditions: none. -/
import Derived.Test.YtjogmblilagohaaGreatModelsA
namespace Sg
def common (a b : List Int) : List Int := a.filter fun x => decide (x ∈ b)
def minL (l : List Int) : Int := l.foldl min (l.headD 0)
theorem foldl_min (l : List Int) (m : Int) : (l.foldl min m ≤ m ∧ ∀ x ∈ l, l.foldl min m ≤ x) ∧ (l.foldl min m = m ∨ l.foldl min m ∈ l) := by
  induction l generalizing m with
  | nil => simp
  | cons y l ih =>
    rw [List.foldl_cons]
    obtain ⟨⟨h1, h2⟩, h3⟩ := ih (min m y)
    refine ⟨⟨by omega, fun x hx => ?_⟩, ?_⟩
    · rcases List.mem_cons.1 hx with rfl | hx
      · omega
      · exact h2 x hx
    · rcases h3 with h3 | h3
      · rcases Int.le_total m y with h | h
        · exact .inl (by rw [h3]; omega)
        · exact .inr (by rw [h3, show min m y = y by omega]; simp)
      · exact .inr (List.mem_cons.2 (.inr h3))
theorem minL_spec {l : List Int} (h : l ≠ []) : minL l ∈ l ∧ ∀ x ∈ l, minL l ≤ x := by
  unfold minL
  obtain ⟨⟨h1, h2⟩, h3⟩ := foldl_min l (l.headD 0)
  have hh : l.headD 0 ∈ l := by cases l with
    | nil => exact absurd rfl h
    | cons a l => simp
  refine ⟨?_, h2⟩
  rcases h3 with h3 | h3
  · rw [h3]; exact hh
  · exact h3
/-- the least of the nodes that n read and that changed -/
def nxt (g : Graph) (x ch : List Int) (n : Int) : Int := minL (common (depAt g x n.toNat) ch)
/-- the way from n down; k: fuel -/
def whyGo (g : Graph) (x ch : List Int) : Nat → Int → List Int → List Int
  | 0, n, out => n :: out
  | k + 1, n, out => if kindAt g n = 0 then n :: out else whyGo g x ch k (nxt g x ch n) (n :: out)
def whyOr (g : Graph) (a b : List Int) (n : Int) : List Int :=
  if (validG g && validC g a && validC g b && inR n 0 ((g.length : Int) - 1)) = true then
    if n ∈ diffL (mean g a) (mean g b) then whyGo g (mean g a) (diffL (mean g a) (mean g b)) (n.toNat + 1) n [] else []
  else []
theorem mem_diffL {x y : List Int} {n : Int} : n ∈ diffL x y ↔ ∃ i : Nat, n = i ∧ i < x.length ∧ x.getD i 0 ≠ y.getD i 0 := by
  unfold diffL
  rw [mem_whichL]
  simp
theorem why_read {g : Graph} (hG : validG g = true) (a b : List Int) {n : Int} (hn : n ∈ diffL (mean g a) (mean g b)) (hk : kindAt g n ≠ 0) : common (depAt g (mean g a) n.toNat) (diffL (mean g a) (mean g b)) ≠ [] := by
  intro hnil
  obtain ⟨i, rfl, hi, hne⟩ := mem_diffL.1 hn
  rw [length_mean] at hi
  have hgi : g[i]? = some g[i] := List.getElem?_eq_getElem hi
  have hd : g.getD i default = g[i] := by simp [hgi]
  have hk' : g[i].kind ≠ 0 := by unfold kindAt at hk; rw [Int.toNat_natCast, hd] at hk; exact hk
  refine hne ?_
  rw [mean_form hG hgi hk', mean_form hG hgi hk']
  have hdep : depAt g (mean g a) i = (runF g[i].f (mean g a)).2 := by unfold depAt; rw [hd, if_neg hk']
  rw [runF_same (a := mean g a) (b := mean g b)]
  intro x hx
  rw [← hdep] at hx
  have hr := depAt_mem hG hi hx
  obtain ⟨j, rfl⟩ := Int.eq_ofNat_of_zero_le hr.1
  by_cases he : rd (mean g a) (j : Int) = rd (mean g b) (j : Int)
  · exact he
  · exfalso
    have hm : (j : Int) ∈ common (depAt g (mean g a) ((i : Int)).toNat) (diffL (mean g a) (mean g b)) := by
      unfold common
      rw [List.mem_filter]
      refine ⟨hx, ?_⟩
      rw [decide_eq_true_eq, mem_diffL]
      exact ⟨j, rfl, by rw [length_mean]; omega, by simpa [rd] using he⟩
    rw [hnil] at hm
    cases hm
theorem nxt_spec {g : Graph} (hG : validG g = true) (a b : List Int) {n : Int} (hn : n ∈ diffL (mean g a) (mean g b)) (hk : kindAt g n ≠ 0) :
    nxt g (mean g a) (diffL (mean g a) (mean g b)) n ∈ diffL (mean g a) (mean g b) ∧ 0 ≤ nxt g (mean g a) (diffL (mean g a) (mean g b)) n ∧ nxt g (mean g a) (diffL (mean g a) (mean g b)) n < n ∧ nxt g (mean g a) (diffL (mean g a) (mean g b)) n ∈ depAt g (mean g a) n.toNat := by
  have h := minL_spec (why_read hG a b hn hk)
  have hm := h.1
  unfold common at hm
  rw [List.mem_filter, decide_eq_true_eq] at hm
  obtain ⟨i, rfl, hi, _⟩ := mem_diffL.1 hn
  rw [length_mean] at hi
  have hr := depAt_mem hG hi hm.1
  exact ⟨hm.2, hr.1, hr.2, hm.1⟩
theorem whyGo_succ (g : Graph) (x ch : List Int) (k : Nat) (n : Int) (out : List Int) : whyGo g x ch (k + 1) n out = if kindAt g n = 0 then n :: out else whyGo g x ch k (nxt g x ch n) (n :: out) := rfl
theorem whyGo_more {g : Graph} (hG : validG g = true) (a b : List Int) (k : Nat) {n : Int} (hn : n ∈ diffL (mean g a) (mean g b)) (hk : n.toNat + 1 ≤ k) (out : List Int) :
    whyGo g (mean g a) (diffL (mean g a) (mean g b)) k n out = whyGo g (mean g a) (diffL (mean g a) (mean g b)) (n.toNat + 1) n out := by
  induction k generalizing n out with
  | zero => omega
  | succ k ih =>
    rw [whyGo_succ, whyGo_succ]
    by_cases h0 : kindAt g n = 0
    · rw [if_pos h0, if_pos h0]
    · rw [if_neg h0, if_neg h0]
      obtain ⟨h1, h2, h3, _⟩ := nxt_spec hG a b hn h0
      have e : ∀ m : Nat, (nxt g (mean g a) (diffL (mean g a) (mean g b)) n).toNat + 1 ≤ m → m ≤ k → whyGo g (mean g a) (diffL (mean g a) (mean g b)) m (nxt g (mean g a) (diffL (mean g a) (mean g b)) n) (n :: out) = whyGo g (mean g a) (diffL (mean g a) (mean g b)) k (nxt g (mean g a) (diffL (mean g a) (mean g b)) n) (n :: out) := by
        intro m hm hmk
        rw [ih h1 (by omega)]
        clear hk
        have key : ∀ (j m : Nat) (n : Int) (out : List Int), n ∈ diffL (mean g a) (mean g b) → n.toNat + 1 ≤ m → m ≤ j → whyGo g (mean g a) (diffL (mean g a) (mean g b)) m n out = whyGo g (mean g a) (diffL (mean g a) (mean g b)) (n.toNat + 1) n out := by
          intro j
          induction j with
          | zero => intro m n out _ h h'; omega
          | succ j ihj =>
            intro m n out hn h h'
            cases m with
            | zero => omega
            | succ m =>
              rw [whyGo_succ, whyGo_succ]
              by_cases h0 : kindAt g n = 0
              · rw [if_pos h0, if_pos h0]
              · rw [if_neg h0, if_neg h0]
                obtain ⟨h1, h2, h3, _⟩ := nxt_spec hG a b hn h0
                rw [ihj m _ _ h1 (by omega) (by omega), ihj n.toNat _ _ h1 (by omega) (by omega)]
        exact key m m _ _ h1 hm (Nat.le_refl _)
      by_cases hk2 : n.toNat ≤ k
      · exact (e n.toNat (by omega) hk2).symm
      · omega
theorem whyGo_step {g : Graph} (hG : validG g = true) (a b : List Int) {n : Int} (hn : n ∈ diffL (mean g a) (mean g b)) (h0 : kindAt g n ≠ 0) (out : List Int) :
    whyGo g (mean g a) (diffL (mean g a) (mean g b)) (n.toNat + 1) n out = whyGo g (mean g a) (diffL (mean g a) (mean g b)) ((nxt g (mean g a) (diffL (mean g a) (mean g b)) n).toNat + 1) (nxt g (mean g a) (diffL (mean g a) (mean g b)) n) (n :: out) := by
  obtain ⟨h1, h2, h3, _⟩ := nxt_spec hG a b hn h0
  rw [whyGo_succ, if_neg h0, whyGo_more hG a b n.toNat h1 (by omega)]
theorem whyGo_end {g : Graph} {x ch : List Int} {n : Int} (h0 : kindAt g n = 0) (k : Nat) (out : List Int) : whyGo g x ch (k + 1) n out = n :: out := by
  rw [whyGo_succ, if_pos h0]
theorem whichL_sorted (p : Nat → Bool) (k : Nat) : (whichL p k).Pairwise (· < ·) := by
  induction k with
  | zero => simp [whichL]
  | succ k ih =>
    rw [whichL_succ]
    split
    · rw [List.pairwise_append]
      refine ⟨ih, by simp, fun x hx y hy => ?_⟩
      obtain ⟨i, rfl, hi, _⟩ := mem_whichL.1 hx
      simp at hy
      omega
    · exact ih
theorem head_least {l : List Int} (h : l.Pairwise (· < ·)) {x : Int} {r : List Int} (hl : l = x :: r) : ∀ y ∈ l, x ≤ y := by
  subst hl
  intro y hy
  rcases List.mem_cons.1 hy with rfl | hy
  · omega
  · have := List.rel_of_pairwise_cons h hy; omega
/-- the reference takes the first of those that changed -/
theorem nxt_first {g : Graph} (hG : validG g = true) (a b : List Int) {n : Int} (hn : n ∈ diffL (mean g a) (mean g b)) (h0 : kindAt g n ≠ 0) :
    (common (diffL (mean g a) (mean g b)) (depAt g (mean g a) n.toNat))[0]? = some (nxt g (mean g a) (diffL (mean g a) (mean g b)) n) := by
  have hne := why_read hG a b hn h0
  have hs := minL_spec hne
  have hm := hs.1
  have hmem : ∀ z, z ∈ common (diffL (mean g a) (mean g b)) (depAt g (mean g a) n.toNat) ↔ z ∈ common (depAt g (mean g a) n.toNat) (diffL (mean g a) (mean g b)) := by
    intro z
    unfold common
    simp only [List.mem_filter, decide_eq_true_eq]
    exact And.comm
  have hsort : (common (diffL (mean g a) (mean g b)) (depAt g (mean g a) n.toNat)).Pairwise (· < ·) := (whichL_sorted _ _).filter _
  cases hl : common (diffL (mean g a) (mean g b)) (depAt g (mean g a) n.toNat) with
  | nil =>
    have := (hmem _).2 hm
    rw [hl] at this
    cases this
  | cons x r =>
    have h1 := head_least hsort hl _ ((hmem _).2 hm)
    have h2 := hs.2 x ((hmem x).1 (by rw [hl]; simp))
    have : x = nxt g (mean g a) (diffL (mean g a) (mean g b)) n := by unfold nxt; omega
    simp [this]
theorem whyGo_len {g : Graph} (x ch : List Int) (k : Nat) (n : Int) (out : List Int) : (whyGo g x ch k n out).length ≤ k + 1 + out.length := by
  induction k generalizing n out with
  | zero => simp [whyGo]; omega
  | succ k ih =>
    rw [whyGo_succ]
    split
    · simp; omega
    · have := ih (nxt g x ch n) (n :: out)
      simp only [List.length_cons] at this
      omega
end Sg
