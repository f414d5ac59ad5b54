/- Sorting and striking doubles gives the nodes that may be read, ascending. Conditions: valid formulas. -/
import Derived.Test.YtkkegmimofmhpaaModel
import Derived.Lib.SlicesCompact
namespace Sg

theorem eq_of_asc : ∀ (l m : List Int), l.Pairwise (· < ·) → m.Pairwise (· < ·) → (∀ x, x ∈ l ↔ x ∈ m) → l = m
  | [], [], _, _, _ => rfl
  | [], y :: m, _, _, h => absurd ((h y).2 (by simp)) (by simp)
  | x :: l, [], _, _, h => absurd ((h x).1 (by simp)) (by simp)
  | x :: l, y :: m, hl, hm, h => by
    rw [List.pairwise_cons] at hl hm
    have hxy : x = y := by
      rcases List.mem_cons.1 ((h x).1 (by simp)) with e | e
      · exact e
      · rcases List.mem_cons.1 ((h y).2 (by simp)) with e' | e'
        · exact e'.symm
        · have := hm.1 x e; have := hl.1 y e'; omega
    subst hxy
    rw [eq_of_asc l m hl.2 hm.2 fun z => ⟨fun hz => ?_, fun hz => ?_⟩]
    · rcases List.mem_cons.1 ((h z).1 (List.mem_cons_of_mem _ hz)) with e | e
      · have := hl.1 z hz; omega
      · exact e
    · rcases List.mem_cons.1 ((h z).2 (List.mem_cons_of_mem _ hz)) with e | e
      · have := hm.1 z hz; omega
      · exact e

theorem mayRead_asc (f : List Part) : (mayRead f).Pairwise (· < ·) := by
  unfold mayRead
  refine List.Pairwise.filter _ ?_
  rw [List.pairwise_map]
  refine List.Pairwise.imp ?_ (List.pairwise_lt_range (n := 10))
  intro a b h
  exact Int.ofNat_lt.2 h
theorem mem_mayRead_iff {f : List Part} {x : Int} : x ∈ mayRead f ↔ (0 ≤ x ∧ x ≤ 9) ∧ ∃ p ∈ f, p.kind = 1 ∧ p.n = x := by
  unfold mayRead
  rw [List.mem_filter, List.mem_map]
  constructor
  · rintro ⟨⟨y, hy, rfl⟩, h⟩
    rw [List.mem_range] at hy
    unfold hasRead at h
    rw [List.any_eq_true] at h
    obtain ⟨p, hp, h⟩ := h
    simp only [Bool.and_eq_true, beq_iff_eq] at h
    exact ⟨⟨by simp, by simp; omega⟩, p, hp, h⟩
  · rintro ⟨⟨h0, h9⟩, p, hp, h⟩
    refine ⟨⟨x.toNat, by rw [List.mem_range]; omega, by simp; omega⟩, ?_⟩
    unfold hasRead
    rw [List.any_eq_true]
    exact ⟨p, hp, by simp [h]⟩

/-- what the reads of a formula's parts are -/
def readsIn (f : List Part) : List Int := (f.filter fun p => p.kind == 1).map (·.n)

theorem compact_sorted (d : Array Int) (n : Nat) (_hn : n ≤ d.size) (hs : ∀ i j, i < j → j < n → d[i]! ≤ d[j]!) :
    ∀ m, m ≤ n → (Go.Lib.compactUpTo d m).Pairwise (· < ·) ∧ ∀ x, x ∈ Go.Lib.compactUpTo d m ↔ ∃ j, j < m ∧ d[j]! = x := by
  intro m
  induction m with
  | zero => intro _; simp [Go.Lib.compactUpTo]
  | succ m ih =>
    intro hm
    obtain ⟨h1, h2⟩ := ih (by omega)
    rw [Go.Lib.compactUpTo_succ]
    by_cases hk : m = 0 ∨ d[m]! ≠ d[m - 1]!
    · have hkeep : Go.Lib.keeps d m = true := by simp [Go.Lib.keeps, hk]
      rw [if_pos hkeep]
      refine ⟨?_, ?_⟩
      · rw [List.pairwise_append]
        refine ⟨h1, List.pairwise_singleton _ _, ?_⟩
        intro x hx y hy
        rw [List.mem_singleton] at hy
        subst hy
        obtain ⟨j, hj, rfl⟩ := (h2 x).1 hx
        rcases hk with hk | hk
        · omega
        · have hlast := hs (m - 1) m (by omega) (by omega)
          rcases Nat.lt_or_ge j (m - 1) with hjm | hjm
          · have := hs j (m - 1) hjm (by omega); omega
          · obtain rfl : j = m - 1 := by omega
            omega
      · intro x
        rw [List.mem_append, h2, List.mem_singleton]
        constructor
        · rintro (⟨j, hj, rfl⟩ | rfl)
          · exact ⟨j, by omega, rfl⟩
          · exact ⟨m, by omega, rfl⟩
        · rintro ⟨j, hj, rfl⟩
          rcases Nat.lt_or_ge j m with h | h
          · exact .inl ⟨j, h, rfl⟩
          · obtain rfl : j = m := by omega
            exact .inr rfl
    · have hm0 : ¬ m = 0 := fun e => hk (.inl e)
      have heq : d[m]! = d[m - 1]! := Classical.byContradiction fun e => hk (.inr e)
      have hkeep : ¬ Go.Lib.keeps d m = true := by simp [Go.Lib.keeps, hm0, heq]
      rw [if_neg hkeep, List.append_nil]
      refine ⟨h1, fun x => ?_⟩
      rw [h2]
      constructor
      · rintro ⟨j, hj, rfl⟩; exact ⟨j, by omega, rfl⟩
      · rintro ⟨j, hj, rfl⟩
        rcases Nat.lt_or_ge j m with h | h
        · exact ⟨j, h, rfl⟩
        · obtain rfl : j = m := by omega
          exact ⟨j - 1, by omega, heq.symm⟩

theorem compact_sort (f : List Part) (hv : ∀ p ∈ f, p.kind = 1 → 0 ≤ p.n ∧ p.n ≤ 9) : Go.Lib.compact ((readsIn f).mergeSort fun x y => decide (x ≤ y)) = mayRead f := by
  have hsort : ((readsIn f).mergeSort fun x y => decide (x ≤ y)).Pairwise (fun a b => decide (a ≤ b) = true) :=
    List.pairwise_mergeSort (fun a b c h1 h2 => by simp at *; omega) (fun a b => by simp; omega) _
  have hmem : ∀ x, x ∈ ((readsIn f).mergeSort fun x y => decide (x ≤ y)) ↔ x ∈ readsIn f := fun x => List.mem_mergeSort
  generalize ((readsIn f).mergeSort fun x y => decide (x ≤ y)) = S at *
  have key := compact_sorted S.toArray S.length (by simp) (fun i j hij hj => by
    have := List.pairwise_iff_getElem.1 hsort i j (by omega) hj hij
    simp only [decide_eq_true_eq] at this
    simpa [show i < S.length by omega, hj] using this) S.length (Nat.le_refl _)
  refine eq_of_asc _ _ key.1 (mayRead_asc f) fun x => ?_
  unfold Go.Lib.compact
  rw [key.2, mem_mayRead_iff]
  have h1 : (∃ j, j < S.length ∧ S.toArray[j]! = x) ↔ x ∈ S := by
    rw [List.mem_iff_getElem]
    constructor
    · rintro ⟨j, hj, h⟩; exact ⟨j, hj, by simpa [hj] using h⟩
    · rintro ⟨j, hj, h⟩; exact ⟨j, hj, by simpa [hj] using h⟩
  rw [h1, hmem]
  unfold readsIn
  rw [List.mem_map]
  constructor
  · rintro ⟨p, hp, rfl⟩
    rw [List.mem_filter] at hp
    have hk : p.kind = 1 := by simpa using hp.2
    exact ⟨hv p hp.1 hk, p, hp.1, hk, rfl⟩
  · rintro ⟨_, p, hp, hk, rfl⟩
    exact ⟨p, by rw [List.mem_filter]; exact ⟨hp, by simp [hk]⟩, rfl⟩
theorem compact_nil : Go.Lib.compact ([] : List Int) = [] := rfl
end Sg
