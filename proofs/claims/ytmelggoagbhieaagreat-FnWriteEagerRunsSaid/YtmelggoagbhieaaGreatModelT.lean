/- The plain model of what may run, and that what must run is among it: no program in sight. Conditions: none. -/
import Derived.Test.YtmelggoagbhieaaGreatModelR
namespace Sg
/-- a way of uses leads from n to i -/
inductive Use (g : Graph) (n : Nat) : Nat → Prop
  | self : Use g n n
  | more {m i : Nat} : Use g n m → (m : Int) ∈ mayRead (g.getD i default).f → Use g n i
theorem Use.iff {g : Graph} {n i : Nat} : Use g n i ↔ i = n ∨ ∃ m : Nat, (m : Int) ∈ mayRead (g.getD i default).f ∧ Use g n m := by
  constructor
  · intro h
    cases h with
    | self => exact .inl rfl
    | more h1 h2 => exact .inr ⟨_, h2, h1⟩
  · rintro (rfl | ⟨m, h1, h2⟩)
    · exact .self
    · exact .more h2 h1
theorem may_ahead {g : Graph} (hG : validG g = true) {i : Nat} {x : Int} (hi : i < g.length) (hx : x ∈ mayRead (g.getD i default).f) : 0 ≤ x ∧ x < (i : Int) := by
  have hn : g[i]? = some g[i] := List.getElem?_eq_getElem hi
  refine ⟨(mayRead_range hx).1, ?_⟩
  have hg := validG_node hG i hi
  unfold goodNode at hg
  rw [getD_of hn] at hg hx
  dsimp only at hg
  by_cases h0 : g[i].kind = 0
  · rw [if_pos h0] at hg
    have hl : g[i].f = [] := by simpa using hg
    rw [hl] at hx
    unfold mayRead hasRead at hx
    simp at hx
  · rw [if_neg h0] at hg
    split at hg
    · simp only [Bool.and_eq_true] at hg
      have hgr := hg.2
      unfold goodReads at hgr
      rw [getD_of hn, List.all_eq_true] at hgr
      have := hgr x hx
      unfold goodRead at this
      simp only [Bool.and_eq_true, decide_eq_true_eq] at this
      exact this.1
    · cases hg
theorem Use.le {g : Graph} (hG : validG g = true) {n i : Nat} (h : Use g n i) (hi : i < g.length) : n ≤ i := by
  induction h with
  | self => exact Nat.le_refl _
  | more _ h2 ih =>
    have := may_ahead hG hi h2
    have := ih (by omega)
    omega
open Classical in
noncomputable def useB (g : Graph) (n i : Nat) : Bool := decide (Use g n i)
theorem useB_iff {g : Graph} {n i : Nat} : useB g n i = true ↔ Use g n i := by unfold useB; simp
/-- the marks of the first k nodes -/
noncomputable def marksTo (g : Graph) (n k : Nat) : List Bool := (List.range g.length).map fun j => decide (j < k) && useB g n j
@[simp] theorem length_marksTo (g : Graph) (n k : Nat) : (marksTo g n k).length = g.length := by simp [marksTo]
theorem marksTo_at (g : Graph) (n k j : Nat) (hj : j < g.length) : (marksTo g n k)[j]? = some (decide (j < k) && useB g n j) := by simp [marksTo, hj]
theorem marksTo_start {g : Graph} (hG : validG g = true) {n : Nat} (hn : n < g.length) : (List.replicate g.length false).set n true = marksTo g n (n + 1) := by
  refine List.ext_getElem? fun j => ?_
  by_cases hj : j < g.length
  · rw [marksTo_at g n _ j hj, List.getElem?_set]
    by_cases e : n = j
    · subst e
      rw [if_pos rfl, if_pos (by simpa using hn)]
      have : useB g n n = true := useB_iff.2 .self
      simp [this]
    · rw [if_neg e]
      have h1 : (decide (j < n + 1) && useB g n j) = false := by
        rw [Bool.and_eq_false_iff]
        by_cases h2 : j < n + 1
        · right
          rw [← Bool.not_eq_true, useB_iff]
          intro h3
          have := h3.le hG hj
          omega
        · left; simpa using h2
      rw [h1]
      simp [hj]
  · rw [List.getElem?_eq_none (by simp; omega), List.getElem?_eq_none (by simp; omega)]
/-- node i's mark, after the first m of what it may read -/
noncomputable def markIn (g : Graph) (n i m : Nat) : Bool := ((mayRead (g.getD i default).f).take m).any fun x => useB g n x.toNat
theorem marksTo_zero (g : Graph) (n i : Nat) : (marksTo g n i).set i (markIn g n i 0) = marksTo g n i := by
  refine List.ext_getElem? fun j => ?_
  rw [List.getElem?_set]
  by_cases e : i = j
  · subst e
    rw [if_pos rfl]
    by_cases hi : i < g.length
    · rw [if_pos (by simpa using hi), marksTo_at g n i i hi]
      simp [markIn]
    · rw [if_neg (by simpa using hi), List.getElem?_eq_none (by simp; omega)]
  · rw [if_neg e]
theorem markIn_succ {g : Graph} {n i m : Nat} {x : Int} (hx : (mayRead (g.getD i default).f)[m]? = some x) : markIn g n i (m + 1) = (markIn g n i m || useB g n x.toNat) := by
  unfold markIn
  obtain ⟨hm, he⟩ := List.getElem?_eq_some_iff.1 hx
  rw [List.take_succ_eq_append_getElem hm, List.any_append, he]
  simp
theorem marksTo_next {g : Graph} (hG : validG g = true) {n i : Nat} (hi : i < g.length) (hn : n < i) : (marksTo g n i).set i (markIn g n i (mayRead (g.getD i default).f).length) = marksTo g n (i + 1) := by
  have hm : markIn g n i (mayRead (g.getD i default).f).length = useB g n i := by
    unfold markIn
    rw [List.take_length, Bool.eq_iff_iff, List.any_eq_true, useB_iff, Use.iff]
    constructor
    · rintro ⟨x, hx, h⟩
      have hr := may_ahead hG hi hx
      exact .inr ⟨x.toNat, by rw [Int.toNat_of_nonneg hr.1]; exact hx, useB_iff.1 h⟩
    · rintro (e | ⟨m, h1, h2⟩)
      · omega
      · exact ⟨m, h1, useB_iff.2 h2⟩
  rw [hm]
  refine List.ext_getElem? fun j => ?_
  rw [List.getElem?_set]
  by_cases e : i = j
  · subst e
    rw [if_pos rfl, if_pos (by simpa using hi), marksTo_at g n _ i hi]
    simp
  · rw [if_neg e]
    by_cases hj : j < g.length
    · rw [marksTo_at g n _ j hj, marksTo_at g n _ j hj]
      have : decide (j < i + 1) = decide (j < i) := by rw [Bool.eq_iff_iff]; simp; omega
      rw [this]
    · rw [List.getElem?_eq_none (by simp; omega), List.getElem?_eq_none (by simp; omega)]
/-- which nodes may run -/
noncomputable def mayAt (g : Graph) (nodes : List Int) (i : Nat) : Bool := (kindAt g (i : Int) != 0) && nodes.any fun n => useB g n.toNat i
noncomputable def mayRunL (g : Graph) (nodes : List Int) : List Int := if (validG g && cellsDiffer g nodes) = true then whichL (mayAt g nodes) g.length else []
theorem diff_use {g : Graph} (hG : validG g = true) {a b : List Int} : ∀ (i : Nat), i < g.length → (mean g a).getD i 0 ≠ (mean g b).getD i 0 → ∃ j : Nat, j < g.length ∧ a.getD j 0 ≠ b.getD j 0 ∧ Use g j i := by
  intro i
  induction i using Nat.strongRecOn with
  | _ i ih =>
    intro hi hne
    have hn : g[i]? = some g[i] := List.getElem?_eq_getElem hi
    generalize g[i] = n at hn
    by_cases h0 : n.kind = 0
    · rw [mean_atN _ hn, if_pos h0, mean_atN _ hn, if_pos h0] at hne
      exact ⟨i, hi, hne, .self⟩
    · have hA := mean_form (cells := a) hG hn h0
      have hB := mean_form (cells := b) hG hn h0
      have hex : ∃ x ∈ (runF n.f (mean g a)).2, rd (mean g a) x ≠ rd (mean g b) x := by
        apply Classical.byContradiction
        intro h
        apply hne
        rw [hA, hB, runF_same (f := n.f) (a := mean g a) (b := mean g b) fun x hx => Classical.byContradiction fun e => h ⟨x, hx, e⟩]
      obtain ⟨x, hx, hxd⟩ := hex
      have hdep : x ∈ depAt g (mean g a) i := by unfold depAt; rw [getD_of hn, if_neg h0]; exact hx
      have hr := depAt_mem hG hi hdep
      obtain ⟨k, rfl⟩ := Int.eq_ofNat_of_zero_le hr.1
      obtain ⟨j, hj, hjd, hu⟩ := ih k (by omega) (by omega) (by simpa [rd] using hxd)
      exact ⟨j, hj, hjd, .more hu (by
        have hv : validF n.f = true := by
          have hg := validG_node hG i hi
          unfold goodNode at hg
          rw [getD_of hn] at hg
          dsimp only at hg
          rw [if_neg h0] at hg
          split at hg
          · simp only [Bool.and_eq_true] at hg; exact hg.1
          · cases hg
        rw [getD_of hn]
        unfold runF at hx
        dsimp only at hx
        obtain ⟨p, hp, h1, h2⟩ := reck_mem n.f (mean g a) n.f.length _ _ ((mem_firstOnly _ _).1 hx)
        rw [← h2]
        exact mem_mayRead hv hp h1)⟩
theorem must_use {g : Graph} (hG : validG g = true) {a b : List Int} {i : Nat} (hi : i < g.length) (h : mustAt g (mean g a) (mean g b) i = true) : ∃ j : Nat, j < g.length ∧ a.getD j 0 ≠ b.getD j 0 ∧ Use g j i := by
  unfold mustAt at h
  simp only [Bool.and_eq_true, Bool.or_eq_true, bne_iff_ne, ne_eq] at h
  rcases h.2 with h1 | h1
  · exact diff_use hG i hi h1
  · have hn : g[i]? = some g[i] := List.getElem?_eq_getElem hi
    generalize g[i] = n at hn
    have h0 : n.kind ≠ 0 := fun e => h.1 (by unfold kindAt; rw [Int.toNat_natCast, getD_of hn]; exact e)
    rw [List.any_eq_true] at h1
    obtain ⟨x, hx, hxd⟩ := h1
    have hr := depAt_mem hG hi hx
    obtain ⟨k, rfl⟩ := Int.eq_ofNat_of_zero_le hr.1
    obtain ⟨j, hj, hjd, hu⟩ := diff_use hG k (by omega) (by simpa [rd] using hxd)
    refine ⟨j, hj, hjd, .more hu ?_⟩
    have hv : validF n.f = true := by
      have hg := validG_node hG i hi
      unfold goodNode at hg
      rw [getD_of hn] at hg
      dsimp only at hg
      rw [if_neg h0] at hg
      split at hg
      · simp only [Bool.and_eq_true] at hg; exact hg.1
      · cases hg
    rw [getD_of hn]
    unfold depAt at hx
    rw [getD_of hn, if_neg h0] at hx
    unfold runF at hx
    dsimp only at hx
    obtain ⟨p, hp, h1, h2⟩ := reck_mem n.f (mean g a) n.f.length _ _ ((mem_firstOnly _ _).1 hx)
    rw [← h2]
    exact mem_mayRead hv hp h1
/-- what must run after a write is among what may run -/
theorem must_may {g : Graph} {st : Eager} {nodes values : List Int} (h : mayWrite g st nodes values = true) : ∀ x ∈ mustOr g (cellsOf g st.vals) (writtenL (cellsOf g st.vals) nodes values), x ∈ mayRunL g nodes := by
  obtain ⟨hV, hcd, hlen, hx⟩ := mayWrite_parts h
  obtain ⟨hG, hvl, _, _, _⟩ := validE_parts hV
  have hin := nodes_in hcd
  have hpos : ∀ x ∈ nodes, 0 ≤ x := fun x hx => by obtain ⟨j, _, rfl, _⟩ := hin x hx; omega
  intro x hx
  unfold mustOr at hx
  split at hx
  · rw [mem_whichL] at hx
    obtain ⟨i, rfl, hi, hm⟩ := hx
    obtain ⟨j, hj, hjd, hu⟩ := must_use hG hi hm
    have hjn : (j : Int) ∈ nodes := by
      apply Classical.byContradiction
      intro hno
      apply hjd
      rw [← writtenTo_all _ _ _ hlen, writtenTo_keep _ _ _ _ _ hpos (fun e => hno (List.mem_of_mem_take e))]
    unfold mayRunL
    rw [hG, hcd]
    simp only [Bool.and_self, if_true]
    rw [mem_whichL]
    refine ⟨i, rfl, hi, ?_⟩
    unfold mayAt
    unfold mustAt at hm
    simp only [Bool.and_eq_true] at hm
    rw [hm.1, Bool.true_and, List.any_eq_true]
    exact ⟨j, hjn, by rw [Int.toNat_natCast]; exact useB_iff.2 hu⟩
  · cases hx
/-- it ascends -/
theorem whichL_asc (p : Nat → Bool) (k : Nat) : ∀ (i : Nat) (x y : Int), (whichL p k)[i]? = some x → (whichL p k)[i + 1]? = some y → x < y := by
  have hp : List.Pairwise (· < ·) (whichL p k) := by
    unfold whichL
    rw [List.pairwise_map]
    exact (List.Pairwise.filter _ List.pairwise_lt_range).imp fun h => by simpa using h
  intro i x y hx hy
  obtain ⟨h1, rfl⟩ := List.getElem?_eq_some_iff.1 hx
  obtain ⟨h2, rfl⟩ := List.getElem?_eq_some_iff.1 hy
  exact List.pairwise_iff_getElem.1 hp i (i + 1) h1 h2 (by omega)
end Sg
