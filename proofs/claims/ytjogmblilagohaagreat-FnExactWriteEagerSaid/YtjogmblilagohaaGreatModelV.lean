/- The plain law of the eager machine's states: valid ones are those that mean something. Conditions: none. -/
import Derived.Test.YtjogmblilagohaaGreatModelC
namespace Sg
theorem validE_parts {g : Graph} {st : Eager} (h : validE g st = true) : validG g = true ∧ st.vals.length = g.length ∧ st.reads.length = g.length ∧ inR999 st.vals = true ∧ ∀ i, i < g.length → rightAt g st.vals st.reads i = true := by
  unfold validE at h
  simp only [Bool.and_eq_true, decide_eq_true_eq, List.all_eq_true, List.mem_range] at h
  exact ⟨h.1.1.1.1, h.1.1.1.2, h.1.1.2, h.1.2, h.2⟩
theorem validE_mk {g : Graph} {st : Eager} (h : validG g = true ∧ st.vals.length = g.length ∧ st.reads.length = g.length ∧ inR999 st.vals = true ∧ ∀ i, i < g.length → rightAt g st.vals st.reads i = true) : validE g st = true := by
  unfold validE
  simp only [Bool.and_eq_true, decide_eq_true_eq, List.all_eq_true, List.mem_range]
  exact ⟨⟨⟨⟨h.1, h.2.1⟩, h.2.2.1⟩, h.2.2.2.1⟩, h.2.2.2.2⟩
theorem getD_of {α : Type} [Inhabited α] {l : List α} {i : Nat} {x : α} (h : l[i]? = some x) (d : α) : l.getD i d = x := by simp [h]
theorem rightAt_run {g : Graph} {v : List Int} {r : List (List Int)} {i : Nat} {n : Node} (hn : g[i]? = some n) (h0 : n.kind ≠ 0) (h : rightAt g v r i = true) : runF n.f v = (v.getD i 0, r.getD i []) := by
  unfold rightAt at h
  rw [getD_of hn] at h
  dsimp only at h
  rw [if_neg h0] at h
  simp only [Bool.and_eq_true, decide_eq_true_eq] at h
  exact Prod.ext h.1 h.2
theorem rightAt_cell {g : Graph} {v : List Int} {r : List (List Int)} {i : Nat} {n : Node} (hn : g[i]? = some n) (h0 : n.kind = 0) (h : rightAt g v r i = true) : r.getD i [] = [] := by
  unfold rightAt at h
  rw [getD_of hn] at h
  dsimp only at h
  rw [if_pos h0] at h
  simpa using h
theorem rightAt_mk {g : Graph} {v : List Int} {r : List (List Int)} {i : Nat} {n : Node} (hn : g[i]? = some n) (h0 : n.kind = 0 → r.getD i [] = []) (h1 : n.kind ≠ 0 → runF n.f v = (v.getD i 0, r.getD i [])) : rightAt g v r i = true := by
  unfold rightAt
  rw [getD_of hn]
  dsimp only
  by_cases hk : n.kind = 0
  · rw [if_pos hk, h0 hk]; rfl
  · rw [if_neg hk, h1 hk]; simp
theorem mean_atN {g : Graph} (cells : List Int) {k : Nat} {n : Node} (hn : g[k]? = some n) : (mean g cells).getD k 0 = if n.kind = 0 then cells.getD k 0 else (runF n.f (meanTo g cells k)).1 := by
  have hk := (List.getElem?_eq_some_iff.1 hn).1
  have h1 := meanTo_getD g cells (k + 1) g.length k hk (by omega)
  unfold mean
  rw [h1]
  show (meanTo g cells k ++ [valAt g cells (meanTo g cells k) k]).getD k 0 = _
  rw [List.getD_eq_getElem?_getD, List.getElem?_append_right (by simp)]
  simp only [length_meanTo, Nat.sub_self, List.getElem?_cons_zero, Option.getD_some]
  unfold valAt
  rw [getD_of hn]
theorem inR999_of {l : List Int} (h : inRange l) : inR999 l = true := by
  unfold inR999
  rw [List.all_eq_true]
  intro x hx
  have := h x hx
  simp [inR]
  omega
theorem ext0 {a b : List Int} (hl : a.length = b.length) (h : ∀ i, i < a.length → a.getD i 0 = b.getD i 0) : a = b := by
  refine List.ext_getElem hl fun i h1 h2 => ?_
  have := h i h1
  rw [List.getD_eq_getElem?_getD, List.getD_eq_getElem?_getD, List.getElem?_eq_getElem h1, List.getElem?_eq_getElem h2] at this
  exact this
theorem start_validE {g : Graph} {l : List Int} (hG : validG g = true) (hC : validC g l = true) : validE g (startE g l) = true := by
  refine validE_mk ⟨hG, by simp [startE], by simp [startE], inR999_of (meanTo_range hG hC g.length (Nat.le_refl _)), fun i hi => ?_⟩
  obtain ⟨n, hn⟩ : ∃ n, g[i]? = some n := ⟨_, List.getElem?_eq_getElem hi⟩
  have hd : (depsTo g (mean g l) g.length).getD i [] = depAt g (mean g l) i := by unfold depsTo; simp [hi]
  refine rightAt_mk hn (fun h0 => ?_) (fun h0 => ?_)
  · show (depsTo g (mean g l) g.length).getD i [] = []
    rw [hd]; unfold depAt; rw [getD_of hn, if_pos h0]
  · show runF n.f (mean g l) = ((mean g l).getD i 0, (depsTo g (mean g l) g.length).getD i [])
    rw [hd]
    unfold depAt
    rw [getD_of hn, if_neg h0, mean_atN l hn, if_neg h0, mean_dep hG hn h0]
theorem validC_cell {g : Graph} {l : List Int} (hC : validC g l = true) {i : Nat} {n : Node} (hn : g[i]? = some n) (h0 : n.kind ≠ 0) : l.getD i 0 = 0 := by
  have hl := validC_len hC
  have hi := (List.getElem?_eq_some_iff.1 hn).1
  unfold validC at hC
  simp only [Bool.and_eq_true, List.all_eq_true, List.mem_range] at hC
  have := hC.2 i (by omega)
  unfold cellOk kindAt at this
  rw [Int.toNat_natCast, getD_of hn] at this
  simp only [Bool.and_eq_true, Bool.or_eq_true, decide_eq_true_eq] at this
  rcases this.2 with h | h
  · exact absurd h h0
  · exact h
theorem start_cells {g : Graph} {l : List Int} (hC : validC g l = true) : cellsOf g (mean g l) = l := by
  have hl := validC_len hC
  refine ext0 (by simp [hl]) fun i hi => ?_
  rw [length_cellsOf, length_mean] at hi
  obtain ⟨n, hn⟩ : ∃ n, g[i]? = some n := ⟨_, List.getElem?_eq_getElem hi⟩
  rw [cellsOf_at g _ i (by simpa using hi), getD_of hn]
  by_cases h0 : n.kind = 0
  · rw [if_neg (by simpa using h0), mean_atN l hn, if_pos h0]
  · rw [if_pos h0, validC_cell hC hn h0]
theorem validC_mk {g : Graph} {l : List Int} (hl : l.length = g.length) (h : ∀ i n, g[i]? = some n → (0 ≤ l.getD i 0 ∧ l.getD i 0 ≤ 999) ∧ (n.kind ≠ 0 → l.getD i 0 = 0)) : validC g l = true := by
  unfold validC
  simp only [Bool.and_eq_true, decide_eq_true_eq, List.all_eq_true, List.mem_range]
  refine ⟨hl, fun i hi => ?_⟩
  obtain ⟨n, hn⟩ : ∃ n, g[i]? = some n := ⟨_, List.getElem?_eq_getElem (by omega)⟩
  have := h i n hn
  unfold cellOk kindAt inR
  rw [Int.toNat_natCast, getD_of hn]
  simp only [Bool.and_eq_true, Bool.or_eq_true, decide_eq_true_eq]
  refine ⟨this.1, ?_⟩
  by_cases h0 : n.kind = 0
  · exact .inl h0
  · exact .inr (this.2 h0)
theorem inR999_at {l : List Int} (h : inR999 l = true) {i : Nat} (hi : i < l.length) : 0 ≤ l.getD i 0 ∧ l.getD i 0 ≤ 999 := by
  rw [List.getD_eq_getElem?_getD, List.getElem?_eq_getElem hi]
  exact inR999_range h _ (List.getElem_mem hi)
theorem validE_cells {g : Graph} {st : Eager} (h : validE g st = true) : validC g (cellsOf g st.vals) = true := by
  obtain ⟨hG, hv, hr, hn, hR⟩ := validE_parts h
  refine validC_mk (by simp [hv]) fun i n hi => ?_
  have hil := (List.getElem?_eq_some_iff.1 hi).1
  rw [cellsOf_at g _ i (by omega), getD_of hi]
  have := inR999_at hn (i := i) (by omega)
  by_cases h0 : n.kind = 0
  · rw [if_neg (by simpa using h0)]; exact ⟨this, fun h => absurd h0 h⟩
  · rw [if_pos h0]; exact ⟨by omega, fun _ => rfl⟩
theorem validE_meanTo {g : Graph} {st : Eager} (h : validE g st = true) (k : Nat) (hk : k ≤ g.length) : meanTo g (cellsOf g st.vals) k = st.vals.take k := by
  obtain ⟨hG, hv, hr, hn, hR⟩ := validE_parts h
  induction k with
  | zero => simp [meanTo]
  | succ k ih =>
    have ih := ih (by omega)
    obtain ⟨n, hi⟩ : ∃ n, g[k]? = some n := ⟨_, List.getElem?_eq_getElem (by omega)⟩
    show meanTo g (cellsOf g st.vals) k ++ [valAt g (cellsOf g st.vals) (meanTo g (cellsOf g st.vals) k) k] = _
    have hkv : k < st.vals.length := by omega
    rw [ih, List.take_succ_eq_append_getElem hkv]
    congr 2
    unfold valAt
    rw [getD_of hi]
    have hx : st.vals.getD k 0 = st.vals[k] := by rw [List.getD_eq_getElem?_getD, List.getElem?_eq_getElem hkv]; rfl
    by_cases h0 : n.kind = 0
    · rw [if_pos h0, cellsOf_at g _ k hkv, getD_of hi, if_neg (by simpa using h0), hx]
    · rw [if_neg h0, runF_congr (validG_fok hG k hi h0) (b := st.vals) (fun j hj => by
        rw [List.getD_eq_getElem?_getD, List.getD_eq_getElem?_getD, List.getElem?_take_of_lt hj]), rightAt_run hi h0 (hR k (by omega))]
      exact hx
theorem validE_mean {g : Graph} {st : Eager} (h : validE g st = true) : mean g (cellsOf g st.vals) = st.vals := by
  have := validE_meanTo h g.length (Nat.le_refl _)
  unfold mean
  rw [this, ← (validE_parts h).2.1, List.take_length]
theorem validE_start {g : Graph} {st : Eager} (h : validE g st = true) : startE g (cellsOf g st.vals) = st := by
  obtain ⟨hG, hv, hr, hn, hR⟩ := validE_parts h
  obtain ⟨vals, reads⟩ := st
  unfold startE
  rw [validE_mean h]
  congr 1
  refine List.ext_getElem (by simpa using hr.symm) fun i h1 h2 => ?_
  rw [length_depsTo] at h1
  obtain ⟨n, hi⟩ : ∃ n, g[i]? = some n := ⟨_, List.getElem?_eq_getElem h1⟩
  have hd : reads.getD i [] = reads[i] := by rw [List.getD_eq_getElem?_getD, List.getElem?_eq_getElem h2]; rfl
  simp only [depsTo, List.getElem_map, List.getElem_range]
  unfold depAt
  rw [getD_of hi, ← hd]
  by_cases h0 : n.kind = 0
  · rw [if_pos h0, rightAt_cell hi h0 (hR i h1)]
  · rw [if_neg h0, rightAt_run hi h0 (hR i h1)]
end Sg
