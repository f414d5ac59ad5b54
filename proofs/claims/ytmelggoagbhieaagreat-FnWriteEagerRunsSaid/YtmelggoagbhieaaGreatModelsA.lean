/- Parts of one proof, joined. The plain model of what must run, and of chosen nodes: no program in sight. Conditions: none. The plain model of the lazy machine's states: no program in sight. Conditions: none. The plain model of the cells of states: no program in sight. Conditions: none. The plain model of what is stale, and of the cells of lazy states: no program in sight. Conditions: none. The plain model of doubt, and of what a write spoils: no program in sight. Conditions: none. The plain law of the eager machine's states: valid ones are those that mean something. Conditions: none. The plain model of eager writes: no program in sight. Conditions: none. -/
import Derived.Test.YtmelggoagbhieaaGreatCore
/- The plain model of what must run, and of chosen nodes: no program in sight. Conditions: none. -/
namespace Sg
/-- the numbers below k for which p holds -/
def whichL (p : Nat → Bool) (k : Nat) : List Int := ((List.range k).filter p).map Int.ofNat
theorem whichL_succ (p : Nat → Bool) (k : Nat) : whichL p (k + 1) = if p k = true then whichL p k ++ [(k : Int)] else whichL p k := by
  unfold whichL
  rw [List.range_succ, List.filter_append, List.map_append]
  by_cases h : p k = true
  · rw [if_pos h]; simp [h]
  · rw [if_neg h]; simp [h]
theorem whichL_len (p : Nat → Bool) (k : Nat) : (whichL p k).length ≤ k := by
  unfold whichL
  have := List.length_filter_le p (List.range k)
  simpa using this
theorem mem_whichL {p : Nat → Bool} {k : Nat} {n : Int} : n ∈ whichL p k ↔ ∃ i : Nat, n = i ∧ i < k ∧ p i = true := by
  unfold whichL
  rw [List.mem_map]
  constructor
  · rintro ⟨i, hi, rfl⟩
    rw [List.mem_filter, List.mem_range] at hi
    exact ⟨i, rfl, hi.1, hi.2⟩
  · rintro ⟨i, rfl, h1, h2⟩
    exact ⟨i, List.mem_filter.2 ⟨List.mem_range.2 h1, h2⟩, rfl⟩
/-- lists with a number in common -/
def meets (a b : List Int) : Bool := a.any fun x => decide (x ∈ b)
theorem mem_foldl_once (l out : List Int) (x : Int) : x ∈ l.foldl once out ↔ x ∈ out ∨ x ∈ l := by
  induction l generalizing out with
  | nil => simp
  | cons y l ih =>
    rw [List.foldl_cons, ih, List.mem_cons]
    unfold once
    split
    · rename_i h
      constructor
      · rintro (h1 | h1)
        · exact .inl h1
        · exact .inr (.inr h1)
      · rintro (h1 | rfl | h1)
        · exact .inl h1
        · exact .inl h
        · exact .inr h1
    · rw [List.mem_append, List.mem_singleton, or_assoc]
theorem mem_firstOnly (l : List Int) (x : Int) : x ∈ firstOnly l ↔ x ∈ l := by
  unfold firstOnly
  rw [mem_foldl_once]
  simp
/-- what is read is read by some part -/
theorem reck_mem (f : List Part) (v : List Int) (m : Nat) (i : Int) (x : Int) (h : x ∈ (reck f v m i).2) : ∃ p ∈ f, p.kind = 1 ∧ p.n = x := by
  induction m generalizing i with
  | zero => simp [reck] at h
  | succ m ih =>
    simp only [reck] at h
    by_cases h0 : (f.getD i.toNat default).kind = 0
    · rw [if_pos h0] at h; cases h
    · rw [if_neg h0] at h
      by_cases h1 : (f.getD i.toNat default).kind = 1
      · rw [if_pos h1] at h
        simp only [List.mem_singleton] at h
        exact ⟨_, getD_mem h1, h1, h.symm⟩
      · rw [if_neg h1] at h
        split at h
        · rcases List.mem_append.1 h with h | h
          · exact ih _ h
          · exact ih _ h
        · rcases List.mem_append.1 h with h | h
          · exact ih _ h
          · exact ih _ h
theorem reck_same (f : List Part) (a b : List Int) (m : Nat) (i : Int) (h : ∀ x ∈ (reck f a m i).2, rd a x = rd b x) : reck f a m i = reck f b m i := by
  induction m generalizing i with
  | zero => rfl
  | succ m ih =>
    simp only [reck] at h ⊢
    by_cases h0 : (f.getD i.toNat default).kind = 0
    · rw [if_pos h0, if_pos h0]
    · rw [if_neg h0] at h
      rw [if_neg h0, if_neg h0]
      by_cases h1 : (f.getD i.toNat default).kind = 1
      · rw [if_pos h1] at h
        rw [if_pos h1, if_pos h1, h _ (List.mem_singleton.2 rfl)]
      · rw [if_neg h1] at h
        rw [if_neg h1, if_neg h1]
        by_cases h8 : (f.getD i.toNat default).kind = 8
        · rw [if_pos h8] at h
          rw [if_pos h8, if_pos h8]
          have e1 := ih (f.getD i.toNat default).a (fun x hx => h x (List.mem_append.2 (.inl hx)))
          rw [← e1]
          have e2 := ih _ (fun x hx => h x (List.mem_append.2 (.inr hx)))
          rw [← e2]
        · rw [if_neg h8] at h
          rw [if_neg h8, if_neg h8]
          have e1 := ih (f.getD i.toNat default).a (fun x hx => h x (List.mem_append.2 (.inl hx)))
          have e2 := ih (f.getD i.toNat default).b (fun x hx => h x (List.mem_append.2 (.inr hx)))
          rw [← e1, ← e2]
theorem runF_same {f : List Part} {a b : List Int} (h : ∀ x ∈ (runF f a).2, rd a x = rd b x) : runF f a = runF f b := by
  unfold runF at h ⊢
  have := reck_same f a b _ _ (fun x hx => h x ((mem_firstOnly _ _).2 hx))
  rw [this]
theorem depAt_mem {g : Graph} (hg : validG g = true) {v : List Int} {i : Nat} {x : Int} (hi : i < g.length) (h : x ∈ depAt g v i) : 0 ≤ x ∧ x < i := by
  unfold depAt at h
  have hn : g[i]? = some g[i] := List.getElem?_eq_getElem hi
  have hd : g.getD i default = g[i] := by simp [hn]
  rw [hd] at h
  by_cases h0 : g[i].kind = 0
  · rw [if_pos h0] at h; cases h
  · rw [if_neg h0] at h
    unfold runF at h
    obtain ⟨p, hp, h1, rfl⟩ := reck_mem _ _ _ _ _ ((mem_firstOnly _ _).1 h)
    exact (validG_fok hg i hn h0).read0 p hp h1
def mustAt (g : Graph) (x y : List Int) (i : Nat) : Bool := (kindAt g (i : Int) != 0) && ((x.getD i 0 != y.getD i 0) || (depAt g x i).any fun n => rd x n != rd y n)
theorem mean_at {g : Graph} (cells : List Int) {i : Nat} {n : Node} (hn : g[i]? = some n) : (mean g cells).getD i 0 = valAt g cells (meanTo g cells i) i := by
  have hi : i < g.length := (List.getElem?_eq_some_iff.1 hn).1
  unfold mean
  rw [meanTo_getD g cells (i + 1) _ i (by omega) (by omega)]
  simp [meanTo, List.getD_eq_getElem?_getD]
theorem mean_form {g : Graph} {cells : List Int} (hg : validG g = true) {i : Nat} {n : Node} (hn : g[i]? = some n) (h0 : n.kind ≠ 0) : (mean g cells).getD i 0 = (runF n.f (mean g cells)).1 := by
  rw [mean_at cells hn, mean_dep hg hn h0]
  unfold valAt
  have hd : g.getD i default = n := by simp [hn]
  rw [hd, if_neg h0]
def mustOr (g : Graph) (a b : List Int) : List Int := if (validG g && validC g a && validC g b) = true then whichL (mustAt g (mean g a) (mean g b)) g.length else []
end Sg

/- The plain model of the lazy machine's states: no program in sight. Conditions: none. -/
namespace Sg
end Sg

/- The plain model of the cells of states: no program in sight. Conditions: none. -/
namespace Sg
/-- values, with 0 for the first k nodes that are no cells -/
def cellsTo (g : Graph) (v : List Int) (k : Nat) : List Int := (List.range v.length).map fun i => if i < k ∧ (g.getD i default).kind ≠ 0 then 0 else v.getD i 0
def cellsOf (g : Graph) (v : List Int) : List Int := cellsTo g v v.length
def cellsE (g : Graph) (st : Eager) : List Int := if validE g st = true then cellsOf g st.vals else []
@[simp] theorem length_cellsTo (g : Graph) (v : List Int) (k : Nat) : (cellsTo g v k).length = v.length := by simp [cellsTo]
@[simp] theorem length_cellsOf (g : Graph) (v : List Int) : (cellsOf g v).length = v.length := by simp [cellsOf]
theorem cellsTo_zero (g : Graph) (v : List Int) : cellsTo g v 0 = v := by
  refine List.ext_getElem (by simp) fun i h1 h2 => ?_
  simp [cellsTo, h2]
theorem cellsTo_keep (g : Graph) (v : List Int) (k : Nat) {n : Node} (hn : g[k]? = some n) (h : n.kind = 0) : cellsTo g v (k + 1) = cellsTo g v k := by
  refine List.ext_getElem (by simp) fun i h1 h2 => ?_
  simp only [cellsTo, List.getElem_map, List.getElem_range]
  by_cases hi : i = k
  · subst hi
    have : (g.getD i default).kind = 0 := by simp [hn, h]
    rw [if_neg (fun h => h.2 this), if_neg (fun h => h.2 this)]
  · have : i < k + 1 ↔ i < k := by omega
    simp only [this]
theorem cellsTo_zap (g : Graph) (v : List Int) (k : Nat) {n : Node} (hn : g[k]? = some n) (h : n.kind ≠ 0) : cellsTo g v (k + 1) = (cellsTo g v k).set k 0 := by
  refine List.ext_getElem (by simp) fun i h1 h2 => ?_
  rw [List.getElem_set]
  simp only [cellsTo, List.getElem_map, List.getElem_range]
  by_cases hi : k = i
  · subst hi
    have : (g.getD k default).kind ≠ 0 := by simpa [hn] using h
    rw [if_pos rfl, if_pos ⟨by omega, this⟩]
  · rw [if_neg hi]
    have : i < k + 1 ↔ i < k := by omega
    simp only [this]
theorem cellsOf_at (g : Graph) (v : List Int) (i : Nat) (h : i < v.length) : (cellsOf g v).getD i 0 = if (g.getD i default).kind ≠ 0 then 0 else v.getD i 0 := by
  have h' : i < (cellsOf g v).length := by simpa using h
  rw [List.getD_eq_getElem?_getD, List.getElem?_eq_getElem h']
  simp only [cellsOf, cellsTo, List.getElem_map, List.getElem_range, Option.getD_some, h, true_and]
end Sg

/- The plain model of what is stale, and of the cells of lazy states: no program in sight. Conditions: none. -/
namespace Sg
end Sg

/- The plain model of doubt, and of what a write spoils: no program in sight. Conditions: none. -/
namespace Sg
/-- a way of reads leads from n to i -/
inductive Way (r : List (List Int)) (n : Nat) : Nat → Prop
  | one {i : Nat} : (n : Int) ∈ r.getD i [] → Way r n i
  | more {m i : Nat} : Way r n m → (m : Int) ∈ r.getD i [] → Way r n i
theorem Way.front {r : List (List Int)} {n m i : Nat} (h : (n : Int) ∈ r.getD m []) (k : Way r m i) : Way r n i := by
  induction k with
  | one h1 => exact .more (.one h) h1
  | more _ h1 ih => exact .more ih h1
theorem Way.split {r : List (List Int)} {n i : Nat} (h : Way r n i) : (n : Int) ∈ r.getD i [] ∨ ∃ m : Nat, (n : Int) ∈ r.getD m [] ∧ Way r m i := by
  induction h with
  | one h => exact .inl h
  | more _ h2 ih =>
    rcases ih with h | ⟨m, h, k⟩
    · exact .inr ⟨_, h, .one h2⟩
    · exact .inr ⟨m, h, .more k h2⟩
theorem Way.last {r : List (List Int)} {n i : Nat} (h : Way r n i) : (n : Int) ∈ r.getD i [] ∨ ∃ m : Nat, Way r n m ∧ (m : Int) ∈ r.getD i [] := by
  cases h with
  | one h => exact .inl h
  | more h k => exact .inr ⟨_, h, k⟩
/-- what is read lies ahead -/
def Ahead (r : List (List Int)) : Prop := ∀ (k : Nat), ∀ x ∈ r.getD k [], 0 ≤ x ∧ x < (k : Int)
theorem Way.lt {r : List (List Int)} {n i : Nat} (hA : Ahead r) (h : Way r n i) : n < i := by
  induction h with
  | one h => have := (hA _ _ h).2; omega
  | more _ h ih => have := (hA _ _ h).2; omega
theorem mem_getD_lt {r : List (List Int)} {i : Nat} {x : Int} (h : x ∈ r.getD i []) : i < r.length := by
  apply Decidable.byContradiction
  intro hh
  rw [List.getD_eq_getElem?_getD, List.getElem?_eq_none (by omega)] at h
  cases h
theorem Way.len {r : List (List Int)} {n i : Nat} (h : Way r n i) : i < r.length := by
  cases h with
  | one h => exact mem_getD_lt h
  | more _ h => exact mem_getD_lt h
open Classical in
/-- marked nodes that were clean are to be checked -/
noncomputable def markC (M : Nat → Prop) (c : List Int) : List Int := c.mapIdx fun i x => if M i ∧ x = 0 then 1 else x
@[simp] theorem length_markC (M : Nat → Prop) (c : List Int) : (markC M c).length = c.length := by simp [markC]
/-- above n, what marked nodes lead to is marked -/
def Closed (r : List (List Int)) (n : Nat) (M : Nat → Prop) : Prop := ∀ j i : Nat, M j → n < j → (j : Int) ∈ r.getD i [] → M i
theorem Closed.way {r : List (List Int)} {n j i : Nat} {M : Nat → Prop} (h : Closed r n M) (hA : Ahead r) (hj : M j) (hn : n < j) (w : Way r j i) : M i := by
  induction w with
  | one h1 => exact h _ _ hj hn h1
  | more w1 h1 ih => exact h _ _ ih (by have := w1.lt hA; omega) h1
/-- what is doubted -/
noncomputable def doubtC (r : List (List Int)) (c : List Int) (n : Nat) : List Int := markC (Way r n) c
@[simp] theorem length_doubtC (r : List (List Int)) (c : List Int) (n : Nat) : (doubtC r c n).length = c.length := by simp [doubtC]
open Classical in
/-- what a write spoils, up to node k; d: the readers of n are dirty -/
noncomputable def spoilTo (d : Bool) (r : List (List Int)) (c : List Int) (n k : Nat) : List Int := c.mapIdx fun i x => if i < k ∧ Way r n i then (if d = true ∧ (n : Int) ∈ r.getD i [] then 2 else if x = 0 then 1 else x) else x
@[simp] theorem length_spoilTo (d : Bool) (r : List (List Int)) (c : List Int) (n k : Nat) : (spoilTo d r c n k).length = c.length := by simp [spoilTo]
noncomputable def spoilC (r : List (List Int)) (c : List Int) (n : Nat) : List Int := spoilTo true r c n c.length
@[simp] theorem length_spoilC (r : List (List Int)) (c : List Int) (n : Nat) : (spoilC r c n).length = c.length := by simp [spoilC]
open Classical in
/-- the first readers of a list are dirty -/
noncomputable def dirtyL (l : List Int) (c : List Int) : List Int := c.mapIdx fun i x => if (i : Int) ∈ l then 2 else x
@[simp] theorem length_dirtyL (l c : List Int) : (dirtyL l c).length = c.length := by simp [dirtyL]
end Sg

/- The plain law of the eager machine's states: valid ones are those that mean something. Conditions: none. -/
namespace Sg
theorem validE_parts {g : Graph} {st : Eager} (h : validE g st = true) : validG g = true ∧ st.vals.length = g.length ∧ st.reads.length = g.length ∧ inR999 st.vals = true ∧ ∀ i, i < g.length → rightAt g st.vals st.reads i = true := by
  unfold validE at h
  simp only [Bool.and_eq_true, decide_eq_true_eq, List.all_eq_true, List.mem_range] at h
  exact ⟨h.1.1.1.1, h.1.1.1.2, h.1.1.2, h.1.2, h.2⟩
theorem getD_of {α : Type} [Inhabited α] {l : List α} {i : Nat} {x : α} (h : l[i]? = some x) (d : α) : l.getD i d = x := by simp [h]
theorem rightAt_run {g : Graph} {v : List Int} {r : List (List Int)} {i : Nat} {n : Node} (hn : g[i]? = some n) (h0 : n.kind ≠ 0) (h : rightAt g v r i = true) : runF n.f v = (v.getD i 0, r.getD i []) := by
  unfold rightAt at h
  rw [getD_of hn] at h
  dsimp only at h
  rw [if_neg h0] at h
  simp only [Bool.and_eq_true, decide_eq_true_eq] at h
  exact Prod.ext h.1 h.2
theorem rightAt_cell {g : Graph} {v : List Int} {r : List (List Int)} {i : Nat} {n : Node} (hn : g[i]? = some n) (h0 : n.kind = 0) (h : rightAt g v r i = true) : r.getD i [] = [] := by
  unfold rightAt at h
  rw [getD_of hn] at h
  dsimp only at h
  rw [if_pos h0] at h
  simpa using h
theorem mean_atN {g : Graph} (cells : List Int) {k : Nat} {n : Node} (hn : g[k]? = some n) : (mean g cells).getD k 0 = if n.kind = 0 then cells.getD k 0 else (runF n.f (meanTo g cells k)).1 := by
  have hk := (List.getElem?_eq_some_iff.1 hn).1
  have h1 := meanTo_getD g cells (k + 1) g.length k hk (by omega)
  unfold mean
  rw [h1]
  show (meanTo g cells k ++ [valAt g cells (meanTo g cells k) k]).getD k 0 = _
  rw [List.getD_eq_getElem?_getD, List.getElem?_append_right (by simp)]
  simp only [length_meanTo, Nat.sub_self, List.getElem?_cons_zero, Option.getD_some]
  unfold valAt
  rw [getD_of hn]
theorem ext0 {a b : List Int} (hl : a.length = b.length) (h : ∀ i, i < a.length → a.getD i 0 = b.getD i 0) : a = b := by
  refine List.ext_getElem hl fun i h1 h2 => ?_
  have := h i h1
  rw [List.getD_eq_getElem?_getD, List.getD_eq_getElem?_getD, List.getElem?_eq_getElem h1, List.getElem?_eq_getElem h2] at this
  exact this
theorem validC_cell {g : Graph} {l : List Int} (hC : validC g l = true) {i : Nat} {n : Node} (hn : g[i]? = some n) (h0 : n.kind ≠ 0) : l.getD i 0 = 0 := by
  have hl := validC_len hC
  have hi := (List.getElem?_eq_some_iff.1 hn).1
  unfold validC at hC
  simp only [Bool.and_eq_true, List.all_eq_true, List.mem_range] at hC
  have := hC.2 i (by omega)
  unfold cellOk kindAt at this
  rw [Int.toNat_natCast, getD_of hn] at this
  simp only [Bool.and_eq_true, Bool.or_eq_true, decide_eq_true_eq] at this
  rcases this.2 with h | h
  · exact absurd h h0
  · exact h
theorem validC_mk {g : Graph} {l : List Int} (hl : l.length = g.length) (h : ∀ i n, g[i]? = some n → (0 ≤ l.getD i 0 ∧ l.getD i 0 ≤ 999) ∧ (n.kind ≠ 0 → l.getD i 0 = 0)) : validC g l = true := by
  unfold validC
  simp only [Bool.and_eq_true, decide_eq_true_eq, List.all_eq_true, List.mem_range]
  refine ⟨hl, fun i hi => ?_⟩
  obtain ⟨n, hn⟩ : ∃ n, g[i]? = some n := ⟨_, List.getElem?_eq_getElem (by omega)⟩
  have := h i n hn
  unfold cellOk kindAt inR
  rw [Int.toNat_natCast, getD_of hn]
  simp only [Bool.and_eq_true, Bool.or_eq_true, decide_eq_true_eq]
  refine ⟨this.1, ?_⟩
  by_cases h0 : n.kind = 0
  · exact .inl h0
  · exact .inr (this.2 h0)
theorem inR999_at {l : List Int} (h : inR999 l = true) {i : Nat} (hi : i < l.length) : 0 ≤ l.getD i 0 ∧ l.getD i 0 ≤ 999 := by
  rw [List.getD_eq_getElem?_getD, List.getElem?_eq_getElem hi]
  exact inR999_range h _ (List.getElem_mem hi)
theorem validE_cells {g : Graph} {st : Eager} (h : validE g st = true) : validC g (cellsOf g st.vals) = true := by
  obtain ⟨hG, hv, hr, hn, hR⟩ := validE_parts h
  refine validC_mk (by simp [hv]) fun i n hi => ?_
  have hil := (List.getElem?_eq_some_iff.1 hi).1
  rw [cellsOf_at g _ i (by omega), getD_of hi]
  have := inR999_at hn (i := i) (by omega)
  by_cases h0 : n.kind = 0
  · rw [if_neg (by simpa using h0)]; exact ⟨this, fun h => absurd h0 h⟩
  · rw [if_pos h0]; exact ⟨by omega, fun _ => rfl⟩
theorem validE_meanTo {g : Graph} {st : Eager} (h : validE g st = true) (k : Nat) (hk : k ≤ g.length) : meanTo g (cellsOf g st.vals) k = st.vals.take k := by
  obtain ⟨hG, hv, hr, hn, hR⟩ := validE_parts h
  induction k with
  | zero => simp [meanTo]
  | succ k ih =>
    have ih := ih (by omega)
    obtain ⟨n, hi⟩ : ∃ n, g[k]? = some n := ⟨_, List.getElem?_eq_getElem (by omega)⟩
    show meanTo g (cellsOf g st.vals) k ++ [valAt g (cellsOf g st.vals) (meanTo g (cellsOf g st.vals) k) k] = _
    have hkv : k < st.vals.length := by omega
    rw [ih, List.take_succ_eq_append_getElem hkv]
    congr 2
    unfold valAt
    rw [getD_of hi]
    have hx : st.vals.getD k 0 = st.vals[k] := by rw [List.getD_eq_getElem?_getD, List.getElem?_eq_getElem hkv]; rfl
    by_cases h0 : n.kind = 0
    · rw [if_pos h0, cellsOf_at g _ k hkv, getD_of hi, if_neg (by simpa using h0), hx]
    · rw [if_neg h0, runF_congr (validG_fok hG k hi h0) (b := st.vals) (fun j hj => by
        rw [List.getD_eq_getElem?_getD, List.getD_eq_getElem?_getD, List.getElem?_take_of_lt hj]), rightAt_run hi h0 (hR k (by omega))]
      exact hx
theorem validE_mean {g : Graph} {st : Eager} (h : validE g st = true) : mean g (cellsOf g st.vals) = st.vals := by
  have := validE_meanTo h g.length (Nat.le_refl _)
  unfold mean
  rw [this, ← (validE_parts h).2.1, List.take_length]
end Sg

/- The plain model of eager writes: no program in sight. Conditions: none. -/
namespace Sg
/-- a state while it is written: values, reads, what changed, what ran -/
structure WrS where
  vals : List Int
  reads : List (List Int)
  ch : List Bool
  ran : List Int
def wstep (s : List Int × List Bool) (n x : Int) : List Int × List Bool := (s.1.set n.toNat x, s.2.set n.toNat (s.1.getD n.toNat 0 != x))
def wcells (s : List Int × List Bool) (nodes values : List Int) (k : Nat) : List Int × List Bool := ((nodes.zip values).take k).foldl (fun s p => wstep s p.1 p.2) s
theorem wcells_succ (s : List Int × List Bool) (nodes values : List Int) (k : Nat) {n x : Int} (hn : nodes[k]? = some n) (hx : values[k]? = some x) : wcells s nodes values (k + 1) = wstep (wcells s nodes values k) n x := by
  unfold wcells
  have hz : (nodes.zip values)[k]? = some (n, x) := by rw [List.getElem?_zip_eq_some]; exact ⟨hn, hx⟩
  obtain ⟨hk, he⟩ := List.getElem?_eq_some_iff.1 hz
  rw [List.take_succ_eq_append_getElem hk, List.foldl_append, he]
  rfl
@[simp] theorem wcells_zero (s : List Int × List Bool) (nodes values : List Int) : wcells s nodes values 0 = s := rfl
@[simp] theorem wstep_len1 (s : List Int × List Bool) (n x : Int) : (wstep s n x).1.length = s.1.length := by simp [wstep]
@[simp] theorem wstep_len2 (s : List Int × List Bool) (n x : Int) : (wstep s n x).2.length = s.2.length := by simp [wstep]
theorem foldl_len (l : List (Int × Int)) (s : List Int × List Bool) : (l.foldl (fun s p => wstep s p.1 p.2) s).1.length = s.1.length ∧ (l.foldl (fun s p => wstep s p.1 p.2) s).2.length = s.2.length := by
  induction l generalizing s with
  | nil => exact ⟨rfl, rfl⟩
  | cons a l ih => rw [List.foldl_cons]; have := ih (wstep s a.1 a.2); simpa using this
@[simp] theorem wcells_len1 (s : List Int × List Bool) (nodes values : List Int) (k : Nat) : (wcells s nodes values k).1.length = s.1.length := (foldl_len _ _).1
@[simp] theorem wcells_len2 (s : List Int × List Bool) (nodes values : List Int) (k : Nat) : (wcells s nodes values k).2.length = s.2.length := (foldl_len _ _).2
def hit (s : WrS) (l : List Int) : Bool := l.any fun k => s.ch.getD k.toNat false
def rstep (g : Graph) (s : WrS) (i : Nat) : WrS :=
  if ((g.getD i default).kind != 0 && hit s (s.reads.getD i [])) = true then
    ⟨s.vals.set i (runF (g.getD i default).f s.vals).1, s.reads.set i (runF (g.getD i default).f s.vals).2, s.ch.set i ((runF (g.getD i default).f s.vals).1 != s.vals.getD i 0), s.ran ++ [(i : Int)]⟩
  else s
def rsteps (g : Graph) (s : WrS) (k : Nat) : WrS := (List.range k).foldl (rstep g) s
@[simp] theorem rsteps_zero (g : Graph) (s : WrS) : rsteps g s 0 = s := rfl
theorem rsteps_succ (g : Graph) (s : WrS) (k : Nat) : rsteps g s (k + 1) = rstep g (rsteps g s k) k := by unfold rsteps; rw [List.range_succ, List.foldl_append]; rfl
def writeS (g : Graph) (st : Eager) (nodes values : List Int) : WrS :=
  rsteps g ⟨(wcells (st.vals, List.replicate g.length false) nodes values nodes.length).1, st.reads, (wcells (st.vals, List.replicate g.length false) nodes values nodes.length).2, []⟩ g.length
def writeE (g : Graph) (st : Eager) (nodes values : List Int) : Eager × List Int := (⟨(writeS g st nodes values).vals, (writeS g st nodes values).reads⟩, (writeS g st nodes values).ran)
def isCell (g : Graph) (n : Int) : Bool := inR n 0 ((g.length : Int) - 1) && decide (kindAt g n = 0)
def cellsDiffer (g : Graph) (nodes : List Int) : Bool := (List.range nodes.length).all fun k => isCell g (nodes.getD k 0) && decide (nodes.getD k 0 ∉ nodes.take k)
def mayWrite (g : Graph) (st : Eager) (nodes values : List Int) : Bool := validE g st && cellsDiffer g nodes && decide (nodes.length = values.length) && inR999 values
def writeOr (g : Graph) (st : Eager) (nodes values : List Int) : Eager × List Int := if mayWrite g st nodes values = true then writeE g st nodes values else (⟨[], []⟩, [])
/-- what holds of a state while it is written -/
structure WrOk (g : Graph) (s : WrS) : Prop where
  v : s.vals.length = g.length
  r : s.reads.length = g.length
  c : s.ch.length = g.length
  n : inRange s.vals
theorem WrOk.step {g : Graph} {s : WrS} (hG : validG g = true) (h : WrOk g s) (i : Nat) (hi : i < g.length) : WrOk g (rstep g s i) := by
  unfold rstep
  split
  · rename_i hc
    simp only [Bool.and_eq_true, bne_iff_ne] at hc
    refine ⟨by simp [h.v], by simp [h.r], by simp [h.c], ?_⟩
    intro x hx
    rcases List.mem_or_eq_of_mem_set hx with hx | rfl
    · exact h.n x hx
    · have hn : g[i]? = some g[i] := List.getElem?_eq_getElem hi
      have hd : g.getD i default = g[i] := by simp [hn]
      rw [hd] at hc ⊢
      exact runF_range (validG_fok hG i hn hc.1) h.n
  · exact h
theorem WrOk.steps {g : Graph} {s : WrS} (hG : validG g = true) (h : WrOk g s) (k : Nat) (hk : k ≤ g.length) : WrOk g (rsteps g s k) := by
  induction k with
  | zero => exact h
  | succ k ih => rw [rsteps_succ]; exact (ih (by omega)).step hG k (by omega)
theorem rstep_ran (g : Graph) (s : WrS) (i : Nat) : (rstep g s i).ran.length ≤ s.ran.length + 1 := by
  unfold rstep
  split <;> simp
theorem rsteps_ran (g : Graph) (s : WrS) (k : Nat) : (rsteps g s k).ran.length ≤ s.ran.length + k := by
  induction k with
  | zero => simp
  | succ k ih => rw [rsteps_succ]; have := rstep_ran g (rsteps g s k) k; omega
theorem wcells_range (v : List Int) (c : List Bool) (nodes values : List Int) (k : Nat) (hv : inRange v) (hx : inRange values) : inRange (wcells (v, c) nodes values k).1 := by
  unfold wcells
  have key : ∀ (l : List (Int × Int)) (s : List Int × List Bool), inRange s.1 → (∀ p ∈ l, 0 ≤ p.2 ∧ p.2 ≤ 999) → inRange (l.foldl (fun s p => wstep s p.1 p.2) s).1 := by
    intro l
    induction l with
    | nil => intro s hs _; exact hs
    | cons a l ih =>
      intro s hs hp
      rw [List.foldl_cons]
      refine ih _ ?_ (fun p hp' => hp p (by simp [hp']))
      intro x hx
      rcases List.mem_or_eq_of_mem_set hx with hx | rfl
      · exact hs x hx
      · exact hp a (by simp)
  refine key _ _ hv (fun p hp => ?_)
  have h1 := List.mem_of_mem_take hp
  exact hx p.2 (List.of_mem_zip h1).2
theorem isCell_at {g : Graph} {n : Int} (h : isCell g n = true) : ∃ (k : Nat) (x : Node), n = k ∧ g[k]? = some x ∧ x.kind = 0 := by
  unfold isCell inR kindAt at h
  simp only [Bool.and_eq_true, decide_eq_true_eq] at h
  obtain ⟨k, rfl⟩ := Int.eq_ofNat_of_zero_le h.1.1
  have hk : k < g.length := by omega
  have hn : g[k]? = some g[k] := List.getElem?_eq_getElem hk
  refine ⟨k, _, rfl, hn, ?_⟩
  have := h.2
  rw [Int.toNat_natCast] at this
  simpa [hn] using this
theorem cellsDiffer_at {g : Graph} {nodes : List Int} (h : cellsDiffer g nodes = true) {k : Nat} {n : Int} (hn : nodes[k]? = some n) : isCell g n = true ∧ n ∉ nodes.take k := by
  unfold cellsDiffer at h
  rw [List.all_eq_true] at h
  have := h k (List.mem_range.2 (List.getElem?_eq_some_iff.1 hn).1)
  simp only [Bool.and_eq_true, decide_eq_true_eq, List.getD_eq_getElem?_getD, hn, Option.getD_some] at this
  exact this
theorem cellsDiffer_nodup {g : Graph} {nodes : List Int} (h : cellsDiffer g nodes = true) : nodes.Nodup := by
  rw [List.nodup_iff_pairwise_ne, List.pairwise_iff_getElem]
  intro i j hi hj hij e
  have := (cellsDiffer_at h (List.getElem?_eq_getElem hj)).2
  rw [← e] at this
  refine this ?_
  rw [List.mem_take_iff_getElem]
  exact ⟨i, by omega, rfl⟩
end Sg
