/- Parts of one proof, joined. The plain model of what must run, and of chosen nodes: no program in sight. Conditions: none. The plain model of the lazy machine's states: no program in sight. Conditions: none. The plain model of the cells of states: no program in sight. Conditions: none. The plain model of what is stale, and of the cells of lazy states: no program in sight. Conditions: none. The plain model of doubt, and of what a write spoils: no program in sight. Conditions: none. The plain law of the eager machine's states: valid ones are those that mean something. Conditions: none. The plain model of eager writes: no program in sight. Conditions: none. The plain model of why a value changed: no program in sight. Conditions: none. -/
import Derived.Test.YtdnlpklmihoapaaDoorCore
/- The plain model of what must run, and of chosen nodes: no program in sight. Conditions: none. -/
namespace Sg
/-- the numbers below k for which p holds -/
def whichL (p : Nat → Bool) (k : Nat) : List Int := ((List.range k).filter p).map Int.ofNat
theorem whichL_succ (p : Nat → Bool) (k : Nat) : whichL p (k + 1) = if p k = true then whichL p k ++ [(k : Int)] else whichL p k := by
 unfold whichL
 rw [List.range_succ, List.filter_append, List.map_append]
 by_cases h : p k = true
 ·rw [if_pos h]; simp [h]
 ·rw [if_neg h]; simp [h]
theorem whichL_len (p : Nat → Bool) (k : Nat) : (whichL p k).length ≤ k := by
 unfold whichL
 have := List.length_filter_le p (List.range k)
 simpa using this
theorem whichL_congr {p q : Nat → Bool} {k : Nat} (h : ∀ i, i < k → p i = q i) : whichL p k = whichL q k := by
 unfold whichL
 congr 1
 exact List.filter_congr fun i hi => h i (List.mem_range.1 hi)
theorem mem_whichL {p : Nat → Bool} {k : Nat} {n : Int} : n ∈ whichL p k ↔ ∃ i : Nat, n = i ∧ i < k ∧ p i = true := by
 unfold whichL
 rw [List.mem_map]
 constructor
 ·rintro ⟨i, hi, rfl⟩
  rw [List.mem_filter, List.mem_range] at hi
  exact ⟨i, rfl, hi.1, hi.2⟩
 ·rintro ⟨i, rfl, h1, h2⟩
  exact ⟨i, List.mem_filter.2 ⟨List.mem_range.2 h1, h2⟩, rfl⟩
/-- lists with a number in common -/
def meets (a b : List Int) : Bool := a.any fun x => decide (x ∈ b)
theorem mem_foldl_once (l out : List Int) (x : Int) : x ∈ l.foldl once out ↔ x ∈ out ∨ x ∈ l := by
 induction l generalizing out with
 | nil => simp
 | cons y l ih =>
  rw [List.foldl_cons, ih, List.mem_cons]
  unfold once
  split
  ·rename_i h
   constructor
   ·rintro (h1 | h1)
    ·exact .inl h1
    ·exact .inr (.inr h1)
   ·rintro (h1 | rfl | h1)
    ·exact .inl h1
    ·exact .inl h
    ·exact .inr h1
  ·rw [List.mem_append, List.mem_singleton, or_assoc]
theorem mem_firstOnly (l : List Int) (x : Int) : x ∈ firstOnly l ↔ x ∈ l := by
 unfold firstOnly
 rw [mem_foldl_once]
 simp
/-- what is read is read by some part -/
theorem reck_mem (f : List Part) (v : List Int) (m : Nat) (i : Int) (x : Int) (h : x ∈ (reck f v m i).2) : ∃ p ∈ f, p.kind = 1 ∧ p.n = x := by
 induction m generalizing i with
 | zero => simp [reck] at h
 | succ m ih =>
  simp only [reck] at h
  by_cases h0 : (f.getD i.toNat default).kind = 0
  ·rw [if_pos h0] at h; cases h
  ·rw [if_neg h0] at h
   by_cases h1 : (f.getD i.toNat default).kind = 1
   ·rw [if_pos h1] at h
    simp only [List.mem_singleton] at h
    exact ⟨_, getD_mem h1, h1, h.symm⟩
   ·rw [if_neg h1] at h
    split at h
    ·rcases List.mem_append.1 h with h | h
     ·exact ih _ h
     ·exact ih _ h
    ·rcases List.mem_append.1 h with h | h
     ·exact ih _ h
     ·exact ih _ h
theorem reck_same (f : List Part) (a b : List Int) (m : Nat) (i : Int) (h : ∀ x ∈ (reck f a m i).2, rd a x = rd b x) : reck f a m i = reck f b m i := by
 induction m generalizing i with
 | zero => rfl
 | succ m ih =>
  simp only [reck] at h ⊢
  by_cases h0 : (f.getD i.toNat default).kind = 0
  ·rw [if_pos h0, if_pos h0]
  ·rw [if_neg h0] at h
   rw [if_neg h0, if_neg h0]
   by_cases h1 : (f.getD i.toNat default).kind = 1
   ·rw [if_pos h1] at h
    rw [if_pos h1, if_pos h1, h _ (List.mem_singleton.2 rfl)]
   ·rw [if_neg h1] at h
    rw [if_neg h1, if_neg h1]
    by_cases h8 : (f.getD i.toNat default).kind = 8
    ·rw [if_pos h8] at h
     rw [if_pos h8, if_pos h8]
     have e1 := ih (f.getD i.toNat default).a (fun x hx => h x (List.mem_append.2 (.inl hx)))
     rw [← e1]
     have e2 := ih _ (fun x hx => h x (List.mem_append.2 (.inr hx)))
     rw [← e2]
    ·rw [if_neg h8] at h
     rw [if_neg h8, if_neg h8]
     have e1 := ih (f.getD i.toNat default).a (fun x hx => h x (List.mem_append.2 (.inl hx)))
     have e2 := ih (f.getD i.toNat default).b (fun x hx => h x (List.mem_append.2 (.inr hx)))
     rw [← e1, ← e2]
theorem runF_same {f : List Part} {a b : List Int} (h : ∀ x ∈ (runF f a).2, rd a x = rd b x) : runF f a = runF f b := by
 unfold runF at h ⊢
 have := reck_same f a b _ _ (fun x hx => h x ((mem_firstOnly _ _).2 hx))
 rw [this]
theorem depAt_mem {g : Graph} (hg : validG g = true) {v : List Int} {i : Nat} {x : Int} (hi : i < g.length) (h : x ∈ depAt g v i) : 0 ≤ x ∧ x < i := by
 unfold depAt at h
 have hn : g[i]? = some g[i] := List.getElem?_eq_getElem hi
 have hd : g.getD i default = g[i] := by simp [hn]
 rw [hd] at h
 by_cases h0 : g[i].kind = 0
 ·rw [if_pos h0] at h; cases h
 ·rw [if_neg h0] at h
  unfold runF at h
  obtain ⟨p, hp, h1, rfl⟩ := reck_mem _ _ _ _ _ ((mem_firstOnly _ _).1 h)
  exact (validG_fok hg i hn h0).read0 p hp h1
/-- the nodes at which values differ -/
def diffL (x y : List Int) : List Int := whichL (fun i => x.getD i 0 != y.getD i 0) x.length
def mustAt (g : Graph) (x y : List Int) (i : Nat) : Bool := (kindAt g (i : Int) != 0) && ((x.getD i 0 != y.getD i 0) || (depAt g x i).any fun n => rd x n != rd y n)
def mustS (g : Graph) (x y : List Int) (i : Nat) : Bool := (kindAt g (i : Int) != 0) && meets (depAt g x i) (diffL x y)
theorem meets_diff {g : Graph} (hg : validG g = true) {x y v : List Int} (hx : x.length = g.length) {i : Nat} (hi : i < g.length) : meets (depAt g v i) (diffL x y) = (depAt g v i).any fun n => rd x n != rd y n := by
 unfold meets
 rw [Bool.eq_iff_iff, List.any_eq_true, List.any_eq_true]
 refine exists_congr fun n => and_congr_right fun hn => ?_
 have := depAt_mem hg hi hn
 obtain ⟨k, rfl⟩ := Int.eq_ofNat_of_zero_le this.1
 unfold diffL rd
 rw [decide_eq_true_eq, mem_whichL]
 constructor
 ·rintro ⟨j, hj, _, h⟩
  have : k = j := by omega
  subst this
  simpa using h
 ·intro h
  exact ⟨k, rfl, by omega, by simpa using h⟩
theorem mean_at {g : Graph} (cells : List Int) {i : Nat} {n : Node} (hn : g[i]? = some n) : (mean g cells).getD i 0 = valAt g cells (meanTo g cells i) i := by
 have hi : i < g.length := (List.getElem?_eq_some_iff.1 hn).1
 unfold mean
 rw [meanTo_getD g cells (i + 1) _ i (by omega) (by omega)]
 simp [meanTo, List.getD_eq_getElem?_getD]
theorem mean_form {g : Graph} {cells : List Int} (hg : validG g = true) {i : Nat} {n : Node} (hn : g[i]? = some n) (h0 : n.kind ≠ 0) : (mean g cells).getD i 0 = (runF n.f (mean g cells)).1 := by
 rw [mean_at cells hn, mean_dep hg hn h0]
 unfold valAt
 have hd : g.getD i default = n := by simp [hn]
 rw [hd, if_neg h0]
/-- what must run: both accounts -/
theorem must_same {g : Graph} (hg : validG g = true) (a b : List Int) {i : Nat} (hi : i < g.length) : mustS g (mean g a) (mean g b) i = mustAt g (mean g a) (mean g b) i := by
 unfold mustS mustAt
 rw [meets_diff hg (length_mean g a) hi]
 have hn : g[i]? = some g[i] := List.getElem?_eq_getElem hi
 have hd : g.getD i default = g[i] := by simp [hn]
 by_cases h0 : g[i].kind = 0
 ·have : kindAt g (i : Int) = 0 := by unfold kindAt; rw [Int.toNat_natCast, hd]; exact h0
  rw [this]
  rfl
 ·cases hv : (depAt g (mean g a) i).any fun n => rd (mean g a) n != rd (mean g b) n
  ·have hs : runF g[i].f (mean g a) = runF g[i].f (mean g b) := by
    refine runF_same fun x hx => ?_
    have := (List.any_eq_false.1 hv) x (by unfold depAt; rw [hd, if_neg h0]; exact hx)
    simpa using this
   have : (mean g a).getD i 0 = (mean g b).getD i 0 := by rw [mean_form hg hn h0, mean_form hg hn h0, hs]
   rw [this]
   simp
  ·simp
def mustOr (g : Graph) (a b : List Int) : List Int := if (validG g && validC g a && validC g b) = true then whichL (mustAt g (mean g a) (mean g b)) g.length else []
end Sg

/- The plain model of the lazy machine's states: no program in sight. Conditions: none. -/
namespace Sg
/-- a state of the lazy machine -/
structure Lazy where
 vals : List Int
 reads : List (List Int)
 cols : List Int
deriving DecidableEq, Inhabited
def missing (a b : List Int) : List Int := a.filter fun x => decide (x ∉ b)
/-- no number twice -/
def distinct (r : List Int) : Bool := (List.range r.length).all fun k => decide (r.getD k 0 ∉ r.take k)
/-- as the program sees a node -/
def colAt (g : Graph) (st : Lazy) (i : Nat) : Bool :=
 let n := g.getD i default
 let c := st.cols.getD i 0
 let r := st.reads.getD i []
 if n.kind = 0 then decide (c = 0) && r.isEmpty
 else if c = 2 then r.all (fun x => decide (x ∈ mayRead n.f)) && distinct r
 else if c = 1 then rightAt g st.vals st.reads i
 else if c = 0 then rightAt g st.vals st.reads i && r.all fun x => rd st.cols x == 0
 else false
/-- as the reference sees it -/
def colS (g : Graph) (st : Lazy) (i : Nat) : Bool :=
 let n := g.getD i default
 let c := st.cols.getD i 0
 let r := st.reads.getD i []
 if n.kind = 0 then decide (c = 0) && decide (r.length = 0)
 else if c = 2 then decide (r.length = (firstOnly r).length) && decide ((missing r (mayRead n.f)).length = 0)
 else (if c = 0 then (runF n.f st.vals).2.all fun x => rd st.cols x == 0 else true) && decide ((runF n.f st.vals).1 = st.vals.getD i 0) && decide ((runF n.f st.vals).2 = r)
def shapeL (g : Graph) (st : Lazy) : Bool := validG g && decide (st.vals.length = g.length) && decide (st.reads.length = g.length) && decide (st.cols.length = g.length) && inR999 st.vals
def validL (g : Graph) (st : Lazy) : Bool := shapeL g st && (List.range g.length).all (colAt g st)
def validLS (g : Graph) (st : Lazy) : Bool := shapeL g st && (st.cols.all fun x => inR x 0 2) && (List.range g.length).all (colS g st)

theorem once_len' (l out : List Int) : (l.foldl once out).length ≤ out.length + l.length := by
 induction l generalizing out with
 | nil => simp
 | cons x l ih =>
  rw [List.foldl_cons]
  have := ih (once out x)
  have h1 : (once out x).length ≤ out.length + 1 := by
   unfold once
   split
   ·omega
   ·simp
  simp only [List.length_cons]
  omega
theorem once_full (l out : List Int) : (l.foldl once out).length = out.length + l.length ↔ ∀ k, k < l.length → l.getD k 0 ∉ out ++ l.take k := by
 induction l generalizing out with
 | nil => simp
 | cons x l ih =>
  rw [List.foldl_cons, List.length_cons]
  by_cases hx : x ∈ out
  ·have e : once out x = out := by unfold once; rw [if_pos hx]
   rw [e]
   have := once_len' l out
   constructor
   ·intro h; omega
   ·intro h
    have := h 0 (by omega)
    simp at this
    exact absurd hx this
  ·have e : once out x = out ++ [x] := by unfold once; rw [if_neg hx]
   rw [e]
   have := ih (out ++ [x])
   rw [List.length_append, List.length_singleton] at this
   rw [show out.length + (l.length + 1) = out.length + 1 + l.length from by omega, this]
   constructor
   ·intro h k hk
    cases k with
    | zero => simpa using hx
    | succ k =>
     have := h k (by omega)
     simpa using this
   ·intro h k hk
    have := h (k + 1) (by omega)
    simpa using this
theorem distinct_len (r : List Int) : decide (r.length = (firstOnly r).length) = distinct r := by
 rw [Bool.eq_iff_iff, decide_eq_true_eq]
 unfold distinct firstOnly
 rw [List.all_eq_true]
 have := once_full r []
 simp only [List.length_nil, Nat.zero_add, List.nil_append] at this
 rw [eq_comm, this]
 constructor
 ·intro h k hk
  rw [decide_eq_true_eq]
  exact h k (List.mem_range.1 hk)
 ·intro h k hk
  have := h k (List.mem_range.2 hk)
  rwa [decide_eq_true_eq] at this
theorem missing_none (a b : List Int) : decide ((missing a b).length = 0) = a.all fun x => decide (x ∈ b) := by
 rw [Bool.eq_iff_iff, decide_eq_true_eq, List.length_eq_zero_iff]
 unfold missing
 rw [List.filter_eq_nil_iff, List.all_eq_true]
 constructor
 ·intro h x hx
  have := h x hx
  simpa using this
 ·intro h x hx
  have := h x hx
  simpa using this
theorem col_same (g : Graph) (st : Lazy) (i : Nat) (h : inR (st.cols.getD i 0) 0 2 = true) : colS g st i = colAt g st i := by
 unfold colS colAt
 dsimp only
 by_cases h0 : (g.getD i default).kind = 0
 ·rw [if_pos h0, if_pos h0]
  cases st.reads.getD i [] <;> simp
 ·rw [if_neg h0, if_neg h0]
  by_cases h2 : st.cols.getD i 0 = 2
  ·rw [if_pos h2, if_pos h2, distinct_len, missing_none, Bool.and_comm]
  ·rw [if_neg h2, if_neg h2]
   have hr : rightAt g st.vals st.reads i = (decide ((runF (g.getD i default).f st.vals).1 = st.vals.getD i 0) && decide ((runF (g.getD i default).f st.vals).2 = st.reads.getD i [])) := by
    unfold rightAt
    dsimp only
    rw [if_neg h0]
   by_cases h1 : st.cols.getD i 0 = 1
   ·rw [if_pos h1, if_neg (by omega), hr, Bool.true_and]
   ·have h00 : st.cols.getD i 0 = 0 := by
     simp only [inR, Bool.and_eq_true, decide_eq_true_eq] at h
     omega
    rw [if_neg h1, if_pos h00, if_pos h00, hr]
    by_cases he : (runF (g.getD i default).f st.vals).2 = st.reads.getD i []
    ·rw [he, Bool.and_assoc, Bool.and_comm]
    ·have : decide ((runF (g.getD i default).f st.vals).2 = st.reads.getD i []) = false := by simpa using he
     rw [this]
     simp
theorem colAt_range {g : Graph} {st : Lazy} {i : Nat} (h : colAt g st i = true) : inR (st.cols.getD i 0) 0 2 = true := by
 unfold colAt at h
 dsimp only at h
 simp only [inR, Bool.and_eq_true, decide_eq_true_eq]
 split at h
 ·simp only [Bool.and_eq_true, decide_eq_true_eq] at h; omega
 ·split at h
  ·omega
  ·split at h
   ·omega
   ·split at h
    ·omega
    ·cases h
theorem validL_same (g : Graph) (st : Lazy) : validLS g st = validL g st := by
 unfold validLS validL
 rw [Bool.eq_iff_iff]
 simp only [Bool.and_eq_true, List.all_eq_true, List.mem_range]
 constructor
 ·rintro ⟨⟨h1, h2⟩, h3⟩
  refine ⟨h1, fun i hi => ?_⟩
  have hl : st.cols.length = g.length := by
   unfold shapeL at h1
   simp only [Bool.and_eq_true, decide_eq_true_eq] at h1
   exact h1.1.2
  rw [← col_same g st i]
  ·exact h3 i hi
  ·have hi' : i < st.cols.length := by omega
   rw [List.getD_eq_getElem?_getD, List.getElem?_eq_getElem hi']
   exact h2 _ (List.getElem_mem hi')
 ·rintro ⟨h1, h3⟩
  have hl : st.cols.length = g.length := by
   unfold shapeL at h1
   simp only [Bool.and_eq_true, decide_eq_true_eq] at h1
   exact h1.1.2
  refine ⟨⟨h1, fun x hx => ?_⟩, fun i hi => ?_⟩
  ·obtain ⟨i, hi⟩ := List.getElem?_of_mem hx
   have hi' := (List.getElem?_eq_some_iff.1 hi).1
   have := colAt_range (h3 i (by omega))
   rw [List.getD_eq_getElem?_getD, hi] at this
   exact this
  ·rw [col_same g st i (colAt_range (h3 i hi))]
   exact h3 i hi
end Sg

/- The plain model of the cells of states: no program in sight. Conditions: none. -/
namespace Sg
/-- values, with 0 for the first k nodes that are no cells -/
def cellsTo (g : Graph) (v : List Int) (k : Nat) : List Int := (List.range v.length).map fun i => if i < k ∧ (g.getD i default).kind ≠ 0 then 0 else v.getD i 0
def cellsOf (g : Graph) (v : List Int) : List Int := cellsTo g v v.length
def cellsE (g : Graph) (st : Eager) : List Int := if validE g st = true then cellsOf g st.vals else []
@[simp] theorem length_cellsTo (g : Graph) (v : List Int) (k : Nat) : (cellsTo g v k).length = v.length := by simp [cellsTo]
@[simp] theorem length_cellsOf (g : Graph) (v : List Int) : (cellsOf g v).length = v.length := by simp [cellsOf]
theorem cellsTo_zero (g : Graph) (v : List Int) : cellsTo g v 0 = v := by
 refine List.ext_getElem (by simp) fun i h1 h2 => ?_
 simp [cellsTo, h2]
theorem cellsTo_keep (g : Graph) (v : List Int) (k : Nat) {n : Node} (hn : g[k]? = some n) (h : n.kind = 0) : cellsTo g v (k + 1) = cellsTo g v k := by
 refine List.ext_getElem (by simp) fun i h1 h2 => ?_
 simp only [cellsTo, List.getElem_map, List.getElem_range]
 by_cases hi : i = k
 ·subst hi
  have : (g.getD i default).kind = 0 := by simp [hn, h]
  rw [if_neg (fun h => h.2 this), if_neg (fun h => h.2 this)]
 ·have : i < k + 1 ↔ i < k := by omega
  simp only [this]
theorem cellsTo_zap (g : Graph) (v : List Int) (k : Nat) {n : Node} (hn : g[k]? = some n) (h : n.kind ≠ 0) : cellsTo g v (k + 1) = (cellsTo g v k).set k 0 := by
 refine List.ext_getElem (by simp) fun i h1 h2 => ?_
 rw [List.getElem_set]
 simp only [cellsTo, List.getElem_map, List.getElem_range]
 by_cases hi : k = i
 ·subst hi
  have : (g.getD k default).kind ≠ 0 := by simpa [hn] using h
  rw [if_pos rfl, if_pos ⟨by omega, this⟩]
 ·rw [if_neg hi]
  have : i < k + 1 ↔ i < k := by omega
  simp only [this]
theorem cellsOf_at (g : Graph) (v : List Int) (i : Nat) (h : i < v.length) : (cellsOf g v).getD i 0 = if (g.getD i default).kind ≠ 0 then 0 else v.getD i 0 := by
 have h' : i < (cellsOf g v).length := by simpa using h
 rw [List.getD_eq_getElem?_getD, List.getElem?_eq_getElem h']
 simp only [cellsOf, cellsTo, List.getElem_map, List.getElem_range, Option.getD_some, h, true_and]
end Sg

/- The plain model of what is stale, and of the cells of lazy states: no program in sight. Conditions: none. -/
namespace Sg
def staleL (q : List Int) (k : Nat) : List Int := whichL (fun i => rd q (i : Int) != 0) k
def staleOf (g : Graph) (st : Lazy) : List Int := if validL g st = true then staleL st.cols g.length else []
def lazyCells (g : Graph) (st : Lazy) : List Int := if validL g st = true then cellsOf g st.vals else []
theorem validL_shape {g : Graph} {st : Lazy} (h : validL g st = true) : validG g = true ∧ st.vals.length = g.length ∧ st.reads.length = g.length ∧ st.cols.length = g.length ∧ inR999 st.vals = true := by
 unfold validL shapeL at h
 simp only [Bool.and_eq_true, decide_eq_true_eq] at h
 exact ⟨h.1.1.1.1.1, h.1.1.1.1.2, h.1.1.1.2, h.1.1.2, h.1.2⟩
theorem validG_len10 {g : Graph} (h : validG g = true) : g.length ≤ 10 := by
 unfold validG at h
 simp only [Bool.and_eq_true, decide_eq_true_eq] at h
 exact h.2
theorem staleOf_len (g : Graph) (st : Lazy) : (staleOf g st).length ≤ 1048576 := by
 unfold staleOf
 split
 ·rename_i h
  have h1 := validG_len10 (validL_shape h).1
  have h2 := whichL_len (fun i => rd st.cols (i : Int) != 0) g.length
  unfold staleL
  omega
 ·simp
theorem lazyCells_len (g : Graph) (st : Lazy) : (lazyCells g st).length ≤ 1048576 := by
 unfold lazyCells
 split
 ·rename_i h
  have h1 := validL_shape h
  have h2 := validG_len10 h1.1
  rw [length_cellsOf]
  omega
 ·simp
end Sg

/- The plain model of doubt, and of what a write spoils: no program in sight. Conditions: none. -/
namespace Sg
/-- a way of reads leads from n to i -/
inductive Way (r : List (List Int)) (n : Nat) : Nat → Prop
 | one {i : Nat} : (n : Int) ∈ r.getD i [] → Way r n i
 | more {m i : Nat} : Way r n m → (m : Int) ∈ r.getD i [] → Way r n i
theorem Way.front {r : List (List Int)} {n m i : Nat} (h : (n : Int) ∈ r.getD m []) (k : Way r m i) : Way r n i := by
 induction k with
 | one h1 => exact .more (.one h) h1
 | more _ h1 ih => exact .more ih h1
theorem Way.split {r : List (List Int)} {n i : Nat} (h : Way r n i) : (n : Int) ∈ r.getD i [] ∨ ∃ m : Nat, (n : Int) ∈ r.getD m [] ∧ Way r m i := by
 induction h with
 | one h => exact .inl h
 | more _ h2 ih =>
  rcases ih with h | ⟨m, h, k⟩
  ·exact .inr ⟨_, h, .one h2⟩
  ·exact .inr ⟨m, h, .more k h2⟩
theorem Way.last {r : List (List Int)} {n i : Nat} (h : Way r n i) : (n : Int) ∈ r.getD i [] ∨ ∃ m : Nat, Way r n m ∧ (m : Int) ∈ r.getD i [] := by
 cases h with
 | one h => exact .inl h
 | more h k => exact .inr ⟨_, h, k⟩
/-- what is read lies ahead -/
def Ahead (r : List (List Int)) : Prop := ∀ (k : Nat), ∀ x ∈ r.getD k [], 0 ≤ x ∧ x < (k : Int)
theorem Way.lt {r : List (List Int)} {n i : Nat} (hA : Ahead r) (h : Way r n i) : n < i := by
 induction h with
 | one h => have := (hA _ _ h).2; omega
 | more _ h ih => have := (hA _ _ h).2; omega
theorem mem_getD_lt {r : List (List Int)} {i : Nat} {x : Int} (h : x ∈ r.getD i []) : i < r.length := by
 apply Decidable.byContradiction
 intro hh
 rw [List.getD_eq_getElem?_getD, List.getElem?_eq_none (by omega)] at h
 cases h
theorem Way.len {r : List (List Int)} {n i : Nat} (h : Way r n i) : i < r.length := by
 cases h with
 | one h => exact mem_getD_lt h
 | more _ h => exact mem_getD_lt h
/-- the nodes whose reads have a node -/
def readersL (r : List (List Int)) (n : Nat) (k : Nat) : List Int := whichL (fun i => decide ((n : Int) ∈ r.getD i [])) k
def readersOf (r : List (List Int)) (n : Nat) : List Int := readersL r n r.length
theorem mem_readersOf {r : List (List Int)} {n i : Nat} : (i : Int) ∈ readersOf r n ↔ (n : Int) ∈ r.getD i [] := by
 unfold readersOf readersL
 rw [mem_whichL]
 constructor
 ·rintro ⟨j, hj, _, h⟩
  have : i = j := by omega
  subst this
  exact of_decide_eq_true h
 ·intro h
  exact ⟨i, rfl, mem_getD_lt h, decide_eq_true h⟩
theorem readersOf_at {r : List (List Int)} {n k : Nat} {x : Int} (h : (readersOf r n)[k]? = some x) : ∃ i : Nat, x = i ∧ (n : Int) ∈ r.getD i [] := by
 have hm := List.mem_of_getElem? h
 unfold readersOf readersL at hm
 rw [mem_whichL] at hm
 obtain ⟨j, rfl, _, h⟩ := hm
 exact ⟨j, rfl, of_decide_eq_true h⟩
open Classical in
/-- marked nodes that were clean are to be checked -/
noncomputable def markC (M : Nat → Prop) (c : List Int) : List Int := c.mapIdx fun i x => if M i ∧ x = 0 then 1 else x
@[simp] theorem length_markC (M : Nat → Prop) (c : List Int) : (markC M c).length = c.length := by simp [markC]
open Classical in
theorem markC_none (c : List Int) : markC (fun _ => False) c = c := by
 refine List.ext_getElem? fun i => ?_
 simp [markC, List.getElem?_mapIdx]
open Classical in
theorem markC_at (M : Nat → Prop) (c : List Int) (i : Nat) : (markC M c)[i]? = c[i]?.map (fun x => if M i ∧ x = 0 then 1 else x) := by
 simp [markC, List.getElem?_mapIdx]
theorem markC_congr {M M' : Nat → Prop} (c : List Int) (h : ∀ i, M i ↔ M' i) : markC M c = markC M' c := by
 have : M = M' := funext fun i => propext (h i)
 rw [this]
open Classical in
/-- one more is marked: it was clean -/
theorem markC_add0 {M : Nat → Prop} {c : List Int} {m : Nat} {x : Int} (hx : (markC M c)[m]? = some x) (h0 : x = 0) : markC (fun i => M i ∨ i = m) c = (markC M c).set m 1 := by
 subst h0
 refine List.ext_getElem? fun i => ?_
 rw [List.getElem?_set]
 by_cases hi : m = i
 ·subst hi
  rw [if_pos rfl, if_pos (List.getElem?_eq_some_iff.1 hx).1]
  rw [markC_at] at hx ⊢
  cases hc : c[m]? with
  | none => rw [hc] at hx; cases hx
  | some y =>
   rw [hc] at hx
   simp only [Option.map_some, Option.some.injEq] at hx ⊢
   by_cases hy : y = 0
   ·simp [hy]
   ·rw [if_neg (fun h => hy h.2)] at hx
    exact absurd hx hy
 ·rw [if_neg hi, markC_at, markC_at]
  have : (M i ∨ i = m) ↔ M i := ⟨fun h => h.elim id (fun e => absurd e.symm hi), .inl⟩
  simp only [this]
open Classical in
/-- one more is marked: it was not clean -/
theorem markC_addN {M : Nat → Prop} {c : List Int} {m : Nat} {x : Int} (hx : (markC M c)[m]? = some x) (h0 : x ≠ 0) : markC (fun i => M i ∨ i = m) c = markC M c := by
 refine List.ext_getElem? fun i => ?_
 rw [markC_at, markC_at]
 by_cases hi : i = m
 ·subst hi
  rw [markC_at] at hx
  cases hc : c[i]? with
  | none => rfl
  | some y =>
   rw [hc] at hx
   simp only [Option.map_some, Option.some.injEq] at hx ⊢
   by_cases hy : y = 0
   ·by_cases hM : M i
    ·simp [hM, hy]
    ·rw [if_neg (fun h => hM h.1)] at hx
     exact absurd (hx.symm.trans hy) h0
   ·simp [hy]
 ·have : (M i ∨ i = m) ↔ M i := ⟨fun h => h.elim id (fun e => absurd e hi), .inl⟩
  simp only [this]
/-- above n, what marked nodes lead to is marked -/
def Closed (r : List (List Int)) (n : Nat) (M : Nat → Prop) : Prop := ∀ j i : Nat, M j → n < j → (j : Int) ∈ r.getD i [] → M i
theorem Closed.way {r : List (List Int)} {n j i : Nat} {M : Nat → Prop} (h : Closed r n M) (hA : Ahead r) (hj : M j) (hn : n < j) (w : Way r j i) : M i := by
 induction w with
 | one h1 => exact h _ _ hj hn h1
 | more w1 h1 ih => exact h _ _ ih (by have := w1.lt hA; omega) h1
/-- marked, or one of a list, or a way leads there from one of it -/
def Met (r : List (List Int)) (l : List Int) (M : Nat → Prop) (i : Nat) : Prop := M i ∨ ∃ m : Nat, (m : Int) ∈ l ∧ (m = i ∨ Way r m i)
theorem met_nil (r : List (List Int)) (M : Nat → Prop) : Met r [] M = M := by
 funext i
 simp [Met]
theorem met_closed {r : List (List Int)} {n : Nat} {l : List Int} {M : Nat → Prop} (h : Closed r n M) : Closed r n (Met r l M) := by
 intro j i hj hn hi
 rcases hj with hj | ⟨m, hm, hj⟩
 ·exact .inl (h j i hj hn hi)
 ·refine .inr ⟨m, hm, .inr ?_⟩
  rcases hj with rfl | hj
  ·exact .one hi
  ·exact .more hj hi
theorem met_old {r : List (List Int)} {n m : Nat} {l : List Int} {M : Nat → Prop} (hA : Ahead r) (h : Closed r n M) (hn : n < m) (hm : Met r l M m) : Met r (l ++ [(m : Int)]) M = Met r l M := by
 funext i
 apply propext
 constructor
 ·rintro (h1 | ⟨k, hk, h2⟩)
  ·exact .inl h1
  ·rcases List.mem_append.1 hk with hk | hk
   ·exact .inr ⟨k, hk, h2⟩
   ·simp at hk
    have : k = m := by omega
    subst this
    rcases h2 with rfl | h2
    ·exact hm
    ·exact (met_closed h).way hA hm hn h2
 ·rintro (h1 | ⟨k, hk, h2⟩)
  ·exact .inl h1
  ·exact .inr ⟨k, List.mem_append.2 (.inl hk), h2⟩
theorem met_new {r : List (List Int)} {m : Nat} {l : List Int} {M : Nat → Prop} : Met r (l ++ [(m : Int)]) M = fun i => (Met r l M i ∨ i = m) ∨ Way r m i := by
 funext i
 apply propext
 constructor
 ·rintro (h1 | ⟨k, hk, h2⟩)
  ·exact .inl (.inl (.inl h1))
  ·rcases List.mem_append.1 hk with hk | hk
   ·exact .inl (.inl (.inr ⟨k, hk, h2⟩))
   ·simp at hk
    have : k = m := by omega
    subst this
    rcases h2 with rfl | h2
    ·exact .inl (.inr rfl)
    ·exact .inr h2
 ·rintro (((h1 | ⟨k, hk, h2⟩) | rfl) | h1)
  ·exact .inl h1
  ·exact .inr ⟨k, List.mem_append.2 (.inl hk), h2⟩
  ·exact .inr ⟨i, by simp, .inl rfl⟩
  ·exact .inr ⟨m, by simp, .inr h1⟩
theorem met_all {r : List (List Int)} {n : Nat} {M : Nat → Prop} : Met r (readersOf r n) M = fun i => M i ∨ Way r n i := by
 funext i
 apply propext
 constructor
 ·rintro (h1 | ⟨m, hm, h2⟩)
  ·exact .inl h1
  ·rw [mem_readersOf] at hm
   rcases h2 with rfl | h2
   ·exact .inr (.one hm)
   ·exact .inr (.front hm h2)
 ·rintro (h1 | h1)
  ·exact .inl h1
  ·rcases h1.split with h2 | ⟨m, h2, h3⟩
   ·exact .inr ⟨i, mem_readersOf.2 h2, .inl rfl⟩
   ·exact .inr ⟨m, mem_readersOf.2 h2, .inr h3⟩
theorem closed_deeper {r : List (List Int)} {n m : Nat} {M : Nat → Prop} (h : Closed r n M) (hn : n < m) : Closed r m (fun i => M i ∨ i = m) := by
 intro j i hj hm hi
 rcases hj with hj | rfl
 ·exact .inl (h j i hj (by omega) hi)
 ·omega
/-- what is doubted -/
noncomputable def doubtC (r : List (List Int)) (c : List Int) (n : Nat) : List Int := markC (Way r n) c
@[simp] theorem length_doubtC (r : List (List Int)) (c : List Int) (n : Nat) : (doubtC r c n).length = c.length := by simp [doubtC]
open Classical in
/-- what a write spoils, up to node k; d: the readers of n are dirty -/
noncomputable def spoilTo (d : Bool) (r : List (List Int)) (c : List Int) (n k : Nat) : List Int := c.mapIdx fun i x => if i < k ∧ Way r n i then (if d = true ∧ (n : Int) ∈ r.getD i [] then 2 else if x = 0 then 1 else x) else x
@[simp] theorem length_spoilTo (d : Bool) (r : List (List Int)) (c : List Int) (n k : Nat) : (spoilTo d r c n k).length = c.length := by simp [spoilTo]
noncomputable def spoilC (r : List (List Int)) (c : List Int) (n : Nat) : List Int := spoilTo true r c n c.length
@[simp] theorem length_spoilC (r : List (List Int)) (c : List Int) (n : Nat) : (spoilC r c n).length = c.length := by simp [spoilC]
open Classical in
theorem spoilTo_at (d : Bool) (r : List (List Int)) (c : List Int) (n k i : Nat) : (spoilTo d r c n k)[i]? = c[i]?.map (fun x => if i < k ∧ Way r n i then (if d = true ∧ (n : Int) ∈ r.getD i [] then 2 else if x = 0 then 1 else x) else x) := by
 simp [spoilTo, List.getElem?_mapIdx]
open Classical in
theorem spoilTo_start (d : Bool) {r : List (List Int)} (hA : Ahead r) (c : List Int) (n : Nat) : spoilTo d r c n (n + 1) = c := by
 refine List.ext_getElem? fun i => ?_
 rw [spoilTo_at]
 have : ¬ (i < n + 1 ∧ Way r n i) := fun h => by have := h.2.lt hA; omega
 simp [this]
open Classical in
theorem spoilTo_end (r : List (List Int)) (c : List Int) (n : Nat) : spoilTo false r c n c.length = doubtC r c n := by
 refine List.ext_getElem? fun i => ?_
 rw [spoilTo_at, doubtC, markC_at]
 cases hc : c[i]? with
 | none => rfl
 | some y =>
  have hi := (List.getElem?_eq_some_iff.1 hc).1
  simp only [Option.map_some, Option.some.injEq]
  by_cases hw : Way r n i
  ·simp [hi, hw]
  ·simp [hw]
open Classical in
theorem spoilTo_no (d : Bool) {r : List (List Int)} {c : List Int} {n k : Nat} (h : ¬ Way r n k) : spoilTo d r c n (k + 1) = spoilTo d r c n k := by
 refine List.ext_getElem? fun i => ?_
 rw [spoilTo_at, spoilTo_at]
 have : (i < k + 1 ∧ Way r n i) ↔ (i < k ∧ Way r n i) := by
  constructor
  ·rintro ⟨h1, h2⟩
   refine ⟨?_, h2⟩
   by_cases e : i = k
   ·subst e; exact absurd h2 h
   ·omega
  ·rintro ⟨h1, h2⟩; exact ⟨by omega, h2⟩
 simp only [this]
open Classical in
theorem spoilTo_same (d : Bool) (r : List (List Int)) (c : List Int) (n k : Nat) : (spoilTo d r c n k)[k]? = c[k]? := by
 rw [spoilTo_at]
 cases c[k]? <;> simp
open Classical in
theorem spoilTo_yes {d : Bool} {r : List (List Int)} {c : List Int} {n k : Nat} {x : Int} (h : Way r n k) (hx : c[k]? = some x) : spoilTo d r c n (k + 1) = (spoilTo d r c n k).set k (if d = true ∧ (n : Int) ∈ r.getD k [] then 2 else if x = 0 then 1 else x) := by
 refine List.ext_getElem? fun i => ?_
 rw [List.getElem?_set]
 by_cases e : k = i
 ·subst e
  rw [if_pos rfl, if_pos (by simpa using (List.getElem?_eq_some_iff.1 hx).1), spoilTo_at, hx]
  simp [h]
 ·rw [if_neg e, spoilTo_at, spoilTo_at]
  have : (i < k + 1 ∧ Way r n i) ↔ (i < k ∧ Way r n i) := by
   constructor
   ·rintro ⟨h1, h2⟩; exact ⟨by omega, h2⟩
   ·rintro ⟨h1, h2⟩; exact ⟨by omega, h2⟩
  simp only [this]
open Classical in
/-- the first readers of a list are dirty -/
noncomputable def dirtyL (l : List Int) (c : List Int) : List Int := c.mapIdx fun i x => if (i : Int) ∈ l then 2 else x
@[simp] theorem length_dirtyL (l c : List Int) : (dirtyL l c).length = c.length := by simp [dirtyL]
open Classical in
theorem dirtyL_at (l c : List Int) (i : Nat) : (dirtyL l c)[i]? = c[i]?.map (fun x => if (i : Int) ∈ l then 2 else x) := by simp [dirtyL, List.getElem?_mapIdx]
open Classical in
theorem dirtyL_nil (c : List Int) : dirtyL [] c = c := by
 refine List.ext_getElem? fun i => ?_
 rw [dirtyL_at]
 simp
open Classical in
theorem dirtyL_snoc (l c : List Int) (m : Nat) : dirtyL (l ++ [(m : Int)]) c = (dirtyL l c).set m 2 := by
 refine List.ext_getElem? fun i => ?_
 rw [List.getElem?_set, dirtyL_at, dirtyL_at]
 by_cases e : m = i
 ·subst e
  rw [if_pos rfl]
  by_cases hl : m < c.length
  ·rw [if_pos (by simpa using hl), List.getElem?_eq_getElem hl]
   simp
  ·rw [if_neg (by simpa using hl), List.getElem?_eq_none (by omega)]
   rfl
 ·rw [if_neg e]
  have h1 : ¬ (i : Int) = (m : Int) := by omega
  simp [h1]
open Classical in
/-- the program's way: all readers are dirty, and then ways are doubted -/
theorem spoil_tell (r : List (List Int)) (c : List Int) (n : Nat) : doubtC r (dirtyL (readersOf r n) c) n = spoilC r c n := by
 refine List.ext_getElem? fun i => ?_
 rw [doubtC, markC_at, dirtyL_at, spoilC, spoilTo_at]
 cases hc : c[i]? with
 | none => rfl
 | some y =>
  have hi := (List.getElem?_eq_some_iff.1 hc).1
  simp only [Option.map_some, Option.some.injEq, mem_readersOf]
  by_cases hr : (n : Int) ∈ r.getD i []
  ·have hw : Way r n i := .one hr
   rw [List.getD_eq_getElem?_getD] at hr
   simp [hr, hw, hi]
  ·by_cases hw : Way r n i
   ·rw [List.getD_eq_getElem?_getD] at hr
    simp [hr, hw, hi]
   ·rw [List.getD_eq_getElem?_getD] at hr
    simp [hr, hw]
/-- the reference's list of what is met -/
def MetL (r : List (List Int)) (n k : Nat) (l : List Int) : Prop := ∀ x, x ∈ l ↔ ∃ j : Nat, x = j ∧ (j = n ∨ (j < k ∧ Way r n j))
theorem metL_start {r : List (List Int)} (hA : Ahead r) (n : Nat) : MetL r n (n + 1) [(n : Int)] := by
 intro x
 simp only [List.mem_singleton]
 constructor
 ·rintro rfl; exact ⟨n, rfl, .inl rfl⟩
 ·rintro ⟨j, rfl, h | ⟨h, hw⟩⟩
  ·rw [h]
  ·have := hw.lt hA; omega
theorem metL_meets {r : List (List Int)} {n k : Nat} {l : List Int} (hA : Ahead r) (h : MetL r n k l) : meets (r.getD k []) l = true ↔ Way r n k := by
 unfold meets
 rw [List.any_eq_true]
 constructor
 ·rintro ⟨x, hx, hb⟩
  obtain ⟨j, rfl, hj⟩ := (h x).1 (of_decide_eq_true hb)
  rcases hj with rfl | ⟨_, hw⟩
  ·exact .one hx
  ·exact .more hw hx
 ·intro hw
  rcases hw.last with h1 | ⟨m, h1, h2⟩
  ·exact ⟨_, h1, decide_eq_true ((h _).2 ⟨n, rfl, .inl rfl⟩)⟩
  ·exact ⟨_, h2, decide_eq_true ((h _).2 ⟨m, rfl, .inr ⟨by have := (hA _ _ h2).2; omega, h1⟩⟩)⟩
theorem metL_no {r : List (List Int)} {n k : Nat} {l : List Int} (h : MetL r n k l) (hw : ¬ Way r n k) : MetL r n (k + 1) l := by
 intro x
 rw [h x]
 refine exists_congr fun j => and_congr_right fun _ => or_congr_right ?_
 constructor
 ·rintro ⟨h1, h2⟩; exact ⟨by omega, h2⟩
 ·rintro ⟨h1, h2⟩
  refine ⟨?_, h2⟩
  by_cases e : j = k
  ·subst e; exact absurd h2 hw
  ·omega
theorem metL_yes {r : List (List Int)} {n k : Nat} {l : List Int} (h : MetL r n k l) (hw : Way r n k) : MetL r n (k + 1) (l ++ [(k : Int)]) := by
 intro x
 rw [List.mem_append, h x, List.mem_singleton]
 constructor
 ·rintro (⟨j, rfl, h1⟩ | rfl)
  ·exact ⟨j, rfl, h1.imp id (fun h => ⟨by omega, h.2⟩)⟩
  ·exact ⟨k, rfl, .inr ⟨by omega, hw⟩⟩
 ·rintro ⟨j, rfl, h1 | ⟨h1, h2⟩⟩
  ·exact .inl ⟨j, rfl, .inl h1⟩
  ·by_cases e : j = k
   ·subst e; exact .inr rfl
   ·exact .inl ⟨j, rfl, .inr ⟨by omega, h2⟩⟩
/-- a cell is written -/
noncomputable def writeL (st : Lazy) (n : Nat) (x : Int) : Lazy := if st.vals.getD n 0 = x then st else ⟨st.vals.set n x, st.reads, spoilC st.reads st.cols n⟩
/-- a node is forgotten -/
noncomputable def forgetL (st : Lazy) (n : Nat) : Lazy := ⟨st.vals, st.reads.set n [], doubtC (st.reads.set n []) (st.cols.set n 2) n⟩
theorem ahead_of {g : Graph} {st : Lazy} (h : validL g st = true) : Ahead st.reads := by
 have hs := validL_shape h
 intro k x hx
 have hk : k < g.length := by have := mem_getD_lt hx; omega
 unfold validL at h
 simp only [Bool.and_eq_true, List.all_eq_true, List.mem_range] at h
 have hc := h.2 k hk
 have hn : g[k]? = some g[k] := List.getElem?_eq_getElem hk
 have hd : g.getD k default = g[k] := by simp [hn]
 have right : rightAt g st.vals st.reads k = true → g[k].kind ≠ 0 → 0 ≤ x ∧ x < (k : Int) := by
  intro hr h0
  unfold rightAt at hr
  rw [hd] at hr
  dsimp only at hr
  rw [if_neg h0] at hr
  simp only [Bool.and_eq_true, decide_eq_true_eq] at hr
  have : depAt g st.vals k = st.reads.getD k [] := by unfold depAt; rw [hd, if_neg h0]; exact hr.2
  rw [← this] at hx
  exact depAt_mem hs.1 hk hx
 unfold colAt at hc
 dsimp only at hc
 rw [hd] at hc
 by_cases h0 : g[k].kind = 0
 ·rw [if_pos h0] at hc
  simp only [Bool.and_eq_true, List.isEmpty_iff] at hc
  rw [hc.2] at hx
  cases hx
 ·rw [if_neg h0] at hc
  split at hc
  ·simp only [Bool.and_eq_true, List.all_eq_true, decide_eq_true_eq] at hc
   have hm := hc.1 x hx
   refine ⟨(mayRead_range hm).1, ?_⟩
   have hg := validG_node hs.1 k hk
   unfold goodNode at hg
   rw [hd] at hg
   dsimp only at hg
   rw [if_neg h0] at hg
   split at hg
   ·simp only [Bool.and_eq_true] at hg
    have hgr := hg.2
    unfold goodReads at hgr
    rw [hd, List.all_eq_true] at hgr
    have := hgr x hm
    unfold goodRead at this
    simp only [Bool.and_eq_true, decide_eq_true_eq] at this
    exact this.1
   ·cases hg
  ·split at hc
   ·exact right hc h0
   ·split at hc
    ·simp only [Bool.and_eq_true] at hc
     exact right hc.1 h0
    ·cases hc
theorem cols_range {g : Graph} {st : Lazy} (h : validL g st = true) : ∀ x ∈ st.cols, 0 ≤ x ∧ x ≤ 2 := by
 have hs := validL_shape h
 intro x hx
 obtain ⟨i, hi⟩ := List.getElem?_of_mem hx
 have hil := (List.getElem?_eq_some_iff.1 hi).1
 unfold validL at h
 simp only [Bool.and_eq_true, List.all_eq_true, List.mem_range] at h
 have := colAt_range (h.2 i (by omega))
 rw [List.getD_eq_getElem?_getD, hi] at this
 simp only [Option.getD_some, inR, Bool.and_eq_true, decide_eq_true_eq] at this
 exact this
end Sg

/- The plain law of the eager machine's states: valid ones are those that mean something. Conditions: none. -/
namespace Sg
theorem validE_parts {g : Graph} {st : Eager} (h : validE g st = true) : validG g = true ∧ st.vals.length = g.length ∧ st.reads.length = g.length ∧ inR999 st.vals = true ∧ ∀ i, i < g.length → rightAt g st.vals st.reads i = true := by
 unfold validE at h
 simp only [Bool.and_eq_true, decide_eq_true_eq, List.all_eq_true, List.mem_range] at h
 exact ⟨h.1.1.1.1, h.1.1.1.2, h.1.1.2, h.1.2, h.2⟩
theorem validE_mk {g : Graph} {st : Eager} (h : validG g = true ∧ st.vals.length = g.length ∧ st.reads.length = g.length ∧ inR999 st.vals = true ∧ ∀ i, i < g.length → rightAt g st.vals st.reads i = true) : validE g st = true := by
 unfold validE
 simp only [Bool.and_eq_true, decide_eq_true_eq, List.all_eq_true, List.mem_range]
 exact ⟨⟨⟨⟨h.1, h.2.1⟩, h.2.2.1⟩, h.2.2.2.1⟩, h.2.2.2.2⟩
theorem getD_of {α : Type} [Inhabited α] {l : List α} {i : Nat} {x : α} (h : l[i]? = some x) (d : α) : l.getD i d = x := by simp [h]
theorem rightAt_run {g : Graph} {v : List Int} {r : List (List Int)} {i : Nat} {n : Node} (hn : g[i]? = some n) (h0 : n.kind ≠ 0) (h : rightAt g v r i = true) : runF n.f v = (v.getD i 0, r.getD i []) := by
 unfold rightAt at h
 rw [getD_of hn] at h
 dsimp only at h
 rw [if_neg h0] at h
 simp only [Bool.and_eq_true, decide_eq_true_eq] at h
 exact Prod.ext h.1 h.2
theorem rightAt_cell {g : Graph} {v : List Int} {r : List (List Int)} {i : Nat} {n : Node} (hn : g[i]? = some n) (h0 : n.kind = 0) (h : rightAt g v r i = true) : r.getD i [] = [] := by
 unfold rightAt at h
 rw [getD_of hn] at h
 dsimp only at h
 rw [if_pos h0] at h
 simpa using h
theorem rightAt_mk {g : Graph} {v : List Int} {r : List (List Int)} {i : Nat} {n : Node} (hn : g[i]? = some n) (h0 : n.kind = 0 → r.getD i [] = []) (h1 : n.kind ≠ 0 → runF n.f v = (v.getD i 0, r.getD i [])) : rightAt g v r i = true := by
 unfold rightAt
 rw [getD_of hn]
 dsimp only
 by_cases hk : n.kind = 0
 ·rw [if_pos hk, h0 hk]; rfl
 ·rw [if_neg hk, h1 hk]; simp
theorem mean_atN {g : Graph} (cells : List Int) {k : Nat} {n : Node} (hn : g[k]? = some n) : (mean g cells).getD k 0 = if n.kind = 0 then cells.getD k 0 else (runF n.f (meanTo g cells k)).1 := by
 have hk := (List.getElem?_eq_some_iff.1 hn).1
 have h1 := meanTo_getD g cells (k + 1) g.length k hk (by omega)
 unfold mean
 rw [h1]
 show (meanTo g cells k ++ [valAt g cells (meanTo g cells k) k]).getD k 0 = _
 rw [List.getD_eq_getElem?_getD, List.getElem?_append_right (by simp)]
 simp only [length_meanTo, Nat.sub_self, List.getElem?_cons_zero, Option.getD_some]
 unfold valAt
 rw [getD_of hn]
theorem inR999_of {l : List Int} (h : inRange l) : inR999 l = true := by
 unfold inR999
 rw [List.all_eq_true]
 intro x hx
 have := h x hx
 simp [inR]
 omega
theorem ext0 {a b : List Int} (hl : a.length = b.length) (h : ∀ i, i < a.length → a.getD i 0 = b.getD i 0) : a = b := by
 refine List.ext_getElem hl fun i h1 h2 => ?_
 have := h i h1
 rw [List.getD_eq_getElem?_getD, List.getD_eq_getElem?_getD, List.getElem?_eq_getElem h1, List.getElem?_eq_getElem h2] at this
 exact this
theorem start_validE {g : Graph} {l : List Int} (hG : validG g = true) (hC : validC g l = true) : validE g (startE g l) = true := by
 refine validE_mk ⟨hG, by simp [startE], by simp [startE], inR999_of (meanTo_range hG hC g.length (Nat.le_refl _)), fun i hi => ?_⟩
 obtain ⟨n, hn⟩ : ∃ n, g[i]? = some n := ⟨_, List.getElem?_eq_getElem hi⟩
 have hd : (depsTo g (mean g l) g.length).getD i [] = depAt g (mean g l) i := by unfold depsTo; simp [hi]
 refine rightAt_mk hn (fun h0 => ?_) (fun h0 => ?_)
 ·show (depsTo g (mean g l) g.length).getD i [] = []
  rw [hd]; unfold depAt; rw [getD_of hn, if_pos h0]
 ·show runF n.f (mean g l) = ((mean g l).getD i 0, (depsTo g (mean g l) g.length).getD i [])
  rw [hd]
  unfold depAt
  rw [getD_of hn, if_neg h0, mean_atN l hn, if_neg h0, mean_dep hG hn h0]
theorem validC_cell {g : Graph} {l : List Int} (hC : validC g l = true) {i : Nat} {n : Node} (hn : g[i]? = some n) (h0 : n.kind ≠ 0) : l.getD i 0 = 0 := by
 have hl := validC_len hC
 have hi := (List.getElem?_eq_some_iff.1 hn).1
 unfold validC at hC
 simp only [Bool.and_eq_true, List.all_eq_true, List.mem_range] at hC
 have := hC.2 i (by omega)
 unfold cellOk kindAt at this
 rw [Int.toNat_natCast, getD_of hn] at this
 simp only [Bool.and_eq_true, Bool.or_eq_true, decide_eq_true_eq] at this
 rcases this.2 with h | h
 ·exact absurd h h0
 ·exact h
theorem start_cells {g : Graph} {l : List Int} (hC : validC g l = true) : cellsOf g (mean g l) = l := by
 have hl := validC_len hC
 refine ext0 (by simp [hl]) fun i hi => ?_
 rw [length_cellsOf, length_mean] at hi
 obtain ⟨n, hn⟩ : ∃ n, g[i]? = some n := ⟨_, List.getElem?_eq_getElem hi⟩
 rw [cellsOf_at g _ i (by simpa using hi), getD_of hn]
 by_cases h0 : n.kind = 0
 ·rw [if_neg (by simpa using h0), mean_atN l hn, if_pos h0]
 ·rw [if_pos h0, validC_cell hC hn h0]
theorem validC_mk {g : Graph} {l : List Int} (hl : l.length = g.length) (h : ∀ i n, g[i]? = some n → (0 ≤ l.getD i 0 ∧ l.getD i 0 ≤ 999) ∧ (n.kind ≠ 0 → l.getD i 0 = 0)) : validC g l = true := by
 unfold validC
 simp only [Bool.and_eq_true, decide_eq_true_eq, List.all_eq_true, List.mem_range]
 refine ⟨hl, fun i hi => ?_⟩
 obtain ⟨n, hn⟩ : ∃ n, g[i]? = some n := ⟨_, List.getElem?_eq_getElem (by omega)⟩
 have := h i n hn
 unfold cellOk kindAt inR
 rw [Int.toNat_natCast, getD_of hn]
 simp only [Bool.and_eq_true, Bool.or_eq_true, decide_eq_true_eq]
 refine ⟨this.1, ?_⟩
 by_cases h0 : n.kind = 0
 ·exact .inl h0
 ·exact .inr (this.2 h0)
theorem inR999_at {l : List Int} (h : inR999 l = true) {i : Nat} (hi : i < l.length) : 0 ≤ l.getD i 0 ∧ l.getD i 0 ≤ 999 := by
 rw [List.getD_eq_getElem?_getD, List.getElem?_eq_getElem hi]
 exact inR999_range h _ (List.getElem_mem hi)
theorem validE_cells {g : Graph} {st : Eager} (h : validE g st = true) : validC g (cellsOf g st.vals) = true := by
 obtain ⟨hG, hv, hr, hn, hR⟩ := validE_parts h
 refine validC_mk (by simp [hv]) fun i n hi => ?_
 have hil := (List.getElem?_eq_some_iff.1 hi).1
 rw [cellsOf_at g _ i (by omega), getD_of hi]
 have := inR999_at hn (i := i) (by omega)
 by_cases h0 : n.kind = 0
 ·rw [if_neg (by simpa using h0)]; exact ⟨this, fun h => absurd h0 h⟩
 ·rw [if_pos h0]; exact ⟨by omega, fun _ => rfl⟩
theorem validE_meanTo {g : Graph} {st : Eager} (h : validE g st = true) (k : Nat) (hk : k ≤ g.length) : meanTo g (cellsOf g st.vals) k = st.vals.take k := by
 obtain ⟨hG, hv, hr, hn, hR⟩ := validE_parts h
 induction k with
 | zero => simp [meanTo]
 | succ k ih =>
  have ih := ih (by omega)
  obtain ⟨n, hi⟩ : ∃ n, g[k]? = some n := ⟨_, List.getElem?_eq_getElem (by omega)⟩
  show meanTo g (cellsOf g st.vals) k ++ [valAt g (cellsOf g st.vals) (meanTo g (cellsOf g st.vals) k) k] = _
  have hkv : k < st.vals.length := by omega
  rw [ih, List.take_succ_eq_append_getElem hkv]
  congr 2
  unfold valAt
  rw [getD_of hi]
  have hx : st.vals.getD k 0 = st.vals[k] := by rw [List.getD_eq_getElem?_getD, List.getElem?_eq_getElem hkv]; rfl
  by_cases h0 : n.kind = 0
  ·rw [if_pos h0, cellsOf_at g _ k hkv, getD_of hi, if_neg (by simpa using h0), hx]
  ·rw [if_neg h0, runF_congr (validG_fok hG k hi h0) (b := st.vals) (fun j hj => by
    rw [List.getD_eq_getElem?_getD, List.getD_eq_getElem?_getD, List.getElem?_take_of_lt hj]), rightAt_run hi h0 (hR k (by omega))]
   exact hx
theorem validE_mean {g : Graph} {st : Eager} (h : validE g st = true) : mean g (cellsOf g st.vals) = st.vals := by
 have := validE_meanTo h g.length (Nat.le_refl _)
 unfold mean
 rw [this, ← (validE_parts h).2.1, List.take_length]
theorem validE_start {g : Graph} {st : Eager} (h : validE g st = true) : startE g (cellsOf g st.vals) = st := by
 obtain ⟨hG, hv, hr, hn, hR⟩ := validE_parts h
 obtain ⟨vals, reads⟩ := st
 unfold startE
 rw [validE_mean h]
 congr 1
 refine List.ext_getElem (by simpa using hr.symm) fun i h1 h2 => ?_
 rw [length_depsTo] at h1
 obtain ⟨n, hi⟩ : ∃ n, g[i]? = some n := ⟨_, List.getElem?_eq_getElem h1⟩
 have hd : reads.getD i [] = reads[i] := by rw [List.getD_eq_getElem?_getD, List.getElem?_eq_getElem h2]; rfl
 simp only [depsTo, List.getElem_map, List.getElem_range]
 unfold depAt
 rw [getD_of hi, ← hd]
 by_cases h0 : n.kind = 0
 ·rw [if_pos h0, rightAt_cell hi h0 (hR i h1)]
 ·rw [if_neg h0, rightAt_run hi h0 (hR i h1)]
end Sg

/- The plain model of eager writes: no program in sight. Conditions: none. -/
namespace Sg
/-- a state while it is written: values, reads, what changed, what ran -/
structure WrS where
 vals : List Int
 reads : List (List Int)
 ch : List Bool
 ran : List Int
def wstep (s : List Int × List Bool) (n x : Int) : List Int × List Bool := (s.1.set n.toNat x, s.2.set n.toNat (s.1.getD n.toNat 0 != x))
def wcells (s : List Int × List Bool) (nodes values : List Int) (k : Nat) : List Int × List Bool := ((nodes.zip values).take k).foldl (fun s p => wstep s p.1 p.2) s
theorem wcells_succ (s : List Int × List Bool) (nodes values : List Int) (k : Nat) {n x : Int} (hn : nodes[k]? = some n) (hx : values[k]? = some x) : wcells s nodes values (k + 1) = wstep (wcells s nodes values k) n x := by
 unfold wcells
 have hz : (nodes.zip values)[k]? = some (n, x) := by rw [List.getElem?_zip_eq_some]; exact ⟨hn, hx⟩
 obtain ⟨hk, he⟩ := List.getElem?_eq_some_iff.1 hz
 rw [List.take_succ_eq_append_getElem hk, List.foldl_append, he]
 rfl
@[simp] theorem wcells_zero (s : List Int × List Bool) (nodes values : List Int) : wcells s nodes values 0 = s := rfl
@[simp] theorem wstep_len1 (s : List Int × List Bool) (n x : Int) : (wstep s n x).1.length = s.1.length := by simp [wstep]
@[simp] theorem wstep_len2 (s : List Int × List Bool) (n x : Int) : (wstep s n x).2.length = s.2.length := by simp [wstep]
theorem foldl_len (l : List (Int × Int)) (s : List Int × List Bool) : (l.foldl (fun s p => wstep s p.1 p.2) s).1.length = s.1.length ∧ (l.foldl (fun s p => wstep s p.1 p.2) s).2.length = s.2.length := by
 induction l generalizing s with
 | nil => exact ⟨rfl, rfl⟩
 | cons a l ih => rw [List.foldl_cons]; have := ih (wstep s a.1 a.2); simpa using this
@[simp] theorem wcells_len1 (s : List Int × List Bool) (nodes values : List Int) (k : Nat) : (wcells s nodes values k).1.length = s.1.length := (foldl_len _ _).1
@[simp] theorem wcells_len2 (s : List Int × List Bool) (nodes values : List Int) (k : Nat) : (wcells s nodes values k).2.length = s.2.length := (foldl_len _ _).2
def hit (s : WrS) (l : List Int) : Bool := l.any fun k => s.ch.getD k.toNat false
def rstep (g : Graph) (s : WrS) (i : Nat) : WrS :=
 if ((g.getD i default).kind != 0 && hit s (s.reads.getD i [])) = true then
  ⟨s.vals.set i (runF (g.getD i default).f s.vals).1, s.reads.set i (runF (g.getD i default).f s.vals).2, s.ch.set i ((runF (g.getD i default).f s.vals).1 != s.vals.getD i 0), s.ran ++ [(i : Int)]⟩
 else s
def rsteps (g : Graph) (s : WrS) (k : Nat) : WrS := (List.range k).foldl (rstep g) s
@[simp] theorem rsteps_zero (g : Graph) (s : WrS) : rsteps g s 0 = s := rfl
theorem rsteps_succ (g : Graph) (s : WrS) (k : Nat) : rsteps g s (k + 1) = rstep g (rsteps g s k) k := by unfold rsteps; rw [List.range_succ, List.foldl_append]; rfl
def writeS (g : Graph) (st : Eager) (nodes values : List Int) : WrS :=
 rsteps g ⟨(wcells (st.vals, List.replicate g.length false) nodes values nodes.length).1, st.reads, (wcells (st.vals, List.replicate g.length false) nodes values nodes.length).2, []⟩ g.length
def writeE (g : Graph) (st : Eager) (nodes values : List Int) : Eager × List Int := (⟨(writeS g st nodes values).vals, (writeS g st nodes values).reads⟩, (writeS g st nodes values).ran)
def isCell (g : Graph) (n : Int) : Bool := inR n 0 ((g.length : Int) - 1) && decide (kindAt g n = 0)
def cellsDiffer (g : Graph) (nodes : List Int) : Bool := (List.range nodes.length).all fun k => isCell g (nodes.getD k 0) && decide (nodes.getD k 0 ∉ nodes.take k)
def mayWrite (g : Graph) (st : Eager) (nodes values : List Int) : Bool := validE g st && cellsDiffer g nodes && decide (nodes.length = values.length) && inR999 values
def writeOr (g : Graph) (st : Eager) (nodes values : List Int) : Eager × List Int := if mayWrite g st nodes values = true then writeE g st nodes values else (⟨[], []⟩, [])
/-- what holds of a state while it is written -/
structure WrOk (g : Graph) (s : WrS) : Prop where
 v : s.vals.length = g.length
 r : s.reads.length = g.length
 c : s.ch.length = g.length
 n : inRange s.vals
theorem WrOk.step {g : Graph} {s : WrS} (hG : validG g = true) (h : WrOk g s) (i : Nat) (hi : i < g.length) : WrOk g (rstep g s i) := by
 unfold rstep
 split
 ·rename_i hc
  simp only [Bool.and_eq_true, bne_iff_ne] at hc
  refine ⟨by simp [h.v], by simp [h.r], by simp [h.c], ?_⟩
  intro x hx
  rcases List.mem_or_eq_of_mem_set hx with hx | rfl
  ·exact h.n x hx
  ·have hn : g[i]? = some g[i] := List.getElem?_eq_getElem hi
   have hd : g.getD i default = g[i] := by simp [hn]
   rw [hd] at hc ⊢
   exact runF_range (validG_fok hG i hn hc.1) h.n
 ·exact h
theorem WrOk.steps {g : Graph} {s : WrS} (hG : validG g = true) (h : WrOk g s) (k : Nat) (hk : k ≤ g.length) : WrOk g (rsteps g s k) := by
 induction k with
 | zero => exact h
 | succ k ih => rw [rsteps_succ]; exact (ih (by omega)).step hG k (by omega)
theorem rstep_ran (g : Graph) (s : WrS) (i : Nat) : (rstep g s i).ran.length ≤ s.ran.length + 1 := by
 unfold rstep
 split <;> simp
theorem rsteps_ran (g : Graph) (s : WrS) (k : Nat) : (rsteps g s k).ran.length ≤ s.ran.length + k := by
 induction k with
 | zero => simp
 | succ k ih => rw [rsteps_succ]; have := rstep_ran g (rsteps g s k) k; omega
theorem wcells_range (v : List Int) (c : List Bool) (nodes values : List Int) (k : Nat) (hv : inRange v) (hx : inRange values) : inRange (wcells (v, c) nodes values k).1 := by
 unfold wcells
 have key : ∀ (l : List (Int × Int)) (s : List Int × List Bool), inRange s.1 → (∀ p ∈ l, 0 ≤ p.2 ∧ p.2 ≤ 999) → inRange (l.foldl (fun s p => wstep s p.1 p.2) s).1 := by
  intro l
  induction l with
  | nil => intro s hs _; exact hs
  | cons a l ih =>
   intro s hs hp
   rw [List.foldl_cons]
   refine ih _ ?_ (fun p hp' => hp p (by simp [hp']))
   intro x hx
   rcases List.mem_or_eq_of_mem_set hx with hx | rfl
   ·exact hs x hx
   ·exact hp a (by simp)
 refine key _ _ hv (fun p hp => ?_)
 have h1 := List.mem_of_mem_take hp
 exact hx p.2 (List.of_mem_zip h1).2
theorem isCell_at {g : Graph} {n : Int} (h : isCell g n = true) : ∃ (k : Nat) (x : Node), n = k ∧ g[k]? = some x ∧ x.kind = 0 := by
 unfold isCell inR kindAt at h
 simp only [Bool.and_eq_true, decide_eq_true_eq] at h
 obtain ⟨k, rfl⟩ := Int.eq_ofNat_of_zero_le h.1.1
 have hk : k < g.length := by omega
 have hn : g[k]? = some g[k] := List.getElem?_eq_getElem hk
 refine ⟨k, _, rfl, hn, ?_⟩
 have := h.2
 rw [Int.toNat_natCast] at this
 simpa [hn] using this
theorem cellsDiffer_at {g : Graph} {nodes : List Int} (h : cellsDiffer g nodes = true) {k : Nat} {n : Int} (hn : nodes[k]? = some n) : isCell g n = true ∧ n ∉ nodes.take k := by
 unfold cellsDiffer at h
 rw [List.all_eq_true] at h
 have := h k (List.mem_range.2 (List.getElem?_eq_some_iff.1 hn).1)
 simp only [Bool.and_eq_true, decide_eq_true_eq, List.getD_eq_getElem?_getD, hn, Option.getD_some] at this
 exact this
theorem cellsDiffer_nodup {g : Graph} {nodes : List Int} (h : cellsDiffer g nodes = true) : nodes.Nodup := by
 rw [List.nodup_iff_pairwise_ne, List.pairwise_iff_getElem]
 intro i j hi hj hij e
 have := (cellsDiffer_at h (List.getElem?_eq_getElem hj)).2
 rw [← e] at this
 refine this ?_
 rw [List.mem_take_iff_getElem]
 exact ⟨i, by omega, rfl⟩
end Sg

/- The plain model of why a value changed: no program in sight. Conditions: none. -/
namespace Sg
def common (a b : List Int) : List Int := a.filter fun x => decide (x ∈ b)
def minL (l : List Int) : Int := l.foldl min (l.headD 0)
theorem foldl_min (l : List Int) (m : Int) : (l.foldl min m ≤ m ∧ ∀ x ∈ l, l.foldl min m ≤ x) ∧ (l.foldl min m = m ∨ l.foldl min m ∈ l) := by
 induction l generalizing m with
 | nil => simp
 | cons y l ih =>
  rw [List.foldl_cons]
  obtain ⟨⟨h1, h2⟩, h3⟩ := ih (min m y)
  refine ⟨⟨by omega, fun x hx => ?_⟩, ?_⟩
  ·rcases List.mem_cons.1 hx with rfl | hx
   ·omega
   ·exact h2 x hx
  ·rcases h3 with h3 | h3
   ·rcases Int.le_total m y with h | h
    ·exact .inl (by rw [h3]; omega)
    ·exact .inr (by rw [h3, show min m y = y by omega]; simp)
   ·exact .inr (List.mem_cons.2 (.inr h3))
theorem minL_spec {l : List Int} (h : l ≠ []) : minL l ∈ l ∧ ∀ x ∈ l, minL l ≤ x := by
 unfold minL
 obtain ⟨⟨h1, h2⟩, h3⟩ := foldl_min l (l.headD 0)
 have hh : l.headD 0 ∈ l := by cases l with
  | nil => exact absurd rfl h
  | cons a l => simp
 refine ⟨?_, h2⟩
 rcases h3 with h3 | h3
 ·rw [h3]; exact hh
 ·exact h3
/-- the least of the nodes that n read and that changed -/
def nxt (g : Graph) (x ch : List Int) (n : Int) : Int := minL (common (depAt g x n.toNat) ch)
/-- the way from n down; k: fuel -/
def whyGo (g : Graph) (x ch : List Int) : Nat → Int → List Int → List Int
 | 0, n, out => n :: out
 | k + 1, n, out => if kindAt g n = 0 then n :: out else whyGo g x ch k (nxt g x ch n) (n :: out)
def whyOr (g : Graph) (a b : List Int) (n : Int) : List Int :=
 if (validG g && validC g a && validC g b && inR n 0 ((g.length : Int) - 1)) = true then
  if n ∈ diffL (mean g a) (mean g b) then whyGo g (mean g a) (diffL (mean g a) (mean g b)) (n.toNat + 1) n [] else []
 else []
theorem mem_diffL {x y : List Int} {n : Int} : n ∈ diffL x y ↔ ∃ i : Nat, n = i ∧ i < x.length ∧ x.getD i 0 ≠ y.getD i 0 := by
 unfold diffL
 rw [mem_whichL]
 simp
theorem why_read {g : Graph} (hG : validG g = true) (a b : List Int) {n : Int} (hn : n ∈ diffL (mean g a) (mean g b)) (hk : kindAt g n ≠ 0) : common (depAt g (mean g a) n.toNat) (diffL (mean g a) (mean g b)) ≠ [] := by
 intro hnil
 obtain ⟨i, rfl, hi, hne⟩ := mem_diffL.1 hn
 rw [length_mean] at hi
 have hgi : g[i]? = some g[i] := List.getElem?_eq_getElem hi
 have hd : g.getD i default = g[i] := by simp [hgi]
 have hk' : g[i].kind ≠ 0 := by unfold kindAt at hk; rw [Int.toNat_natCast, hd] at hk; exact hk
 refine hne ?_
 rw [mean_form hG hgi hk', mean_form hG hgi hk']
 have hdep : depAt g (mean g a) i = (runF g[i].f (mean g a)).2 := by unfold depAt; rw [hd, if_neg hk']
 rw [runF_same (a := mean g a) (b := mean g b)]
 intro x hx
 rw [← hdep] at hx
 have hr := depAt_mem hG hi hx
 obtain ⟨j, rfl⟩ := Int.eq_ofNat_of_zero_le hr.1
 by_cases he : rd (mean g a) (j : Int) = rd (mean g b) (j : Int)
 ·exact he
 ·exfalso
  have hm : (j : Int) ∈ common (depAt g (mean g a) ((i : Int)).toNat) (diffL (mean g a) (mean g b)) := by
   unfold common
   rw [List.mem_filter]
   refine ⟨hx, ?_⟩
   rw [decide_eq_true_eq, mem_diffL]
   exact ⟨j, rfl, by rw [length_mean]; omega, by simpa [rd] using he⟩
  rw [hnil] at hm
  cases hm
theorem nxt_spec {g : Graph} (hG : validG g = true) (a b : List Int) {n : Int} (hn : n ∈ diffL (mean g a) (mean g b)) (hk : kindAt g n ≠ 0) :
  nxt g (mean g a) (diffL (mean g a) (mean g b)) n ∈ diffL (mean g a) (mean g b) ∧ 0 ≤ nxt g (mean g a) (diffL (mean g a) (mean g b)) n ∧ nxt g (mean g a) (diffL (mean g a) (mean g b)) n < n ∧ nxt g (mean g a) (diffL (mean g a) (mean g b)) n ∈ depAt g (mean g a) n.toNat := by
 have h := minL_spec (why_read hG a b hn hk)
 have hm := h.1
 unfold common at hm
 rw [List.mem_filter, decide_eq_true_eq] at hm
 obtain ⟨i, rfl, hi, _⟩ := mem_diffL.1 hn
 rw [length_mean] at hi
 have hr := depAt_mem hG hi hm.1
 exact ⟨hm.2, hr.1, hr.2, hm.1⟩
theorem whyGo_succ (g : Graph) (x ch : List Int) (k : Nat) (n : Int) (out : List Int) : whyGo g x ch (k + 1) n out = if kindAt g n = 0 then n :: out else whyGo g x ch k (nxt g x ch n) (n :: out) := rfl
theorem whyGo_more {g : Graph} (hG : validG g = true) (a b : List Int) (k : Nat) {n : Int} (hn : n ∈ diffL (mean g a) (mean g b)) (hk : n.toNat + 1 ≤ k) (out : List Int) :
  whyGo g (mean g a) (diffL (mean g a) (mean g b)) k n out = whyGo g (mean g a) (diffL (mean g a) (mean g b)) (n.toNat + 1) n out := by
 induction k generalizing n out with
 | zero => omega
 | succ k ih =>
  rw [whyGo_succ, whyGo_succ]
  by_cases h0 : kindAt g n = 0
  ·rw [if_pos h0, if_pos h0]
  ·rw [if_neg h0, if_neg h0]
   obtain ⟨h1, h2, h3, _⟩ := nxt_spec hG a b hn h0
   have e : ∀ m : Nat, (nxt g (mean g a) (diffL (mean g a) (mean g b)) n).toNat + 1 ≤ m → m ≤ k → whyGo g (mean g a) (diffL (mean g a) (mean g b)) m (nxt g (mean g a) (diffL (mean g a) (mean g b)) n) (n :: out) = whyGo g (mean g a) (diffL (mean g a) (mean g b)) k (nxt g (mean g a) (diffL (mean g a) (mean g b)) n) (n :: out) := by
    intro m hm hmk
    rw [ih h1 (by omega)]
    clear hk
    have key : ∀ (j m : Nat) (n : Int) (out : List Int), n ∈ diffL (mean g a) (mean g b) → n.toNat + 1 ≤ m → m ≤ j → whyGo g (mean g a) (diffL (mean g a) (mean g b)) m n out = whyGo g (mean g a) (diffL (mean g a) (mean g b)) (n.toNat + 1) n out := by
     intro j
     induction j with
     | zero => intro m n out _ h h'; omega
     | succ j ihj =>
      intro m n out hn h h'
      cases m with
      | zero => omega
      | succ m =>
       rw [whyGo_succ, whyGo_succ]
       by_cases h0 : kindAt g n = 0
       ·rw [if_pos h0, if_pos h0]
       ·rw [if_neg h0, if_neg h0]
        obtain ⟨h1, h2, h3, _⟩ := nxt_spec hG a b hn h0
        rw [ihj m _ _ h1 (by omega) (by omega), ihj n.toNat _ _ h1 (by omega) (by omega)]
    exact key m m _ _ h1 hm (Nat.le_refl _)
   by_cases hk2 : n.toNat ≤ k
   ·exact (e n.toNat (by omega) hk2).symm
   ·omega
theorem whyGo_step {g : Graph} (hG : validG g = true) (a b : List Int) {n : Int} (hn : n ∈ diffL (mean g a) (mean g b)) (h0 : kindAt g n ≠ 0) (out : List Int) :
  whyGo g (mean g a) (diffL (mean g a) (mean g b)) (n.toNat + 1) n out = whyGo g (mean g a) (diffL (mean g a) (mean g b)) ((nxt g (mean g a) (diffL (mean g a) (mean g b)) n).toNat + 1) (nxt g (mean g a) (diffL (mean g a) (mean g b)) n) (n :: out) := by
 obtain ⟨h1, h2, h3, _⟩ := nxt_spec hG a b hn h0
 rw [whyGo_succ, if_neg h0, whyGo_more hG a b n.toNat h1 (by omega)]
theorem whyGo_end {g : Graph} {x ch : List Int} {n : Int} (h0 : kindAt g n = 0) (k : Nat) (out : List Int) : whyGo g x ch (k + 1) n out = n :: out := by
 rw [whyGo_succ, if_pos h0]
theorem whichL_sorted (p : Nat → Bool) (k : Nat) : (whichL p k).Pairwise (· < ·) := by
 induction k with
 | zero => simp [whichL]
 | succ k ih =>
  rw [whichL_succ]
  split
  ·rw [List.pairwise_append]
   refine ⟨ih, by simp, fun x hx y hy => ?_⟩
   obtain ⟨i, rfl, hi, _⟩ := mem_whichL.1 hx
   simp at hy
   omega
  ·exact ih
theorem head_least {l : List Int} (h : l.Pairwise (· < ·)) {x : Int} {r : List Int} (hl : l = x :: r) : ∀ y ∈ l, x ≤ y := by
 subst hl
 intro y hy
 rcases List.mem_cons.1 hy with rfl | hy
 ·omega
 ·have := List.rel_of_pairwise_cons h hy; omega
/-- the reference takes the first of those that changed -/
theorem nxt_first {g : Graph} (hG : validG g = true) (a b : List Int) {n : Int} (hn : n ∈ diffL (mean g a) (mean g b)) (h0 : kindAt g n ≠ 0) :
  (common (diffL (mean g a) (mean g b)) (depAt g (mean g a) n.toNat))[0]? = some (nxt g (mean g a) (diffL (mean g a) (mean g b)) n) := by
 have hne := why_read hG a b hn h0
 have hs := minL_spec hne
 have hm := hs.1
 have hmem : ∀ z, z ∈ common (diffL (mean g a) (mean g b)) (depAt g (mean g a) n.toNat) ↔ z ∈ common (depAt g (mean g a) n.toNat) (diffL (mean g a) (mean g b)) := by
  intro z
  unfold common
  simp only [List.mem_filter, decide_eq_true_eq]
  exact And.comm
 have hsort : (common (diffL (mean g a) (mean g b)) (depAt g (mean g a) n.toNat)).Pairwise (· < ·) := (whichL_sorted _ _).filter _
 cases hl : common (diffL (mean g a) (mean g b)) (depAt g (mean g a) n.toNat) with
 | nil =>
  have := (hmem _).2 hm
  rw [hl] at this
  cases this
 | cons x r =>
  have h1 := head_least hsort hl _ ((hmem _).2 hm)
  have h2 := hs.2 x ((hmem x).1 (by rw [hl]; simp))
  have : x = nxt g (mean g a) (diffL (mean g a) (mean g b)) n := by unfold nxt; omega
  simp [this]
theorem whyGo_len {g : Graph} (x ch : List Int) (k : Nat) (n : Int) (out : List Int) : (whyGo g x ch k n out).length ≤ k + 1 + out.length := by
 induction k generalizing n out with
 | zero => simp [whyGo]; omega
 | succ k ih =>
  rw [whyGo_succ]
  split
  ·simp; omega
  ·have := ih (nxt g x ch n) (n :: out)
   simp only [List.length_cons] at this
   omega
end Sg
