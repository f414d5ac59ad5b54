/- Parts of one proof, joined. The plain model of what must run, and of chosen nodes: no program in sight. Conditions: none. The plain model of the lazy machine's states: no program in sight. Conditions: none. The plain model of the cells of states: no program in sight. Conditions: none. The plain model of what is stale, and of the cells of lazy states: no program in sight. Conditions: none. The plain model of doubt, and of what a write spoils: no program in sight. Conditions: none. The plain law of the eager machine's states: valid ones are those that mean something. Conditions: none. The plain model of eager writes: no program in sight. Conditions: none. The plain model of why a value changed: no program in sight. Conditions: none. -/
import Derived.Test.YtdnlpklmihoapaaGreatDoorCore
/- The plain model of what must run, and of chosen nodes: no program in sight. Conditions: none. -/
namespace Sg
/-- lists with a number in common -/
def meets (a b : List Int) : Bool := a.any fun x => decide (x ∈ b)
end Sg

/- The plain model of the lazy machine's states: no program in sight. Conditions: none. -/
namespace Sg
def missing (a b : List Int) : List Int := a.filter fun x => decide (x ∉ b)
end Sg

/- The plain model of the cells of states: no program in sight. Conditions: none. -/
namespace Sg
/-- values, with 0 for the first k nodes that are no cells -/
def cellsTo (g : Graph) (v : List Int) (k : Nat) : List Int := (List.range v.length).map fun i => if i < k ∧ (g.getD i default).kind ≠ 0 then 0 else v.getD i 0
def cellsOf (g : Graph) (v : List Int) : List Int := cellsTo g v v.length
@[simp] theorem length_cellsTo (g : Graph) (v : List Int) (k : Nat) : (cellsTo g v k).length = v.length := by simp [cellsTo]
@[simp] theorem length_cellsOf (g : Graph) (v : List Int) : (cellsOf g v).length = v.length := by simp [cellsOf]
end Sg

/- The plain model of what is stale, and of the cells of lazy states: no program in sight. Conditions: none. -/
namespace Sg
end Sg

/- The plain model of doubt, and of what a write spoils: no program in sight. Conditions: none. -/
namespace Sg
/-- a way of reads leads from n to i -/
inductive Way (r : List (List Int)) (n : Nat) : Nat → Prop
 | one {i : Nat} : (n : Int) ∈ r.getD i [] → Way r n i
 | more {m i : Nat} : Way r n m → (m : Int) ∈ r.getD i [] → Way r n i
theorem Way.split {r : List (List Int)} {n i : Nat} (h : Way r n i) : (n : Int) ∈ r.getD i [] ∨ ∃ m : Nat, (n : Int) ∈ r.getD m [] ∧ Way r m i := by
 induction h with
 | one h => exact .inl h
 | more _ h2 ih =>
  rcases ih with h | ⟨m, h, k⟩
  ·exact .inr ⟨_, h, .one h2⟩
  ·exact .inr ⟨m, h, .more k h2⟩
theorem Way.last {r : List (List Int)} {n i : Nat} (h : Way r n i) : (n : Int) ∈ r.getD i [] ∨ ∃ m : Nat, Way r n m ∧ (m : Int) ∈ r.getD i [] := by
 cases h with
 | one h => exact .inl h
 | more h k => exact .inr ⟨_, h, k⟩
/-- what is read lies ahead -/
def Ahead (r : List (List Int)) : Prop := ∀ (k : Nat), ∀ x ∈ r.getD k [], 0 ≤ x ∧ x < (k : Int)
theorem Way.lt {r : List (List Int)} {n i : Nat} (hA : Ahead r) (h : Way r n i) : n < i := by
 induction h with
 | one h => have := (hA _ _ h).2; omega
 | more _ h ih => have := (hA _ _ h).2; omega
theorem mem_getD_lt {r : List (List Int)} {i : Nat} {x : Int} (h : x ∈ r.getD i []) : i < r.length := by
 apply Decidable.byContradiction
 intro hh
 rw [List.getD_eq_getElem?_getD, List.getElem?_eq_none (by omega)] at h
 cases h
theorem Way.len {r : List (List Int)} {n i : Nat} (h : Way r n i) : i < r.length := by
 cases h with
 | one h => exact mem_getD_lt h
 | more _ h => exact mem_getD_lt h
open Classical in
/-- marked nodes that were clean are to be checked -/
noncomputable def markC (M : Nat → Prop) (c : List Int) : List Int := c.mapIdx fun i x => if M i ∧ x = 0 then 1 else x
@[simp] theorem length_markC (M : Nat → Prop) (c : List Int) : (markC M c).length = c.length := by simp [markC]
/-- above n, what marked nodes lead to is marked -/
def Closed (r : List (List Int)) (n : Nat) (M : Nat → Prop) : Prop := ∀ j i : Nat, M j → n < j → (j : Int) ∈ r.getD i [] → M i
theorem Closed.way {r : List (List Int)} {n j i : Nat} {M : Nat → Prop} (h : Closed r n M) (hA : Ahead r) (hj : M j) (hn : n < j) (w : Way r j i) : M i := by
 induction w with
 | one h1 => exact h _ _ hj hn h1
 | more w1 h1 ih => exact h _ _ ih (by have := w1.lt hA; omega) h1
/-- what is doubted -/
noncomputable def doubtC (r : List (List Int)) (c : List Int) (n : Nat) : List Int := markC (Way r n) c
@[simp] theorem length_doubtC (r : List (List Int)) (c : List Int) (n : Nat) : (doubtC r c n).length = c.length := by simp [doubtC]
open Classical in
/-- what a write spoils, up to node k; d: the readers of n are dirty -/
noncomputable def spoilTo (d : Bool) (r : List (List Int)) (c : List Int) (n k : Nat) : List Int := c.mapIdx fun i x => if i < k ∧ Way r n i then (if d = true ∧ (n : Int) ∈ r.getD i [] then 2 else if x = 0 then 1 else x) else x
@[simp] theorem length_spoilTo (d : Bool) (r : List (List Int)) (c : List Int) (n k : Nat) : (spoilTo d r c n k).length = c.length := by simp [spoilTo]
noncomputable def spoilC (r : List (List Int)) (c : List Int) (n : Nat) : List Int := spoilTo true r c n c.length
@[simp] theorem length_spoilC (r : List (List Int)) (c : List Int) (n : Nat) : (spoilC r c n).length = c.length := by simp [spoilC]
open Classical in
/-- the first readers of a list are dirty -/
noncomputable def dirtyL (l : List Int) (c : List Int) : List Int := c.mapIdx fun i x => if (i : Int) ∈ l then 2 else x
@[simp] theorem length_dirtyL (l c : List Int) : (dirtyL l c).length = c.length := by simp [dirtyL]
end Sg

/- The plain law of the eager machine's states: valid ones are those that mean something. Conditions: none. -/
namespace Sg
end Sg

/- The plain model of eager writes: no program in sight. Conditions: none. -/
namespace Sg
/-- a state while it is written: values, reads, what changed, what ran -/
structure WrS where
 vals : List Int
 reads : List (List Int)
 ch : List Bool
 ran : List Int
def wstep (s : List Int × List Bool) (n x : Int) : List Int × List Bool := (s.1.set n.toNat x, s.2.set n.toNat (s.1.getD n.toNat 0 != x))
def wcells (s : List Int × List Bool) (nodes values : List Int) (k : Nat) : List Int × List Bool := ((nodes.zip values).take k).foldl (fun s p => wstep s p.1 p.2) s
@[simp] theorem wcells_zero (s : List Int × List Bool) (nodes values : List Int) : wcells s nodes values 0 = s := rfl
@[simp] theorem wstep_len1 (s : List Int × List Bool) (n x : Int) : (wstep s n x).1.length = s.1.length := by simp [wstep]
@[simp] theorem wstep_len2 (s : List Int × List Bool) (n x : Int) : (wstep s n x).2.length = s.2.length := by simp [wstep]
theorem foldl_len (l : List (Int × Int)) (s : List Int × List Bool) : (l.foldl (fun s p => wstep s p.1 p.2) s).1.length = s.1.length ∧ (l.foldl (fun s p => wstep s p.1 p.2) s).2.length = s.2.length := by
 induction l generalizing s with
 | nil => exact ⟨rfl, rfl⟩
 | cons a l ih => rw [List.foldl_cons]; have := ih (wstep s a.1 a.2); simpa using this
@[simp] theorem wcells_len1 (s : List Int × List Bool) (nodes values : List Int) (k : Nat) : (wcells s nodes values k).1.length = s.1.length := (foldl_len _ _).1
@[simp] theorem wcells_len2 (s : List Int × List Bool) (nodes values : List Int) (k : Nat) : (wcells s nodes values k).2.length = s.2.length := (foldl_len _ _).2
def hit (s : WrS) (l : List Int) : Bool := l.any fun k => s.ch.getD k.toNat false
def rstep (g : Graph) (s : WrS) (i : Nat) : WrS :=
 if ((g.getD i default).kind != 0 && hit s (s.reads.getD i [])) = true then
  ⟨s.vals.set i (runF (g.getD i default).f s.vals).1, s.reads.set i (runF (g.getD i default).f s.vals).2, s.ch.set i ((runF (g.getD i default).f s.vals).1 != s.vals.getD i 0), s.ran ++ [(i : Int)]⟩
 else s
def rsteps (g : Graph) (s : WrS) (k : Nat) : WrS := (List.range k).foldl (rstep g) s
@[simp] theorem rsteps_zero (g : Graph) (s : WrS) : rsteps g s 0 = s := rfl
theorem rsteps_succ (g : Graph) (s : WrS) (k : Nat) : rsteps g s (k + 1) = rstep g (rsteps g s k) k := by unfold rsteps; rw [List.range_succ, List.foldl_append]; rfl
/-- what holds of a state while it is written -/
structure WrOk (g : Graph) (s : WrS) : Prop where
 v : s.vals.length = g.length
 r : s.reads.length = g.length
 c : s.ch.length = g.length
 n : inRange s.vals
theorem WrOk.step {g : Graph} {s : WrS} (hG : validG g = true) (h : WrOk g s) (i : Nat) (hi : i < g.length) : WrOk g (rstep g s i) := by
 unfold rstep
 split
 ·rename_i hc
  simp only [Bool.and_eq_true, bne_iff_ne] at hc
  refine ⟨by simp [h.v], by simp [h.r], by simp [h.c], ?_⟩
  intro x hx
  rcases List.mem_or_eq_of_mem_set hx with hx | rfl
  ·exact h.n x hx
  ·have hn : g[i]? = some g[i] := List.getElem?_eq_getElem hi
   have hd : g.getD i default = g[i] := by simp [hn]
   rw [hd] at hc ⊢
   exact runF_range (validG_fok hG i hn hc.1) h.n
 ·exact h
theorem WrOk.steps {g : Graph} {s : WrS} (hG : validG g = true) (h : WrOk g s) (k : Nat) (hk : k ≤ g.length) : WrOk g (rsteps g s k) := by
 induction k with
 | zero => exact h
 | succ k ih => rw [rsteps_succ]; exact (ih (by omega)).step hG k (by omega)
end Sg

/- The plain model of why a value changed: no program in sight. Conditions: none. -/
namespace Sg
def common (a b : List Int) : List Int := a.filter fun x => decide (x ∈ b)
def minL (l : List Int) : Int := l.foldl min (l.headD 0)
/-- the least of the nodes that n read and that changed -/
def nxt (g : Graph) (x ch : List Int) (n : Int) : Int := minL (common (depAt g x n.toNat) ch)
end Sg
