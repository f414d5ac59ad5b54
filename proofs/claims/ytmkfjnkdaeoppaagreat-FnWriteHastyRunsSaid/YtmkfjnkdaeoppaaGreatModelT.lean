/- The plain model of what may run, and that what must run is among it: no program in sight. Conditions: none. -/
import Derived.Test.YtmkfjnkdaeoppaaGreatModelR
namespace Sg
/-- a way of uses leads from n to i -/
inductive Use (g : Graph) (n : Nat) : Nat → Prop
 | self : Use g n n
 | more {m i : Nat} : Use g n m → (m : Int) ∈ mayRead (g.getD i default).f → Use g n i
theorem Use.iff {g : Graph} {n i : Nat} : Use g n i ↔ i = n ∨ ∃ m : Nat, (m : Int) ∈ mayRead (g.getD i default).f ∧ Use g n m := by
 constructor
 ·intro h
  cases h with
  | self => exact .inl rfl
  | more h1 h2 => exact .inr ⟨_, h2, h1⟩
 ·rintro (rfl | ⟨m, h1, h2⟩)
  ·exact .self
  ·exact .more h2 h1
theorem may_ahead {g : Graph} (hG : validG g = true) {i : Nat} {x : Int} (hi : i < g.length) (hx : x ∈ mayRead (g.getD i default).f) : 0 ≤ x ∧ x < (i : Int) := by
 have hn : g[i]? = some g[i] := List.getElem?_eq_getElem hi
 refine ⟨(mayRead_range hx).1, ?_⟩
 have hg := validG_node hG i hi
 unfold goodNode at hg
 rw [getD_of hn] at hg hx
 dsimp only at hg
 by_cases h0 : g[i].kind = 0
 ·rw [if_pos h0] at hg
  have hl : g[i].f = [] := by simpa using hg
  rw [hl] at hx
  unfold mayRead hasRead at hx
  simp at hx
 ·rw [if_neg h0] at hg
  split at hg
  ·simp only [Bool.and_eq_true] at hg
   have hgr := hg.2
   unfold goodReads at hgr
   rw [getD_of hn, List.all_eq_true] at hgr
   have := hgr x hx
   unfold goodRead at this
   simp only [Bool.and_eq_true, decide_eq_true_eq] at this
   exact this.1
  ·cases hg
theorem Use.le {g : Graph} (hG : validG g = true) {n i : Nat} (h : Use g n i) (hi : i < g.length) : n ≤ i := by
 induction h with
 | self => exact Nat.le_refl _
 | more _ h2 ih =>
  have := may_ahead hG hi h2
  have := ih (by omega)
  omega
open Classical in
noncomputable def useB (g : Graph) (n i : Nat) : Bool := decide (Use g n i)
theorem useB_iff {g : Graph} {n i : Nat} : useB g n i = true ↔ Use g n i := by unfold useB; simp
/-- the marks of the first k nodes -/
noncomputable def marksTo (g : Graph) (n k : Nat) : List Bool := (List.range g.length).map fun j => decide (j < k) && useB g n j
@[simp] theorem length_marksTo (g : Graph) (n k : Nat) : (marksTo g n k).length = g.length := by simp [marksTo]
theorem marksTo_at (g : Graph) (n k j : Nat) (hj : j < g.length) : (marksTo g n k)[j]? = some (decide (j < k) && useB g n j) := by simp [marksTo, hj]
theorem marksTo_start {g : Graph} (hG : validG g = true) {n : Nat} (hn : n < g.length) : (List.replicate g.length false).set n true = marksTo g n (n + 1) := by
 refine List.ext_getElem? fun j => ?_
 by_cases hj : j < g.length
 ·rw [marksTo_at g n _ j hj, List.getElem?_set]
  by_cases e : n = j
  ·subst e
   rw [if_pos rfl, if_pos (by simpa using hn)]
   have : useB g n n = true := useB_iff.2 .self
   simp [this]
  ·rw [if_neg e]
   have h1 : (decide (j < n + 1) && useB g n j) = false := by
    rw [Bool.and_eq_false_iff]
    by_cases h2 : j < n + 1
    ·right
     rw [← Bool.not_eq_true, useB_iff]
     intro h3
     have := h3.le hG hj
     omega
    ·left; simpa using h2
   rw [h1]
   simp [hj]
 ·rw [List.getElem?_eq_none (by simp; omega), List.getElem?_eq_none (by simp; omega)]
/-- node i's mark, after the first m of what it may read -/
noncomputable def markIn (g : Graph) (n i m : Nat) : Bool := ((mayRead (g.getD i default).f).take m).any fun x => useB g n x.toNat
theorem marksTo_zero (g : Graph) (n i : Nat) : (marksTo g n i).set i (markIn g n i 0) = marksTo g n i := by
 refine List.ext_getElem? fun j => ?_
 rw [List.getElem?_set]
 by_cases e : i = j
 ·subst e
  rw [if_pos rfl]
  by_cases hi : i < g.length
  ·rw [if_pos (by simpa using hi), marksTo_at g n i i hi]
   simp [markIn]
  ·rw [if_neg (by simpa using hi), List.getElem?_eq_none (by simp; omega)]
 ·rw [if_neg e]
theorem markIn_succ {g : Graph} {n i m : Nat} {x : Int} (hx : (mayRead (g.getD i default).f)[m]? = some x) : markIn g n i (m + 1) = (markIn g n i m || useB g n x.toNat) := by
 unfold markIn
 obtain ⟨hm, he⟩ := List.getElem?_eq_some_iff.1 hx
 rw [List.take_succ_eq_append_getElem hm, List.any_append, he]
 simp
theorem marksTo_next {g : Graph} (hG : validG g = true) {n i : Nat} (hi : i < g.length) (hn : n < i) : (marksTo g n i).set i (markIn g n i (mayRead (g.getD i default).f).length) = marksTo g n (i + 1) := by
 have hm : markIn g n i (mayRead (g.getD i default).f).length = useB g n i := by
  unfold markIn
  rw [List.take_length, Bool.eq_iff_iff, List.any_eq_true, useB_iff, Use.iff]
  constructor
  ·rintro ⟨x, hx, h⟩
   have hr := may_ahead hG hi hx
   exact .inr ⟨x.toNat, by rw [Int.toNat_of_nonneg hr.1]; exact hx, useB_iff.1 h⟩
  ·rintro (e | ⟨m, h1, h2⟩)
   ·omega
   ·exact ⟨m, h1, useB_iff.2 h2⟩
 rw [hm]
 refine List.ext_getElem? fun j => ?_
 rw [List.getElem?_set]
 by_cases e : i = j
 ·subst e
  rw [if_pos rfl, if_pos (by simpa using hi), marksTo_at g n _ i hi]
  simp
 ·rw [if_neg e]
  by_cases hj : j < g.length
  ·rw [marksTo_at g n _ j hj, marksTo_at g n _ j hj]
   have : decide (j < i + 1) = decide (j < i) := by rw [Bool.eq_iff_iff]; simp; omega
   rw [this]
  ·rw [List.getElem?_eq_none (by simp; omega), List.getElem?_eq_none (by simp; omega)]
/-- which nodes may run -/
noncomputable def mayAt (g : Graph) (nodes : List Int) (i : Nat) : Bool := (kindAt g (i : Int) != 0) && nodes.any fun n => useB g n.toNat i
noncomputable def mayRunL (g : Graph) (nodes : List Int) : List Int := if (validG g && cellsDiffer g nodes) = true then whichL (mayAt g nodes) g.length else []
end Sg
