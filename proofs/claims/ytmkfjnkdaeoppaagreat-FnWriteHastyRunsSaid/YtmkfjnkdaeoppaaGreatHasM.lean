/- The plain model of the hasty machine: no program in sight. Conditions: none. -/
import Derived.Test.YtmkfjnkdaeoppaaGreatModLaz
import Derived.Test.YtmkfjnkdaeoppaaGreatModelH
namespace Sg
structure HS where
 vals : List Int
 reads : List (List Int)
 ran : List Int
def ranH (g : Graph) (s : HS) (i : Nat) : HS := ⟨s.vals.set i (runF (g.getD i default).f s.vals).1, s.reads.set i (runF (g.getD i default).f s.vals).2, s.ran ++ [(i : Int)]⟩
def stepH (g : Graph) (rec : Nat → HS → HS) (n : Nat) (s : HS) (i : Nat) : HS :=
 if (n : Int) ∈ s.reads.getD i [] ∧ s.ran.length ≠ 200 then (if (runF (g.getD i default).f s.vals).1 = s.vals.getD i 0 then ranH g s i else rec i (ranH g s i)) else s
def hastyS (g : Graph) : Nat → Nat → HS → HS
 | 0, _, s => s
 | f + 1, n, s => (List.range g.length).foldl (stepH g (hastyS g f) n) s
def hastyTo (g : Graph) (f n : Nat) (s : HS) (k : Nat) : HS := (List.range k).foldl (stepH g (hastyS g f) n) s
theorem hastyTo_succ (g : Graph) (f n : Nat) (s : HS) (k : Nat) : hastyTo g f n s (k + 1) = stepH g (hastyS g f) n (hastyTo g f n s k) k := by unfold hastyTo; rw [List.range_succ, List.foldl_append]; rfl
theorem hastyTo_all (g : Graph) (f n : Nat) (s : HS) : hastyTo g f n s g.length = hastyS g (f + 1) n s := rfl
structure HIn (g : Graph) (s : HS) : Prop where
 v : s.vals.length = g.length
 r : s.reads.length = g.length
 n : inRange s.vals
 i : WrIn g s.reads
 c : ∀ k nd, g[k]? = some nd → nd.kind = 0 → s.reads.getD k [] = []
 m : s.ran.length ≤ 200
theorem HIn.ran {g : Graph} {s : HS} (hG : validG g = true) (h : HIn g s) {k n : Nat} (hk : k < g.length) (hn : (n : Int) ∈ s.reads.getD k []) (h2 : s.ran.length ≠ 200) : HIn g (ranH g s k) := by
 have hg : g[k]? = some g[k] := List.getElem?_eq_getElem hk
 generalize g[k] = nd at hg
 have hd : g.getD k default = nd := by simp [hg]
 have h0 : nd.kind ≠ 0 := fun e => by rw [h.c k nd hg e] at hn; cases hn
 unfold ranH
 rw [hd]
 refine ⟨by simp [h.v], by simp [h.r], fun x hx => ?_, h.i.put hG _ hg h0, fun j nd' hj e => ?_, by have := h.m; simp; omega⟩
 ·rcases List.mem_or_eq_of_mem_set hx with hx | rfl
  ·exact h.n x hx
  ·exact runF_range (validG_fok hG k hg h0) h.n
 ·by_cases hjk : k = j
  ·subst hjk
   rw [hg] at hj
   injection hj with hj
   subst hj
   exact absurd e h0
  ·show (s.reads.set k _).getD j [] = []
   rw [List.getD_eq_getElem?_getD, List.getElem?_set_ne hjk, ← List.getD_eq_getElem?_getD]
   exact h.c j nd' hj e
theorem hasty_in {g : Graph} (hG : validG g = true) : ∀ (f n : Nat) (s : HS), HIn g s → HIn g (hastyS g f n s) ∧ s.ran.length ≤ (hastyS g f n s).ran.length := by
 intro f
 induction f with
 | zero => intro n s h; exact ⟨h, Nat.le_refl _⟩
 | succ f ih =>
  intro n s h
  have key : ∀ k, k ≤ g.length → HIn g (hastyTo g f n s k) ∧ s.ran.length ≤ (hastyTo g f n s k).ran.length := by
   intro k
   induction k with
   | zero => intro _; exact ⟨h, Nat.le_refl _⟩
   | succ k ihk =>
    intro hk
    obtain ⟨h1, h2⟩ := ihk (by omega)
    rw [hastyTo_succ]
    generalize hastyTo g f n s k = t at *
    unfold stepH
    split
    ·rename_i hc
     have h3 := h1.ran hG (by omega) hc.1 hc.2
     have h4 : (ranH g t k).ran.length = t.ran.length + 1 := by simp [ranH]
     split
     ·exact ⟨h3, by omega⟩
     ·have := ih k _ h3
      exact ⟨this.1, by omega⟩
    ·exact ⟨h1, h2⟩
  exact key g.length (Nat.le_refl _)
theorem hastyTo_in {g : Graph} (hG : validG g = true) (f n : Nat) (s : HS) (h : HIn g s) : ∀ k, k ≤ g.length → HIn g (hastyTo g f n s k) ∧ s.ran.length ≤ (hastyTo g f n s k).ran.length := by
 intro k
 induction k with
 | zero => intro _; exact ⟨h, Nat.le_refl _⟩
 | succ k ihk =>
  intro hk
  obtain ⟨h1, h2⟩ := ihk (by omega)
  rw [hastyTo_succ]
  generalize hastyTo g f n s k = t at *
  unfold stepH
  split
  ·rename_i hc
   have h3 := h1.ran hG (by omega) hc.1 hc.2
   have h4 : (ranH g t k).ran.length = t.ran.length + 1 := by simp [ranH]
   split
   ·exact ⟨h3, by omega⟩
   ·have := hasty_in hG f k _ h3
    exact ⟨this.1, by omega⟩
  ·exact ⟨h1, h2⟩
theorem step_full {g : Graph} {rec : Nat → HS → HS} {n : Nat} {s : HS} (h : s.ran.length = 200) (k : Nat) : stepH g rec n s k = s := by
 unfold stepH
 rw [if_neg (fun hc => hc.2 h)]
/-- when all runs are spent, the rest does nothing -/
theorem hastyTo_full {g : Graph} {f n : Nat} {s : HS} {k : Nat} (hk : k ≤ g.length) (h : (hastyTo g f n s k).ran.length = 200) : hastyTo g f n s g.length = hastyTo g f n s k := by
 have key : ∀ d, hastyTo g f n s (k + d) = hastyTo g f n s k := by
  intro d
  induction d with
  | zero => rfl
  | succ d ih => rw [← Nat.add_assoc, hastyTo_succ, ih, step_full h]
 have := key (g.length - k)
 rwa [show k + (g.length - k) = g.length from by omega] at this
theorem HIn.of {g : Graph} {st : Eager} (h : validE g st = true) {n : Nat} {x : Int} (hx : 0 ≤ x ∧ x ≤ 999) : HIn g ⟨st.vals.set n x, st.reads, []⟩ := by
 obtain ⟨hG, hv, hr, hn, hR⟩ := validE_parts h
 refine ⟨by simp [hv], hr, fun y hy => ?_, WrIn.of h, fun k nd hk e => rightAt_cell hk e (hR k (List.getElem?_eq_some_iff.1 hk).1), by simp⟩
 rcases List.mem_or_eq_of_mem_set hy with hy | rfl
 ·exact inR999_range hn y hy
 ·exact hx
theorem HIn.of0 {g : Graph} {st : Eager} (h : validE g st = true) : HIn g ⟨st.vals, st.reads, []⟩ := by
 obtain ⟨hG, hv, hr, hn, hR⟩ := validE_parts h
 exact ⟨hv, hr, inR999_range hn, WrIn.of h, fun k nd hk e => rightAt_cell hk e (hR k (List.getElem?_eq_some_iff.1 hk).1), by simp⟩
/-- what WriteHasty comes to -/
def mayHasty (g : Graph) (st : Eager) (n x : Int) : Bool := validE g st && isCell g n && inR x 0 999
def hastyR (g : Graph) (st : Eager) (n : Nat) (x : Int) : HS := if st.vals.getD n 0 = x then ⟨st.vals, st.reads, []⟩ else hastyS g 201 n ⟨st.vals.set n x, st.reads, []⟩
def hastyO (g : Graph) (st : Eager) (n x : Int) : Eager × List Int := if mayHasty g st n x = true then (⟨(hastyR g st n.toNat x).vals, (hastyR g st n.toNat x).reads⟩, (hastyR g st n.toNat x).ran) else (⟨[], []⟩, [])
theorem hastyR_in {g : Graph} {st : Eager} (h : validE g st = true) {n : Nat} {x : Int} (hx : 0 ≤ x ∧ x ≤ 999) : HIn g (hastyR g st n x) := by
 unfold hastyR
 split
 ·exact HIn.of0 h
 ·exact (hasty_in (validE_parts h).1 201 n _ (HIn.of h hx)).1
end Sg
