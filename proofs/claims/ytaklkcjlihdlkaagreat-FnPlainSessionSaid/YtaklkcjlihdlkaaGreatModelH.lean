/- The plain model of eager writes: a list of what changed against Booleans. Conditions: none. -/
import Derived.Test.YtaklkcjlihdlkaaGreatModLaz
namespace Sg
def ChR (g : Graph) (chg : List Int) (ck : List Bool) : Prop := ∀ i, i < g.length → ck.getD i false = decide ((i : Int) ∈ chg)
theorem ChR.start (g : Graph) : ChR g [] (List.replicate g.length false) := by
 intro i hi
 simp [hi]
theorem ChR.keep {g : Graph} {chg : List Int} {ck : List Bool} (h : ChR g chg ck) {j : Nat} (hj : (j : Int) ∉ chg) : ChR g chg (ck.set j false) := by
 intro i hi
 by_cases e : i = j
 ·subst e
  rw [List.getD_eq_getElem?_getD]
  by_cases hl : i < ck.length
  ·rw [List.getElem?_set_self hl]; simpa using hj
  ·rw [List.getElem?_eq_none (by simp; omega)]; simpa using hj
 ·rw [List.getD_eq_getElem?_getD, List.getElem?_set_ne (fun h => e h.symm), ← List.getD_eq_getElem?_getD]
  exact h i hi
theorem ChR.add {g : Graph} {chg : List Int} {ck : List Bool} (h : ChR g chg ck) {j : Nat} (hl : j < ck.length) : ChR g (chg ++ [(j : Int)]) (ck.set j true) := by
 intro i hi
 by_cases e : i = j
 ·subst e
  rw [List.getD_eq_getElem?_getD, List.getElem?_set_self hl]
  simp
 ·rw [List.getD_eq_getElem?_getD, List.getElem?_set_ne (fun h => e h.symm), ← List.getD_eq_getElem?_getD, h i hi]
  have h1 : (i : Int) ≠ (j : Int) := by omega
  simp [h1]
theorem set_self {l : List Int} {j : Nat} {x : Int} (h : l[j]? = some x) : l.set j x = l := by
 apply List.ext_getElem?
 intro i
 by_cases e : j = i
 ·subst e
  rw [List.getElem?_set_self (List.getElem?_eq_some_iff.1 h).1, h]
 ·rw [List.getElem?_set_ne e]
theorem hit_meets {g : Graph} {chg : List Int} {s : WrS} (h : ChR g chg s.ch) {l : List Int} (hl : ∀ x ∈ l, 0 ≤ x ∧ x < (g.length : Int)) : hit s l = meets l chg := by
 unfold hit meets
 rw [Bool.eq_iff_iff, List.any_eq_true, List.any_eq_true]
 constructor
 ·rintro ⟨x, hx, hb⟩
  refine ⟨x, hx, ?_⟩
  have h1 := hl x hx
  rw [h x.toNat (by omega)] at hb
  rwa [show ((x.toNat : Nat) : Int) = x from by omega] at hb
 ·rintro ⟨x, hx, hb⟩
  refine ⟨x, hx, ?_⟩
  have h1 := hl x hx
  rw [h x.toNat (by omega)]
  rwa [show ((x.toNat : Nat) : Int) = x from by omega]
end Sg
