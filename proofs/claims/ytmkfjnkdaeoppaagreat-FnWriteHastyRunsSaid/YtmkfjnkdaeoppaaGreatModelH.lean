/- The plain model of eager writes: a list of what changed against Booleans. Conditions: none. -/
import Derived.Test.YtmkfjnkdaeoppaaGreatModLaz
namespace Sg
def ChR (g : Graph) (chg : List Int) (ck : List Bool) : Prop := ∀ i, i < g.length → ck.getD i false = decide ((i : Int) ∈ chg)
theorem ChR.start (g : Graph) : ChR g [] (List.replicate g.length false) := by
 intro i hi
 simp [hi]
theorem ChR.keep {g : Graph} {chg : List Int} {ck : List Bool} (h : ChR g chg ck) {j : Nat} (hj : (j : Int) ∉ chg) : ChR g chg (ck.set j false) := by
 intro i hi
 by_cases e : i = j
 ·subst e
  rw [List.getD_eq_getElem?_getD]
  by_cases hl : i < ck.length
  ·rw [List.getElem?_set_self hl]; simpa using hj
  ·rw [List.getElem?_eq_none (by simp; omega)]; simpa using hj
 ·rw [List.getD_eq_getElem?_getD, List.getElem?_set_ne (fun h => e h.symm), ← List.getD_eq_getElem?_getD]
  exact h i hi
theorem ChR.add {g : Graph} {chg : List Int} {ck : List Bool} (h : ChR g chg ck) {j : Nat} (hl : j < ck.length) : ChR g (chg ++ [(j : Int)]) (ck.set j true) := by
 intro i hi
 by_cases e : i = j
 ·subst e
  rw [List.getD_eq_getElem?_getD, List.getElem?_set_self hl]
  simp
 ·rw [List.getD_eq_getElem?_getD, List.getElem?_set_ne (fun h => e h.symm), ← List.getD_eq_getElem?_getD, h i hi]
  have h1 : (i : Int) ≠ (j : Int) := by omega
  simp [h1]
theorem set_self {l : List Int} {j : Nat} {x : Int} (h : l[j]? = some x) : l.set j x = l := by
 apply List.ext_getElem?
 intro i
 by_cases e : j = i
 ·subst e
  rw [List.getElem?_set_self (List.getElem?_eq_some_iff.1 h).1, h]
 ·rw [List.getElem?_set_ne e]
end Sg
