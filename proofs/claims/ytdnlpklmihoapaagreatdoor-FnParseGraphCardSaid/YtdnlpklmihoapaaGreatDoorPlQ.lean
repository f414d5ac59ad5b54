/- Texts of graphs in plain Lean, line by line, as the walks go. No program in sight. Conditions: in the theorems. -/
import Derived.Test.YtdnlpklmihoapaaGreatDoorPlY
namespace Sg
open Go
/-- what is read of a rest of lines, each with a newline behind it -/
def restG (s : Txt) : Option (Graph × List Int) := match mapL lineI (splitC 10 s).dropLast with
 | some (g, c) => if (splitC 10 s).getLastD [] = [] then some (g, c) else none
 | none => none
theorem restG_nil : restG [] = some ([], []) := rfl
theorem restG_miss {l : Txt} (h : (10 : UInt8) ∉ l) (h0 : l ≠ []) : restG l = none := by
 unfold restG
 rw [splitC_none l h]
 show (if l = [] then _ else none) = none
 rw [if_neg h0]
theorem restG_hit {p r : Txt} (h : (10 : UInt8) ∉ p) : restG (p ++ 10 :: r) = match lineI p with
  | none => none
  | some (n, x) => (restG r).map fun y => (n :: y.1, x :: y.2) := by
 unfold restG
 rw [splitC_app p r h]
 have hne := splitC_ne 10 r
 have e1 : (p :: splitC 10 r).dropLast = p :: (splitC 10 r).dropLast := by
  cases hs : splitC 10 r with
  | nil => exact absurd hs hne
  | cons a t => rfl
 have e2 : (p :: splitC 10 r).getLastD [] = (splitC 10 r).getLastD [] := by
  cases hs : splitC 10 r with
  | nil => exact absurd hs hne
  | cons a t => rfl
 rw [e1, e2, mapL]
 cases lineI p with
 | none => rfl
 | some nx =>
  obtain ⟨n, x⟩ := nx
  simp only
  cases mapL lineI (splitC 10 r).dropLast with
  | none => rfl
  | some gc =>
   obtain ⟨g, c⟩ := gc
   simp only
   split <;> rfl
theorem restG_none {p r : Txt} (h : (10 : UInt8) ∉ p) (hn : lineI p = none) : restG (p ++ 10 :: r) = none := by rw [restG_hit h, hn]
theorem parseGI_rest (s : Txt) : parseGI s = match restG s with
  | some (g, c) => if validG g = true ∧ validC g c = true ∧ fmtG g c = s then some (g, c) else none
  | none => none := by
 unfold parseGI restG
 cases mapL lineI (splitC 10 s).dropLast with
 | none => rfl
 | some gc =>
  obtain ⟨g, c⟩ := gc
  simp only
  by_cases h : (splitC 10 s).getLastD [] = []
  ·rw [if_pos h]
   simp only
   by_cases h2 : validG g = true ∧ validC g c = true ∧ fmtG g c = s
   ·rw [if_pos h2, if_pos ⟨h, h2⟩]
   ·rw [if_neg h2, if_neg (fun e => h2 e.2)]
  ·rw [if_neg h, if_neg (fun e => h e.1)]
/-- the invariant of the program's loop -/
theorem rest_step {s p r : Txt} {g : Graph} {c : List Int} {n : Node} {x : Int} (h : (10 : UInt8) ∉ p) (hn : lineI p = some (n, x)) (hi : restG s = (restG (p ++ 10 :: r)).map fun y => (g ++ y.1, c ++ y.2)) :
  restG s = (restG r).map fun y => ((g ++ [n]) ++ y.1, (c ++ [x]) ++ y.2) := by
 rw [hi, restG_hit h, hn]
 simp only [Option.map_map]
 congr 1
 funext y
 simp
theorem cut_ten (l : Txt) : ((10 : UInt8) ∉ l ∧ Lib.cut l [10] = (l, [], false)) ∨ ∃ p r, (10 : UInt8) ∉ p ∧ l = p ++ 10 :: r ∧ Lib.cut l [10] = (p, r, true) := by
 by_cases h : (10 : UInt8) ∈ l
 ·obtain ⟨p, r, rfl, hp⟩ := first_at l h
  exact .inr ⟨p, r, hp, rfl, cut_hit p r hp⟩
 ·exact .inl ⟨h, cut_miss l h⟩
theorem mapL_at {f : Txt → Option (Node × Int)} {ls : List Txt} {i : Nat} {l : Txt} (h : ls[i]? = some l) : mapL f (ls.drop i) = match f l with
  | none => none
  | some (n, x) => (mapL f (ls.drop (i + 1))).map fun y => (n :: y.1, x :: y.2) := by
 obtain ⟨hl, he⟩ := List.getElem?_eq_some_iff.1 h
 rw [List.drop_eq_getElem_cons hl, he, mapL]
 cases f l with
 | none => rfl
 | some nx =>
  obtain ⟨n, x⟩ := nx
  simp only
  cases mapL f (ls.drop (i + 1)) with
  | none => rfl
  | some gc => obtain ⟨g, c⟩ := gc; rfl
theorem mapL_step {f : Txt → Option (Node × Int)} {ls : List Txt} {i : Nat} {l : Txt} {g : Graph} {c : List Int} {n : Node} {x : Int} (h : ls[i]? = some l) (hn : f l = some (n, x)) (hi : mapL f ls = (mapL f (ls.drop i)).map fun y => (g ++ y.1, c ++ y.2)) :
  mapL f ls = (mapL f (ls.drop (i + 1))).map fun y => ((g ++ [n]) ++ y.1, (c ++ [x]) ++ y.2) := by
 rw [hi, mapL_at h, hn]
 simp only [Option.map_map]
 congr 1
 funext y
 simp
theorem mapL_bad {f : Txt → Option (Node × Int)} {ls : List Txt} {i : Nat} {l : Txt} {g : Graph} {c : List Int} (h : ls[i]? = some l) (hn : f l = none) (hi : mapL f ls = (mapL f (ls.drop i)).map fun y => (g ++ y.1, c ++ y.2)) : mapL f ls = none := by
 rw [hi, mapL_at h, hn]
 rfl
/-- what ParseGraph returns -/
def parsedG (o : Option (Graph × List Int)) : Graph × List Int × Bool := match o with
 | none => ([], [], false)
 | some (g, c) => (g, c, true)
end Sg
