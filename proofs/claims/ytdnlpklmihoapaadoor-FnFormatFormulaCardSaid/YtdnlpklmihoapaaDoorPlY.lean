/- Texts of graphs in plain Lean: what is written is read back, and the other way. No program in sight. Conditions: in the theorems. -/
import Derived.Test.YtdnlpklmihoapaaDoorPlX
import Derived.Test.YtdnlpklmihoapaaDoorCore
namespace Sg
open Go
def cellW : Txt := [99, 101, 108, 108]
def derW : Txt := [100, 101, 114, 105, 118, 101, 100]
def effW : Txt := [101, 102, 102, 101, 99, 116]
/-- the text of a node without its newline -/
def lineT (n : Node) (x : Int) : Txt := if n.kind = 0 then cellW ++ 32 :: numT x.toNat else if n.kind = 1 then derW ++ 32 :: fmtF n.f else effW ++ 32 :: fmtF n.f
def linesT : Graph → List Int → Txt
 | n :: g, x :: c => lineT n x ++ 10 :: linesT g c
 | _, _ => []
def fmtG (g : Graph) (c : List Int) : Txt := if validG g = true ∧ validC g c = true then linesT g c else []
/-- the reference's reading of a line -/
def lineS (l : Txt) : Option (Node × Int) := match splitC 32 l with
 | [] => none
 | w :: ws =>
  if w = cellW ∧ ws.length = 1 then (if readN (ws.getD 0 []) = -1 then none else some (⟨0, []⟩, readN (ws.getD 0 [])))
  else if w = derW then (readFw ws).map fun f => (⟨1, f⟩, 0)
  else if w = effW then (readFw ws).map fun f => (⟨2, f⟩, 0)
  else none
/-- the program's -/
def lineI (l : Txt) : Option (Node × Int) :=
 let w := (Lib.cut l [32]).1
 let t := (Lib.cut l [32]).2.1
 if w = cellW then (decL t).map fun (n : Nat) => ((⟨0, []⟩ : Node), (n : Int))
 else if w = derW then (parseI t).map fun f => (⟨1, f⟩, 0)
 else if w = effW then (parseI t).map fun f => (⟨2, f⟩, 0)
 else none
def mapL (f : Txt → Option (Node × Int)) : List Txt → Option (Graph × List Int)
 | [] => some ([], [])
 | l :: ls => match f l with
  | none => none
  | some (n, x) => match mapL f ls with
   | none => none
   | some (g, c) => some (n :: g, x :: c)
def parseG (s : Txt) : Option (Graph × List Int) := match mapL lineS (splitC 10 s).dropLast with
 | some (g, c) => if (splitC 10 s).getLastD [] = [] ∧ validG g = true ∧ validC g c = true then some (g, c) else none
 | none => none
def parseGI (s : Txt) : Option (Graph × List Int) := match mapL lineI (splitC 10 s).dropLast with
 | some (g, c) => if (splitC 10 s).getLastD [] = [] ∧ validG g = true ∧ validC g c = true ∧ fmtG g c = s then some (g, c) else none
 | none => none
theorem num_free (n : Nat) : (32 : UInt8) ∉ numT n ∧ (10 : UInt8) ∉ numT n := by
 have hd := numT_digits n
 exact ⟨fun e => by have := hd _ e; revert this; decide, fun e => by have := hd _ e; revert this; decide⟩
theorem decL_nil : decL [] = none := by
 cases h : decL [] with
 | none => rfl
 | some n => exact absurd (decL_some h).1.symm (numT_ne n)
theorem decL_space {l : Txt} (h : (32 : UInt8) ∈ l) : decL l = none := by
 cases hd : decL l with
 | none => rfl
 | some n => rw [(decL_some hd).1] at h; exact absurd h (num_free n).1
theorem readN_nil : readN [] = -1 := by decide
theorem parseF_nil : parseF [] = none := by
 unfold parseF readFw
 have : readP rnS [] = none := by
  unfold readP
  rw [kindW_nil, if_neg (by simp), if_neg (by simp)]
  unfold rnS
  rw [readN_nil, if_pos rfl]
  rfl
 show (match runW rnS [[]] ([], []) with | some (f, o) => if o.length = 1 ∧ validF f = true then some f else none | none => none) = none
 unfold runW stepW
 rw [this]
theorem readFw_nil : readFw [] = none := rfl
/-- both read a line alike, but for cells that are too great -/
theorem line_eq (l : Txt) : lineS l = match lineI l with
  | some (n, x) => if x ≤ 999 then some (n, x) else none
  | none => none := by
 by_cases h : (32 : UInt8) ∈ l
 ·obtain ⟨p, r, rfl, hp⟩ := first_at l h
  unfold lineS lineI
  rw [splitC_app p r hp, cut_hit p r hp]
  simp only
  by_cases hc : p = cellW
  ·rw [if_pos hc]
   by_cases hr : (32 : UInt8) ∈ r
   ·rw [decL_space hr]
    obtain ⟨q, t, rfl, hq⟩ := first_at r hr
    have hne := splitC_ne 32 t
    have hlen : 1 ≤ (splitC 32 t).length := by cases hs : splitC 32 t with
     | nil => exact absurd hs hne
     | cons a b => simp
    rw [splitC_app q t hq, if_neg (by simp only [List.length_cons]; omega), if_neg (by rw [hc]; decide), if_neg (by rw [hc]; decide)]
    rfl
   ·rw [splitC_none r hr, if_pos ⟨hc, rfl⟩]
    simp only [List.getD_cons_zero]
    rw [readN_dec]
    cases hd : decL r with
    | none => rfl
    | some n =>
     simp only [Option.map_some]
     by_cases hn : n ≤ 999
     ·rw [if_pos hn, if_neg (by omega), if_pos (by omega)]
     ·rw [if_neg hn, if_pos rfl, if_neg (by omega)]
  ·rw [if_neg (fun e => hc e.1), if_neg hc]
   by_cases hd : p = derW
   ·rw [if_pos hd, if_pos hd, parseI_eq]
    unfold parseF
    cases readFw (splitC 32 r) <;> rfl
   ·rw [if_neg hd, if_neg hd]
    by_cases he : p = effW
    ·rw [if_pos he, if_pos he, parseI_eq]
     unfold parseF
     cases readFw (splitC 32 r) <;> rfl
    ·rw [if_neg he, if_neg he]
 ·unfold lineS lineI
  rw [splitC_none l h, cut_miss l h]
  simp only
  rw [if_neg (by simp), decL_nil, parseI_eq, parseF_nil, readFw_nil]
  by_cases hc : l = cellW
  ·rw [if_pos hc, if_neg (by rw [hc]; decide), if_neg (by rw [hc]; decide)]
   rfl
  ·rw [if_neg hc]
   by_cases hd : l = derW
   ·rw [if_pos hd]; rfl
   ·rw [if_neg hd]
    by_cases he : l = effW
    ·rw [if_pos he]; rfl
    ·rw [if_neg he]
/-- a line that was read is written so -/
theorem line_back {l : Txt} {n : Node} {x : Int} (h : lineI l = some (n, x)) : lineT n x = l ∧ 0 ≤ x ∧ ((n.kind = 0 ∧ n.f = []) ∨ ((n.kind = 1 ∨ n.kind = 2) ∧ x = 0 ∧ validF n.f = true ∧ orderF n.f = n.f)) := by
 have hcut : (32 : UInt8) ∈ l ∧ ∃ p r, l = p ++ 32 :: r ∧ (32 : UInt8) ∉ p := by
  by_cases hm : (32 : UInt8) ∈ l
  ·exact ⟨hm, first_at l hm⟩
  ·exfalso
   unfold lineI at h
   rw [cut_miss l hm] at h
   simp only at h
   rw [decL_nil, parseI_eq, parseF_nil] at h
   split at h
   ·cases h
   ·split at h
    ·cases h
    ·split at h <;> cases h
 obtain ⟨-, p, r, rfl, hp⟩ := hcut
 unfold lineI at h
 rw [cut_hit p r hp] at h
 simp only at h
 by_cases hc : p = cellW
 ·rw [if_pos hc] at h
  cases hd : decL r with
  | none => rw [hd] at h; cases h
  | some k =>
   rw [hd] at h
   simp only [Option.map_some, Option.some.injEq, Prod.mk.injEq] at h
   obtain ⟨rfl, rfl⟩ := h
   refine ⟨?_, by omega, .inl ⟨rfl, rfl⟩⟩
   unfold lineT
   rw [if_pos rfl, hc, (decL_some hd).1]
   simp
 ·rw [if_neg hc, parseI_eq] at h
  by_cases hd : p = derW
  ·rw [if_pos hd] at h
   cases hf : parseF r with
   | none => rw [hf] at h; cases h
   | some f =>
    rw [hf] at h
    simp only [Option.map_some, Option.some.injEq, Prod.mk.injEq] at h
    obtain ⟨rfl, rfl⟩ := h
    obtain ⟨h1, h2, h3, -⟩ := parse_some hf
    refine ⟨?_, by omega, .inr ⟨.inl rfl, rfl, h1, h2⟩⟩
    unfold lineT
    rw [if_neg (by simp), if_pos rfl, hd, h3]
  ·rw [if_neg hd] at h
   by_cases he : p = effW
   ·rw [if_pos he] at h
    cases hf : parseF r with
    | none => rw [hf] at h; cases h
    | some f =>
     rw [hf] at h
     simp only [Option.map_some, Option.some.injEq, Prod.mk.injEq] at h
     obtain ⟨rfl, rfl⟩ := h
     obtain ⟨h1, h2, h3, -⟩ := parse_some hf
     refine ⟨?_, by omega, .inr ⟨.inr rfl, rfl, h1, h2⟩⟩
     unfold lineT
     rw [if_neg (by simp), if_neg (by simp), he, h3]
   ·rw [if_neg he] at h
    cases h
theorem mapL_len {f : Txt → Option (Node × Int)} : ∀ (ls : List Txt) {g : Graph} {c : List Int}, mapL f ls = some (g, c) → g.length = ls.length ∧ c.length = ls.length
 | [], g, c, h => by
  simp only [mapL, Option.some.injEq, Prod.mk.injEq] at h
  obtain ⟨rfl, rfl⟩ := h
  exact ⟨rfl, rfl⟩
 | l :: ls, g, c, h => by
  unfold mapL at h
  split at h
  ·cases h
  ·split at h
   ·cases h
   ·rename_i hm
    simp only [Option.some.injEq, Prod.mk.injEq] at h
    obtain ⟨rfl, rfl⟩ := h
    have := mapL_len ls hm
    simp [this]
theorem lines_back : ∀ (ls : List Txt) {g : Graph} {c : List Int}, mapL lineI ls = some (g, c) → linesT g c = joinC 10 (ls ++ [[]])
 | [], g, c, h => by
  simp only [mapL, Option.some.injEq, Prod.mk.injEq] at h
  obtain ⟨rfl, rfl⟩ := h
  rw [List.nil_append, joinC_one]
  rfl
 | l :: ls, g, c, h => by
  unfold mapL at h
  split at h
  ·cases h
  ·rename_i n x hl
   split at h
   ·cases h
   ·rename_i g' c' hm
    simp only [Option.some.injEq, Prod.mk.injEq] at h
    obtain ⟨rfl, rfl⟩ := h
    have hb := (line_back hl).1
    have ih := lines_back ls hm
    show lineT n x ++ 10 :: linesT g' c' = joinC 10 (l :: (ls ++ [[]]))
    rw [hb, ih]
    cases ls with
    | nil => exact (joinC_cons 10 l [] []).symm
    | cons a t => exact (joinC_cons 10 l a (t ++ [[]])).symm
theorem lines_SI : ∀ (ls : List Txt) {g : Graph} {c : List Int}, mapL lineS ls = some (g, c) ↔ (mapL lineI ls = some (g, c) ∧ ∀ x ∈ c, x ≤ 999)
 | [], g, c => by
  simp only [mapL, Option.some.injEq, Prod.mk.injEq]
  refine ⟨fun h => ⟨h, fun x hx => by rw [← h.2] at hx; cases hx⟩, And.left⟩
 | l :: ls, g, c => by
  unfold mapL
  rw [line_eq l]
  cases hl : lineI l with
  | none => simp
  | some y =>
   obtain ⟨n, x⟩ := y
   simp only
   by_cases hx : x ≤ 999
   ·rw [if_pos hx]
    simp only
    constructor
    ·intro h
     split at h
     ·cases h
     ·rename_i g' c' hm
      simp only [Option.some.injEq, Prod.mk.injEq] at h
      obtain ⟨rfl, rfl⟩ := h
      obtain ⟨h1, h2⟩ := (lines_SI ls).1 hm
      rw [h1]
      exact ⟨rfl, fun y hy => (List.mem_cons.1 hy).elim (fun e => e ▸ hx) (h2 y)⟩
    ·rintro ⟨h, h2⟩
     split at h
     ·cases h
     ·rename_i g' c' hm
      simp only [Option.some.injEq, Prod.mk.injEq] at h
      obtain ⟨rfl, rfl⟩ := h
      rw [(lines_SI ls).2 ⟨hm, fun y hy => h2 y (List.mem_cons_of_mem _ hy)⟩]
   ·rw [if_neg hx]
    simp only
    refine ⟨fun h => (by cases h), fun ⟨h, h2⟩ => ?_⟩
    exfalso
    split at h
    ·cases h
    ·simp only [Option.some.injEq, Prod.mk.injEq] at h
     obtain ⟨-, rfl⟩ := h
     exact hx (h2 x (by simp))
theorem validC_le {g : Graph} {c : List Int} (h : validC g c = true) : ∀ x ∈ c, 0 ≤ x ∧ x ≤ 999 := by
 intro x hx
 obtain ⟨i, hi, rfl⟩ := List.getElem_of_mem hx
 unfold validC at h
 rw [Bool.and_eq_true, List.all_eq_true] at h
 have := h.2 i (List.mem_range.2 hi)
 unfold cellOk at this
 simp only [Bool.and_eq_true, inR, decide_eq_true_eq, List.getD_eq_getElem?_getD, List.getElem?_eq_getElem hi, Option.getD_some] at this
 exact this.1
theorem split_last (s : Txt) (h : (splitC 10 s).getLastD [] = []) : splitC 10 s = (splitC 10 s).dropLast ++ [[]] := by
 have hne := splitC_ne 10 s
 have := List.dropLast_concat_getLast hne
 rw [List.getLastD_eq_getLast?, List.getLast?_eq_some_getLast hne, Option.getD_some] at h
 rw [← this, h]
 simp
/-- both read graphs alike -/
theorem parseG_eq (s : Txt) : parseGI s = parseG s := by
 have key : ∀ g c, parseGI s = some (g, c) ↔ parseG s = some (g, c) := fun g c => by
  unfold parseGI parseG
  constructor
  ·intro h
   split at h
   ·rename_i g' c' hm
    split at h
    ·rename_i hc
     simp only [Option.some.injEq, Prod.mk.injEq] at h
     obtain ⟨rfl, rfl⟩ := h
     rw [(lines_SI _).2 ⟨hm, fun x hx => (validC_le hc.2.2.1 x hx).2⟩]
     simp only
     rw [if_pos ⟨hc.1, hc.2.1, hc.2.2.1⟩]
    ·cases h
   ·cases h
  ·intro h
   split at h
   ·rename_i g' c' hm
    split at h
    ·rename_i hc
     simp only [Option.some.injEq, Prod.mk.injEq] at h
     obtain ⟨rfl, rfl⟩ := h
     have hm' := ((lines_SI _).1 hm).1
     have hb := lines_back _ hm'
     have hfm : fmtG g' c' = s := by
      unfold fmtG
      rw [if_pos hc.2, hb, ← split_last s hc.1, join_splitC]
     rw [hm']
     simp only
     rw [if_pos ⟨hc.1, hc.2.1, hc.2.2, hfm⟩]
    ·cases h
   ·cases h
 cases h1 : parseGI s with
 | some y => rw [(key y.1 y.2).1 h1]
 | none =>
  cases h2 : parseG s with
  | none => rfl
  | some y => rw [(key y.1 y.2).2 h2] at h1; cases h1
/-- what is read is valid, in order, and is written as it was read -/
theorem parseG_some {s : Txt} {g : Graph} {c : List Int} (h : parseG s = some (g, c)) : validG g = true ∧ validC g c = true ∧ fmtG g c = s := by
 rw [← parseG_eq] at h
 unfold parseGI at h
 split at h
 ·split at h
  ·rename_i hc
   simp only [Option.some.injEq, Prod.mk.injEq] at h
   obtain ⟨rfl, rfl⟩ := h
   exact hc.2
  ·cases h
 ·cases h
end Sg
