/- Texts word by word and line by line: how they grow, and how long they are. Plain Lean, no program. Conditions: valid formulas and graphs. -/
import Derived.Test.YtdnlpklmihoapaaDoorPlG
namespace Sg
/-- a part that has a word -/
def okP (p : Part) : Prop := (p.kind = 0 ∨ p.kind = 1) ∧ 0 ≤ p.n ∧ p.n ≤ 999 ∨ 2 ≤ p.kind ∧ p.kind ≤ 8
theorem joinC_snoc (c : UInt8) : ∀ (ls : List Txt) (p : Txt), ls ≠ [] → joinC c (ls ++ [p]) = joinC c ls ++ c :: p
 | [], _, h => absurd rfl h
 | [q], p, _ => by rw [List.singleton_append, joinC_cons, joinC_one, joinC_one]
 | q :: r :: t, p, _ => by
  have := joinC_snoc c (r :: t) p (by simp)
  rw [List.cons_append, List.cons_append, joinC_cons, ← List.cons_append, this, joinC_cons, List.append_assoc]
  rfl
theorem part_ok {f : List Part} (h : Goods f) {p : Part} (hp : p ∈ f) : okP p := by
 obtain ⟨i, hi⟩ := List.getElem?_of_mem hp
 rcases part_cases h hi with ⟨h8, -⟩ | ⟨h2, h7, -⟩ | ⟨h0, -⟩
 ·exact .inr ⟨by omega, by omega⟩
 ·exact .inr ⟨h2, by omega⟩
 ·rcases h0 with ⟨h1, h2, h3⟩ | ⟨h1, h2, h3⟩
  ·exact .inl ⟨.inl h1, h2, by omega⟩
  ·exact .inl ⟨.inr h1, h2, by omega⟩
theorem order_valid {f : List Part} (h : validF f = true) : validF (orderF f) = true := by
 rw [order_flat h]
 exact flat_valid (order_tree h) (by rw [tree_size h]; exact (validF_len h).2)
theorem order_len {f : List Part} (h : validF f = true) : (orderF f).length = f.length := by
 rw [order_flat h, flat_len, tree_size h]
theorem order_ok {f : List Part} (h : validF f = true) : ∀ p ∈ orderF f, okP p := fun _ hp => part_ok (validF_goods (order_valid h)) hp
theorem numT_len {n : Nat} (h : n ≤ 999) : (numT n).length ≤ 3 := by
 by_cases h1 : n < 10
 ·rw [numT_small h1]; simp
 ·rw [numT_big h1]
  by_cases h2 : n / 10 < 10
  ·rw [numT_small h2]; simp
  ·rw [numT_big h2, numT_small (n := n / 10 / 10) (by omega)]; simp
theorem wordK_len (k : Int) : (wordK k).length ≤ 4 := by
 unfold wordK
 repeat' split
 all_goals decide
theorem partT_len {p : Part} (h : okP p) : (partT p).length ≤ 5 := by
 unfold partT
 rcases h with ⟨hk, h0, h9⟩ | ⟨h2, h8⟩
 ·have := numT_len (n := p.n.toNat) (by omega)
  rcases hk with hk | hk <;> simp [hk] <;> omega
 ·rw [if_neg (by omega), if_neg (by omega)]
  have := wordK_len p.kind
  omega
/-- the first words of a formula's text -/
def fmtTo (f : List Part) (j : Nat) : Txt := joinC 32 ((f.take j).map partT)
theorem fmtTo_zero (f : List Part) : fmtTo f 0 = [] := rfl
theorem fmtTo_one {f : List Part} {p : Part} (h : f[0]? = some p) : fmtTo f 1 = partT p := by
 cases f with
 | nil => simp at h
 | cons q t =>
  simp at h
  subst h
  unfold fmtTo
  simp [joinC_one]
theorem fmtTo_succ {f : List Part} {j : Nat} {p : Part} (h : f[j]? = some p) (h0 : 0 < j) : fmtTo f (j + 1) = fmtTo f j ++ [32] ++ partT p := by
 have hj := (List.getElem?_eq_some_iff.1 h).1
 unfold fmtTo
 rw [List.take_add_one, h, List.map_append]
 simp only [Option.toList, List.map_cons, List.map_nil]
 rw [joinC_snoc _ _ _ (by intro e; have := congrArg List.length e; rw [List.length_map, List.length_take, List.length_nil] at this; omega)]
 simp
theorem fmtTo_len {f : List Part} (h : ∀ p ∈ f, okP p) : ∀ j, (fmtTo f j).length ≤ 6 * j
 | 0 => by simp [fmtTo_zero]
 | j + 1 => by
  have ih := fmtTo_len h j
  cases hp : f[j]? with
  | none =>
   have e : fmtTo f (j + 1) = fmtTo f j := by unfold fmtTo; rw [List.take_add_one, hp]; simp
   rw [e]; omega
  | some p =>
   have hl := partT_len (h p (List.mem_of_getElem? hp))
   by_cases h0 : 0 < j
   ·rw [fmtTo_succ hp h0]; simp; omega
   ·obtain rfl : j = 0 := by omega
    rw [fmtTo_one hp]; omega
theorem fmtF_to {f : List Part} (h : validF f = true) : fmtF f = fmtTo (orderF f) (orderF f).length := by
 unfold fmtF fmtTo
 rw [if_pos h, List.take_length]
theorem fmtF_len (f : List Part) : (fmtF f).length ≤ 72 := by
 by_cases h : validF f = true
 ·rw [fmtF_to h]
  have := fmtTo_len (order_ok h) (orderF f).length
  have := (validF_len h).2
  have := order_len h
  omega
 ·unfold fmtF
  rw [if_neg h]
  simp
/-- the first lines of a graph's text -/
def linesTo (g : Graph) (c : List Int) (j : Nat) : Txt := linesT (g.take j) (c.take j)
theorem linesTo_zero (g : Graph) (c : List Int) : linesTo g c 0 = [] := rfl
theorem linesT_snoc : ∀ (g : Graph) (c : List Int) (n : Node) (x : Int), g.length = c.length → linesT (g ++ [n]) (c ++ [x]) = linesT g c ++ lineT n x ++ [10]
 | [], [], n, x, _ => by simp [linesT]
 | _ :: _, [], _, _, h => by simp at h
 | [], _ :: _, _, _, h => by simp at h
 | m :: g, y :: c, n, x, h => by
  simp only [List.cons_append, linesT]
  rw [linesT_snoc g c n x (by simpa using h)]
  simp
theorem linesTo_succ {g : Graph} {c : List Int} (hl : c.length = g.length) {j : Nat} {n : Node} {x : Int} (hn : g[j]? = some n) (hx : c[j]? = some x) : linesTo g c (j + 1) = linesTo g c j ++ lineT n x ++ [10] := by
 unfold linesTo
 rw [List.take_add_one, hn, List.take_add_one, hx]
 exact linesT_snoc _ _ _ _ (by simp [hl])
theorem lineT_len (n : Node) {x : Int} (h : x ≤ 999) : (lineT n x).length ≤ 90 := by
 have h1 := numT_len (n := x.toNat) (by omega)
 have h2 := fmtF_len n.f
 unfold lineT
 repeat' split
 all_goals simp [cellW, derW, effW]; omega
theorem linesTo_len {g : Graph} {c : List Int} (hl : c.length = g.length) (hr : ∀ x ∈ c, x ≤ 999) : ∀ j, (linesTo g c j).length ≤ 91 * j
 | 0 => by simp [linesTo_zero]
 | j + 1 => by
  have ih := linesTo_len hl hr j
  cases hn : g[j]? with
  | none =>
   have hc : c[j]? = none := by rw [List.getElem?_eq_none_iff] at hn ⊢; omega
   have e : linesTo g c (j + 1) = linesTo g c j := by unfold linesTo; rw [List.take_add_one, hn, List.take_add_one, hc]; simp
   rw [e]; omega
  | some n =>
   have hj := (List.getElem?_eq_some_iff.1 hn).1
   have hx : c[j]? = some c[j] := List.getElem?_eq_getElem (by omega)
   have := lineT_len n (hr _ (List.mem_of_getElem? hx))
   rw [linesTo_succ hl hn hx]
   simp; omega
theorem linesTo_all {g : Graph} {c : List Int} (hl : c.length = g.length) : linesTo g c g.length = linesT g c := by
 unfold linesTo
 rw [List.take_length, ← hl, List.take_length]
theorem fmtG_yes {g : Graph} {c : List Int} (h : validG g = true) (hc : validC g c = true) : fmtG g c = linesTo g c g.length := by
 unfold fmtG
 rw [if_pos ⟨h, hc⟩, linesTo_all (validC_len hc)]
theorem fmtG_no {g : Graph} {c : List Int} (h : (validG g && validC g c) = false) : fmtG g c = [] := by
 unfold fmtG
 rw [if_neg]
 rintro ⟨h1, h2⟩
 rw [h1, h2] at h
 cases h
theorem validG_ten {g : Graph} (h : validG g = true) : g.length ≤ 10 := by
 unfold validG at h
 simp only [Bool.and_eq_true, decide_eq_true_eq] at h
 exact h.2
theorem lineT_cell {n : Node} (h : n.kind = 0) (x : Int) : lineT n x = cellW ++ [32] ++ numT x.toNat := by simp [lineT, h]
theorem lineT_der {n : Node} (h : n.kind = 1) (x : Int) : lineT n x = derW ++ [32] ++ fmtF n.f := by simp [lineT, h]
theorem lineT_eff {n : Node} (h : n.kind = 2) (x : Int) : lineT n x = effW ++ [32] ++ fmtF n.f := by simp [lineT, h]
end Sg
