/- Texts of formulas in plain Lean: what is written is read back, and the other way. No program in sight. Conditions: in the theorems. -/
import Derived.Test.YtdnlpklmihoapaaDoorPlN
import Derived.Test.YtdnlpklmihoapaaDoorPlO
namespace Sg
/-- the words for kinds of parts -/
def wordK (k : Int) : Txt :=
 if k = 2 then [97, 100, 100] else if k = 3 then [115, 117, 98] else if k = 4 then [109, 117, 108] else if k = 5 then [109, 105, 110] else if k = 6 then [109, 97, 120] else if k = 7 then [108, 101, 115, 115] else if k = 8 then [105, 102] else []
def partT (p : Part) : Txt := if p.kind = 0 then numT p.n.toNat else if p.kind = 1 then 114 :: numT p.n.toNat else wordK p.kind
theorem partT_num (a b c : Int) (n : Nat) : partT ⟨0, a, b, c, n⟩ = numT n := by simp [partT]
theorem partT_read (a b c : Int) (n : Nat) : partT ⟨1, a, b, c, n⟩ = 114 :: numT n := by simp [partT]
def fmtF (f : List Part) : Txt := if validF f = true then joinC 32 ((orderF f).map partT) else []
def kindW (s : Txt) : Int :=
 if s = wordK 2 then 2 else if s = wordK 3 then 3 else if s = wordK 4 then 4 else if s = wordK 5 then 5 else if s = wordK 6 then 6 else if s = wordK 7 then 7 else if s = wordK 8 then 8 else -1
theorem kindW_word {k : Int} (h : 2 ≤ k) (h' : k ≤ 8) : kindW (wordK k) = k := by
 have : k = 2 ∨ k = 3 ∨ k = 4 ∨ k = 5 ∨ k = 6 ∨ k = 7 ∨ k = 8 := by omega
 rcases this with rfl | rfl | rfl | rfl | rfl | rfl | rfl <;> decide
theorem kindW_cases (s : Txt) : kindW s = -1 ∨ (2 ≤ kindW s ∧ kindW s ≤ 8 ∧ s = wordK (kindW s)) := by
 unfold kindW
 repeat' split
 all_goals first | exact .inl rfl | (rename_i h; exact .inr ⟨by decide, by decide, h⟩)
theorem kindW_head {b : UInt8} {r : Txt} (h : b ≠ 97 ∧ b ≠ 115 ∧ b ≠ 109 ∧ b ≠ 108 ∧ b ≠ 105) : kindW (b :: r) = -1 := by
 rcases kindW_cases (b :: r) with e | ⟨h2, h8, e⟩
 ·exact e
 ·generalize kindW (b :: r) = k at *
  exfalso
  have : k = 2 ∨ k = 3 ∨ k = 4 ∨ k = 5 ∨ k = 6 ∨ k = 7 ∨ k = 8 := by omega
  rcases this with rfl | rfl | rfl | rfl | rfl | rfl | rfl <;> (injection e with e _; first | exact h.1 e | exact h.2.1 e | exact h.2.2.1 e | exact h.2.2.2.1 e | exact h.2.2.2.2 e)
theorem kindW_num (n : Nat) : kindW (numT n) = -1 := by
 have hd := numT_digits n
 cases hl : numT n with
 | nil => exact absurd hl (numT_ne n)
 | cons b r =>
  rw [hl] at hd
  have := hd b (by simp)
  refine kindW_head ⟨?_, ?_, ?_, ?_, ?_⟩ <;> (rintro rfl; revert this; decide)
theorem kindW_nil : kindW [] = -1 := by decide
/-- a word as a part; rn: what reads numbers -/
def readP (rn : Txt → Option Nat) (s : Txt) : Option Part :=
 if kindW s ≠ -1 then some ⟨kindW s, -1, -1, -1, 0⟩
 else if s.head? = some 114 then (rn s.tail).map fun (n : Nat) => (⟨1, -1, -1, -1, (n : Int)⟩ : Part) else (rn s).map fun (n : Nat) => (⟨0, -1, -1, -1, (n : Int)⟩ : Part)
def setB (p : Part) : List Int → Part
 | [x, y] => { p with a := x, b := y }
 | [x, y, z] => { p with a := x, b := y, c := z }
 | _ => p
def stepW (rn : Txt → Option Nat) (st : List Part × List Int) (w : Txt) : Option (List Part × List Int) :=
 match readP rn w with
 | none => none
 | some p => if st.2.length < (below p).length then none else
  some (st.1 ++ [setB p (st.2.drop (st.2.length - (below p).length))], st.2.take (st.2.length - (below p).length) ++ [(st.1.length : Int)])
def runW (rn : Txt → Option Nat) : List Txt → List Part × List Int → Option (List Part × List Int)
 | [], st => some st
 | w :: ws, st => match stepW rn st w with
  | none => none
  | some st' => runW rn ws st'
theorem runW_app (rn : Txt → Option Nat) : ∀ (a b : List Txt) (st : List Part × List Int), runW rn (a ++ b) st = match runW rn a st with
  | none => none
  | some st' => runW rn b st'
 | [], _, _ => rfl
 | w :: a, b, st => by
  simp only [List.cons_append, runW]
  cases stepW rn st w with
  | none => rfl
  | some st' => exact runW_app rn a b st'
def rnS (l : Txt) : Option Nat := if readN l = -1 then none else some (readN l).toNat
/-- the reference's reading of a formula's words -/
def readFw (ws : List Txt) : Option (List Part) := match runW rnS ws ([], []) with
 | some (f, o) => if o.length = 1 ∧ validF f = true then some f else none
 | none => none
def parseF (s : Txt) : Option (List Part) := readFw (splitC 32 s)
/-- the program's -/
def runI : List Txt → List Part × List Int → Option (List Part × List Int)
 | [], st => some st
 | w :: ws, st => match stepW decL st w with
  | none => none
  | some st' => if st.1.length = 12 then none else runI ws st'
def parseI (s : Txt) : Option (List Part) := match runI (splitC 32 s) ([], []) with
 | some (f, _) => if validF f = true ∧ fmtF f = s then some (orderF f) else none
 | none => none
theorem rnS_some {l : Txt} {n : Nat} (h : rnS l = some n) : l = numT n ∧ n ≤ 999 := by
 unfold rnS at h
 split at h
 ·cases h
 ·rename_i hr
  obtain ⟨m, h1, h2, h3⟩ := readN_some hr
  rw [h3] at h
  simp only [Int.toNat_natCast, Option.some.injEq] at h
  subst h
  exact ⟨h2, h1⟩
theorem rnS_num {n : Nat} (h : n ≤ 999) : rnS (numT n) = some n := by
 unfold rnS
 rw [readN_num h, if_neg (by omega)]
 rfl
/-! many trees side by side -/
def flats : List Tr → Nat → List Part
 | [], _ => []
 | t :: ts, b => flat t b ++ flats ts (b + t.size)
def sizes : List Tr → Nat
 | [] => 0
 | t :: ts => t.size + sizes ts
def ends : List Tr → Nat → List Int
 | [], _ => []
 | t :: ts, b => ((b : Int) + t.size - 1) :: ends ts (b + t.size)
@[simp] theorem flats_len : ∀ (ts : List Tr) (b : Nat), (flats ts b).length = sizes ts
 | [], _ => rfl
 | t :: ts, b => by simp [flats, sizes, flats_len ts]
@[simp] theorem ends_len : ∀ (ts : List Tr) (b : Nat), (ends ts b).length = ts.length
 | [], _ => rfl
 | t :: ts, b => by simp [ends, ends_len ts]
theorem sizes_app : ∀ (a b : List Tr), sizes (a ++ b) = sizes a + sizes b
 | [], b => by simp [sizes]
 | t :: a, b => by simp [sizes, sizes_app a b]; omega
theorem flats_app : ∀ (a b : List Tr) (k : Nat), flats (a ++ b) k = flats a k ++ flats b (k + sizes a)
 | [], b, k => by simp [flats, sizes]
 | t :: a, b, k => by simp [flats, sizes, flats_app a b, Nat.add_assoc]
theorem ends_app : ∀ (a b : List Tr) (k : Nat), ends (a ++ b) k = ends a k ++ ends b (k + sizes a)
 | [], b, k => by simp [ends, sizes]
 | t :: a, b, k => by simp [ends, sizes, ends_app a b, Nat.add_assoc]
theorem last_one {α : Type} (l : List α) (h : 1 ≤ l.length) : ∃ a x, l = a ++ [x] := ⟨l.dropLast, l.getLast (by intro e; subst e; simp at h), (List.dropLast_concat_getLast _).symm⟩
theorem last_two {α : Type} (l : List α) (h : 2 ≤ l.length) : ∃ a x y, l = a ++ [x, y] := by
 obtain ⟨a, y, rfl⟩ := last_one l (by omega)
 obtain ⟨b, x, rfl⟩ := last_one a (by simp at h; omega)
 exact ⟨b, x, y, by simp⟩
theorem last_three {α : Type} (l : List α) (h : 3 ≤ l.length) : ∃ a x y z, l = a ++ [x, y, z] := by
 obtain ⟨a, y, z, rfl⟩ := last_two l (by omega)
 obtain ⟨b, x, rfl⟩ := last_one a (by simp at h; omega)
 exact ⟨b, x, y, z, by simp⟩
theorem readP_some {rn : Txt → Option Nat} {m : Nat} (hrn : ∀ l n, rn l = some n → l = numT n ∧ n ≤ m) {w : Txt} {p : Part} (h : readP rn w = some p) :
  (∃ n : Nat, n ≤ m ∧ (p = ⟨0, -1, -1, -1, n⟩ ∨ p = ⟨1, -1, -1, -1, n⟩) ∧ partT p = w) ∨ (2 ≤ p.kind ∧ p.kind ≤ 8 ∧ p = ⟨p.kind, -1, -1, -1, 0⟩ ∧ w = wordK p.kind) := by
 unfold readP at h
 by_cases hk : kindW w ≠ -1
 ·rw [if_pos hk] at h
  simp only [Option.some.injEq] at h
  subst h
  rcases kindW_cases w with e | ⟨h2, h8, e⟩
  ·exact absurd e hk
  ·exact .inr ⟨h2, h8, rfl, e⟩
 ·rw [if_neg hk] at h
  left
  by_cases hr : w.head? = some 114
  ·rw [if_pos hr] at h
   cases hn : rn w.tail with
   | none => rw [hn] at h; cases h
   | some n =>
    rw [hn] at h
    simp only [Option.map_some, Option.some.injEq] at h
    subst h
    obtain ⟨h1, h2⟩ := hrn _ _ hn
    refine ⟨n, h2, .inr rfl, ?_⟩
    rw [partT_read]
    cases w with
    | nil => cases hr
    | cons b r =>
     simp only [List.head?_cons, Option.some.injEq] at hr
     simp only [List.tail_cons] at h1
     subst hr
     rw [h1]
  ·rw [if_neg hr] at h
   cases hn : rn w with
   | none => rw [hn] at h; cases h
   | some n =>
    rw [hn] at h
    simp only [Option.map_some, Option.some.injEq] at h
    subst h
    obtain ⟨h1, h2⟩ := hrn _ _ hn
    refine ⟨n, h2, .inl rfl, ?_⟩
    rw [partT_num, h1]
theorem partT_word {k : Int} (h : 2 ≤ k) (x y z n : Int) : partT ⟨k, x, y, z, n⟩ = wordK k := by
 unfold partT
 rw [if_neg (by simp only; omega), if_neg (by simp only; omega)]
/-- one word more: the trees stay trees -/
theorem step_forest {rn : Txt → Option Nat} {m : Nat} (hrn : ∀ l n, rn l = some n → l = numT n ∧ n ≤ m) {ts : List Tr} (hok : ∀ t ∈ ts, t.ok m) {w : Txt} {st : List Part × List Int}
  (h : stepW rn (flats ts 0, ends ts 0) w = some st) : ∃ us : List Tr, st = (flats us 0, ends us 0) ∧ (∀ t ∈ us, t.ok m) ∧ (flats us 0).map partT = (flats ts 0).map partT ++ [w] := by
 unfold stepW at h
 cases hp : readP rn w with
 | none => rw [hp] at h; cases h
 | some p =>
  rw [hp] at h
  simp only [ends_len, flats_len] at h
  split at h
  ·cases h
  ·rename_i hlen
   simp only [Option.some.injEq] at h
   rcases readP_some hrn hp with ⟨n, hn, hpp, hw⟩ | ⟨h2, h8, hpe, hw⟩
   ·have hb : below p = [] := by rcases hpp with rfl | rfl <;> rfl
    have hs : setB p [] = p := rfl
    rw [hb] at h
    simp only [List.length_nil, Nat.sub_zero] at h
    rw [List.drop_eq_nil_of_le (by simp), List.take_of_length_le (by simp), hs] at h
    refine ⟨ts ++ [.leaf p.kind n], ?_, ?_, ?_⟩
    ·rw [← h, flats_app, ends_app]
     rcases hpp with rfl | rfl <;> simp [flats, flat, ends, Tr.size]
    ·intro t ht
     rcases List.mem_append.1 ht with ht | ht
     ·exact hok t ht
     ·rw [List.mem_singleton.1 ht]
      rcases hpp with rfl | rfl
      ·exact .inl ⟨rfl, by omega, by omega⟩
      ·exact .inr ⟨rfl, by omega, by omega⟩
    ·rw [flats_app, List.map_append, ← hw]
     rcases hpp with rfl | rfl <;> rfl
   ·by_cases h8' : p.kind = 8
    ·have hb : (below p).length = 3 := by unfold below; rw [if_pos h8']; rfl
     rw [hb] at h hlen
     obtain ⟨us, x, y, z, rfl⟩ := last_three ts (by omega)
     have hx := hok x (by simp)
     have hy := hok y (by simp)
     have hz := hok z (by simp)
     refine ⟨us ++ [.ite x y z], ?_, ?_, ?_⟩
     ·rw [← h, flats_app, ends_app, flats_app, ends_app]
      rw [List.drop_append, List.take_append]
      simp only [List.length_append, List.length_cons, List.length_nil, ends_len]
      rw [List.drop_eq_nil_of_le (by simp), List.take_of_length_le (by simp), show us.length + (0 + 1 + 1 + 1) - 3 - us.length = 0 by omega]
      rw [hpe]
      simp only [ends, flats, flat, List.nil_append, List.drop_zero, List.take_zero, List.append_nil, setB, h8', sizes_app, sizes, Tr.size, List.append_assoc]
      simp only [Prod.mk.injEq, List.append_cancel_left_eq, List.cons.injEq, and_true]
      refine ⟨?_, ?_⟩
      ·simp only [Nat.zero_add, Int.natCast_add, Int.add_assoc, Nat.add_assoc]
      ·simp only [Int.natCast_add]; omega
     ·intro t ht
      rcases List.mem_append.1 ht with ht | ht
      ·exact hok t (by simp [ht])
      ·rw [List.mem_singleton.1 ht]
       exact ⟨hx, hy, hz⟩
     ·rw [flats_app, flats_app]
      simp only [flats, flat, List.map_append, List.append_nil, List.append_assoc, List.map_cons, List.map_nil, List.append_cancel_left_eq, Nat.add_assoc]
      rw [partT_word (by decide), hw, h8']
    ·have hk : 2 ≤ p.kind ∧ p.kind ≤ 7 := ⟨h2, by omega⟩
     have hb : (below p).length = 2 := by unfold below; rw [if_neg h8', if_pos hk]; rfl
     rw [hb] at h hlen
     obtain ⟨us, x, y, rfl⟩ := last_two ts (by omega)
     have hx := hok x (by simp)
     have hy := hok y (by simp)
     refine ⟨us ++ [.bin p.kind x y], ?_, ?_, ?_⟩
     ·rw [← h, flats_app, ends_app, flats_app, ends_app]
      rw [List.drop_append, List.take_append]
      simp only [List.length_append, List.length_cons, List.length_nil, ends_len]
      rw [List.drop_eq_nil_of_le (by simp), List.take_of_length_le (by simp), show us.length + (0 + 1 + 1) - 2 - us.length = 0 by omega]
      generalize p.kind = pk at *
      rw [hpe]
      simp only [ends, flats, flat, List.nil_append, List.drop_zero, List.take_zero, List.append_nil, setB, sizes_app, sizes, Tr.size, List.append_assoc]
      simp only [Prod.mk.injEq, List.append_cancel_left_eq, List.cons.injEq, and_true]
      refine ⟨?_, ?_⟩
      ·simp only [Nat.zero_add, Int.natCast_add, Int.add_assoc]
      ·simp only [Int.natCast_add]; omega
     ·intro t ht
      rcases List.mem_append.1 ht with ht | ht
      ·exact hok t (by simp [ht])
      ·rw [List.mem_singleton.1 ht]
       exact ⟨hk.1, hk.2, hx, hy⟩
     ·rw [flats_app, flats_app]
      simp only [flats, flat, List.map_append, List.append_nil, List.append_assoc, List.map_cons, List.map_nil, List.append_cancel_left_eq, Nat.add_assoc]
      rw [partT_word hk.1, hw]
theorem run_forest {rn : Txt → Option Nat} {m : Nat} (hrn : ∀ l n, rn l = some n → l = numT n ∧ n ≤ m) : ∀ (ws : List Txt) {ts : List Tr} (_ : ∀ t ∈ ts, t.ok m) {st : List Part × List Int},
  runW rn ws (flats ts 0, ends ts 0) = some st → ∃ us : List Tr, st = (flats us 0, ends us 0) ∧ (∀ t ∈ us, t.ok m) ∧ (flats us 0).map partT = (flats ts 0).map partT ++ ws
 | [], ts, hok, st, h => by
  simp only [runW, Option.some.injEq] at h
  exact ⟨ts, h.symm, hok, by simp⟩
 | w :: ws, ts, hok, st, h => by
  unfold runW at h
  cases hs : stepW rn (flats ts 0, ends ts 0) w with
  | none => rw [hs] at h; cases h
  | some st' =>
   rw [hs] at h
   obtain ⟨us, rfl, h1, h2⟩ := step_forest hrn hok hs
   obtain ⟨vs, e, h3, h4⟩ := run_forest hrn ws h1 h
   exact ⟨vs, e, h3, by rw [h4, h2]; simp⟩
/-- the words of a tree are read as the tree -/
theorem tree_run {rn : Txt → Option Nat} {m : Nat} (hrn : ∀ n, n ≤ m → rn (numT n) = some n) : ∀ (t : Tr) (ps : List Part) (op : List Int), t.ok m →
  runW rn ((flat t ps.length).map partT) (ps, op) = some (ps ++ flat t ps.length, op ++ [(ps.length : Int) + t.size - 1])
 | .leaf k n, ps, op, h => by
  have key : readP rn (partT ⟨k, -1, -1, -1, n⟩) = some ⟨k, -1, -1, -1, n⟩ := by
   unfold readP
   rcases h with ⟨rfl, h0, h1⟩ | ⟨rfl, h0, h1⟩
   ·obtain ⟨n, rfl⟩ := Int.eq_ofNat_of_zero_le h0
    rw [partT_num, if_neg (by rw [kindW_num]; simp), if_neg, hrn n (by omega)]
    ·rfl
    ·intro e
     have hd := numT_digits n
     cases hl : numT n with
     | nil => exact numT_ne n hl
     | cons b r =>
      rw [hl] at e hd
      simp only [List.head?_cons, Option.some.injEq] at e
      subst e
      have := hd 114 (by simp)
      revert this; decide
   ·obtain ⟨n, rfl⟩ := Int.eq_ofNat_of_zero_le h0
    rw [partT_read, if_neg (by rw [kindW_head (by decide)]; simp), List.head?_cons, if_pos rfl, List.tail_cons, hrn n (by omega)]
    rfl
  have hb : below (⟨k, -1, -1, -1, n⟩ : Part) = [] := by rcases h with ⟨rfl, _⟩ | ⟨rfl, _⟩ <;> rfl
  show runW rn [partT _] _ = _
  unfold runW stepW
  rw [key]
  simp only [hb, List.length_nil, Nat.not_lt_zero, if_false, Nat.sub_zero]
  rw [List.drop_eq_nil_of_le (Nat.le_refl _), List.take_of_length_le (Nat.le_refl _)]
  simp [runW, setB, flat, Tr.size]
 | .bin k x y, ps, op, h => by
  obtain ⟨h2, h7, hx, hy⟩ := h
  have ex := tree_run hrn x ps op hx
  have ey := tree_run hrn y (ps ++ flat x ps.length) (op ++ [(ps.length : Int) + x.size - 1]) hy
  rw [List.length_append, flat_len] at ey
  simp only [flat, List.map_append]
  rw [runW_app, ex]
  simp only
  rw [runW_app, ey]
  simp only [List.map_cons, List.map_nil]
  rw [partT_word h2]
  have key : readP rn (wordK k) = some ⟨k, -1, -1, -1, 0⟩ := by
   unfold readP
   rw [kindW_word h2 (by omega), if_pos (by omega)]
  have hb : (below (⟨k, -1, -1, -1, 0⟩ : Part)).length = 2 := by unfold below; rw [if_neg (by simp only; omega), if_pos ⟨h2, h7⟩]; rfl
  unfold runW stepW
  rw [key]
  simp only [hb]
  rw [if_neg (by simp)]
  simp only [List.append_assoc, List.singleton_append, List.length_append, List.length_cons, List.length_nil]
  rw [show op.length + (0 + 1 + 1) - 2 = op.length by omega, List.drop_left, List.take_left]
  simp only [runW, setB, Option.some.injEq, Prod.mk.injEq, Tr.size, flat_len, Int.natCast_add, List.append_cancel_left_eq, List.cons.injEq, and_true]
  refine ⟨trivial, by omega⟩
 | .ite x y z, ps, op, h => by
  obtain ⟨hx, hy, hz⟩ := h
  have ex := tree_run hrn x ps op hx
  have ey := tree_run hrn y (ps ++ flat x ps.length) (op ++ [(ps.length : Int) + x.size - 1]) hy
  rw [List.length_append, flat_len] at ey
  have ez := tree_run hrn z (ps ++ flat x ps.length ++ flat y (ps.length + x.size)) (op ++ [(ps.length : Int) + x.size - 1] ++ [((ps.length + x.size : Nat) : Int) + y.size - 1]) hz
  rw [List.length_append, List.length_append, flat_len, flat_len] at ez
  simp only [flat, List.map_append]
  rw [runW_app, ex]
  simp only
  rw [runW_app, ey]
  simp only
  rw [runW_app, ez]
  simp only [List.map_cons, List.map_nil]
  rw [partT_word (by decide)]
  have key : readP rn (wordK 8) = some ⟨8, -1, -1, -1, 0⟩ := by
   unfold readP
   rw [kindW_word (by decide) (by decide), if_pos (by decide)]
  have hb : (below (⟨8, -1, -1, -1, 0⟩ : Part)).length = 3 := rfl
  unfold runW stepW
  rw [key]
  simp only [hb]
  rw [if_neg (by simp)]
  simp only [List.append_assoc, List.cons_append, List.nil_append, List.length_append, List.length_cons, List.length_nil]
  rw [show op.length + (0 + 1 + 1 + 1) - 3 = op.length by omega, List.drop_left, List.take_left]
  simp only [runW, setB, Option.some.injEq, Prod.mk.injEq, Tr.size, flat_len, Int.natCast_add, List.append_cancel_left_eq, List.cons.injEq, and_true]
  refine ⟨trivial, by omega⟩
/-! both readings -/
theorem flats_count : ∀ (ts : List Tr) (b i : Nat), (∀ t ∈ ts, t.fine) → i < b → (belows (flats ts b)).count (i : Int) = 0
 | [], _, _, _, _ => rfl
 | t :: ts, b, i, h, hi => by
  simp only [flats]
  rw [belows_app, List.count_append, flat_count t b i (h t (by simp)), if_neg (by omega), flats_count ts (b + t.size) i (fun x hx => h x (by simp [hx])) (by omega)]
theorem forest_one {ts : List Tr} {m : Int} (hok : ∀ t ∈ ts, t.ok m) (hv : validF (flats ts 0) = true) : ∃ t, ts = [t] := by
 cases ts with
 | nil => exact absurd hv (by decide)
 | cons t us =>
  cases us with
  | nil => exact ⟨t, rfl⟩
  | cons u us =>
   exfalso
   have hc := uses_count hv (t.size - 1)
   have p1 := size_pos t
   have p2 := size_pos u
   rw [if_pos (by simp [sizes]; omega)] at hc
   simp only [flats] at hc
   have hf := (hok t (by simp)).fine
   rw [belows_app, List.count_append, flat_count t 0 _ hf, if_neg (by omega)] at hc
   have := flats_count (u :: us) t.size (t.size - 1) (fun x hx => (hok x (by simp [List.mem_cons] at hx ⊢; exact .inr hx)).fine) (by omega)
   simp only [flats] at this
   simp only [Nat.zero_add] at hc
   omega
theorem ok_good : ∀ (t : Tr) (b : Nat) {m : Int}, t.ok m → (∀ p ∈ flat t b, alone p = true) → t.good
 | .leaf k n, b, m, h, ha => by
  have := ha _ (List.mem_singleton.2 rfl)
  unfold alone at this
  rcases h with ⟨rfl, h0, -⟩ | ⟨rfl, h0, -⟩
  ·refine .inl ⟨rfl, h0, ?_⟩
   simp [inR] at this
   exact this.2
  ·refine .inr ⟨rfl, h0, ?_⟩
   simp [inR] at this
   exact this.2
 | .bin k x y, b, m, h, ha => ⟨h.1, h.2.1, ok_good x b h.2.2.1 (fun p hp => ha p (by simp [flat, hp])), ok_good y (b + x.size) h.2.2.2 (fun p hp => ha p (by simp [flat, hp]))⟩
 | .ite x y z, b, m, h, ha => ⟨ok_good x b h.1 (fun p hp => ha p (by simp [flat, hp])), ok_good y (b + x.size) h.2.1 (fun p hp => ha p (by simp [flat, hp])), ok_good z (b + x.size + y.size) h.2.2 (fun p hp => ha p (by simp [flat, hp]))⟩
theorem valid_alone {f : List Part} (h : validF f = true) : ∀ p ∈ f, alone p = true := fun p hp => by
 obtain ⟨i, hi, rfl⟩ := List.getElem_of_mem hp
 have := validF_goods h i _ (List.getElem?_eq_getElem hi)
 unfold goodPart at this
 rw [Bool.and_eq_true] at this
 exact this.1
theorem flats_one (t : Tr) : flats [t] 0 = flat t 0 := by simp [flats]
/-- what a machine has read, if it is valid: one tree, and the words are its words -/
theorem read_tree {rn : Txt → Option Nat} {m : Nat} (hrn : ∀ l n, rn l = some n → l = numT n ∧ n ≤ m) {ws : List Txt} {f : List Part} {o : List Int} (h : runW rn ws ([], []) = some (f, o)) (hv : validF f = true) :
  ∃ t : Tr, f = flat t 0 ∧ t.good ∧ t.size ≤ 12 ∧ f.map partT = ws := by
 obtain ⟨us, e, h1, h2⟩ := run_forest hrn ws (ts := []) (fun _ h => by cases h) h
 simp only [Prod.mk.injEq] at e
 obtain ⟨rfl, rfl⟩ := e
 obtain ⟨t, rfl⟩ := forest_one h1 hv
 rw [flats_one] at hv h2 ⊢
 have hl := validF_len hv
 rw [flat_len] at hl
 exact ⟨t, rfl, ok_good t 0 (h1 t (by simp)) (valid_alone hv), hl.2, by simpa [flats] using h2⟩
theorem decL_hrn (l : Txt) (n : Nat) (h : decL l = some n) : l = numT n ∧ n ≤ 9223372036854775807 := ⟨(decL_some h).1, by have := (decL_some h).2; omega⟩
theorem good_run {rn : Txt → Option Nat} (hrn : ∀ n, n ≤ 99 → rn (numT n) = some n) {t : Tr} (h : t.good) : runW rn ((flat t 0).map partT) ([], []) = some (flat t 0, [(t.size : Int) - 1]) := by
 have := tree_run (m := 99) hrn t [] [] h.ok
 simpa using this
theorem partT_free (p : Part) (h : (p.kind = 0 ∨ p.kind = 1 ∨ (2 ≤ p.kind ∧ p.kind ≤ 8))) : (32 : UInt8) ∉ partT p ∧ (10 : UInt8) ∉ partT p := by
 have hd := numT_digits p.n.toNat
 have h1 : (32 : UInt8) ∉ numT p.n.toNat := fun e => by have := hd _ e; revert this; decide
 have h2 : (10 : UInt8) ∉ numT p.n.toNat := fun e => by have := hd _ e; revert this; decide
 unfold partT
 split
 ·exact ⟨h1, h2⟩
 ·split
  ·exact ⟨by simp [h1], by simp [h2]⟩
  ·have : p.kind = 2 ∨ p.kind = 3 ∨ p.kind = 4 ∨ p.kind = 5 ∨ p.kind = 6 ∨ p.kind = 7 ∨ p.kind = 8 := by omega
   rcases this with e | e | e | e | e | e | e <;> rw [e] <;> exact ⟨by decide, by decide⟩
theorem flat_kinds : ∀ (t : Tr) (b : Nat), t.fine → ∀ p ∈ flat t b, p.kind = 0 ∨ p.kind = 1 ∨ (2 ≤ p.kind ∧ p.kind ≤ 8)
 | .leaf k n, b, h, p, hp => by
  rw [flat, List.mem_singleton] at hp
  subst hp
  rcases h with h | h
  ·exact .inl h
  ·exact .inr (.inl h)
 | .bin k x y, b, h, p, hp => by
  simp only [flat, List.mem_append, List.mem_singleton] at hp
  rcases hp with hp | hp | rfl
  ·exact flat_kinds x _ h.2.2.1 p hp
  ·exact flat_kinds y _ h.2.2.2 p hp
  ·exact .inr (.inr ⟨h.1, by have := h.2.1; simp only; omega⟩)
 | .ite x y z, b, h, p, hp => by
  simp only [flat, List.mem_append, List.mem_singleton] at hp
  rcases hp with hp | hp | hp | rfl
  ·exact flat_kinds x _ h.1 p hp
  ·exact flat_kinds y _ h.2.1 p hp
  ·exact flat_kinds z _ h.2.2 p hp
  ·exact .inr (.inr ⟨show (2 : Int) ≤ 8 by decide, show (8 : Int) ≤ 8 by decide⟩)
theorem words_ne {t : Tr} (b : Nat) : (flat t b).map partT ≠ [] := fun e => by
 have := congrArg List.length e
 have := size_pos t
 simp at *
 omega
theorem split_words {t : Tr} (h : t.fine) : splitC 32 (joinC 32 ((flat t 0).map partT)) = (flat t 0).map partT := by
 refine splitC_join _ (words_ne 0) fun p hp => ?_
 obtain ⟨q, hq, rfl⟩ := List.mem_map.1 hp
 exact (partT_free q (flat_kinds t 0 h q hq)).1
theorem fmt_tree {t : Tr} (h : t.good) (hs : t.size ≤ 12) : fmtF (flat t 0) = joinC 32 ((flat t 0).map partT) := by
 unfold fmtF
 rw [if_pos (flat_valid h hs), order_flat_flat h hs]
/-- what is read is in order and valid, and is written as it was read -/
theorem parse_some {s : Txt} {f : List Part} (h : parseF s = some f) : validF f = true ∧ orderF f = f ∧ fmtF f = s ∧ ∃ t : Tr, f = flat t 0 ∧ t.good ∧ t.size ≤ 12 := by
 unfold parseF readFw at h
 split at h
 ·rename_i f' o hr
  split at h
  ·rename_i hc
   simp only [Option.some.injEq] at h
   subst h
   obtain ⟨t, rfl, hg, hs, hw⟩ := read_tree (fun l n h => rnS_some h) hr hc.2
   exact ⟨hc.2, order_flat_flat hg hs, by rw [fmt_tree hg hs, hw, join_splitC], t, rfl, hg, hs⟩
  ·cases h
 ·cases h
theorem parse_tree {t : Tr} (h : t.good) (hs : t.size ≤ 12) : parseF (joinC 32 ((flat t 0).map partT)) = some (flat t 0) := by
 unfold parseF readFw
 rw [split_words h.fine, good_run (fun n hn => rnS_num (by omega)) h]
 simp only
 rw [if_pos ⟨rfl, flat_valid h hs⟩]
/-- what is written is read back -/
theorem parse_fmt {f : List Part} (h : validF f = true) : parseF (fmtF f) = some (orderF f) := by
 have hg := order_tree h
 have hs := tree_size h
 have hl := validF_len h
 unfold fmtF
 rw [if_pos h, order_flat h]
 exact parse_tree hg (by omega)
theorem runI_W : ∀ (ws : List Txt) (st st' : List Part × List Int), runI ws st = some st' → runW decL ws st = some st'
 | [], _, _, h => h
 | w :: ws, st, st', h => by
  unfold runI at h
  unfold runW
  cases hs : stepW decL st w with
  | none => rw [hs] at h; cases h
  | some s1 =>
   rw [hs] at h
   simp only at h ⊢
   split at h
   ·cases h
   ·exact runI_W ws s1 st' h
theorem step_len {rn : Txt → Option Nat} {st st' : List Part × List Int} {w : Txt} (h : stepW rn st w = some st') : st'.1.length = st.1.length + 1 := by
 unfold stepW at h
 split at h
 ·cases h
 ·split at h
  ·cases h
  ·simp only [Option.some.injEq] at h
   subst h
   simp
theorem runW_I : ∀ (ws : List Txt) (st st' : List Part × List Int), runW decL ws st = some st' → st.1.length + ws.length ≤ 12 → runI ws st = some st'
 | [], _, _, h, _ => h
 | w :: ws, st, st', h, hl => by
  unfold runW at h
  unfold runI
  cases hs : stepW decL st w with
  | none => rw [hs] at h; cases h
  | some s1 =>
   rw [hs] at h
   simp only [List.length_cons] at h hl ⊢
   have := step_len hs
   rw [if_neg (by omega)]
   exact runW_I ws s1 st' h (by omega)
/-- both read alike -/
theorem parseI_eq (s : Txt) : parseI s = parseF s := by
 have key : ∀ f, parseI s = some f → parseF s = some f := fun f h => by
  unfold parseI at h
  split at h
  ·rename_i f' o hr
   split at h
   ·rename_i hc
    simp only [Option.some.injEq] at h
    obtain ⟨t, rfl, hg, hs, hw⟩ := read_tree decL_hrn (runI_W _ _ _ hr) hc.1
    rw [order_flat_flat hg hs] at h
    subst h
    have := parse_tree hg hs
    rw [hw, join_splitC] at this
    exact this
   ·cases h
  ·cases h
 have key2 : ∀ f, parseF s = some f → parseI s = some f := fun f h => by
  obtain ⟨hv, ho, hf, t, rfl, hg, hs⟩ := parse_some h
  have hw : splitC 32 s = (flat t 0).map partT := by rw [← hf, fmt_tree hg hs, split_words hg.fine]
  unfold parseI
  rw [hw, runW_I _ _ _ (good_run (fun n hn => decL_num (by omega)) hg) (by simp; omega)]
  simp only
  rw [if_pos ⟨hv, hf⟩, ho]
 cases h1 : parseI s with
 | some f => rw [key f h1]
 | none =>
  cases h2 : parseF s with
  | none => rfl
  | some f => rw [key2 f h2] at h1; cases h1
end Sg
