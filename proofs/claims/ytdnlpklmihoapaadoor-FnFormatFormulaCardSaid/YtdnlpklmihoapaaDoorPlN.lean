/- Texts in plain Lean: numerals, and texts cut at a byte. No program in sight. Conditions: none. -/
import Derived.Lib.AtoiTie
import Derived.Lib.AtoiBound
import Derived.Lib.ItoaNum
import Derived.Lib.SplitLaws
import Derived.Lib.Join
namespace Sg
open Go
abbrev Txt := List UInt8
/-- a number of at least 0 in decimal -/
def numT (n : Nat) : Txt := Lib.decDigits n
theorem numT_small {n : Nat} (h : n < 10) : numT n = [UInt8.ofNat (48 + n)] := Lib.decDigits_one h
theorem numT_big {n : Nat} (h : ¬ n < 10) : numT n = numT (n / 10) ++ [UInt8.ofNat (48 + n % 10)] := by
 unfold numT
 rw [Lib.decDigits, dif_neg h]
theorem ofNat_digit {d : Nat} (h : d < 10) : (UInt8.ofNat (48 + d)).toNat = 48 + d := by simp; omega
theorem numT_digits (n : Nat) : ∀ b ∈ numT n, 48 ≤ b.toNat ∧ b.toNat ≤ 57 := by
 induction n using Nat.strongRecOn with
 | ind n ih =>
  intro b hb
  by_cases h : n < 10
  ·rw [numT_small h, List.mem_singleton] at hb
   subst hb
   rw [ofNat_digit h]; omega
  ·rw [numT_big h, List.mem_append, List.mem_singleton] at hb
   rcases hb with hb | rfl
   ·exact ih (n / 10) (by omega) b hb
   ·rw [ofNat_digit (Nat.mod_lt _ (by omega))]; omega
theorem numT_ne (n : Nat) : numT n ≠ [] := by
 by_cases h : n < 10
 ·rw [numT_small h]; simp
 ·rw [numT_big h]; simp
/-- digits behind a number: what they spell -/
def spell (n : Nat) (l : Txt) : Nat := l.foldl (fun n b => 10 * n + (b.toNat - 48)) n
theorem spell_num (n : Nat) : spell 0 (numT n) = n := by
 induction n using Nat.strongRecOn with
 | ind n ih =>
  by_cases h : n < 10
  ·rw [numT_small h]
   show 10 * 0 + ((UInt8.ofNat (48 + n)).toNat - 48) = n
   rw [ofNat_digit h]; omega
  ·rw [numT_big h]
   unfold spell
   rw [List.foldl_append]
   have := ih (n / 10) (by omega)
   unfold spell at this
   rw [this]
   show 10 * (n / 10) + ((UInt8.ofNat (48 + n % 10)).toNat - 48) = n
   rw [ofNat_digit (Nat.mod_lt _ (by omega))]; omega
theorem numT_inj {m n : Nat} (h : numT m = numT n) : m = n := by rw [← spell_num m, ← spell_num n, h]
/-- the reference's readNumber: its loop -/
def rnGo : Nat → Txt → Option Nat
 | n, [] => some n
 | n, b :: r => if b.toNat < 48 ∨ 57 < b.toNat ∨ 99 < n then none else rnGo (10 * n + (b.toNat - 48)) r
def readN (l : Txt) : Int := match rnGo 0 l with
 | none => -1
 | some n => if l = [] ∨ l ≠ numT n then -1 else n
theorem rnGo_spell : ∀ (l : Txt) (n m : Nat), rnGo n l = some m → m = spell n l ∧ (l ≠ [] → m ≤ 999)
 | [], n, m, h => by
  simp only [rnGo, Option.some.injEq] at h
  exact ⟨h.symm, fun e => absurd rfl e⟩
 | b :: r, n, m, h => by
  unfold rnGo at h
  split at h
  ·cases h
  ·rename_i hb
   obtain ⟨h1, h2⟩ := rnGo_spell r _ m h
   refine ⟨h1, fun _ => ?_⟩
   by_cases hr : r = []
   ·subst hr
    simp only [spell, List.foldl_nil] at h1
    omega
   ·exact h2 hr
theorem rnGo_ok : ∀ (l : Txt) (n : Nat), (∀ b ∈ l, 48 ≤ b.toNat ∧ b.toNat ≤ 57) → spell n l ≤ 999 → rnGo n l = some (spell n l)
 | [], _, _, _ => rfl
 | b :: r, n, hd, hs => by
  have hb := hd b (by simp)
  have hmono : ∀ (l : Txt) (k : Nat), k ≤ spell k l := by
   intro l
   induction l with
   | nil => intro k; exact Nat.le_refl _
   | cons c l ih => intro k; exact Nat.le_trans (by omega : k ≤ 10 * k + (c.toNat - 48)) (ih _)
  have hs' : spell (10 * n + (b.toNat - 48)) r ≤ 999 := hs
  have h1 := hmono r (10 * n + (b.toNat - 48))
  unfold rnGo
  rw [if_neg (by omega)]
  exact rnGo_ok r _ (fun c hc => hd c (by simp [hc])) hs'
theorem readN_num {n : Nat} (h : n ≤ 999) : readN (numT n) = n := by
 unfold readN
 rw [rnGo_ok (numT n) 0 (numT_digits n) (by rw [spell_num]; exact h), spell_num]
 simp only
 rw [if_neg]
 rintro (h | h)
 ·exact numT_ne n h
 ·exact h rfl
theorem readN_some {l : Txt} (h : readN l ≠ -1) : ∃ n : Nat, n ≤ 999 ∧ l = numT n ∧ readN l = n := by
 unfold readN at h ⊢
 cases hr : rnGo 0 l with
 | none => rw [hr] at h; exact absurd rfl h
 | some m =>
  rw [hr] at h
  simp only at h ⊢
  split at h
  ·exact absurd rfl h
  ·rename_i hc
   rw [if_neg hc]
   have h1 : l ≠ [] := fun e => hc (.inl e)
   have h2 : l = numT m := Decidable.byContradiction fun e => hc (.inr e)
   exact ⟨m, (rnGo_spell l 0 m hr).2 h1, h2, rfl⟩
theorem readN_range (l : Txt) : readN l = -1 ∨ ∃ n : Nat, readN l = n ∧ n ≤ 999 := by
 by_cases h : readN l = -1
 ·exact .inl h
 ·obtain ⟨n, h1, -, h3⟩ := readN_some h
  exact .inr ⟨n, h3, h1⟩
/-- the program's decimal: the number of a numeral without leading zeros that is an int -/
def decL (l : Txt) : Option Nat := match Lib.atoiAll l with
 | .ok v => if 0 ≤ v ∧ Lib.itoa v = l then some v.toNat else none
 | _ => none
theorem itoa_nat (n : Nat) : Lib.itoa (n : Int) = numT n := by
 unfold Lib.itoa numT
 rw [if_neg (by omega)]
 rfl
theorem parse_num : ∀ (l : Txt) (acc : Nat), (∀ b ∈ l, 48 ≤ b.toNat ∧ b.toNat ≤ 57) → spell acc l < 18446744073709551616 → Lib.parseUint10 acc l = .ok (spell acc l)
 | [], _, _, _ => rfl
 | b :: r, acc, hd, hs => by
  have hb := hd b (by simp)
  have hmono : ∀ (l : Txt) (k : Nat), k ≤ spell k l := by
   intro l
   induction l with
   | nil => intro k; exact Nat.le_refl _
   | cons c l ih => intro k; exact Nat.le_trans (by omega : k ≤ 10 * k + (c.toNat - 48)) (ih _)
  have hs' : spell (10 * acc + (b.toNat - 48)) r < 18446744073709551616 := hs
  have h1 := hmono r (10 * acc + (b.toNat - 48))
  unfold Lib.parseUint10
  rw [if_pos hb, if_neg (by omega), if_neg (by omega), show acc * 10 + (b.toNat - 48) = 10 * acc + (b.toNat - 48) by omega]
  exact parse_num r _ (fun c hc => hd c (by simp [hc])) hs'
theorem atoi_num {n : Nat} (h : n < 9223372036854775808) : Lib.atoiAll (numT n) = .ok (n : Int) := by
 have hd := numT_digits n
 have hp : Lib.parseUint10 0 (numT n) = .ok n := by
  have := parse_num (numT n) 0 hd (by rw [spell_num]; omega)
  rwa [spell_num] at this
 have hn := numT_ne n
 cases hl : numT n with
 | nil => exact absurd hl hn
 | cons c r =>
  rw [hl] at hp hd
  have hc := hd c (by simp)
  unfold Lib.atoiAll
  simp only
  rw [if_neg (by omega : ¬ (c.toNat = 43 ∨ c.toNat = 45))]
  unfold Lib.parseMag
  rw [if_neg (by simp), hp]
  simp only
  rw [if_neg (by omega), if_neg (by omega), if_neg (by omega)]
theorem decL_num {n : Nat} (h : n < 9223372036854775808) : decL (numT n) = some n := by
 unfold decL
 rw [atoi_num h]
 simp only
 rw [if_pos ⟨by omega, itoa_nat n⟩]
 rfl
theorem decL_some {l : Txt} {n : Nat} (h : decL l = some n) : l = numT n ∧ n < 9223372036854775808 := by
 unfold decL at h
 split at h
 ·rename_i v hv
  split at h
  ·rename_i hc
   simp only [Option.some.injEq] at h
   subst h
   have hb := (Lib.atoiAll_bounds hv)
   obtain ⟨k, rfl⟩ := Int.eq_ofNat_of_zero_le hc.1
   refine ⟨?_, by omega⟩
   rw [← hc.2, itoa_nat]
   simp
  ·cases h
 ·cases h
/-- what both read alike -/
theorem readN_dec (l : Txt) : readN l = match decL l with
  | some n => if n ≤ 999 then (n : Int) else -1
  | none => -1 := by
 cases hd : decL l with
 | some n =>
  obtain ⟨rfl, hn⟩ := decL_some hd
  simp only
  split
  ·rename_i h; exact readN_num h
  ·rename_i h
   by_cases hr : readN (numT n) = -1
   ·exact hr
   ·obtain ⟨m, h1, h2, -⟩ := readN_some hr
    have := numT_inj h2
    omega
 | none =>
  simp only
  by_cases hr : readN l = -1
  ·exact hr
  ·obtain ⟨m, h1, rfl, -⟩ := readN_some hr
   rw [decL_num (by omega)] at hd
   cases hd

/-! ## texts cut at a byte -/
def splitC (c : UInt8) : Txt → List Txt
 | [] => [[]]
 | b :: r => if b = c then [] :: splitC c r else match splitC c r with
  | [] => [[b]]
  | h :: t => (b :: h) :: t
def joinC (c : UInt8) (ls : List Txt) : Txt := Lib.join ls [c]
theorem splitC_ne (c : UInt8) (l : Txt) : splitC c l ≠ [] := by
 cases l with
 | nil => simp [splitC]
 | cons b r =>
  unfold splitC
  split
  ·simp
  ·split <;> simp
theorem splitC_cons {c b : UInt8} {r : Txt} (h : b ≠ c) {p : Txt} {t : List Txt} (hr : splitC c r = p :: t) : splitC c (b :: r) = (b :: p) :: t := by
 rw [splitC, if_neg h, hr]
theorem splitC_at (c : UInt8) (r : Txt) : splitC c (c :: r) = [] :: splitC c r := by rw [splitC, if_pos rfl]
theorem splitC_app {c : UInt8} : ∀ (p r : Txt), c ∉ p → splitC c (p ++ c :: r) = p :: splitC c r
 | [], r, _ => splitC_at c r
 | b :: p, r, h => by
  have hb : b ≠ c := fun e => h (by simp [e])
  have hp : c ∉ p := fun e => h (by simp [e])
  exact splitC_cons hb (splitC_app p r hp)
theorem splitC_none {c : UInt8} : ∀ (p : Txt), c ∉ p → splitC c p = [p]
 | [], _ => rfl
 | b :: p, h => by
  have hb : b ≠ c := fun e => h (by simp [e])
  have hp : c ∉ p := fun e => h (by simp [e])
  exact splitC_cons hb (splitC_none p hp)
theorem joinC_one (c : UInt8) (p : Txt) : joinC c [p] = p := Lib.join_one _ _
theorem joinC_cons (c : UInt8) (p q : Txt) (t : List Txt) : joinC c (p :: q :: t) = p ++ c :: joinC c (q :: t) := by
 unfold joinC
 rw [Lib.join_cons, Lib.join_cons]
 simp [Lib.joinTail]
theorem splitC_join {c : UInt8} : ∀ (ls : List Txt), ls ≠ [] → (∀ p ∈ ls, c ∉ p) → splitC c (joinC c ls) = ls
 | [], h, _ => absurd rfl h
 | [p], _, h => by rw [joinC_one]; exact splitC_none p (h p (by simp))
 | p :: q :: t, _, h => by
  rw [joinC_cons, splitC_app p _ (h p (by simp)), splitC_join (q :: t) (by simp) (fun x hx => h x (by simp [hx]))]
theorem join_splitC (c : UInt8) : ∀ (l : Txt), joinC c (splitC c l) = l
 | [] => joinC_one _ _
 | b :: r => by
  have ih := join_splitC c r
  have hne := splitC_ne c r
  by_cases hb : b = c
  ·subst hb
   rw [splitC_at]
   cases hs : splitC b r with
   | nil => exact absurd hs hne
   | cons p t =>
    rw [joinC_cons, ← hs, ih]
    rfl
  ·cases hs : splitC c r with
   | nil => exact absurd hs hne
   | cons p t =>
    rw [splitC_cons hb hs]
    rw [hs] at ih
    cases t with
    | nil => rw [joinC_one] at ih ⊢; rw [ih]
    | cons q t => rw [joinC_cons] at ih ⊢; rw [← ih]; rfl
theorem splitC_free (c : UInt8) : ∀ (l : Txt), ∀ p ∈ splitC c l, c ∉ p
 | [], p, hp => by
  rw [splitC, List.mem_singleton] at hp
  subst hp; simp
 | b :: r, p, hp => by
  have ih := splitC_free c r
  have hne := splitC_ne c r
  by_cases hb : b = c
  ·subst hb
   rw [splitC_at, List.mem_cons] at hp
   rcases hp with rfl | hp
   ·simp
   ·exact ih p hp
  ·cases hs : splitC c r with
   | nil => exact absurd hs hne
   | cons q t =>
    rw [splitC_cons hb hs, List.mem_cons] at hp
    rw [hs] at ih
    rcases hp with rfl | hp
    ·have := ih q (by simp)
     intro e
     rcases List.mem_cons.1 e with e | e
     ·exact hb e.symm
     ·exact this e
    ·exact ih p (by simp [hp])
theorem splitC_len (c : UInt8) : ∀ (l : Txt), (splitC c l).length = l.count c + 1
 | [] => rfl
 | b :: r => by
  have ih := splitC_len c r
  have hne := splitC_ne c r
  by_cases hb : b = c
  ·subst hb
   rw [splitC_at, List.length_cons, ih, List.count_cons_self]
  ·cases hs : splitC c r with
   | nil => exact absurd hs hne
   | cons q t =>
    rw [splitC_cons hb hs, List.count_cons_of_ne hb]
    rw [hs] at ih
    simpa using ih
theorem index_none {c : UInt8} : ∀ (l : Txt), c ∉ l → Lib.index l [c] = -1
 | [], _ => rfl
 | b :: r, h => by
  have hb : b ≠ c := fun e => h (by simp [e])
  have := index_none r (fun (e : c ∈ r) => h (by simp [e]))
  unfold Lib.index
  rw [this]
  simp [List.isPrefixOf, Ne.symm hb]
theorem index_at {c : UInt8} : ∀ (p r : Txt), c ∉ p → Lib.index (p ++ c :: r) [c] = p.length
 | [], r, _ => by simp [Lib.index, List.isPrefixOf]
 | b :: p, r, h => by
  have hb : b ≠ c := fun e => h (by simp [e])
  have ih := index_at p r (fun (e : c ∈ p) => h (by simp [e]))
  show Lib.index (b :: (p ++ c :: r)) [c] = _
  unfold Lib.index
  rw [ih]
  have : ((p.length : Int) == -1) = false := by rw [beq_eq_false_iff_ne]; omega
  simp [List.isPrefixOf, Ne.symm hb, this]
theorem first_at {c : UInt8} : ∀ (l : Txt), c ∈ l → ∃ p r, l = p ++ c :: r ∧ c ∉ p
 | [], h => by simp at h
 | b :: l, h => by
  by_cases hb : b = c
  ·subst hb; exact ⟨[], l, rfl, by simp⟩
  ·obtain ⟨p, r, rfl, hp⟩ := first_at l (by simpa [Ne.symm hb] using h)
   exact ⟨b :: p, r, rfl, by simp [hp, Ne.symm hb]⟩
theorem splitK_split (c : UInt8) : ∀ (k : Nat) (l : Txt), l.count c = k → Lib.splitK [c] 0 k l = splitC c l
 | 0, l, h => by
  rw [splitC_none l (fun e => by have := List.count_pos_iff.2 e; rw [h] at this; omega)]
  rfl
 | k + 1, l, h => by
  have hpos : 0 < l.count c := by omega
  obtain ⟨p, r, rfl, hp⟩ := first_at l (List.count_pos_iff.1 hpos)
  have hi := index_at p r hp
  rw [List.count_append, List.count_cons_self, List.count_eq_zero_of_not_mem hp] at h
  unfold Lib.splitK
  rw [hi, splitC_app p r hp]
  have : ((p.length : Int) == -1) = false := by rw [beq_eq_false_iff_ne]; omega
  rw [this]
  simp only [Bool.false_eq_true, if_false, Int.toNat_natCast, Nat.add_zero, List.length_singleton]
  rw [List.take_left, List.drop_append, List.drop_eq_nil_of_le (by omega), List.nil_append, show p.length + 1 - p.length = 1 by omega]
  rw [show (c :: r).drop 1 = r from rfl, splitK_split c k r (by omega)]
theorem split_eq (c : UInt8) (l : Txt) : Lib.split l [c] = splitC c l := by
 unfold Lib.split
 rw [Lib.count_one]
 exact splitK_split c _ l rfl
/-- cut at the first c -/
theorem cut_hit {c : UInt8} (p r : Txt) (h : c ∉ p) : Lib.cut (p ++ c :: r) [c] = (p, r, true) := by
 unfold Lib.cut
 rw [index_at p r h, if_pos (by omega)]
 simp only [Int.toNat_natCast, List.length_singleton]
 rw [List.take_left, List.drop_append, List.drop_eq_nil_of_le (by omega), List.nil_append, show p.length + 1 - p.length = 1 by omega]
 rfl
theorem cut_miss {c : UInt8} (l : Txt) (h : c ∉ l) : Lib.cut l [c] = (l, [], false) := by
 unfold Lib.cut
 rw [index_none l h, if_neg (by omega)]
/-- the loop of the reference's splitAt: the pieces of the first i bytes -/
theorem splitC_snoc (c b : UInt8) : ∀ (l : Txt), splitC c (l ++ [b]) = if b = c then splitC c l ++ [[]] else (splitC c l).dropLast ++ [(splitC c l).getLastD [] ++ [b]]
 | [] => by
  by_cases hb : b = c
  ·simp [splitC, hb]
  ·simp [splitC, hb]
 | a :: l => by
  have ih := splitC_snoc c b l
  have hne := splitC_ne c l
  show splitC c (a :: (l ++ [b])) = _
  by_cases ha : a = c
  ·subst ha
   rw [splitC_at, splitC_at, ih]
   split
   ·simp
   ·cases hs : splitC a l with
    | nil => exact absurd hs hne
    | cons q t => simp
  ·cases hs : splitC c l with
   | nil => exact absurd hs hne
   | cons q t =>
    rw [hs] at ih
    rw [splitC_cons ha hs]
    by_cases hb : b = c
    ·rw [if_pos hb] at ih ⊢
     exact splitC_cons ha (p := q) (t := t ++ [[]]) (by simpa using ih)
    ·rw [if_neg hb] at ih ⊢
     cases t with
     | nil => simpa using splitC_cons ha (p := q ++ [b]) (t := []) (by simpa using ih)
     | cons q2 t => simpa using splitC_cons ha (p := q) (t := (q2 :: t).dropLast ++ [(q2 :: t).getLastD [] ++ [b]]) (by simpa using ih)
end Sg
