/- Parts of one proof, joined. The draws' reader: newReader, pick, one: contracts. Conditions: bounds on the number of draws. The draws' one, newReader, numberPart, readPartOf: contracts. Conditions: bounds on the number of draws. What goodFormula keeps in memory, and how its steps turn it. Conditions: bounds. -/
import Derived.Test.YteighpaljdlnaaaGreatSepAll
import Derived.Test.YteighpaljdlnaaaGreatImplThree
import Derived.Deep.QuietTactic
import Derived.BigQuiet
import Derived.IntWalk
import Derived.Laws.BitsLemmas
import Derived.Handy
/- The draws' reader: newReader, pick, one: contracts. Conditions: bounds on the number of draws. -/
namespace Go.Proofs.YteighpaljdlnaaaGreat
open Go.RowKit

def u8s (l : List Int) : List Value := l.map (Value.int .u8)
@[simp] theorem length_u8s (l : List Int) : (u8s l).length = l.length := by simp [u8s]
theorem u8s_at (l : List Int) (k : Nat) : (u8s l)[k]? = (l[k]?).map (Value.int .u8) := by simp [u8s]
/-- the reader in block R, which has drawn at most m times -/
def Rdr (w : World) (R m : Nat) : Prop :=
 ∃ (A : Option Addr) (c : Nat) (l : List Int) (p : Nat), Bx w R [.slice A l.length c, .int .i64 (p : Int)] ∧ p ≤ m ∧ Rd w 1 A l.length (u8s l) ∧ l.length ≤ 2000 ∧ (∀ x ∈ l, 0 ≤ x ∧ x ≤ 255) ∧ (0 < l.length → ∀ b, blk A = some b → b < R)
theorem Rdr.more {w : World} {R m m' : Nat} (h : Rdr w R m) (hm : m ≤ m') : Rdr w R m' := by
 obtain ⟨A, c, l, p, h1, h2, h3⟩ := h
 exact ⟨A, c, l, p, h1, by omega, h3⟩
theorem Rdr.lt {w : World} {R m : Nat} (h : Rdr w R m) : R < w.heap.size := by
 obtain ⟨A, c, l, p, h1, h2, h3⟩ := h
 exact h1.lt
theorem Rdr.mod {F : Nat → Prop} {w w' : World} {R m : Nat} (h : Rdr w R m) (k : Mod F w w') (hF : ∀ b, F b → R < b) : Rdr w' R m := by
 obtain ⟨A, c, l, p, h1, h2, h3, h4, h5, h6⟩ := h
 exact ⟨A, c, l, p, h1.mod k (fun e => by have := hF _ e; omega), h2, h3.mod0 k (fun h0 b hb e => by have := hF b e; have := h6 (by omega) b hb; omega), h4, h5, h6⟩
theorem Rdr.ext {w w' : World} {R m : Nat} (h : Rdr w R m) (e : Ext w w') : Rdr w' R m := h.mod (Mod.of (F := fun _ => False) e) (fun _ => False.elim)

def Picked (R m : Nat) (n : Int) (w : World) (e : Ending) (w' : World) : Prop := ∃ x : Int, e = .returned (.int .i64 x) ∧ 0 ≤ x ∧ (x = 0 ∨ x < n) ∧ Rdr w' R (m + 1) ∧ Mod (fun b => b = R) w w'
theorem mod_small (a n : Int) (h0 : 0 ≤ a) (hn : 1 ≤ n) : 0 ≤ a.tmod n ∧ a.tmod n < n := by
 rw [Int.tmod_eq_emod_of_nonneg h0]
 exact ⟨Int.emod_nonneg _ (by omega), Int.emod_lt_of_pos _ (by omega)⟩

theorem xor_nn (a b : Int) (h0 : 0 ≤ a) (h1 : a < 4611686018427387904) (k0 : 0 ≤ b) (k1 : b < 4611686018427387904) : 0 ≤ bits .xor .i64 a b := by
 obtain ⟨a, rfl⟩ := Int.eq_ofNat_of_zero_le h0
 obtain ⟨b, rfl⟩ := Int.eq_ofNat_of_zero_le k0
 have ha : a < 2 ^ 62 := by omega
 have hb : b < 2 ^ 62 := by omega
 have ha' : a % 2 ^ IntKind.i64.bits = a := Nat.mod_eq_of_lt (by simp [IntKind.bits]; omega)
 have hb' : b % 2 ^ IntKind.i64.bits = b := Nat.mod_eq_of_lt (by simp [IntKind.bits]; omega)
 have hx : a ^^^ b < 2 ^ 62 := Nat.xor_lt_two_pow ha hb
 simp only [bits, BitVec.ofInt_natCast, BitVec.toNat_xor, BitVec.toNat_ofNat, ha', hb']
 rw [IntWalk.i64_in _ (by omega)]
 omega

end Go.Proofs.YteighpaljdlnaaaGreat

/- The draws' one, newReader, numberPart, readPartOf: contracts. Conditions: bounds on the number of draws. -/
namespace Go.Proofs.YteighpaljdlnaaaGreat
open Go.RowKit

def Oned (R m : Nat) (l : List Int) (w : World) (e : Ending) (w' : World) : Prop := ∃ x : Int, e = .returned (.int .i64 x) ∧ x ∈ l ∧ Rdr w' R (m + 1) ∧ Mod (fun b => b = R) w w'
def Parted (R m : Nat) (w : World) (e : Ending) (w' : World) : Prop := ∃ p : Sg.Part, e = .returned (pv p) ∧ Rdr w' R m ∧ Mod (fun b => b = R) w w'

end Go.Proofs.YteighpaljdlnaaaGreat

/- What goodFormula keeps in memory, and how its steps turn it. Conditions: bounds. -/
namespace Go.Proofs.YteighpaljdlnaaaGreat
open Go.RowKit

/-- one more element behind an own slice: what was elsewhere stays -/
theorem grown_own {w w' : World} {B e size n c : Nat} {A : Option Addr} {xs : List Value} {row : Option Nat} (h : Own w B e size A n c xs) (hg : w.grownBy w' row) (hd : ∀ b, row = some b → blk A ≠ some b) : Own w' B e size A n c xs :=
 h.keep fun b hb => hg.block b (h.lt hb).2 (fun e => hd b e.symm hb)
theorem Bx.gr {w w' : World} {b : Nat} {cs : List Value} {row : Option Nat} (h : Bx w b cs) (hg : w.grownBy w' row) (hd : row ≠ some b) : Bx w' b cs := h.keep (hg.block b h.lt (fun e => hd e.symm))
theorem Mod.gr {F : Nat → Prop} {w w' w2 : World} {row : Option Nat} (h : Mod F w w') (hg : w'.grownBy w2 row) (hr : ∀ b, row = some b → F b ∨ w.heap.size ≤ b) : Mod F w w2 :=
 ⟨hg.os.trans h.os, hg.tape.trans h.tape, hg.output.trans h.output, Nat.le_trans h.size hg.size, fun b hb hn => (hg.block b (Nat.lt_of_lt_of_le hb h.size) (fun e => (hr b e.symm).elim hn (fun e => by omega))).trans (h.block b hb hn)⟩
theorem Rdr.gr {w w' : World} {R m : Nat} {row : Option Nat} (h : Rdr w R m) (hg : w.grownBy w' row) (hr : ∀ b, row = some b → R < b) : Rdr w' R m :=
 h.mod (F := fun b => R < b) ((Mod.rfl' _ w).gr hg (fun b e => .inl (hr b e))) (fun _ e => e)

theorem Own.fewer {w : World} {B e n c : Nat} {A : Option Addr} {xs : List Value} (h : Own w B e 1 A n c xs) (i : Nat) (hi : i ≤ n) : Own w B e 1 A i c (xs.take i) := by
 have h1 := h.1
 refine ⟨by simp; omega, Nat.le_trans hi h.2.1, h.2.2.1, ?_⟩
 rcases h.2.2.2 with h2 | ⟨g, cur, ha, hb, hh, hc, ht⟩
 ·exact .inl h2
 ·refine .inr ⟨g, cur, ha, hb, hh, hc, ?_⟩
  rw [← ht, List.take_take]
  congr 1
  omega

/-- the state of goodFormula: f in block L + 1, the result's block L, and the open parts -/
def GF (L R m : Nat) (w : World) (nf n6 : Nat) (A6 : Option Addr) (c6 : Nat) (W : World) : Prop :=
 ∃ (f : List Sg.Part) (Af : Option Addr) (cf : Nat) (op : List Int), f.length = nf ∧ op.length = n6 ∧ L = w.heap.size ∧ R < L ∧ Bx W L [.slice none 0 0] ∧ Bx W (L + 1) [.slice Af nf cf] ∧
  Own W (L + 2) 95 5 Af nf cf (parts f) ∧ Own W (L + 2) 3 1 A6 n6 c6 (ints op) ∧ (∀ b, blk Af = some b → blk A6 ≠ some b) ∧ Rdr W R m ∧ Mod (fun b => b = R) w W
section
variable {L R m nf n6 c6 : Nat} {w W W' : World} {A6 : Option Addr}
theorem GF.lt (h : GF L R m w nf n6 A6 c6 W) {b : Nat} (hb : blk A6 = some b) : L + 2 ≤ b ∧ b < W.heap.size := by
 obtain ⟨f, Af, cf, op, _, _, _, _, _, _, _, h8, _⟩ := h
 exact h8.lt hb
theorem GF.size (h : GF L R m w nf n6 A6 c6 W) : L + 2 ≤ W.heap.size := by
 obtain ⟨f, Af, cf, op, _, _, _, _, _, h6, _⟩ := h
 exact h6.lt
theorem GF.base (h : GF L R m w nf n6 A6 c6 W) : L = w.heap.size ∧ R < L := by
 obtain ⟨f, Af, cf, op, _, _, h3, h4, _⟩ := h
 exact ⟨h3, h4⟩
theorem GF.rdr (h : GF L R m w nf n6 A6 c6 W) : Rdr W R m := by
 obtain ⟨f, Af, cf, op, _, _, _, _, _, _, _, _, _, h10, _⟩ := h
 exact h10
theorem GF.md (h : GF L R m w nf n6 A6 c6 W) : Mod (fun b => b = R) w W := by
 obtain ⟨f, Af, cf, op, _, _, _, _, _, _, _, _, _, _, h11⟩ := h
 exact h11
theorem GF.more {m' : Nat} (h : GF L R m w nf n6 A6 c6 W) (hm : m ≤ m') : GF L R m' w nf n6 A6 c6 W := by
 obtain ⟨f, Af, cf, op, h1, h2, h3, h4, h5, h6, h7, h8, h9, h10, h11⟩ := h
 exact ⟨f, Af, cf, op, h1, h2, h3, h4, h5, h6, h7, h8, h9, h10.more hm, h11⟩
/-- a step that turns the reader alone -/
theorem GF.pick {m' : Nat} (h : GF L R m w nf n6 A6 c6 W) (hm : Mod (fun b => b = R) W W') (hr : Rdr W' R m') : GF L R m' w nf n6 A6 c6 W' := by
 obtain ⟨f, Af, cf, op, h1, h2, h3, h4, h5, h6, h7, h8, h9, h10, h11⟩ := h
 exact ⟨f, Af, cf, op, h1, h2, h3, h4, h5.mod hm (by omega), h6.mod hm (by omega), h7.mod hm (fun b hb e => by have := (h7.lt hb).1; omega), h8.mod hm (fun b hb e => by have := (h8.lt hb).1; omega), h9, hr, h11.tr' hm⟩
theorem GF.ext (h : GF L R m w nf n6 A6 c6 W) (e : Ext W W') : GF L R m w nf n6 A6 c6 W' := h.pick (Mod.of e) (h.rdr.ext e)
/-- a step that turns a block that is no part of it -/
theorem GF.oth {F : Nat → Prop} (h : GF L R m w nf n6 A6 c6 W) (hm : Mod F W W') (h0 : ∀ b, F b → L + 2 ≤ b) (h6 : ∀ b, F b → blk A6 ≠ some b) (hf : ∀ b, F b → W.cell? ⟨L + 1, 0, none⟩ ≠ none → ∀ Af nf cf, W.cell? ⟨L + 1, 0, none⟩ = some (.slice Af nf cf) → blk Af ≠ some b) : GF L R m w nf n6 A6 c6 W' := by
 obtain ⟨f, Af, cf, op, h1, h2, h3, h4, h5, h6', h7, h8, h9, h10, h11⟩ := h
 have hc := h6'.cell (j := 0) rfl
 refine ⟨f, Af, cf, op, h1, h2, h3, h4, h5.mod hm (fun e => by have := h0 _ e; omega), h6'.mod hm (fun e => by have := h0 _ e; omega), h7.mod hm (fun b hb e => hf b e (by rw [hc]; simp) _ _ _ hc hb), h8.mod hm (fun b hb e => h6 b e hb), h9, h10.mod hm (fun b e => by have := h0 b e; omega), ?_⟩
 exact h11.tr hm (fun b e => .inr (by have := h0 b e; omega))
/-- what the walk needs of f -/
theorem GF.f (h : GF L R m w nf n6 A6 c6 W) : ∃ (f : List Sg.Part) (Af : Option Addr) (cf : Nat), f.length = nf ∧ W.cell? ⟨L + 1, 0, none⟩ = some (.slice Af nf cf) ∧ W.frozen? ⟨L + 1, 0, none⟩ = false ∧ Own W (L + 2) 95 5 Af nf cf (parts f) ∧ (∀ b, blk Af = some b → blk A6 ≠ some b) := by
 obtain ⟨f, Af, cf, op, h1, h2, h3, h4, h5, h6, h7, h8, h9, h10, h11⟩ := h
 exact ⟨f, Af, cf, h1, h6.cell (j := 0) rfl, h6.free 0, h7, h9⟩
theorem GF.res (h : GF L R m w nf n6 A6 c6 W) : Bx W L [.slice none 0 0] := by
 obtain ⟨f, Af, cf, op, h1, h2, h3, h4, h5, h6, h7, h8, h9, h10, h11⟩ := h
 exact h5
theorem GF.op (h : GF L R m w nf n6 A6 c6 W) : ∃ op : List Int, op.length = n6 ∧ Own W (L + 2) 3 1 A6 n6 c6 (ints op) := by
 obtain ⟨f, Af, cf, op, h1, h2, h3, h4, h5, h6, h7, h8, h9, h10, h11⟩ := h
 exact ⟨op, h2, h8⟩
theorem GF.at_ (h : GF L R m w nf n6 A6 c6 W) (j : Nat) (hj : j < n6) : ∃ b x, A6 = some ⟨b, 0, none⟩ ∧ W.cell? ⟨b, j, none⟩ = some (.int .i64 x) ∧ L + 2 ≤ b := by
 obtain ⟨op, h1, h2⟩ := h.op
 obtain ⟨b, rfl, hb⟩ := h2.at_ (by omega)
 obtain ⟨x, hx⟩ : ∃ x, op[j]? = some x := ⟨_, List.getElem?_eq_getElem (by omega)⟩
 exact ⟨b, x, rfl, h2.cell (by rw [ints_at, hx]; rfl), hb⟩
/-- open with fewer -/
theorem GF.cut (h : GF L R m w nf n6 A6 c6 W) (k : Nat) (hk : k ≤ n6) : GF L R m w nf k A6 c6 W := by
 obtain ⟨f, Af, cf, op, h1, h2, h3, h4, h5, h6, h7, h8, h9, h10, h11⟩ := h
 have := h8.fewer k hk
 rw [ints_take] at this
 exact ⟨f, Af, cf, op.take k, h1, by simp; omega, h3, h4, h5, h6, h7, this, h9, h10, h11⟩
theorem GF.room (h : GF L R m w nf n6 A6 c6 W) : n6 ≤ c6 ∧ c6 ≤ maxLen := by
 obtain ⟨op, h1, h2⟩ := h.op
 exact ⟨h2.2.1, h2.2.2.1⟩
/-- open with one more -/
theorem GF.push {A' : Option Addr} {c' : Nat} {op : List Int} (h : GF L R m w nf n6 A6 c6 W) (x : Int) (ho : Own W' (L + 2) 3 1 A' (n6 + 1) c' (ints op ++ [.int .i64 x])) (hl : op.length = n6)
  (hg : W.grownBy W' (blk A6)) (hat : blk A' = blk A6 ∨ ∃ g, blk A' = some g ∧ W.heap.size ≤ g) : GF L R m w nf (n6 + 1) A' c' W' := by
 have hlt := fun b hb => h.lt (b := b) hb
 obtain ⟨f, Af, cf, op0, h1, h2, h3, h4, h5, h6, h7, h8, h9, h10, h11⟩ := h
 rw [ints_snoc] at ho
 refine ⟨f, Af, cf, op ++ [x], h1, by simp [hl], h3, h4, h5.gr hg (fun e => by have := (hlt _ e).1; omega), h6.gr hg (fun e => by have := (hlt _ e).1; omega), grown_own h7 hg (fun b hb e => h9 b e hb), ho, ?_, h10.gr hg (fun b hb => by have := (hlt b hb).1; omega), h11.gr hg (fun b hb => .inr (by have := (hlt b hb).1; omega))⟩
 intro b hb hb'
 rcases hat with hat | ⟨g, hg', hle⟩
 ·rw [hat] at hb'; exact h9 b hb hb'
 ·rw [hg'] at hb'
  injection hb' with hb'
  subst hb'
  have := (h7.lt hb).2
  omega
/-- f with one more: the append, then the store -/
theorem GF.part {f : List Sg.Part} {Af A' : Option Addr} {cf c' : Nat} (h : GF L R m w nf n6 A6 c6 W) (hc : W.cell? ⟨L + 1, 0, none⟩ = some (.slice Af nf cf)) (hfl : f.length = nf) (p : Sg.Part) (ho : Own W' (L + 2) 95 5 A' (nf + 1) c' (parts f ++ pcs p))
  (hg : W.grownBy W' (blk Af)) (hat : blk A' = blk Af ∨ ∃ g, blk A' = some g ∧ W.heap.size ≤ g) : GF L R m w (nf + 1) n6 A6 c6 (W'.setCell ⟨L + 1, 0, none⟩ (.slice A' (nf + 1) c')) := by
 obtain ⟨f0, Af0, cf0, op, h1, h2, h3, h4, h5, h6, h7, h8, h9, h10, h11⟩ := h
 have hc0 := h6.cell (j := 0) rfl
 rw [hc] at hc0
 simp only [Option.some.injEq, Value.slice.injEq, true_and] at hc0
 obtain ⟨rfl, rfl⟩ := hc0
 have hlt := fun b hb => h7.lt (g := b) hb
 have g5 := h5.gr hg (fun e => by have := (hlt _ e).1; omega)
 have g6 := h6.gr hg (fun e => by have := (hlt _ e).1; omega)
 have g8 := grown_own h8 hg (fun b hb e => h9 b hb e)
 have g10 := h10.gr hg (fun b hb => by have := (hlt b hb).1; omega)
 have g11 := h11.gr hg (fun b hb => .inr (by have := (hlt b hb).1; omega))
 rw [parts_snoc] at ho
 refine ⟨f ++ [p], A', c', op, by simp [hfl], h2, h3, h4, g5.oth (show L + 1 ≠ L by omega) _, by have := g6.set 0 (.slice A' (nf + 1) c'); simpa using this, ho.set (fun e => by have := (ho.lt e).1; simp at this) _, g8.set (fun e => by have := (g8.lt e).1; simp at this) _, ?_, ?_, ?_⟩
 ·intro b hb hb'
  rcases hat with hat | ⟨g, hg', hle⟩
  ·rw [hat] at hb; exact h9 b hb hb'
  ·rw [hg'] at hb
   injection hb with hb
   subst hb
   have := (h8.lt hb').2
   omega
 ·exact g10.mod (F := fun b => b = L + 1) (Mod.set (F := fun b => b = L + 1) (Mod.rfl' (fun b => b = L + 1) W') (p := ⟨L + 1, 0, none⟩) (.inl rfl) _) (fun b e => by omega)
 ·exact g11.set (p := ⟨L + 1, 0, none⟩) (.inr (show w.heap.size ≤ L + 1 by omega)) _
end
theorem one_pcs (p : Sg.Part) : ∀ u ∈ pcs p, u.oneCell' = true := by
 intro u hu
 simp [pcs] at hu
 rcases hu with rfl | rfl | rfl | rfl | rfl <;> rfl
end Go.Proofs.YteighpaljdlnaaaGreat
