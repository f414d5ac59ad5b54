/- Words and small lemmas for the walks: lists of numbers in memory. Conditions: none. -/
import Derived.Test.YtkkegmimofmhpaaFacts
import Derived.Test.YtkkegmimofmhpaaModel
import Derived.Outline
namespace Go.Proofs.Ytkkegmimofmhpaa
open Go.RowKit

def ints (l : List Int) : List Value := l.map (Value.int .i64)
def bools (l : List Bool) : List Value := l.map Value.bool

@[simp] theorem ints_snoc (l : List Int) (x : Int) : ints l ++ [.int .i64 x] = ints (l ++ [x]) := by simp [ints]
@[simp] theorem ints_app (l m : List Int) : ints l ++ ints m = ints (l ++ m) := by simp [ints]
@[simp] theorem length_ints (l : List Int) : (ints l).length = l.length := by simp [ints]
@[simp] theorem length_bools (l : List Bool) : (bools l).length = l.length := by simp [bools]
theorem ints_at (l : List Int) (k : Nat) : (ints l)[k]? = (l[k]?).map (Value.int .i64) := by simp [ints]
theorem bools_at (l : List Bool) (k : Nat) : (bools l)[k]? = (l[k]?).map Value.bool := by simp [bools]
theorem ints_take (l : List Int) (k : Nat) : (ints l).take k = ints (l.take k) := by simp [ints, List.map_take]
theorem ints_drop (l : List Int) (k : Nat) : (ints l).drop k = ints (l.drop k) := by simp [ints, List.map_drop]
theorem ints_set (l : List Int) (k : Nat) (x : Int) : (ints l).set k (.int .i64 x) = ints (l.set k x) := by simp [ints, List.map_set]
theorem bools_set (l : List Bool) (k : Nat) (x : Bool) : (bools l).set k (.bool x) = bools (l.set k x) := by simp [bools, List.map_set]
theorem one_int (k : IntKind) (n : Int) : ∀ u ∈ [Value.int k n], u.oneCell' = true := by intro u hu; simp at hu; subst hu; rfl
theorem one_slice (A : Option Addr) (n c : Nat) : ∀ u ∈ [Value.slice A n c], u.oneCell' = true := by intro u hu; simp at hu; subst hu; rfl
theorem one_ints (l : List Int) : ∀ u ∈ ints l, u.oneCell' = true := by intro u hu; simp [ints] at hu; obtain ⟨x, _, rfl⟩ := hu; rfl

theorem Rd.len {w : World} {A : Option Addr} {n : Nat} {l : List Int} (h : Rd w 1 A n (ints l)) : l.length = n := by have := h.1; simp at this; omega
theorem Rd.lenB {w : World} {A : Option Addr} {n : Nat} {l : List Bool} (h : Rd w 1 A n (bools l)) : l.length = n := by have := h.1; simp at this; omega
theorem Own.len {w : World} {B e : Nat} {A : Option Addr} {n c : Nat} {l : List Int} (h : Own w B e 1 A n c (ints l)) : l.length = n := by have := h.1; simp at this; omega
theorem Rd.big {w : World} {s : Nat} {A : Option Addr} {n : Nat} {l : List Value} (h : Rd w s A n l) : n ≤ 9223372036854775807 := by have := h.2.1; unfold maxLen at this; omega

/-- the k-th number of a slice: its address, its name, its cell -/
theorem Rd.at1 {w : World} {A : Option Addr} {n : Nat} {l : List Int} (h : Rd w 1 A n (ints l)) {k : Nat} (hk : k < n) :
    ∃ b o x, A = some ⟨b, o, none⟩ ∧ l[k]? = some x ∧ w.cell? ⟨b, o + k, none⟩ = some (.int .i64 x) := by
  have hl := h.len
  obtain ⟨h1, _, h2⟩ := h
  obtain ⟨b, o, rfl, h3⟩ := h2 (by omega)
  have hx : l[k]? = some l[k] := List.getElem?_eq_getElem (by omega)
  exact ⟨b, o, _, rfl, hx, h3 k _ (by rw [ints_at, hx]; rfl)⟩
theorem Rd.atB {w : World} {A : Option Addr} {n : Nat} {l : List Bool} (h : Rd w 1 A n (bools l)) {k : Nat} (hk : k < n) :
    ∃ b o x, A = some ⟨b, o, none⟩ ∧ l[k]? = some x ∧ w.cell? ⟨b, o + k, none⟩ = some (.bool x) := by
  have hl := h.lenB
  obtain ⟨h1, _, h2⟩ := h
  obtain ⟨b, o, rfl, h3⟩ := h2 (by omega)
  have hx : l[k]? = some l[k] := List.getElem?_eq_getElem (by omega)
  exact ⟨b, o, _, rfl, hx, h3 k _ (by rw [bools_at, hx]; rfl)⟩

/-- a part in memory: five cells; parts: five cells each -/
def pcs (p : Sg.Part) : List Value := [.int .i64 p.kind, .int .i64 p.a, .int .i64 p.b, .int .i64 p.c, .int .i64 p.n]
def parts (l : List Sg.Part) : List Value := l.flatMap pcs
/-- a part as a value -/
abbrev pv (p : Sg.Part) : Value := .agg #[.int .i64 p.kind, .int .i64 p.a, .int .i64 p.b, .int .i64 p.c, .int .i64 p.n]

theorem length_flat {α : Type} (f : α → List Value) (s : Nat) (hs : ∀ x, (f x).length = s) (l : List α) : (l.flatMap f).length = l.length * s := by
  induction l with
  | nil => simp
  | cons x l ih => simp only [List.flatMap_cons, List.length_append, ih, hs, List.length_cons]; rw [Nat.add_mul, Nat.one_mul, Nat.add_comm]
theorem at_flat {α : Type} (f : α → List Value) (s : Nat) (hs : ∀ x, (f x).length = s) (l : List α) (k j : Nat) (hj : j < s) {x : α} (hx : l[k]? = some x) : (l.flatMap f)[k * s + j]? = (f x)[j]? := by
  induction l generalizing k with
  | nil => simp at hx
  | cons y l ih =>
    cases k with
    | zero =>
      simp at hx; subst hx
      simp only [List.flatMap_cons, Nat.zero_mul, Nat.zero_add]
      rw [List.getElem?_append_left (by rw [hs]; exact hj)]
    | succ k =>
      simp only [List.getElem?_cons_succ] at hx
      simp only [List.flatMap_cons]
      rw [List.getElem?_append_right (by rw [hs, Nat.add_mul]; omega), hs, show (k + 1) * s + j - s = k * s + j from by rw [Nat.add_mul]; omega]
      exact ih k hx
@[simp] theorem length_parts (l : List Sg.Part) : (parts l).length = l.length * 5 := length_flat pcs 5 (fun _ => rfl) l
theorem parts_snoc (l : List Sg.Part) (p : Sg.Part) : parts l ++ pcs p = parts (l ++ [p]) := by simp [parts]
theorem Rd.lenP {w : World} {A : Option Addr} {n : Nat} {l : List Sg.Part} (h : Rd w 5 A n (parts l)) : l.length = n := by have := h.1; simp at this; omega
theorem Rd.atP {w : World} {A : Option Addr} {n : Nat} {l : List Sg.Part} (h : Rd w 5 A n (parts l)) {k : Nat} (hk : k < n) :
    ∃ b o p, A = some ⟨b, o, none⟩ ∧ l[k]? = some p ∧ w.cell? ⟨b, o + k * 5, none⟩ = some (.int .i64 p.kind) ∧ w.cell? ⟨b, o + k * 5 + 1, none⟩ = some (.int .i64 p.a) ∧
      w.cell? ⟨b, o + k * 5 + 2, none⟩ = some (.int .i64 p.b) ∧ w.cell? ⟨b, o + k * 5 + 3, none⟩ = some (.int .i64 p.c) ∧ w.cell? ⟨b, o + k * 5 + 4, none⟩ = some (.int .i64 p.n) := by
  have hl := h.lenP
  obtain ⟨h1, _, h2⟩ := h
  obtain ⟨b, o, rfl, h3⟩ := h2 (by omega)
  have hx : l[k]? = some l[k] := List.getElem?_eq_getElem (by omega)
  have hc : ∀ j u, j < 5 → (pcs l[k])[j]? = some u → w.cell? ⟨b, o + k * 5 + j, none⟩ = some u := by
    intro j u hj hu
    have := h3 (k * 5 + j) u (by unfold parts; rw [at_flat pcs 5 (fun _ => rfl) l k j hj hx]; exact hu)
    rwa [← Nat.add_assoc] at this
  exact ⟨b, o, _, rfl, hx, hc 0 _ (by omega) rfl, hc 1 _ (by omega) rfl, hc 2 _ (by omega) rfl, hc 3 _ (by omega) rfl, hc 4 _ (by omega) rfl⟩

theorem bcell {W w1 : World} (hb : Ext W w1) : (∀ b o, b < W.heap.size → w1.cell? ⟨b, o, none⟩ = W.cell? ⟨b, o, none⟩) ∧ (∀ b o, b < W.heap.size → w1.frozen? ⟨b, o, none⟩ = W.frozen? ⟨b, o, none⟩) :=
  ⟨fun b o h => hb.cell (p := ⟨b, o, none⟩) h, fun b o h => hb.frozen (p := ⟨b, o, none⟩) h⟩
theorem ret_int {k : IntKind} {a b : Int} (h : a = b) : Ending.returned (.int k a) = .returned (.int k b) := by rw [h]
theorem ret_slice {A : Option Addr} {n m c : Nat} (h : n = m) : Ending.returned (.slice A n c) = .returned (.slice A m c) := by rw [h]
theorem ret_bool {a b : Bool} (h : a = b) : Ending.returned (.bool a) = .returned (.bool b) := by rw [h]
theorem take_snoc {α : Type} (l : List α) (k : Nat) {x : α} (h : l[k]? = some x) : l.take (k + 1) = l.take k ++ [x] := by
  obtain ⟨hk, rfl⟩ := List.getElem?_eq_some_iff.1 h
  rw [List.take_succ_eq_append_getElem hk]
theorem drop_cons {α : Type} (l : List α) (k : Nat) {x : α} (h : l[k]? = some x) : l.drop k = x :: l.drop (k + 1) := by
  obtain ⟨hk, rfl⟩ := List.getElem?_eq_some_iff.1 h
  rw [List.drop_eq_getElem_cons hk]
end Go.Proofs.Ytkkegmimofmhpaa
