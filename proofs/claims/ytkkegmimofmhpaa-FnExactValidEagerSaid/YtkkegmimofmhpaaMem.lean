/- Predicates on memory, and the laws of append, make and stores over them, for any program. Conditions: bounds on lengths. -/
import Derived.WalkKit
import Derived.Lib.Hide
import Derived.Deep.Draws
import Derived.Maps.AppendAt
namespace Go.Proofs.Ytkkegmimofmhpaa
open Go.RowKit

/-- whatever was there is as it was -/
abbrev Ext (w w' : World) : Prop := Below w.heap.size w w'

theorem Ext.rfl' (w : World) : Ext w w := Below.refl _ _
theorem Ext.tr {a b c : World} (h : Ext a b) (k : Ext b c) : Ext a c := Below.trans h (Below.mono k h.size)
theorem Ext.al {a w : World} (h : Ext a w) (o : Obj) : Ext a (w.alloc o) := Below.alloc h h.size o
theorem Ext.dr {a w : World} (h : Ext a w) : Ext a w.drew := Below.drew h
theorem Ext.drN {a w : World} (h : Ext a w) (n : Nat) : Ext a (w.drewN n) := ⟨h.os, h.tape, h.output, h.size, h.block⟩
theorem Ext.set {a w : World} (h : Ext a w) {p : Addr} (hp : a.heap.size ≤ p.block) (u : Value) : Ext a (w.setCell p u) := Below.setCell h hp u
theorem Ext.gr {a w w' : World} {row : Option Nat} (h : Ext a w) (hg : w.grownBy w' row) (hr : ∀ k, row = some k → a.heap.size ≤ k) : Ext a w' := Below.grown h hg h.size hr
theorem Ext.cellE {w w' : World} (h : Ext w w') {p : Addr} {u : Value} (hc : w.cell? p = some u) : w'.cell? p = some u :=
  (Below.cell h (World.block_lt_of_cell? w p hc)).trans hc

theorem add0 (b o j : Nat) : (⟨b, o, none⟩ : Addr).add j = ⟨b, o + j, none⟩ := by unfold Addr.add; split <;> simp_all

/-- a slice value (A, n) that reads as cells, whatever lies behind it -/
def Rd (w : World) (size : Nat) (A : Option Addr) (n : Nat) (xs : List Value) : Prop :=
  xs.length = n * size ∧ n ≤ maxLen ∧ (0 < n * size → ∃ b o, A = some ⟨b, o, none⟩ ∧ ∀ j u, xs[j]? = some u → w.cell? ⟨b, o + j, none⟩ = some u)

theorem Rd.ext {w w' : World} {size n : Nat} {A : Option Addr} {xs : List Value} (h : Rd w size A n xs) (e : Ext w w') : Rd w' size A n xs :=
  ⟨h.1, h.2.1, fun hn => let ⟨b, o, ha, hc⟩ := h.2.2 hn; ⟨b, o, ha, fun j u hu => Ext.cellE e (hc j u hu)⟩⟩
theorem Rd.nil (w : World) (size : Nat) (A : Option Addr) : Rd w size A 0 [] := ⟨by simp, by unfold maxLen; omega, fun h => absurd h (by omega)⟩

/-- a slice of the call's own, from block B on -/
def Own (w : World) (B e size : Nat) (A : Option Addr) (n c : Nat) (xs : List Value) : Prop :=
  xs.length = n * size ∧ n ≤ c ∧ c ≤ maxLen ∧
    ((A = none ∧ c = 0) ∨ ∃ g cur, A = some ⟨g, 0, none⟩ ∧ B ≤ g ∧ w.heap[g]? = some (.cells cur e (0, 0)) ∧ c * size ≤ cur.size ∧ cur.toList.take (n * size) = xs)

def blk (A : Option Addr) : Option Nat := A.map (·.block)

theorem Own.lt {w : World} {B e size : Nat} {A : Option Addr} {n c : Nat} {xs : List Value} (h : Own w B e size A n c xs) {g : Nat} (hg : blk A = some g) : B ≤ g ∧ g < w.heap.size := by
  rcases h.2.2.2 with ⟨rfl, _⟩ | ⟨g', cur, rfl, hb, hh, _⟩
  · simp [blk] at hg
  · simp [blk] at hg
    subst hg
    exact ⟨hb, (Array.getElem?_eq_some_iff.1 hh).1⟩

theorem Own.nil (w : World) (B e size : Nat) : Own w B e size none 0 0 [] := ⟨by simp, by omega, by unfold maxLen; omega, .inl ⟨rfl, rfl⟩⟩

theorem Own.new (w : World) {B : Nat} (e size : Nat) (cs : Array Value) (n : Nat) (hB : B ≤ w.heap.size) (hn : n ≤ maxLen) (hs : cs.size = n * size) :
    Own (w.alloc (.cells cs e)) B e size (some ⟨w.heap.size, 0, none⟩) n n cs.toList :=
  ⟨by simpa using hs, Nat.le_refl _, hn, .inr ⟨w.heap.size, cs, rfl, hB, heap_alloc_new w _, by omega, by rw [← hs, ← Array.length_toList]; exact List.take_length⟩⟩

theorem Own.mono {w : World} {B B' e size : Nat} {A : Option Addr} {n c : Nat} {xs : List Value} (h : Own w B e size A n c xs) (hB : B' ≤ B) : Own w B' e size A n c xs := by
  refine ⟨h.1, h.2.1, h.2.2.1, ?_⟩
  rcases h.2.2.2 with h2 | ⟨g, cur, ha, hb, r⟩
  · exact .inl h2
  · exact .inr ⟨g, cur, ha, by omega, r⟩

theorem Own.keep {w w' : World} {B e size : Nat} {A : Option Addr} {n c : Nat} {xs : List Value} (h : Own w B e size A n c xs) (hk : ∀ g, blk A = some g → w'.heap[g]? = w.heap[g]?) : Own w' B e size A n c xs := by
  refine ⟨h.1, h.2.1, h.2.2.1, ?_⟩
  rcases h.2.2.2 with h2 | ⟨g, cur, rfl, hb, hh, r⟩
  · exact .inl h2
  · exact .inr ⟨g, cur, rfl, hb, (hk g rfl).trans hh, r⟩

theorem Own.ext {w w' : World} {B e size : Nat} {A : Option Addr} {n c : Nat} {xs : List Value} (h : Own w B e size A n c xs) (k : Ext w w') : Own w' B e size A n c xs :=
  h.keep fun g hg => k.block g (h.lt hg).2
theorem Own.al {w : World} {B e size : Nat} {A : Option Addr} {n c : Nat} {xs : List Value} (h : Own w B e size A n c xs) (o : Obj) : Own (w.alloc o) B e size A n c xs := h.ext ((Ext.rfl' w).al o)
theorem Own.dr {w : World} {B e size : Nat} {A : Option Addr} {n c : Nat} {xs : List Value} (h : Own w B e size A n c xs) : Own w.drew B e size A n c xs := h.ext (Ext.rfl' w).dr
theorem Own.set {w : World} {B e size : Nat} {A : Option Addr} {n c : Nat} {xs : List Value} (h : Own w B e size A n c xs) {p : Addr} (hp : blk A ≠ some p.block) (u : Value) : Own (w.setCell p u) B e size A n c xs :=
  h.keep fun g hg => Below.heap_setCell w p u g (fun e => hp (by rw [hg, e]))
theorem Own.gr {w w' : World} {B e size : Nat} {A : Option Addr} {n c : Nat} {xs : List Value} (h : Own w B e size A n c xs) {row : Option Nat} (hg : w.grownBy w' row) (hne : blk A = none ∨ blk A ≠ row) : Own w' B e size A n c xs :=
  h.keep fun g hb => hg.block g (h.lt hb).2 (fun e => hne.elim (fun h => by simp [h] at hb) (fun h => h (hb.trans e)))

theorem Own.rd {w : World} {B e size : Nat} {A : Option Addr} {n c : Nat} {xs : List Value} (h : Own w B e size A n c xs) : Rd w size A n xs := by
  refine ⟨h.1, Nat.le_trans h.2.1 h.2.2.1, fun hn => ?_⟩
  rcases h.2.2.2 with ⟨_, hc⟩ | ⟨g, cur, rfl, _, hh, _, ht⟩
  · have := h.2.1
    subst hc
    have : n = 0 := by omega
    subst this
    simp at hn
  · refine ⟨_, _, rfl, fun j u hu => ?_⟩
    rw [Nat.zero_add, cell_of_row w g j cur e (0, 0) hh]
    rw [← ht, List.getElem?_take] at hu
    split at hu
    · simpa using hu
    · cases hu

theorem Own.at_ {w : World} {B e size : Nat} {A : Option Addr} {n c : Nat} {xs : List Value} (h : Own w B e size A n c xs) (hn : 0 < n * size) : ∃ g, A = some ⟨g, 0, none⟩ ∧ B ≤ g := by
  rcases h.2.2.2 with ⟨_, hc⟩ | ⟨g, cur, rfl, hb, _⟩
  · have := h.2.1
    subst hc
    have : n = 0 := by omega
    subst this
    simp at hn
  · exact ⟨g, rfl, hb⟩
theorem Own.cell {w : World} {B e size g n c : Nat} {xs : List Value} (h : Own w B e size (some ⟨g, 0, none⟩) n c xs) {j : Nat} {u : Value} (hu : xs[j]? = some u) : w.cell? ⟨g, j, none⟩ = some u := by
  rcases h.2.2.2 with ⟨h, _⟩ | ⟨g', cur, ha, _, hh, _, ht⟩
  · cases h
  · simp only [Option.some.injEq, Addr.mk.injEq, and_true] at ha
    subst ha
    rw [cell_of_row w g j cur e (0, 0) hh]
    rw [← ht, List.getElem?_take] at hu
    split at hu
    · simpa using hu
    · cases hu
theorem Own.free {w : World} {B e size g n c : Nat} {xs : List Value} (h : Own w B e size (some ⟨g, 0, none⟩) n c xs) (j : Nat) : w.frozen? ⟨g, j, none⟩ = false := by
  rcases h.2.2.2 with ⟨h, _⟩ | ⟨g', cur, ha, _, hh, _, ht⟩
  · cases h
  · simp only [Option.some.injEq, Addr.mk.injEq, and_true] at ha
    subst ha
    simp [World.frozen?, hh]
theorem Own.st {w : World} {B e size g n c : Nat} {xs : List Value} (h : Own w B e size (some ⟨g, 0, none⟩) n c xs) (j : Nat) (u : Value) : Own (w.setCell ⟨g, j, none⟩ u) B e size (some ⟨g, 0, none⟩) n c (xs.set j u) := by
  refine ⟨by simpa using h.1, h.2.1, h.2.2.1, ?_⟩
  rcases h.2.2.2 with ⟨h, _⟩ | ⟨g', cur, ha, hb, hh, hc, ht⟩
  · cases h
  · simp only [Option.some.injEq, Addr.mk.injEq, and_true] at ha
    subst ha
    refine .inr ⟨g, cur.setIfInBounds j u, rfl, hb, by simp [World.setCell, Array.getElem?_modify, hh], by simpa using hc, ?_⟩
    rw [← ht]
    simp [List.take_set]

/-- the row of an element type in the program's table -/
structure EI (P : Program) (t e size bytes : Nat) (z : Value) : Prop where
  ht : P.underlying t = some (.slice e)
  hi : (P.info? e).map (fun i => (i.zero, i.size, i.bytes)) = some (some z, size, bytes)
  hz : z.cells.size = size
  h0 : 0 < size

section
variable {P : Program}

theorem run_app (w : World) {t e size bytes ty : Nat} {z : Value} (E : EI P t e size bytes z) {B : Nat} {A : Option Addr} {n c : Nat} {xs : List Value} (hown : Own w B e size A n c xs)
    {ad : Addr} {m c' : Nat} {news : List Value} (hl : news.length = m * size) (hnews : ∀ j u, news[j]? = some u → w.cell? (ad.add j) = some u) (h1 : ∀ u ∈ news, u.oneCell' = true)
    (h63 : n + m ≤ maxLen) (hbytes : (n + m) * bytes ≤ 140737488355328) (hbase : B ≤ w.heap.size) :
    ∃ A' c'' w', (Builtin.append_ #[t, t] ty #[.slice A n c, .slice (some ad) m c']).run P w = .ok (.slice A' (n + m) c'') w' ∧ Own w' B e size A' (n + m) c'' (xs ++ news) ∧ w.grownBy w' (blk A) ∧
      (blk A' = blk A ∨ blk A' = some w.heap.size) := by
  obtain ⟨i, hi, hz, hsize, hby⟩ := info_parts E.hi
  have ht := E.ht
  have hzs := E.hz
  subst hsize
  subst hby
  have hsmall : n + m ≤ 9223372036854775807 := by simp only [maxLen] at h63; omega
  have hlen : (xs ++ news).length = (n + m) * i.size := by rw [List.length_append, hown.1, hl, Nat.add_mul]
  have grown : ∀ (old : Nat), old < n + m → ∀ (row : Option Nat),
      Own (w.drew.alloc (.cells (xs.toArray ++ news.toArray ++ Builtin.zeroCells z.cells (grownCap w (n + m) old e - (n + m))) e)) B e i.size
        (some ⟨w.heap.size, 0, none⟩) (n + m) (grownCap w (n + m) old e) (xs ++ news) ∧
      w.grownBy (w.drew.alloc (.cells (xs.toArray ++ news.toArray ++ Builtin.zeroCells z.cells (grownCap w (n + m) old e - (n + m))) e)) row := by
    intro old ho row
    have hge := grownCap_ge w (n + m) old e
    have hcm : grownCap w (n + m) old e ≤ maxLen := grownCap_le_maxLen w (n + m) old e h63
    refine ⟨⟨hlen, hge, hcm, .inr ⟨w.heap.size, _, rfl, hbase, heap_alloc_new w.drew _, ?_, ?_⟩⟩, ⟨rfl, rfl, rfl, by simp, fun k hk _ => heap_alloc_old w.drew _ hk⟩⟩
    · simp only [Array.size_append, List.size_toArray, size_zeroCells, hzs, hown.1, hl, ← Nat.add_mul]
      rw [show n + m + (grownCap w (n + m) old e - (n + m)) = grownCap w (n + m) old e from by omega]
      exact Nat.le_refl _
    · simp only [Array.toList_append, List.append_assoc]
      rw [← List.append_assoc, ← hlen]
      exact List.take_left
  have hown' := hown
  obtain ⟨hxl, hnc, hcm, hcase⟩ := hown
  rcases hcase with ⟨rfl, rfl⟩ | ⟨g, cur, rfl, hbg, hg, hcs, htake⟩
  · obtain rfl : n = 0 := by omega
    have hx : xs = [] := List.eq_nil_of_length_eq_zero (by simpa using hxl)
    subst hx
    by_cases hm : m = 0
    · subst hm
      have hn : news = [] := List.eq_nil_of_length_eq_zero (by simpa using hl)
      subst hn
      refine ⟨none, 0, w, ?_, by simpa using Own.nil w B e i.size, ⟨rfl, rfl, rfl, Nat.le_refl _, fun _ _ _ => rfl⟩, Or.inl rfl⟩
      simp [Builtin.append_, run_underlying ht, sizeOf, typeInfo, hi, Builtin.lenOf, Builtin.firstCells, loadCells, loadCellsFrom]
    · have hr := run_append_nil (P := P) w t ty e i z ht hi hz ad m c' news hl hnews (by omega) (by omega) (by have hb := hbytes; simp only [Nat.zero_add] at hb; omega)
      have hgr := grown 0 (by omega) (blk none)
      simp only [Nat.zero_add, List.nil_append, Array.empty_append] at hgr ⊢
      exact ⟨_, _, _, hr, hgr.1, hgr.2, Or.inr rfl⟩
  · by_cases hroom : n + m ≤ c
    · have hfit : n * i.size + news.length ≤ cur.size := by rw [hl, ← Nat.add_mul]; exact Nat.le_trans (Nat.mul_le_mul_right _ hroom) hcs
      have hr := run_append_room (P := P) w t ty e i ht hi g n c cur hg ad m c' news hl hnews h1 hroom hfit
      refine ⟨_, _, _, hr, ⟨hlen, hroom, hcm, .inr ⟨g, _, rfl, hbg, setRow_heap w g cur _ e _ hg, ?_, ?_⟩⟩, ⟨rfl, rfl, rfl, by simp, fun k _ hk => setRow_other w g k _ (fun e => hk (by simp [blk, e]))⟩, Or.inl rfl⟩
      · simp only [List.size_toArray, List.length_append, List.length_take, List.length_drop, Array.length_toList]
        omega
      · rw [htake, ← hlen]
        exact List.take_left
    · have holds : ∀ j u, xs[j]? = some u → w.cell? ((⟨g, 0, none⟩ : Addr).add j) = some u := by
        intro j u hu
        rw [add0, Nat.zero_add, cell_of_row w g j cur e (0, 0) hg]
        rw [← htake, List.getElem?_take] at hu
        split at hu
        · simpa using hu
        · cases hu
      have hr := run_append_grow (P := P) w t ty e i z ht hi hz ⟨g, 0, none⟩ n c xs hxl holds ad m c' news hl hnews (by omega) (by omega) (growslice_fits (by omega) hbytes)
      have hgr := grown c (by omega) (blk (some ⟨g, 0, none⟩))
      exact ⟨_, _, _, hr, hgr.1, hgr.2, Or.inr rfl⟩

theorem run_app_none (w : World) {t e size bytes ty : Nat} {z : Value} (E : EI P t e size bytes z) {B : Nat} {A : Option Addr} {n c : Nat} {xs : List Value} (hown : Own w B e size A n c xs) (c' : Nat) :
    (Builtin.append_ #[t, t] ty #[.slice A n c, .slice none 0 c']).run P w = .ok (.slice A n c) w := by
  obtain ⟨i, hi, hz, hsize, hby⟩ := info_parts E.hi
  have ht := E.ht
  obtain ⟨hxl, hnc, hcm, hcase⟩ := hown
  rcases hcase with ⟨rfl, rfl⟩ | ⟨g, cur, rfl, hbg, hg, hcs, htake⟩
  · obtain rfl : n = 0 := by omega
    simp [Builtin.append_, run_underlying ht, sizeOf, typeInfo, hi, Builtin.lenOf, Builtin.firstCells]
  · simp [Builtin.append_, run_underlying ht, sizeOf, typeInfo, hi, Builtin.lenOf, Builtin.firstCells, hnc, storeCells]

/-- append of any slice that can be read -/
theorem run_appR (w : World) {t e size bytes ty : Nat} {z : Value} (E : EI P t e size bytes z) {B : Nat} {A : Option Addr} {n c : Nat} {xs : List Value} (hown : Own w B e size A n c xs)
    {A2 : Option Addr} {m c' : Nat} {news : List Value} (hr : Rd w size A2 m news) (h1 : ∀ u ∈ news, u.oneCell' = true)
    (h63 : n + m ≤ maxLen) (hbytes : (n + m) * bytes ≤ 140737488355328) (hbase : B ≤ w.heap.size) :
    ∃ A' c'' w', (Builtin.append_ #[t, t] ty #[.slice A n c, .slice A2 m c']).run P w = .ok (.slice A' (n + m) c'') w' ∧ Own w' B e size A' (n + m) c'' (xs ++ news) ∧ w.grownBy w' (blk A) ∧
      (blk A' = blk A ∨ blk A' = some w.heap.size) := by
  have h0 := E.h0
  rcases A2 with _ | ad
  · have hm : m = 0 := by
      rcases Nat.eq_zero_or_pos m with h | h
      · exact h
      · obtain ⟨b, o, h, _⟩ := hr.2.2 (Nat.mul_pos h h0)
        cases h
    subst hm
    have hn : news = [] := List.eq_nil_of_length_eq_zero (by simpa using hr.1)
    subst hn
    exact ⟨A, c, w, run_app_none w E hown c', by simpa using hown, ⟨rfl, rfl, rfl, Nat.le_refl _, fun _ _ _ => rfl⟩, .inl rfl⟩
  · refine run_app w E hown hr.1 (fun j u hu => ?_) h1 h63 hbytes hbase
    obtain ⟨b, o, h, hc⟩ := hr.2.2 (by rw [← hr.1]; exact Nat.lt_of_le_of_lt (Nat.zero_le _) (List.getElem?_eq_some_iff.1 hu).1)
    injection h with h
    subst h
    rw [add0]
    exact hc j u hu

theorem wpList_appR {ops : Array Oper} {rest : List Oper} {o : Oper} {a : Act} {Q : Exit → Act → World → Prop} {w : World} (hgd : o.guard = none) {s x : Operand} {t : TypeId}
    (ho : o.op = .call { callee := .builtin .append, args := #[s, x], argTypes := #[t, t] })
    {e size bytes : Nat} {z : Value} (E : EI P t e size bytes z) {B : Nat} {A : Option Addr} {n c : Nat} {xs : List Value} (hs : a.eval s = .slice A n c) (hown : Own w B e size A n c xs)
    {A2 : Option Addr} {m c' : Nat} {news : List Value} (hx : a.eval x = .slice A2 m c') (hr : Rd w size A2 m news) (h1 : ∀ u ∈ news, u.oneCell' = true)
    (h63 : n + m ≤ maxLen) (hbytes : (n + m) * bytes ≤ 140737488355328) (hbase : B ≤ w.heap.size)
    (h : ∀ A' c'' w', Own w' B e size A' (n + m) c'' (xs ++ news) → w.grownBy w' (blk A) → (blk A' = blk A ∨ blk A' = some w.heap.size) → wpList P ops Q rest (a.put o.dst (.slice A' (n + m) c'')) w') : wpList P ops Q (o :: rest) a w :=
  wpList_plain hgd fun K hK => by
    obtain ⟨A', c'', w', hrun, h2, h3, h4⟩ := run_appR (P := P) w (ty := o.type) E hown (c' := c') hr h1 h63 hbytes hbase
    unfold Oper.wp execOp
    simp only [ho, resolve, invoke, builtin, Sem.run_bind, Sem.run_pure, Result.andThen_ok, List.map_toArray, List.map_cons, List.map_nil, hs, hx, hrun]
    exact hK _ _ (h A' c'' w' h2 h3 h4)

/-- append of one element, which lies in a block just made -/
theorem wpList_app1 {ops : Array Oper} {rest : List Oper} {o : Oper} {a : Act} {Q : Exit → Act → World → Prop} {w : World} (hgd : o.guard = none) {s x : Operand} {t : TypeId}
    (ho : o.op = .call { callee := .builtin .append, args := #[s, x], argTypes := #[t, t] })
    {e size bytes : Nat} {z : Value} (E : EI P t e size bytes z) {B : Nat} {A : Option Addr} {n c : Nat} {xs : List Value} (hs : a.eval s = .slice A n c) (hown : Own w B e size A n c xs)
    {cs : List Value} (hx : a.eval x = .slice (some ⟨w.heap.size, 0, none⟩) 1 1) (hl : cs.length = size) (h1 : ∀ u ∈ cs, u.oneCell' = true)
    (h63 : n + 1 ≤ 1099511627776) (hbytes : bytes ≤ 64) (hbase : B ≤ w.heap.size)
    (h : ∀ A' c'' w', Own w' B e size A' (n + 1) c'' (xs ++ cs) → w.grownBy w' (blk A) → (blk A' = blk A ∨ ∃ g, blk A' = some g ∧ w.heap.size ≤ g) → wpList P ops Q rest (a.put o.dst (.slice A' (n + 1) c'')) w') :
    wpList P ops Q (o :: rest) a (w.alloc (.cells cs.toArray e)) := by
  have hrd : Rd (w.alloc (.cells cs.toArray e)) size (some ⟨w.heap.size, 0, none⟩) 1 cs := by
    have := (Own.new w (B := B) e size cs.toArray 1 hbase (by unfold maxLen; omega) (by simpa using hl)).rd
    simpa using this
  refine wpList_appR hgd ho E hs (hown.al _) hx hrd h1 (by unfold maxLen; omega) ?_ (by simp; omega) ?_
  · refine Nat.le_trans (Nat.mul_le_mul h63 hbytes) (by omega)
  · intro A' c'' w' h2 h3 h4
    refine h A' c'' w' h2 ?_ ?_
    · refine ⟨h3.os, h3.tape, h3.output, Nat.le_trans (by simp) h3.size, fun k hk hne => ?_⟩
      exact (h3.block k (by simp; omega) hne).trans (heap_alloc_old w _ hk)
    · rcases h4 with h4 | h4
      · exact .inl h4
      · exact .inr ⟨_, h4, by simp⟩

/-- make([]T, n) -/
theorem wpList_mk {ops : Array Oper} {rest : List Oper} {o : Oper} {a : Act} {Q : Exit → Act → World → Prop} {w : World} (hgd : o.guard = none) {l c : Operand} {t : TypeId}
    (ho : o.op = Op.makeSlice t l c) {e size bytes : Nat} {z : Value} (E : EI P t e size bytes z) {B : Nat} {n : Nat} (hl : a.eval l = .int .i64 (n : Int)) (hc : a.eval c = .int .i64 (n : Int))
    (hb : n ≤ 1099511627776) (hbytes : bytes ≤ 64) (hbase : B ≤ w.heap.size)
    (h : ∀ w', Own w' B e size (some ⟨w.heap.size, 0, none⟩) n n (madeCells z.cells (n * size)).toList → Ext w w' → wpList P ops Q rest (a.put o.dst (.slice (some ⟨w.heap.size, 0, none⟩) n n)) w') : wpList P ops Q (o :: rest) a w := by
  obtain ⟨i, hi, hz, hsize, hby⟩ := info_parts E.hi
  subst hsize
  refine wpList_make_full w hgd l c t ho B e i z i.size E.ht hi hz rfl .i64 .i64 n n n hl hc rfl rfl ?_ (by unfold maxLen; omega) hbase ?_
  · refine Nat.le_trans (Nat.mul_le_mul (by rw [hby]; exact hbytes) hb) (by omega)
  · intro w' hown hg
    refine h w' ?_ ((Ext.rfl' w).gr hg (by simp))
    obtain ⟨h1, h2⟩ := hown
    rcases h2 with ⟨h2, _⟩ | ⟨g, cap, cur, hv, hbg, hh, hnc, hcm, hcs, ht⟩
    · cases h2
    · simp only [Value.slice.injEq, Option.some.injEq, Addr.mk.injEq, and_true, true_and] at hv
      obtain ⟨rfl, rfl⟩ := hv
      exact ⟨h1, Nat.le_refl _, hcm, .inr ⟨_, cur, rfl, hbg, hh, by omega, ht⟩⟩
theorem made_one (z : Value) (n : Nat) (h : z.cells = #[z]) : (madeCells z.cells (n * 1)).toList = List.replicate n z := by
  rw [h, Nat.mul_one, toList_madeCells_one]
end
end Go.Proofs.Ytkkegmimofmhpaa
