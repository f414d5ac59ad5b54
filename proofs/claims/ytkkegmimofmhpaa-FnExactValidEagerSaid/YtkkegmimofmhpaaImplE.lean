/- The program's mayRead, with the library's Sort and Compact: contracts. Conditions: reads of nodes 0..9. -/
import Derived.Test.YtkkegmimofmhpaaImplC
import Derived.Test.YtkkegmimofmhpaaPlainA
import Derived.Test.YtkkegmimofmhpaaShelf
import Derived.Sort.OwnSortedInts
import Derived.Lib.RowBridge
namespace Go.Proofs.Ytkkegmimofmhpaa
open Go.RowKit Go.Sort

theorem Mod.ofGrown {w w' : World} {A : Option Addr} {g : Nat} (h : w.grownBy w' (some g)) (hA : blk A = some g) : Mod (fun b => blk A = some b) w w' :=
  ⟨h.os, h.tape, h.output, h.size, fun b hb hn => h.block b hb fun e => hn (by rw [hA, e])⟩

theorem i_Sort {B : Nat} (A : Option Addr) (c : Nat) (l : List Int) (w : World) (h : Own w B 3 1 A l.length c (ints l)) (hl : l.length ≤ 4194304) :
    Calls Try.prog 175 #[.slice A l.length c] w fun e w' => e = .returned (.tuple #[]) ∧ Own w' B 3 1 A l.length c (ints (l.mergeSort fun x y => decide (x ≤ y))) ∧ Mod (fun b => blk A = some b) w w' := by
  rcases Nat.eq_zero_or_pos l.length with h0 | h0
  · have hn : l = [] := List.eq_nil_of_length_eq_zero h0
    subst hn
    refine (Try.slices_Sort_int_none A c w).mono ?_
    rintro e w' ⟨rfl, rfl⟩
    exact ⟨rfl, by simpa using h, Mod.rfl' _ _⟩
  · obtain ⟨g, rfl, hB⟩ := h.at_ (by omega)
    obtain ⟨hxl, hnc, hcm, hcase⟩ := h
    rcases hcase with ⟨h1, _⟩ | ⟨g', cur, ha, _, hh, hcs, ht⟩
    · cases h1
    simp only [Option.some.injEq, Addr.mk.injEq, and_true] at ha
    subst ha
    have hg : g < w.heap.size := (Array.getElem?_eq_some_iff.1 hh).1
    have hlen : (l.mergeSort fun x y => decide (x ≤ y)).length = l.length := List.length_mergeSort l
    refine (Try.slices_Sort_int g 0 c l w (holds_of_blockI hh (by rw [Nat.mul_one] at ht; exact ht)) hg (by omega)).mono ?_
    rintro e w' ⟨rfl, n, os, rfl⟩
    refine ⟨rfl, ⟨by simp, hnc, hcm, .inr ⟨g, _, rfl, hB, heap_sortedI _ hh, by simpa [putCells] using hcs, ?_⟩⟩, Mod.ofGrown (grownBy_sortedI _) rfl⟩
    rw [Nat.mul_one, ← hlen]
    exact take_putCellsI cur _ (by omega)

theorem i_Compact {B : Nat} (A : Option Addr) (c : Nat) (l : List Int) (w : World) (h : Own w B 3 1 A l.length c (ints l)) (hl : l.length ≤ 4194304) :
    Calls Try.prog 176 #[.slice A l.length c] w fun e w' => e = .returned (.slice A (Go.Lib.compact l).length c) ∧ Own w' B 3 1 A (Go.Lib.compact l).length c (ints (Go.Lib.compact l)) ∧ Mod (fun b => blk A = some b) w w' := by
  rcases Nat.eq_zero_or_pos l.length with h0 | h0
  · have hn : l = [] := List.eq_nil_of_length_eq_zero h0
    subst hn
    refine (Try.slices_Compact_int_empty A c w).mono ?_
    rintro e w' ⟨rfl, rfl⟩
    exact ⟨rfl, by rw [Sg.compact_nil]; simpa using h, Mod.rfl' _ _⟩
  · obtain ⟨g, rfl, hB⟩ := h.at_ (by omega)
    obtain ⟨hxl, hnc, hcm, hcase⟩ := h
    rcases hcase with ⟨h1, _⟩ | ⟨g', cur, ha, _, hh, hcs, ht⟩
    · cases h1
    simp only [Option.some.injEq, Addr.mk.injEq, and_true] at ha
    subst ha
    have hle := Go.Lib.compact_length_le l
    refine (Try.slices_Compact_int g 0 c l w (holds_of_blockI hh (by rw [Nat.mul_one] at ht; exact ht)) (by omega) hnc).mono ?_
    rintro e w' ⟨rfl, n, rfl⟩
    have e1 : putRow (Value.int .i64) (Sort.ahead w n) g 0 (Go.Lib.compact l ++ List.replicate (l.length - (Go.Lib.compact l).length) 0).toArray = grow (putRow (Value.int .i64) (Sort.ahead w n) g 0 (Go.Lib.compact l ++ List.replicate (l.length - (Go.Lib.compact l).length) 0).toArray) #[] := by simp
    rw [e1]
    refine ⟨rfl, ⟨by simp, by omega, hcm, .inr ⟨g, _, rfl, hB, heap_sortedI _ hh, by simpa [putCells] using hcs, ?_⟩⟩, Mod.ofGrown (grownBy_sortedI _) rfl⟩
    have hT := take_putCellsI cur (Go.Lib.compact l ++ List.replicate (l.length - (Go.Lib.compact l).length) 0) (by simp; omega)
    rw [Nat.mul_one]
    have h2 := congrArg (List.take (Go.Lib.compact l).length) hT
    rw [List.take_take, Nat.min_eq_left (by simp)] at h2
    rw [h2, List.map_append, List.take_left' (by simp)]
    rfl
end Go.Proofs.Ytkkegmimofmhpaa
