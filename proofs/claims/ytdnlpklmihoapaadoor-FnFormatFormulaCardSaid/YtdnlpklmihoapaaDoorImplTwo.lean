/- Parts of one proof, joined. Sorting and striking doubles gives the nodes that may be read, ascending. Conditions: valid formulas. The program's mayRead, with the library's Sort and Compact: contracts. Conditions: reads of nodes 0..9. The program's mayRead: its contract. Conditions: reads of nodes 0..9, at most 2^20 parts. The program's inRange, with the library's ContainsFunc: contracts. Conditions: none. The program's ValidGraph: its contract. Conditions: none but the reading of the graph. -/
import Derived.Test.YtdnlpklmihoapaaDoorCore
import Derived.Lib.SlicesCompact
import Derived.Test.YtdnlpklmihoapaaDoorImplOne
import Derived.Test.YtdnlpklmihoapaaDoorShelf
import Derived.Sort.OwnSortedInts
import Derived.Lib.RowBridge
import Derived.Test.YtdnlpklmihoapaaDoorSpecTwo
/- Sorting and striking doubles gives the nodes that may be read, ascending. Conditions: valid formulas. -/
namespace Sg

theorem eq_of_asc : ∀ (l m : List Int), l.Pairwise (· < ·) → m.Pairwise (· < ·) → (∀ x, x ∈ l ↔ x ∈ m) → l = m
 | [], [], _, _, _ => rfl
 | [], y :: m, _, _, h => absurd ((h y).2 (by simp)) (by simp)
 | x :: l, [], _, _, h => absurd ((h x).1 (by simp)) (by simp)
 | x :: l, y :: m, hl, hm, h => by
  rw [List.pairwise_cons] at hl hm
  have hxy : x = y := by
   rcases List.mem_cons.1 ((h x).1 (by simp)) with e | e
   ·exact e
   ·rcases List.mem_cons.1 ((h y).2 (by simp)) with e' | e'
    ·exact e'.symm
    ·have := hm.1 x e; have := hl.1 y e'; omega
  subst hxy
  rw [eq_of_asc l m hl.2 hm.2 fun z => ⟨fun hz => ?_, fun hz => ?_⟩]
  ·rcases List.mem_cons.1 ((h z).1 (List.mem_cons_of_mem _ hz)) with e | e
   ·have := hl.1 z hz; omega
   ·exact e
  ·rcases List.mem_cons.1 ((h z).2 (List.mem_cons_of_mem _ hz)) with e | e
   ·have := hm.1 z hz; omega
   ·exact e

theorem mayRead_asc (f : List Part) : (mayRead f).Pairwise (· < ·) := by
 unfold mayRead
 refine List.Pairwise.filter _ ?_
 rw [List.pairwise_map]
 refine List.Pairwise.imp ?_ (List.pairwise_lt_range (n := 10))
 intro a b h
 exact Int.ofNat_lt.2 h
theorem mem_mayRead_iff {f : List Part} {x : Int} : x ∈ mayRead f ↔ (0 ≤ x ∧ x ≤ 9) ∧ ∃ p ∈ f, p.kind = 1 ∧ p.n = x := by
 unfold mayRead
 rw [List.mem_filter, List.mem_map]
 constructor
 ·rintro ⟨⟨y, hy, rfl⟩, h⟩
  rw [List.mem_range] at hy
  unfold hasRead at h
  rw [List.any_eq_true] at h
  obtain ⟨p, hp, h⟩ := h
  simp only [Bool.and_eq_true, beq_iff_eq] at h
  exact ⟨⟨by simp, by simp; omega⟩, p, hp, h⟩
 ·rintro ⟨⟨h0, h9⟩, p, hp, h⟩
  refine ⟨⟨x.toNat, by rw [List.mem_range]; omega, by simp; omega⟩, ?_⟩
  unfold hasRead
  rw [List.any_eq_true]
  exact ⟨p, hp, by simp [h]⟩

/-- what the reads of a formula's parts are -/
def readsIn (f : List Part) : List Int := (f.filter fun p => p.kind == 1).map (·.n)

theorem compact_sorted (d : Array Int) (n : Nat) (_hn : n ≤ d.size) (hs : ∀ i j, i < j → j < n → d[i]! ≤ d[j]!) :
  ∀ m, m ≤ n → (Go.Lib.compactUpTo d m).Pairwise (· < ·) ∧ ∀ x, x ∈ Go.Lib.compactUpTo d m ↔ ∃ j, j < m ∧ d[j]! = x := by
 intro m
 induction m with
 | zero => intro _; simp [Go.Lib.compactUpTo]
 | succ m ih =>
  intro hm
  obtain ⟨h1, h2⟩ := ih (by omega)
  rw [Go.Lib.compactUpTo_succ]
  by_cases hk : m = 0 ∨ d[m]! ≠ d[m - 1]!
  ·have hkeep : Go.Lib.keeps d m = true := by simp [Go.Lib.keeps, hk]
   rw [if_pos hkeep]
   refine ⟨?_, ?_⟩
   ·rw [List.pairwise_append]
    refine ⟨h1, List.pairwise_singleton _ _, ?_⟩
    intro x hx y hy
    rw [List.mem_singleton] at hy
    subst hy
    obtain ⟨j, hj, rfl⟩ := (h2 x).1 hx
    rcases hk with hk | hk
    ·omega
    ·have hlast := hs (m - 1) m (by omega) (by omega)
     rcases Nat.lt_or_ge j (m - 1) with hjm | hjm
     ·have := hs j (m - 1) hjm (by omega); omega
     ·obtain rfl : j = m - 1 := by omega
      omega
   ·intro x
    rw [List.mem_append, h2, List.mem_singleton]
    constructor
    ·rintro (⟨j, hj, rfl⟩ | rfl)
     ·exact ⟨j, by omega, rfl⟩
     ·exact ⟨m, by omega, rfl⟩
    ·rintro ⟨j, hj, rfl⟩
     rcases Nat.lt_or_ge j m with h | h
     ·exact .inl ⟨j, h, rfl⟩
     ·obtain rfl : j = m := by omega
      exact .inr rfl
  ·have hm0 : ¬ m = 0 := fun e => hk (.inl e)
   have heq : d[m]! = d[m - 1]! := Classical.byContradiction fun e => hk (.inr e)
   have hkeep : ¬ Go.Lib.keeps d m = true := by simp [Go.Lib.keeps, hm0, heq]
   rw [if_neg hkeep, List.append_nil]
   refine ⟨h1, fun x => ?_⟩
   rw [h2]
   constructor
   ·rintro ⟨j, hj, rfl⟩; exact ⟨j, by omega, rfl⟩
   ·rintro ⟨j, hj, rfl⟩
    rcases Nat.lt_or_ge j m with h | h
    ·exact ⟨j, h, rfl⟩
    ·obtain rfl : j = m := by omega
     exact ⟨j - 1, by omega, heq.symm⟩

theorem compact_sort (f : List Part) (hv : ∀ p ∈ f, p.kind = 1 → 0 ≤ p.n ∧ p.n ≤ 9) : Go.Lib.compact ((readsIn f).mergeSort fun x y => decide (x ≤ y)) = mayRead f := by
 have hsort : ((readsIn f).mergeSort fun x y => decide (x ≤ y)).Pairwise (fun a b => decide (a ≤ b) = true) :=
  List.pairwise_mergeSort (fun a b c h1 h2 => by simp at *; omega) (fun a b => by simp; omega) _
 have hmem : ∀ x, x ∈ ((readsIn f).mergeSort fun x y => decide (x ≤ y)) ↔ x ∈ readsIn f := fun x => List.mem_mergeSort
 generalize ((readsIn f).mergeSort fun x y => decide (x ≤ y)) = S at *
 have key := compact_sorted S.toArray S.length (by simp) (fun i j hij hj => by
  have := List.pairwise_iff_getElem.1 hsort i j (by omega) hj hij
  simp only [decide_eq_true_eq] at this
  simpa [show i < S.length by omega, hj] using this) S.length (Nat.le_refl _)
 refine eq_of_asc _ _ key.1 (mayRead_asc f) fun x => ?_
 unfold Go.Lib.compact
 rw [key.2, mem_mayRead_iff]
 have h1 : (∃ j, j < S.length ∧ S.toArray[j]! = x) ↔ x ∈ S := by
  rw [List.mem_iff_getElem]
  constructor
  ·rintro ⟨j, hj, h⟩; exact ⟨j, hj, by simpa [hj] using h⟩
  ·rintro ⟨j, hj, h⟩; exact ⟨j, hj, by simpa [hj] using h⟩
 rw [h1, hmem]
 unfold readsIn
 rw [List.mem_map]
 constructor
 ·rintro ⟨p, hp, rfl⟩
  rw [List.mem_filter] at hp
  have hk : p.kind = 1 := by simpa using hp.2
  exact ⟨hv p hp.1 hk, p, hp.1, hk, rfl⟩
 ·rintro ⟨_, p, hp, hk, rfl⟩
  exact ⟨p, by rw [List.mem_filter]; exact ⟨hp, by simp [hk]⟩, rfl⟩
theorem compact_nil : Go.Lib.compact ([] : List Int) = [] := rfl
end Sg

/- The program's mayRead, with the library's Sort and Compact: contracts. Conditions: reads of nodes 0..9. -/
namespace Go.Proofs.YtdnlpklmihoapaaDoor
open Go.RowKit Go.Sort

theorem Mod.ofGrown {w w' : World} {A : Option Addr} {g : Nat} (h : w.grownBy w' (some g)) (hA : blk A = some g) : Mod (fun b => blk A = some b) w w' :=
 ⟨h.os, h.tape, h.output, h.size, fun b hb hn => h.block b hb fun e => hn (by rw [hA, e])⟩

theorem i_Sort {B : Nat} (A : Option Addr) (c : Nat) (l : List Int) (w : World) (h : Own w B 3 1 A l.length c (ints l)) (hl : l.length ≤ 4194304) :
  Calls Tryd.prog 106 #[.slice A l.length c] w fun e w' => e = .returned (.tuple #[]) ∧ Own w' B 3 1 A l.length c (ints (l.mergeSort fun x y => decide (x ≤ y))) ∧ Mod (fun b => blk A = some b) w w' := by
 rcases Nat.eq_zero_or_pos l.length with h0 | h0
 ·have hn : l = [] := List.eq_nil_of_length_eq_zero h0
  subst hn
  refine (Tryd.slices_Sort_int_none A c w).mono ?_
  rintro e w' ⟨rfl, rfl⟩
  exact ⟨rfl, by simpa using h, Mod.rfl' _ _⟩
 ·obtain ⟨g, rfl, hB⟩ := h.at_ (by omega)
  obtain ⟨hxl, hnc, hcm, hcase⟩ := h
  rcases hcase with ⟨h1, _⟩ | ⟨g', cur, ha, _, hh, hcs, ht⟩
  ·cases h1
  simp only [Option.some.injEq, Addr.mk.injEq, and_true] at ha
  subst ha
  have hg : g < w.heap.size := (Array.getElem?_eq_some_iff.1 hh).1
  have hlen : (l.mergeSort fun x y => decide (x ≤ y)).length = l.length := List.length_mergeSort l
  refine (Tryd.slices_Sort_int g 0 c l w (holds_of_blockI hh (by rw [Nat.mul_one] at ht; exact ht)) hg (by omega)).mono ?_
  rintro e w' ⟨rfl, n, os, rfl⟩
  refine ⟨rfl, ⟨by simp, hnc, hcm, .inr ⟨g, _, rfl, hB, heap_sortedI _ hh, by simpa [putCells] using hcs, ?_⟩⟩, Mod.ofGrown (grownBy_sortedI _) rfl⟩
  rw [Nat.mul_one, ← hlen]
  exact take_putCellsI cur _ (by omega)

theorem i_Compact {B : Nat} (A : Option Addr) (c : Nat) (l : List Int) (w : World) (h : Own w B 3 1 A l.length c (ints l)) (hl : l.length ≤ 4194304) :
  Calls Tryd.prog 108 #[.slice A l.length c] w fun e w' => e = .returned (.slice A (Go.Lib.compact l).length c) ∧ Own w' B 3 1 A (Go.Lib.compact l).length c (ints (Go.Lib.compact l)) ∧ Mod (fun b => blk A = some b) w w' := by
 rcases Nat.eq_zero_or_pos l.length with h0 | h0
 ·have hn : l = [] := List.eq_nil_of_length_eq_zero h0
  subst hn
  refine (Tryd.slices_Compact_int_empty A c w).mono ?_
  rintro e w' ⟨rfl, rfl⟩
  exact ⟨rfl, by rw [Sg.compact_nil]; simpa using h, Mod.rfl' _ _⟩
 ·obtain ⟨g, rfl, hB⟩ := h.at_ (by omega)
  obtain ⟨hxl, hnc, hcm, hcase⟩ := h
  rcases hcase with ⟨h1, _⟩ | ⟨g', cur, ha, _, hh, hcs, ht⟩
  ·cases h1
  simp only [Option.some.injEq, Addr.mk.injEq, and_true] at ha
  subst ha
  have hle := Go.Lib.compact_length_le l
  refine (Tryd.slices_Compact_int g 0 c l w (holds_of_blockI hh (by rw [Nat.mul_one] at ht; exact ht)) (by omega) hnc).mono ?_
  rintro e w' ⟨rfl, n, rfl⟩
  have e1 : putRow (Value.int .i64) (Sort.ahead w n) g 0 (Go.Lib.compact l ++ List.replicate (l.length - (Go.Lib.compact l).length) 0).toArray = grow (putRow (Value.int .i64) (Sort.ahead w n) g 0 (Go.Lib.compact l ++ List.replicate (l.length - (Go.Lib.compact l).length) 0).toArray) #[] := by simp
  rw [e1]
  refine ⟨rfl, ⟨by simp, by omega, hcm, .inr ⟨g, _, rfl, hB, heap_sortedI _ hh, by simpa [putCells] using hcs, ?_⟩⟩, Mod.ofGrown (grownBy_sortedI _) rfl⟩
  have hT := take_putCellsI cur (Go.Lib.compact l ++ List.replicate (l.length - (Go.Lib.compact l).length) 0) (by simp; omega)
  rw [Nat.mul_one]
  have h2 := congrArg (List.take (Go.Lib.compact l).length) hT
  rw [List.take_take, Nat.min_eq_left (by simp)] at h2
  rw [h2, List.map_append, List.take_left' (by simp)]
  rfl
end Go.Proofs.YtdnlpklmihoapaaDoor

/- The program's mayRead: its contract. Conditions: reads of nodes 0..9, at most 2^20 parts. -/
namespace Go.Proofs.YtdnlpklmihoapaaDoor
open Go.RowKit

theorem Own.clip {w : World} {B e size : Nat} {A : Option Addr} {n c : Nat} {xs : List Value} (h : Own w B e size A n c xs) : Own w B e size A n n xs := by
 obtain ⟨h1, h2, h3, h4⟩ := h
 refine ⟨h1, Nat.le_refl _, by omega, ?_⟩
 rcases h4 with ⟨rfl, rfl⟩ | ⟨g, cur, rfl, hB, hh, hc, ht⟩
 ·exact .inl ⟨rfl, by omega⟩
 ·exact .inr ⟨g, cur, rfl, hB, hh, Nat.le_trans (Nat.mul_le_mul_right _ h2) hc, ht⟩

theorem readsIn_snoc (f : List Sg.Part) (k : Nat) {p : Sg.Part} (h : f[k]? = some p) : Sg.readsIn (f.take (k + 1)) = if p.kind = 1 then Sg.readsIn (f.take k) ++ [p.n] else Sg.readsIn (f.take k) := by
 rw [take_snoc f k h]
 unfold Sg.readsIn
 rw [List.filter_append, List.map_append]
 by_cases hk : p.kind = 1
 ·rw [if_pos hk]; simp [hk]
 ·rw [if_neg hk]; simp [hk]
theorem readsIn_len (f : List Sg.Part) (k : Nat) : (Sg.readsIn (f.take k)).length ≤ k := by
 unfold Sg.readsIn
 rw [List.length_map]
 exact Nat.le_trans (List.length_filter_le _ _) (List.length_take_le _ _)

set_option maxRecDepth 100000 in
set_option maxHeartbeats 2000000 in
theorem i_mayRead (A : Option Addr) (c : Nat) (f : List Sg.Part) (w : World) (h : Rd w 5 A f.length (parts f)) (hb : f.length ≤ 1048576) (hv : ∀ p ∈ f, p.kind = 1 → 0 ≤ p.n ∧ p.n ≤ 9) :
  Calls Tryd.prog 92 #[.agg #[.slice A f.length c]] w fun e w' => ∃ A' c', e = .returned (.slice A' (Sg.mayRead f).length c') ∧ Own w' w.heap.size 3 1 A' (Sg.mayRead f).length c' (ints (Sg.mayRead f)) ∧ Ext w w' := by
 have HC := lh (Sg.compact_sort f hv)
 clear hv
 go_enter Tryd.func92, Tryd.ntmps92
 go_wp2
 go_loopw [3, 9] (fun v i wr => ∃ (k : Nat) (A' : Option Addr) (c' : Nat), k ≤ f.length ∧ i = .int .i64 k ∧ v = .slice A' (Sg.readsIn (f.take k)).length c' ∧ Own wr w.heap.size 3 1 A' (Sg.readsIn (f.take k)).length c' (ints (Sg.readsIn (f.take k))) ∧ Ext w wr) (fun _ i _ => f.length - (intOf i).toNat)
 case atStart => exact ⟨0, none, 0, Nat.zero_le _, rfl, rfl, Own.nil _ _ _ _, (Ext.rfl' w).al _⟩
 case round =>
  obtain ⟨k, A', c', hk, rfl, rfl, hown, hext⟩ := hrel
  have hrl := readsIn_len f k
  by_cases hlt : k < f.length
  ·obtain ⟨b, o, p, rfl, hp, hc0, hc1, hc2, hc3, hc4⟩ := (h.ext hext).atP hlt
   have hbw := blt hc0
   have H := lh (readsIn_snoc f k hp)
   clear hp
   by_cases hk1 : p.kind = 1
   ·have e1 := H.out
    rw [if_pos hk1] at e1
    have E1 := lh e1
    have b1 : (p.kind == 1) = true := by simp [hk1]
    clear e1 H hk1
    have hownA := hown.al (.cells #[.int .i64 p.kind, .int .i64 p.a, .int .i64 p.b, .int .i64 p.c, .int .i64 p.n] 73)
    have hextA := hext.al (.cells #[.int .i64 p.kind, .int .i64 p.a, .int .i64 p.b, .int .i64 p.c, .int .i64 p.n] 73)
    go_wp2_with (at_builtin; refine wpList_app1g rfl rfl eiInt rfl hownA rfl (by simp) rfl (one_int _ _) (by omega) (by omega) hextA.size ?_; intro A2 c2 w2 hown2 hg2 hat2)
    go_roundw
    case rel => exact ⟨k + 1, A2, c2, by omega, by go_num, by rw [E1.out]; simp, by rw [E1.out]; simpa using hown2, hextA.gr hg2 fun g hg => (hown.lt hg).1⟩
    case measure => simp [intOf]; omega
   ·have e1 := H.out
    rw [if_neg hk1] at e1
    have E1 := lh e1
    have b1 : (p.kind == 1) = false := by simp [hk1]
    clear e1 H hk1
    go_wp2
    go_roundw
    case rel => exact ⟨k + 1, A', c', by omega, by go_num, by rw [E1.out], by rw [E1.out]; exact hown.al _, hext.al _⟩
    case measure => simp [intOf]; omega
  ·obtain rfl : k = f.length := by omega
   rw [List.take_of_length_le (Nat.le_refl _)] at hown hrl
   have hrl2 : (Sg.readsIn f).length ≤ 4194304 := by omega
   have HT := lh (List.take_of_length_le (Nat.le_refl f.length))
   have hms : ((Sg.readsIn f).mergeSort fun x y => decide (x ≤ y)).length = (Sg.readsIn f).length := List.length_mergeSort _
   have Hms := lh hms
   clear hms
   rw [List.take_of_length_le (Nat.le_refl _)]
   go_wp2_with fail
   refine (i_Sort _ _ _ _ hown hrl2).mono ?_
   rintro e w1 ⟨rfl, ho1, hm1⟩
   have he1 := hext.md hm1 (fun b hb => (hown.lt hb).1)
   rw [← Hms.out] at ho1
   go_wp2_with fail
   rw [← Hms.out]
   refine (i_Compact _ _ _ _ ho1 (by rw [Hms.out]; exact hrl2)).mono ?_
   rintro e w2 ⟨rfl, ho2, hm2⟩
   have he2 := he1.md hm2 (fun b hb => (ho1.lt hb).1)
   rw [HC.out] at ho2
   rw [HC.out]
   go_wp2_with (go_at_call 107; refine (i_Clip _ _ _ _ ho2.2.1 ho2.2.2.1).mono ?_; rintro e w3 ⟨rfl, rfl⟩)
   go_ret
   exact ⟨_, _, rfl, Own.clip ho2, he2⟩
end Go.Proofs.YtdnlpklmihoapaaDoor

/- The program's inRange, with the library's ContainsFunc: contracts. Conditions: none. -/
namespace Go.Proofs.YtdnlpklmihoapaaDoor
open Go.RowKit

/-- a function value that answers of a number, and turns nothing; inv: what it leans on -/
structure Prd (P : Program) (fid : Nat) (caps : List Value) (inv : World → Prop) (p : Int → Bool) (dom : Int → Prop) : Prop where
 ent : ∀ (args : Array Value) (w : World), (callFunc fid args).run P w = .ok (.enter fid args) w
 call : ∀ (w : World) (n : Int), inv w → dom n → Calls P fid ((.int .i64 n :: caps).toArray) w fun e w' => e = .returned (.bool (p n)) ∧ Ext w w'
 ext : ∀ (w w' : World), inv w → Ext w w' → inv w'

def findFrom (p : Int → Bool) : Nat → List Int → Int
 | _, [] => -1
 | k, x :: l => if p x then k else findFrom p (k + 1) l
theorem findFrom_neg (p : Int → Bool) (l : List Int) (k : Nat) : (0 ≤ findFrom p k l) ↔ l.any p = true := by
 induction l generalizing k with
 | nil => simp [findFrom]
 | cons x l ih =>
  simp only [findFrom, List.any_cons]
  by_cases h : p x = true
  ·rw [if_pos h, h]; simp
  ·rw [if_neg h, ih]; simp [h]

end Go.Proofs.YtdnlpklmihoapaaDoor

/- The program's ValidGraph: its contract. Conditions: none but the reading of the graph. -/
namespace Go.Proofs.YtdnlpklmihoapaaDoor
open Go.RowKit

theorem validF_reads {f : List Sg.Part} (h : Sg.validF f = true) : ∀ p ∈ f, p.kind = 1 → 0 ≤ p.n ∧ p.n ≤ 9 := by
 intro p hp hk
 exact Sg.mayRead_range (Sg.mem_mayRead h hp hk)

set_option maxRecDepth 100000 in
set_option maxHeartbeats 4000000 in
theorem i_ValidGraph (A : Option Addr) (c : Nat) (g : Sg.Graph) (w : World) (h : RdN w A g) :
  Calls Tryd.prog 66 #[.agg #[.slice A g.length c]] w fun e w' => e = .returned (.bool (Sg.validG g)) ∧ Ext w w' := by
 have hgl := h.1
 go_enter Tryd.func66, Tryd.ntmps66
 go_wp2
 go_loopw [10] (fun i wr => ∃ k : Nat, k ≤ g.length ∧ i = .int .i64 k ∧ Ext w wr ∧ wr.cell? ⟨w.heap.size, 0, none⟩ = some (.slice A g.length c) ∧ VG g k = true) (fun i _ => g.length - (intOf i).toNat)
 case atStart => exact ⟨0, Nat.zero_le _, rfl, (Ext.rfl' w).al _, by simp [go_sem], rfl⟩
 case round =>
  obtain ⟨k, hk, rfl, he, hbox, hvg⟩ := hrel
  have hbw := blt hbox
  have HV := lh hvg
  clear hvg
  by_cases hlt : k < g.length
  ·obtain ⟨⟨nk, nf⟩, b, o, Ap, cp, hn, rfl, hkc, hs, hf, hfl⟩ := (h.ext he).at_ hlt
   dsimp only at *
   have hbb := blt hkc
   have cases : nk = 0 ∨ (nk = 1 ∨ nk = 2) ∨ (¬ nk = 0 ∧ ¬ nk = 1 ∧ ¬ nk = 2) := by omega
   rcases cases with hz | hz | hz
   ·have hg := lh (goodNode_cell hn hz)
    subst hz
    clear hn
    by_cases hl : 0 < nf.length
    ·go_wp2
     go_ret
     exact ⟨ret_bool (by rw [VG_bad g k hlt (by rw [hg.out]; simp; intro e; simp [e] at hl)]), he.al _⟩
    ·go_wp2
     go_roundw
     case rel => exact ⟨k + 1, by omega, by go_num, he.al _, ((Ext.rfl' _).al _).cellE hbox, by rw [VG_succ, HV.out, hg.out]; simp; exact List.length_eq_zero_iff.1 (by omega)⟩
     case measure => simp [intOf]; omega
   ·have hg := lh (goodNode_form hn hz)
    have HF := lh (i_ValidFormula Ap cp nf)
    have hGR : Sg.goodReads g k = (Sg.mayRead nf).all (Sg.goodRead g k) := by unfold Sg.goodReads; simp [hn]
    have HGR := lh hGR
    clear hn hGR
    cases hv : Sg.validF nf
    ·have Hv := lh hv
     clear hv
     rcases hz with rfl | rfl
     all_goals
      go_wp2_with (go_at_call 17; refine (HF.out _ (hf.ext ((Ext.rfl' _).al _)) hfl).mono ?_; rintro e w2 ⟨rfl, he2⟩; rw [Hv.out])
      go_ret
      exact ⟨ret_bool (by rw [VG_bad g k hlt (by rw [hg.out, Hv.out]; rfl)]), (he.al _).tr he2⟩
    ·have Hv := lh hv
     have hr : ∀ x ∈ Sg.mayRead nf, 0 ≤ x ∧ x ≤ 9 := fun x hx => Sg.mayRead_range hx
     have Hr := lh hr
     have HM := lh (i_mayRead Ap cp nf)
     clear hv hr
     rcases hz with rfl | rfl
     all_goals
      go_wp2_with (first
       | (go_at_call 17; refine (HF.out _ (hf.ext ((Ext.rfl' _).al _)) hfl).mono ?_; rintro e w2 ⟨rfl, he2⟩; rw [Hv.out]; obtain ⟨bc, bf⟩ := bcell he2; have ee2 := (he.al _).tr he2; have hbx2 := he2.cellE (((Ext.rfl' _).al _).cellE hbox))
       | (go_at_call 92; refine (HM.out _ ((hf.ext ((Ext.rfl' _).al _)).ext he2) hfl (validF_reads Hv.out)).mono ?_; rintro e w3 ⟨A3, c3, rfl, ho3, he3⟩))
      have e3 := ee2.tr he3
      have hbx3 := he3.cellE hbx2
      have hL : Sg.mayRead nf = Sg.mayRead nf := rfl
      have hm3 := ho3.rd.big
      clear bc bf hL
      go_loopw [35] (fun j wi => ∃ j' : Nat, j' ≤ (Sg.mayRead nf).length ∧ j = .int .i64 j' ∧ Ext w3 wi ∧ ((Sg.mayRead nf).drop j').all (Sg.goodRead g k) = (Sg.mayRead nf).all (Sg.goodRead g k)) (fun j _ => (Sg.mayRead nf).length - (intOf j).toNat)
      case atStart => exact ⟨0, Nat.zero_le _, rfl, Ext.rfl' _, rfl⟩
      case round =>
       obtain ⟨j, hj, rfl, hei, hall⟩ := hrel
       have hbxi := hei.cellE hbx3
       by_cases hlj : j < (Sg.mayRead nf).length
       ·obtain ⟨bl, ol, x, rfl, hx, hcx⟩ := (ho3.rd.ext hei).at1 hlj
        have hxr := Hr.out x (List.mem_of_getElem? hx)
        rw [drop_cons _ j hx, List.all_cons] at hall
        have Hall := lh hall
        clear hall hx
        obtain ⟨X, rfl⟩ := Int.eq_ofNat_of_zero_le hxr.1
        by_cases hge : (k : Int) ≤ (X : Int)
        ·have hge' : k ≤ X := by omega
         go_wp2
         go_ret
         refine ⟨ret_bool ?_, e3.tr hei⟩
         have : Sg.goodRead g k X = false := by unfold Sg.goodRead; simp; omega
         rw [VG_bad g k hlt (by rw [hg.out, Hv.out, HGR.out, ← Hall.out, this]; rfl)]
        ·have hlt' : decide ((k : Int) ≤ (X : Int)) = false := by simpa using hge
         have hltN : decide (k ≤ X) = false := by simp; omega
         have hXg : X < g.length := by omega
         obtain ⟨m, b', o', Ap', cp', hm, ha, hkx, _, _, _⟩ := (h.ext (e3.tr hei)).at_ hXg
         simp only [Option.some.injEq, Addr.mk.injEq, and_true] at ha
         obtain ⟨rfl, rfl⟩ := ha
         have hka : Sg.kindAt g X = m.kind := by unfold Sg.kindAt; simp [hm]
         have Hka := lh hka
         clear hka hm
         by_cases h2 : m.kind = 2
         ·have h2' : (m.kind == 2) = true := by simp [h2]
          have H2 := lh h2
          clear h2
          go_wp2
          go_ret
          refine ⟨ret_bool ?_, e3.tr hei⟩
          have : Sg.goodRead g k X = false := by unfold Sg.goodRead; rw [Hka.out, H2.out]; simp
          rw [VG_bad g k hlt (by rw [hg.out, Hv.out, HGR.out, ← Hall.out, this]; rfl)]
         ·have h2' : (m.kind == 2) = false := by simp [h2]
          have H2 := lh h2
          clear h2
          go_wp2
          go_roundw
          case rel =>
           refine ⟨j + 1, by omega, by go_num, hei, ?_⟩
           have : Sg.goodRead g k X = true := by unfold Sg.goodRead; rw [Hka.out]; simp; exact ⟨by omega, H2.out⟩
           rw [← Hall.out, this, Bool.true_and]
          case measure => simp [intOf]; omega
       ·have Hall := lh hall
        clear hall
        go_wp2
        go_roundw
        case rel => exact ⟨k + 1, by omega, by go_num, e3.tr hei, hbxi, by rw [VG_succ, HV.out, hg.out, Hv.out, HGR.out, ← Hall.out, List.drop_eq_nil_of_le (by omega)]; rfl⟩
        case measure => simp [intOf]; omega
   ·have hg := lh (goodNode_none hn hz)
    have z0 : (nk == 0) = false := by rw [beq_eq_false_iff_ne]; omega
    have z1 : (nk == 1) = false := by rw [beq_eq_false_iff_ne]; omega
    have z2 : (nk == 2) = false := by rw [beq_eq_false_iff_ne]; omega
    clear hn hz
    go_wp2
    go_ret
    exact ⟨ret_bool (by rw [VG_bad g k hlt hg.out]), he.al _⟩
  ·obtain rfl : k = g.length := by omega
   have hfin : Sg.validG g = decide (g.length ≤ 10) := by
    unfold Sg.validG; have := HV.out; unfold VG at this; rw [this]; rfl
   have Hfin := lh hfin
   clear hfin
   go_wp2
   go_ret
   exact ⟨ret_bool (by rw [Hfin.out]; simp; omega), he⟩
end Go.Proofs.YtdnlpklmihoapaaDoor
