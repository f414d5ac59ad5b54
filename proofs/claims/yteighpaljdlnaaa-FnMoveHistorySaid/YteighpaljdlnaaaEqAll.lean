/- Parts of one proof, joined. The laws' comparisons of lists and states at equal contents: contracts. Conditions: none. The laws' place, noTwice, isIn: contracts. Conditions: the lists can be read. The laws' equalLazy at equal contents, and join: contracts. Conditions: bounds on lengths. The laws' isIn, within and ascends: contracts. Conditions: the lists can be read; within and ascends where they hold. -/
import Derived.Test.YteighpaljdlnaaaCore
import Derived.Deep.QuietTactic
import Derived.BigQuiet
import Derived.Deep.RegionHeld3
import Derived.Test.YteighpaljdlnaaaSpecOne
import Derived.IntWalk
/- The laws' comparisons of lists and states at equal contents: contracts. Conditions: none. -/
namespace Go.Proofs.Yteighpaljdlnaaa
open Go.RowKit

set_option maxHeartbeats 1000000 in
theorem l_equalInts (A B : Option Addr) (ca cb : Nat) (a : List Int) (w : World) (h : Rd w 1 A a.length (ints a)) (k : Rd w 1 B a.length (ints a)) :
  Calls Try.prog 7 #[.slice A a.length ca, .slice B a.length cb] w fun e w' => e = .returned (.bool true) ∧ Ext w w' := by
 have hk := k.big
 go_enter Try.func7, Try.ntmps7
 go_wp2
 go_loopw [5] (fun i wr => ∃ n : Nat, n ≤ a.length ∧ i = .int .i64 n ∧ Ext w wr) (fun i _ => a.length - (intOf i).toNat)
 case atStart => exact ⟨0, Nat.zero_le _, rfl, Ext.rfl' w⟩
 case round =>
  obtain ⟨n, hn, rfl, hext⟩ := hrel
  by_cases hlt : n < a.length
  ·obtain ⟨ba, oa, x, rfl, hx, hcx⟩ := (h.ext hext).at1 hlt
   obtain ⟨bb, ob, y, rfl, hy, hcy⟩ := (k.ext hext).at1 hlt
   rw [hx] at hy
   injection hy with hy
   subst hy
   have hb1 : (x != x) = false := by simp
   clear hx
   go_wp2
   go_quiet (fail)
   go_wp2
   go_roundw
   case rel => exact ⟨n + 1, by omega, by go_num, hext.drN _⟩
   case measure => simp [intOf]; omega
  ·obtain rfl : n = a.length := by omega
   go_wp2
   go_ret
   exact ⟨rfl, hext⟩

set_option maxHeartbeats 1000000 in
theorem l_equalLists (A B : Option Addr) (ca cb : Nat) (g : List (List Int)) (w : World) (h : RdL w A g) (k : RdL w B g) :
  Calls Try.prog 50 #[.slice A g.length ca, .slice B g.length cb] w fun e w' => e = .returned (.bool true) ∧ Ext w w' := by
 have hk := k.1
 go_enter Try.func50, Try.ntmps50
 go_wp2
 go_loopw [5] (fun i wr => ∃ n : Nat, n ≤ g.length ∧ i = .int .i64 n ∧ Ext w wr) (fun i _ => g.length - (intOf i).toNat)
 case atStart => exact ⟨0, Nat.zero_le _, rfl, Ext.rfl' w⟩
 case round =>
  obtain ⟨n, hn, rfl, hext⟩ := hrel
  by_cases hlt : n < g.length
  ·obtain ⟨l, ba, oa, Ap, cp, hx, rfl, h0, hr, _⟩ := (h.ext hext).at_ hlt
   obtain ⟨y, bb, ob, Bp, cq, hy, rfl, g0, gr, _⟩ := (k.ext hext).at_ hlt
   rw [hx] at hy
   injection hy with hy
   subst hy
   clear hx
   have H0 := lh ((Ext.rfl' wr).dr)
   have HC := lh (fun w h k => l_equalInts Ap Bp cp cq l w h k)
   go_wp2_with fail
   go_region_held3 (fun W => W.cell? ⟨ba, oa + n, none⟩ = some (.slice Ap l.length cp) ∧ W.cell? ⟨bb, ob + n, none⟩ = some (.slice Bp l.length cq))
    (first | exact ⟨e9.cellE h0, e9.cellE g0⟩ | go_keep)
    (first | (go_at_call 7; refine (HC.out _ (hr.ext H0.out) (gr.ext H0.out)).mono ?_; rintro e w2 ⟨rfl, he2⟩; have e9 := H0.out.tr he2))
   all_goals
    go_wp2
    go_roundw
    case rel => exact ⟨n + 1, by omega, by go_num, hext.tr e9⟩
    case measure => simp [intOf]; omega
  ·obtain rfl : n = g.length := by omega
   go_wp2
   go_ret
   exact ⟨rfl, hext⟩

end Go.Proofs.Yteighpaljdlnaaa

/- The laws' place, noTwice, isIn: contracts. Conditions: the lists can be read. -/
namespace Go.Proofs.Yteighpaljdlnaaa
open Go.RowKit

theorem l_isInB (A : Option Addr) (c : Nat) (l : List Int) (n : Int) (w : World) (h : Rd w 1 A l.length (ints l)) :
  Calls Try.prog 11 #[.slice A l.length c, .int .i64 n] w fun e w' => e = .returned (.bool (decide (n ∈ l))) ∧ Ext w w' := by
 have hm := h.big
 have HIN := lh (show n ∈ l ↔ n ∈ l.drop 0 by simp)
 go_enter Try.func11, Try.ntmps11
 go_wp2
 go_loopw [5] (fun i wr => ∃ k : Nat, k ≤ l.length ∧ i = .int .i64 k ∧ Hid (n ∈ l ↔ n ∈ l.drop k) ∧ Hid (Ext w wr)) (fun i _ => l.length - (intOf i).toNat)
 case atStart => exact ⟨0, Nat.zero_le _, rfl, HIN, lh (Ext.rfl' w)⟩
 case round =>
  obtain ⟨k, hk, rfl, hpl, hext⟩ := hrel
  clear HIN
  by_cases hlt : k < l.length
  ·obtain ⟨b, o, x, rfl, hx, hc⟩ := (h.ext hext.out).at1 hlt
   by_cases hn : x = n
   ·have z1 : (x == n) = true := by simp [hn]
    have HM := lh (List.mem_of_getElem? hx)
    subst hn
    clear hx
    go_wp2
    try go_quiet (fail)
    try go_wp2
    go_ret
    rw [decide_eq_true HM.out]
    first | exact ⟨rfl, hext.out⟩ | exact ⟨rfl, hext.out.drN _⟩ | exact ⟨rfl, hext.out.dr⟩
   ·have z1 : (x == n) = false := by rw [beq_eq_false_iff_ne]; exact hn
    have H2 := lh (show n ∈ l ↔ n ∈ l.drop (k + 1) by
     rw [hpl.out, drop_cons l k hx, List.mem_cons]
     exact ⟨fun h1 => h1.resolve_left (fun e => hn e.symm), .inr⟩)
    clear hx hn
    go_wp2
    try go_quiet (fail)
    try go_wp2
    go_roundw
    case rel => exact ⟨k + 1, by omega, by go_num, H2, by first | exact hext | exact lh (hext.out.drN _) | exact lh hext.out.dr⟩
    case measure => simp [intOf]; omega
  ·obtain rfl : k = l.length := by omega
   have HM := lh (show n ∉ l by rw [hpl.out, List.drop_length]; simp)
   go_wp2
   go_ret
   rw [decide_eq_false HM.out]
   exact ⟨rfl, hext.out⟩
end Go.Proofs.Yteighpaljdlnaaa

/- The laws' equalLazy at equal contents, and join: contracts. Conditions: bounds on lengths. -/
namespace Go.Proofs.Yteighpaljdlnaaa
open Go.RowKit

end Go.Proofs.Yteighpaljdlnaaa

/- The laws' isIn, within and ascends: contracts. Conditions: the lists can be read; within and ascends where they hold. -/
namespace Go.Proofs.Yteighpaljdlnaaa
open Go.RowKit

theorem l_isIn (A : Option Addr) (c : Nat) (l : List Int) (n : Int) (w : World) (h : Rd w 1 A l.length (ints l)) (hin : n ∈ l) :
  Calls Try.prog 11 #[.slice A l.length c, .int .i64 n] w fun e w' => e = .returned (.bool true) ∧ Ext w w' := by
 have hm := h.big
 have HIN := lh (show n ∈ l.drop 0 by simpa using hin)
 clear hin
 go_enter Try.func11, Try.ntmps11
 go_wp2
 go_loopw [5] (fun i wr => ∃ k : Nat, k ≤ l.length ∧ i = .int .i64 k ∧ Hid (n ∈ l.drop k) ∧ Hid (Ext w wr)) (fun i _ => l.length - (intOf i).toNat)
 case atStart => exact ⟨0, Nat.zero_le _, rfl, HIN, lh (Ext.rfl' w)⟩
 case round =>
  obtain ⟨k, hk, rfl, hpl, hext⟩ := hrel
  clear HIN
  have hlt : k < l.length := by
   have h1 := hpl.out
   cases Nat.lt_or_ge k l.length with
   | inl h => exact h
   | inr h2 => rw [List.drop_eq_nil_of_le h2] at h1; cases h1
  obtain ⟨b, o, x, rfl, hx, hc⟩ := (h.ext hext.out).at1 hlt
  by_cases hn : x = n
  ·have z1 : (x == n) = true := by simp [hn]
   clear hx hn
   go_wp2
   try go_quiet (fail)
   try go_wp2
   go_ret
   first | exact ⟨rfl, hext.out⟩ | exact ⟨rfl, hext.out.drN _⟩ | exact ⟨rfl, hext.out.dr⟩
  ·have z1 : (x == n) = false := by rw [beq_eq_false_iff_ne]; exact hn
   have H2 := lh (show n ∈ l.drop (k + 1) by
    have h1 := hpl.out
    rw [drop_cons l k hx, List.mem_cons] at h1
    exact h1.resolve_left (fun e => hn e.symm))
   clear hx hn
   go_wp2
   try go_quiet (fail)
   try go_wp2
   go_roundw
   case rel => exact ⟨k + 1, by omega, by go_num, H2, by first | exact hext | exact lh (hext.out.drN _) | exact lh hext.out.dr⟩
   case measure => simp [intOf]; omega

theorem l_within (A B : Option Addr) (ca cb : Nat) (a b : List Int) (w : World) (h : Rd w 1 A a.length (ints a)) (k : Rd w 1 B b.length (ints b)) (hs : ∀ x ∈ a, x ∈ b) :
  Calls Try.prog 13 #[.slice A a.length ca, .slice B b.length cb] w fun e w' => e = .returned (.bool true) ∧ Ext w w' := by
 have hm := h.big
 have HS := lh (fun x w hx k => l_isIn B cb b x w k (hs x hx))
 clear hs
 have K := lh k
 clear k
 go_enter Try.func13, Try.ntmps13
 go_wp2
 go_loopw [5] (fun i wr => ∃ n : Nat, n ≤ a.length ∧ i = .int .i64 n ∧ Hid (Ext w wr)) (fun i _ => a.length - (intOf i).toNat)
 case atStart => exact ⟨0, Nat.zero_le _, rfl, lh (Ext.rfl' w)⟩
 case round =>
  obtain ⟨n, hn, rfl, hext⟩ := hrel
  by_cases hlt : n < a.length
  ·obtain ⟨ba, oa, x, rfl, hx, hcx⟩ := (h.ext hext.out).at1 hlt
   have HX := lh (List.mem_of_getElem? hx)
   clear hx
   go_wp2_with fail
   refine (HS.out x _ HX.out (K.out.ext hext.out)).mono ?_
   rintro e w2 ⟨rfl, he2⟩
   go_wp2
   go_roundw
   case rel => exact ⟨n + 1, by omega, by go_num, lh (hext.out.tr he2)⟩
   case measure => simp [intOf]; omega
  ·obtain rfl : n = a.length := by omega
   go_wp2
   go_ret
   exact ⟨rfl, hext.out⟩

theorem l_ascends (A : Option Addr) (c : Nat) (l : List Int) (w : World) (h : Rd w 1 A l.length (ints l)) (hs : ∀ (i : Nat) (x y : Int), l[i]? = some x → l[i + 1]? = some y → x < y) :
  Calls Try.prog 14 #[.slice A l.length c] w fun e w' => e = .returned (.bool true) ∧ Ext w w' := by
 have hm := h.big
 have HS := lh hs
 clear hs
 go_enter Try.func14, Try.ntmps14
 go_wp2
 go_loopw [3] (fun i wr => ∃ k : Nat, 1 ≤ k ∧ i = .int .i64 k ∧ Hid (Ext w wr)) (fun i _ => l.length - (intOf i).toNat)
 case atStart => exact ⟨1, Nat.le_refl _, rfl, lh (Ext.rfl' w)⟩
 case round =>
  obtain ⟨k, hk, rfl, hext⟩ := hrel
  by_cases hlt : k < l.length
  ·obtain ⟨j, rfl⟩ : ∃ j, k = j + 1 := ⟨k - 1, by omega⟩
   obtain ⟨b, o, x, rfl, hx, hc⟩ := (h.ext hext.out).at1 hlt
   obtain ⟨b2, o2, y, he2, hy, hc2⟩ := (h.ext hext.out).at1 (show j < l.length by omega)
   obtain ⟨rfl, rfl⟩ : b2 = b ∧ o2 = o := by simp only [Option.some.injEq, Addr.mk.injEq, and_true] at he2; exact ⟨he2.1.symm, he2.2.symm⟩
   have hxy : ¬ x ≤ y := by have := HS.out j y x hy hx; omega
   have iw : IntKind.i64.wrap (((j + 1 : Nat) : Int) - 1) = (j : Int) := by rw [IntWalk.i64_in _ (by omega)]; omega
   clear hx hy he2
   go_wp2
   try go_quiet (fail)
   try go_wp2
   go_roundw
   case rel => exact ⟨j + 1 + 1, by omega, by go_num, by first | exact hext | exact lh (hext.out.drN _)⟩
   case measure => simp [intOf]; omega
  ·go_wp2
   go_ret
   exact ⟨rfl, hext.out⟩
end Go.Proofs.Yteighpaljdlnaaa
