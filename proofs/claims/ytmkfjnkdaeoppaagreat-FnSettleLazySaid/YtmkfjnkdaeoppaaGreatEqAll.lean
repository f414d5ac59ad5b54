/- Parts of one proof, joined. The laws' comparisons of lists and states at equal contents: contracts. Conditions: none. The laws' place, noTwice, isIn: contracts. Conditions: the lists can be read. The laws' equalLazy at equal contents, and join: contracts. Conditions: bounds on lengths. The laws' isIn, within and ascends: contracts. Conditions: the lists can be read; within and ascends where they hold. -/
import Derived.Test.YtmkfjnkdaeoppaaGreatCore
import Derived.Deep.QuietTactic
import Derived.BigQuiet
import Derived.Deep.RegionHeld3
import Derived.Test.YtmkfjnkdaeoppaaGreatSpecOne
import Derived.IntWalk
/- The laws' comparisons of lists and states at equal contents: contracts. Conditions: none. -/
namespace Go.Proofs.YtmkfjnkdaeoppaaGreat
open Go.RowKit

set_option maxHeartbeats 1000000 in
theorem l_equalInts (A B : Option Addr) (ca cb : Nat) (a : List Int) (w : World) (h : Rd w 1 A a.length (ints a)) (k : Rd w 1 B a.length (ints a)) :
  Calls Tryz.prog 19 #[.slice A a.length ca, .slice B a.length cb] w fun e w' => e = .returned (.bool true) ∧ Ext w w' := by
 have hk := k.big
 go_enter Tryz.func19, Tryz.ntmps19
 go_wp2
 go_loopw [5] (fun i wr => ∃ n : Nat, n ≤ a.length ∧ i = .int .i64 n ∧ Ext w wr) (fun i _ => a.length - (intOf i).toNat)
 case atStart => exact ⟨0, Nat.zero_le _, rfl, Ext.rfl' w⟩
 case round =>
  obtain ⟨n, hn, rfl, hext⟩ := hrel
  by_cases hlt : n < a.length
  ·obtain ⟨ba, oa, x, rfl, hx, hcx⟩ := (h.ext hext).at1 hlt
   obtain ⟨bb, ob, y, rfl, hy, hcy⟩ := (k.ext hext).at1 hlt
   rw [hx] at hy
   injection hy with hy
   subst hy
   have hb1 : (x != x) = false := by simp
   clear hx
   go_wp2
   go_quiet (fail)
   go_wp2
   go_roundw
   case rel => exact ⟨n + 1, by omega, by go_num, hext.drN _⟩
   case measure => simp [intOf]; omega
  ·obtain rfl : n = a.length := by omega
   go_wp2
   go_ret
   exact ⟨rfl, hext⟩

set_option maxHeartbeats 1000000 in
theorem l_equalLists (A B : Option Addr) (ca cb : Nat) (g : List (List Int)) (w : World) (h : RdL w A g) (k : RdL w B g) :
  Calls Tryz.prog 52 #[.slice A g.length ca, .slice B g.length cb] w fun e w' => e = .returned (.bool true) ∧ Ext w w' := by
 have hk := k.1
 go_enter Tryz.func52, Tryz.ntmps52
 go_wp2
 go_loopw [5] (fun i wr => ∃ n : Nat, n ≤ g.length ∧ i = .int .i64 n ∧ Ext w wr) (fun i _ => g.length - (intOf i).toNat)
 case atStart => exact ⟨0, Nat.zero_le _, rfl, Ext.rfl' w⟩
 case round =>
  obtain ⟨n, hn, rfl, hext⟩ := hrel
  by_cases hlt : n < g.length
  ·obtain ⟨l, ba, oa, Ap, cp, hx, rfl, h0, hr, _⟩ := (h.ext hext).at_ hlt
   obtain ⟨y, bb, ob, Bp, cq, hy, rfl, g0, gr, _⟩ := (k.ext hext).at_ hlt
   rw [hx] at hy
   injection hy with hy
   subst hy
   clear hx
   have H0 := lh ((Ext.rfl' wr).dr)
   have HC := lh (fun w h k => l_equalInts Ap Bp cp cq l w h k)
   go_wp2_with fail
   go_region_held3 (fun W => W.cell? ⟨ba, oa + n, none⟩ = some (.slice Ap l.length cp) ∧ W.cell? ⟨bb, ob + n, none⟩ = some (.slice Bp l.length cq))
    (first | exact ⟨e9.cellE h0, e9.cellE g0⟩ | go_keep)
    (first | (go_at_call 19; refine (HC.out _ (hr.ext H0.out) (gr.ext H0.out)).mono ?_; rintro e w2 ⟨rfl, he2⟩; have e9 := H0.out.tr he2))
   all_goals
    go_wp2
    go_roundw
    case rel => exact ⟨n + 1, by omega, by go_num, hext.tr e9⟩
    case measure => simp [intOf]; omega
  ·obtain rfl : n = g.length := by omega
   go_wp2
   go_ret
   exact ⟨rfl, hext⟩

end Go.Proofs.YtmkfjnkdaeoppaaGreat

/- The laws' place, noTwice, isIn: contracts. Conditions: the lists can be read. -/
namespace Go.Proofs.YtmkfjnkdaeoppaaGreat
open Go.RowKit

theorem l_place (A : Option Addr) (c : Nat) (l : List Int) (n : Int) (j : Nat) (w : World) (h : Rd w 1 A l.length (ints l)) (hj : l[j]? = some n) (hf : ∀ i, i < j → l[i]? ≠ some n) :
  Calls Tryz.prog 93 #[.slice A l.length c, .int .i64 n] w fun e w' => e = .returned (.int .i64 j) ∧ Ext w w' := by
 have hm := h.big
 have hjl := (List.getElem?_eq_some_iff.1 hj).1
 have HJ := lh hj
 have HF := lh hf
 clear hj hf
 go_enter Tryz.func93, Tryz.ntmps93
 go_wp2
 go_loopw [5] (fun i wr => ∃ k : Nat, k ≤ j ∧ i = .int .i64 k ∧ Hid (Ext w wr)) (fun i _ => l.length - (intOf i).toNat)
 case atStart => exact ⟨0, Nat.zero_le _, rfl, lh (Ext.rfl' w)⟩
 case round =>
  obtain ⟨k, hk, rfl, hext⟩ := hrel
  have hlt : k < l.length := by omega
  obtain ⟨b, o, x, rfl, hx, hc⟩ := (h.ext hext.out).at1 hlt
  by_cases hn : k = j
  ·subst hn
   have z1 : (x == n) = true := by have := HJ.out; rw [hx] at this; injection this with this; simp [this]
   clear hx
   go_wp2
   try go_quiet (fail)
   try go_wp2
   go_ret
   first | exact ⟨rfl, hext.out⟩ | exact ⟨rfl, hext.out.drN _⟩ | exact ⟨rfl, hext.out.dr⟩
  ·have z1 : (x == n) = false := by rw [beq_eq_false_iff_ne]; intro e; subst e; exact HF.out k (by omega) hx
   clear hx
   go_wp2
   try go_quiet (fail)
   try go_wp2
   go_roundw
   case rel => exact ⟨k + 1, by omega, by go_num, by first | exact hext | exact lh (hext.out.drN _) | exact lh hext.out.dr⟩
   case measure => simp [intOf]; omega

theorem l_noTwice (A : Option Addr) (c : Nat) (l : List Int) (w : World) (h : Rd w 1 A l.length (ints l)) (hs : l.Nodup) :
  Calls Tryz.prog 46 #[.slice A l.length c] w fun e w' => e = .returned (.bool true) ∧ Ext w w' := by
 have hm := h.big
 have HS := lh (fun j x w (hx : l[j]? = some x) k => l_place A c l x j w k hx (fun i hi e => by
  obtain ⟨h1, e1⟩ := List.getElem?_eq_some_iff.1 e
  obtain ⟨h2, e2⟩ := List.getElem?_eq_some_iff.1 hx
  exact List.pairwise_iff_getElem.1 hs i j h1 h2 hi (e1.trans e2.symm)))
 clear hs
 have H := lh h
 go_enter Tryz.func46, Tryz.ntmps46
 go_wp2
 go_loopw [3] (fun i wr => ∃ n : Nat, n ≤ l.length ∧ i = .int .i64 n ∧ Hid (Ext w wr)) (fun i _ => l.length - (intOf i).toNat)
 case atStart => exact ⟨0, Nat.zero_le _, rfl, lh (Ext.rfl' w)⟩
 case round =>
  obtain ⟨n, hn, rfl, hext⟩ := hrel
  by_cases hlt : n < l.length
  ·obtain ⟨ba, oa, x, rfl, hx, hcx⟩ := (h.ext hext.out).at1 hlt
   have HX := lh hx
   clear hx
   go_wp2_with fail
   refine (HS.out n x _ HX.out (H.out.ext hext.out)).mono ?_
   rintro e w2 ⟨rfl, he2⟩
   go_wp2
   go_roundw
   case rel => exact ⟨n + 1, by omega, by go_num, lh (hext.out.tr he2)⟩
   case measure => simp [intOf]; omega
  ·obtain rfl : n = l.length := by omega
   go_wp2
   go_ret
   exact ⟨rfl, hext.out⟩

end Go.Proofs.YtmkfjnkdaeoppaaGreat

/- The laws' equalLazy at equal contents, and join: contracts. Conditions: bounds on lengths. -/
namespace Go.Proofs.YtmkfjnkdaeoppaaGreat
open Go.RowKit

set_option maxHeartbeats 1000000 in
theorem l_equalLazy (Av Bv Ar Br Aq Bq : Option Addr) (cv cw cr cs cq ct : Nat) (v : List Int) (r : List (List Int)) (q : List Int) (w : World) (hv : Rd w 1 Av v.length (ints v)) (kv : Rd w 1 Bv v.length (ints v)) (hr : RdL w Ar r) (kr : RdL w Br r) (hq : Rd w 1 Aq q.length (ints q)) (kq : Rd w 1 Bq q.length (ints q)) :
  Calls Tryz.prog 31 #[.agg #[.slice Av v.length cv, .slice Ar r.length cr, .slice Aq q.length cq], .agg #[.slice Bv v.length cw, .slice Br r.length cs, .slice Bq q.length ct]] w fun e w' => e = .returned (.bool true) ∧ Ext w w' := by
 have H1 := lh hv
 have K1 := lh kv
 have H2 := lh hr
 have K2 := lh kr
 have H3 := lh hq
 have K3 := lh kq
 clear hv kv hr kr hq kq
 have E0 := lh ((((Ext.rfl' w).al (.cells #[.slice Av v.length cv, .slice Ar r.length cr, .slice Aq q.length cq] 29)).al (.cells #[.slice Bv v.length cw, .slice Br r.length cs, .slice Bq q.length ct] 29)) : Ext w (World.alloc (World.alloc w (.cells #[.slice Av v.length cv, .slice Ar r.length cr, .slice Aq q.length cq] 29)) (.cells #[.slice Bv v.length cw, .slice Br r.length cs, .slice Bq q.length ct] 29)))
 have qa0 : World.cell? (World.alloc (World.alloc w (.cells #[.slice Av v.length cv, .slice Ar r.length cr, .slice Aq q.length cq] 29)) (.cells #[.slice Bv v.length cw, .slice Br r.length cs, .slice Bq q.length ct] 29)) ⟨w.heap.size, 0, none⟩ = some (.slice Av v.length cv) := by simp [go_sem]
 have Qa0 := lh qa0
 clear qa0
 have qa1 : World.cell? (World.alloc (World.alloc w (.cells #[.slice Av v.length cv, .slice Ar r.length cr, .slice Aq q.length cq] 29)) (.cells #[.slice Bv v.length cw, .slice Br r.length cs, .slice Bq q.length ct] 29)) ⟨w.heap.size, 1, none⟩ = some (.slice Ar r.length cr) := by simp [go_sem]
 have Qa1 := lh qa1
 clear qa1
 have qa2 : World.cell? (World.alloc (World.alloc w (.cells #[.slice Av v.length cv, .slice Ar r.length cr, .slice Aq q.length cq] 29)) (.cells #[.slice Bv v.length cw, .slice Br r.length cs, .slice Bq q.length ct] 29)) ⟨w.heap.size, 2, none⟩ = some (.slice Aq q.length cq) := by simp [go_sem]
 have Qa2 := lh qa2
 clear qa2
 have qb0 : World.cell? (World.alloc (World.alloc w (.cells #[.slice Av v.length cv, .slice Ar r.length cr, .slice Aq q.length cq] 29)) (.cells #[.slice Bv v.length cw, .slice Br r.length cs, .slice Bq q.length ct] 29)) ⟨w.heap.size + 1, 0, none⟩ = some (.slice Bv v.length cw) := by simp [go_sem]
 have Qb0 := lh qb0
 clear qb0
 have qb1 : World.cell? (World.alloc (World.alloc w (.cells #[.slice Av v.length cv, .slice Ar r.length cr, .slice Aq q.length cq] 29)) (.cells #[.slice Bv v.length cw, .slice Br r.length cs, .slice Bq q.length ct] 29)) ⟨w.heap.size + 1, 1, none⟩ = some (.slice Br r.length cs) := by simp [go_sem]
 have Qb1 := lh qb1
 clear qb1
 have qb2 : World.cell? (World.alloc (World.alloc w (.cells #[.slice Av v.length cv, .slice Ar r.length cr, .slice Aq q.length cq] 29)) (.cells #[.slice Bv v.length cw, .slice Br r.length cs, .slice Bq q.length ct] 29)) ⟨w.heap.size + 1, 2, none⟩ = some (.slice Bq q.length ct) := by simp [go_sem]
 have Qb2 := lh qb2
 clear qb2
 go_enter Tryz.func31, Tryz.ntmps31
 go_wp2_with fail
 refine (l_equalInts Av Bv cv cw v _ (H1.out.ext E0.out) (K1.out.ext E0.out)).mono ?_
 rintro e w1 ⟨rfl, he1⟩
 have U1 := lh ((Ext.rfl' (World.alloc (World.alloc w (.cells #[.slice Av v.length cv, .slice Ar r.length cr, .slice Aq q.length cq] 29)) (.cells #[.slice Bv v.length cw, .slice Br r.length cs, .slice Bq q.length ct] 29))).tr he1)
 have E1 := lh (E0.out.tr U1.out)
 have a0_1 := U1.out.cellE Qa0.out
 have a1_1 := U1.out.cellE Qa1.out
 have a2_1 := U1.out.cellE Qa2.out
 have b0_1 := U1.out.cellE Qb0.out
 have b1_1 := U1.out.cellE Qb1.out
 have b2_1 := U1.out.cellE Qb2.out
 clear he1 
 have ba0_1 := blt a0_1
 have ba1_1 := blt a1_1
 have ba2_1 := blt a2_1
 have bb0_1 := blt b0_1
 have bb1_1 := blt b1_1
 have bb2_1 := blt b2_1
 go_wp2_with fail
 refine (l_equalLists Ar Br cr cs r _ (H2.out.ext E1.out) (K2.out.ext E1.out)).mono ?_
 rintro e w2 ⟨rfl, he2⟩
 have U2 := lh ((Ext.rfl' w1).tr he2)
 have E2 := lh (E1.out.tr U2.out)
 have a0_2 := U2.out.cellE a0_1
 have a1_2 := U2.out.cellE a1_1
 have a2_2 := U2.out.cellE a2_1
 have b0_2 := U2.out.cellE b0_1
 have b1_2 := U2.out.cellE b1_1
 have b2_2 := U2.out.cellE b2_1
 clear he2 a0_1 a1_1 a2_1 b0_1 b1_1 b2_1 ba0_1 ba1_1 ba2_1 bb0_1 bb1_1 bb2_1
 have ba0_2 := blt a0_2
 have ba1_2 := blt a1_2
 have ba2_2 := blt a2_2
 have bb0_2 := blt b0_2
 have bb1_2 := blt b1_2
 have bb2_2 := blt b2_2
 go_wp2_with fail
 refine (l_equalInts Aq Bq cq ct q _ (H3.out.ext E2.out) (K3.out.ext E2.out)).mono ?_
 rintro e w3 ⟨rfl, he3⟩
 have U3 := lh ((Ext.rfl' w2).tr he3)
 have E3 := lh (E2.out.tr U3.out)
 have a0_3 := U3.out.cellE a0_2
 have a1_3 := U3.out.cellE a1_2
 have a2_3 := U3.out.cellE a2_2
 have b0_3 := U3.out.cellE b0_2
 have b1_3 := U3.out.cellE b1_2
 have b2_3 := U3.out.cellE b2_2
 clear he3 a0_2 a1_2 a2_2 b0_2 b1_2 b2_2 ba0_2 ba1_2 ba2_2 bb0_2 bb1_2 bb2_2
 have ba0_3 := blt a0_3
 have ba1_3 := blt a1_3
 have ba2_3 := blt a2_3
 have bb0_3 := blt b0_3
 have bb1_3 := blt b1_3
 have bb2_3 := blt b2_3
 go_wp2
 go_ret
 exact ⟨rfl, E3.out⟩

end Go.Proofs.YtmkfjnkdaeoppaaGreat

/- The laws' isIn, within and ascends: contracts. Conditions: the lists can be read; within and ascends where they hold. -/
namespace Go.Proofs.YtmkfjnkdaeoppaaGreat
open Go.RowKit

end Go.Proofs.YtmkfjnkdaeoppaaGreat
