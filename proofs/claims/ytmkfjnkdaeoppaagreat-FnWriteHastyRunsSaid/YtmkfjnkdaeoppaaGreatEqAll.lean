/- Parts of one proof, joined. The laws' comparisons of lists and states at equal contents: contracts. Conditions: none. The laws' place, noTwice, isIn: contracts. Conditions: the lists can be read. The laws' equalLazy at equal contents, and join: contracts. Conditions: bounds on lengths. The laws' isIn, within and ascends: contracts. Conditions: the lists can be read; within and ascends where they hold. -/
import Derived.Test.YtmkfjnkdaeoppaaGreatCore
import Derived.Deep.QuietTactic
import Derived.BigQuiet
import Derived.Deep.RegionHeld3
import Derived.Test.YtmkfjnkdaeoppaaGreatSpecOne
import Derived.IntWalk
/- The laws' comparisons of lists and states at equal contents: contracts. Conditions: none. -/
namespace Go.Proofs.YtmkfjnkdaeoppaaGreat
open Go.RowKit

set_option maxHeartbeats 1000000 in
theorem l_equalInts (A B : Option Addr) (ca cb : Nat) (a : List Int) (w : World) (h : Rd w 1 A a.length (ints a)) (k : Rd w 1 B a.length (ints a)) :
  Calls Tryz.prog 19 #[.slice A a.length ca, .slice B a.length cb] w fun e w' => e = .returned (.bool true) ∧ Ext w w' := by
 have hk := k.big
 go_enter Tryz.func19, Tryz.ntmps19
 go_wp2
 go_loopw [5] (fun i wr => ∃ n : Nat, n ≤ a.length ∧ i = .int .i64 n ∧ Ext w wr) (fun i _ => a.length - (intOf i).toNat)
 case atStart => exact ⟨0, Nat.zero_le _, rfl, Ext.rfl' w⟩
 case round =>
  obtain ⟨n, hn, rfl, hext⟩ := hrel
  by_cases hlt : n < a.length
  ·obtain ⟨ba, oa, x, rfl, hx, hcx⟩ := (h.ext hext).at1 hlt
   obtain ⟨bb, ob, y, rfl, hy, hcy⟩ := (k.ext hext).at1 hlt
   rw [hx] at hy
   injection hy with hy
   subst hy
   have hb1 : (x != x) = false := by simp
   clear hx
   go_wp2
   go_quiet (fail)
   go_wp2
   go_roundw
   case rel => exact ⟨n + 1, by omega, by go_num, hext.drN _⟩
   case measure => simp [intOf]; omega
  ·obtain rfl : n = a.length := by omega
   go_wp2
   go_ret
   exact ⟨rfl, hext⟩

set_option maxHeartbeats 1000000 in
theorem l_equalLists (A B : Option Addr) (ca cb : Nat) (g : List (List Int)) (w : World) (h : RdL w A g) (k : RdL w B g) :
  Calls Tryz.prog 52 #[.slice A g.length ca, .slice B g.length cb] w fun e w' => e = .returned (.bool true) ∧ Ext w w' := by
 have hk := k.1
 go_enter Tryz.func52, Tryz.ntmps52
 go_wp2
 go_loopw [5] (fun i wr => ∃ n : Nat, n ≤ g.length ∧ i = .int .i64 n ∧ Ext w wr) (fun i _ => g.length - (intOf i).toNat)
 case atStart => exact ⟨0, Nat.zero_le _, rfl, Ext.rfl' w⟩
 case round =>
  obtain ⟨n, hn, rfl, hext⟩ := hrel
  by_cases hlt : n < g.length
  ·obtain ⟨l, ba, oa, Ap, cp, hx, rfl, h0, hr, _⟩ := (h.ext hext).at_ hlt
   obtain ⟨y, bb, ob, Bp, cq, hy, rfl, g0, gr, _⟩ := (k.ext hext).at_ hlt
   rw [hx] at hy
   injection hy with hy
   subst hy
   clear hx
   have H0 := lh ((Ext.rfl' wr).dr)
   have HC := lh (fun w h k => l_equalInts Ap Bp cp cq l w h k)
   go_wp2_with fail
   go_region_held3 (fun W => W.cell? ⟨ba, oa + n, none⟩ = some (.slice Ap l.length cp) ∧ W.cell? ⟨bb, ob + n, none⟩ = some (.slice Bp l.length cq))
    (first | exact ⟨e9.cellE h0, e9.cellE g0⟩ | go_keep)
    (first | (go_at_call 19; refine (HC.out _ (hr.ext H0.out) (gr.ext H0.out)).mono ?_; rintro e w2 ⟨rfl, he2⟩; have e9 := H0.out.tr he2))
   all_goals
    go_wp2
    go_roundw
    case rel => exact ⟨n + 1, by omega, by go_num, hext.tr e9⟩
    case measure => simp [intOf]; omega
  ·obtain rfl : n = g.length := by omega
   go_wp2
   go_ret
   exact ⟨rfl, hext⟩

theorem l_equalEager (Av Bv Ar Br : Option Addr) (cv cw cr cs : Nat) (v : List Int) (r : List (List Int)) (w : World) (hv : Rd w 1 Av v.length (ints v)) (kv : Rd w 1 Bv v.length (ints v)) (hr : RdL w Ar r) (kr : RdL w Br r) :
  Calls Tryz.prog 56 #[.agg #[.slice Av v.length cv, .slice Ar r.length cr], .agg #[.slice Bv v.length cw, .slice Br r.length cs]] w fun e w' => e = .returned (.bool true) ∧ Ext w w' := by
 have HE := lh (((Ext.rfl' w).al (.cells #[.slice Av v.length cv, .slice Ar r.length cr] 63)).al (.cells #[.slice Bv v.length cw, .slice Br r.length cs] 63))
 have HC := lh (fun w h k => l_equalInts Av Bv cv cw v w h k)
 have HD := lh (fun w h k => l_equalLists Ar Br cr cs r w h k)
 go_enter Tryz.func56, Tryz.ntmps56
 go_wp2_with (first
  | (go_at_call 19; refine (HC.out _ (hv.ext HE.out) (kv.ext HE.out)).mono ?_; rintro e w2 ⟨rfl, he2⟩; have e2 := HE.out.tr he2; have k1 := he2.cellE (by simp [go_sem] : (((w.alloc (.cells #[.slice Av v.length cv, .slice Ar r.length cr] 63)).alloc (.cells #[.slice Bv v.length cw, .slice Br r.length cs] 63)).cell? ⟨w.heap.size, 1, none⟩ = some (.slice Ar r.length cr))); have k2 := he2.cellE (by simp [go_sem] : (((w.alloc (.cells #[.slice Av v.length cv, .slice Ar r.length cr] 63)).alloc (.cells #[.slice Bv v.length cw, .slice Br r.length cs] 63)).cell? ⟨w.heap.size + 1, 1, none⟩ = some (.slice Br r.length cs))))
  | (go_at_call 52; refine (HD.out _ (hr.ext e2) (kr.ext e2)).mono ?_; rintro e w3 ⟨rfl, he3⟩))
 go_ret
 exact ⟨rfl, e2.tr he3⟩

end Go.Proofs.YtmkfjnkdaeoppaaGreat

/- The laws' place, noTwice, isIn: contracts. Conditions: the lists can be read. -/
namespace Go.Proofs.YtmkfjnkdaeoppaaGreat
open Go.RowKit

theorem l_place (A : Option Addr) (c : Nat) (l : List Int) (n : Int) (j : Nat) (w : World) (h : Rd w 1 A l.length (ints l)) (hj : l[j]? = some n) (hf : ∀ i, i < j → l[i]? ≠ some n) :
  Calls Tryz.prog 93 #[.slice A l.length c, .int .i64 n] w fun e w' => e = .returned (.int .i64 j) ∧ Ext w w' := by
 have hm := h.big
 have hjl := (List.getElem?_eq_some_iff.1 hj).1
 have HJ := lh hj
 have HF := lh hf
 clear hj hf
 go_enter Tryz.func93, Tryz.ntmps93
 go_wp2
 go_loopw [5] (fun i wr => ∃ k : Nat, k ≤ j ∧ i = .int .i64 k ∧ Hid (Ext w wr)) (fun i _ => l.length - (intOf i).toNat)
 case atStart => exact ⟨0, Nat.zero_le _, rfl, lh (Ext.rfl' w)⟩
 case round =>
  obtain ⟨k, hk, rfl, hext⟩ := hrel
  have hlt : k < l.length := by omega
  obtain ⟨b, o, x, rfl, hx, hc⟩ := (h.ext hext.out).at1 hlt
  by_cases hn : k = j
  ·subst hn
   have z1 : (x == n) = true := by have := HJ.out; rw [hx] at this; injection this with this; simp [this]
   clear hx
   go_wp2
   try go_quiet (fail)
   try go_wp2
   go_ret
   first | exact ⟨rfl, hext.out⟩ | exact ⟨rfl, hext.out.drN _⟩ | exact ⟨rfl, hext.out.dr⟩
  ·have z1 : (x == n) = false := by rw [beq_eq_false_iff_ne]; intro e; subst e; exact HF.out k (by omega) hx
   clear hx
   go_wp2
   try go_quiet (fail)
   try go_wp2
   go_roundw
   case rel => exact ⟨k + 1, by omega, by go_num, by first | exact hext | exact lh (hext.out.drN _) | exact lh hext.out.dr⟩
   case measure => simp [intOf]; omega

theorem l_noTwice (A : Option Addr) (c : Nat) (l : List Int) (w : World) (h : Rd w 1 A l.length (ints l)) (hs : l.Nodup) :
  Calls Tryz.prog 46 #[.slice A l.length c] w fun e w' => e = .returned (.bool true) ∧ Ext w w' := by
 have hm := h.big
 have HS := lh (fun j x w (hx : l[j]? = some x) k => l_place A c l x j w k hx (fun i hi e => by
  obtain ⟨h1, e1⟩ := List.getElem?_eq_some_iff.1 e
  obtain ⟨h2, e2⟩ := List.getElem?_eq_some_iff.1 hx
  exact List.pairwise_iff_getElem.1 hs i j h1 h2 hi (e1.trans e2.symm)))
 clear hs
 have H := lh h
 go_enter Tryz.func46, Tryz.ntmps46
 go_wp2
 go_loopw [3] (fun i wr => ∃ n : Nat, n ≤ l.length ∧ i = .int .i64 n ∧ Hid (Ext w wr)) (fun i _ => l.length - (intOf i).toNat)
 case atStart => exact ⟨0, Nat.zero_le _, rfl, lh (Ext.rfl' w)⟩
 case round =>
  obtain ⟨n, hn, rfl, hext⟩ := hrel
  by_cases hlt : n < l.length
  ·obtain ⟨ba, oa, x, rfl, hx, hcx⟩ := (h.ext hext.out).at1 hlt
   have HX := lh hx
   clear hx
   go_wp2_with fail
   refine (HS.out n x _ HX.out (H.out.ext hext.out)).mono ?_
   rintro e w2 ⟨rfl, he2⟩
   go_wp2
   go_roundw
   case rel => exact ⟨n + 1, by omega, by go_num, lh (hext.out.tr he2)⟩
   case measure => simp [intOf]; omega
  ·obtain rfl : n = l.length := by omega
   go_wp2
   go_ret
   exact ⟨rfl, hext.out⟩

theorem l_isInB (A : Option Addr) (c : Nat) (l : List Int) (n : Int) (w : World) (h : Rd w 1 A l.length (ints l)) :
  Calls Tryz.prog 22 #[.slice A l.length c, .int .i64 n] w fun e w' => e = .returned (.bool (decide (n ∈ l))) ∧ Ext w w' := by
 have hm := h.big
 have HIN := lh (show n ∈ l ↔ n ∈ l.drop 0 by simp)
 go_enter Tryz.func22, Tryz.ntmps22
 go_wp2
 go_loopw [5] (fun i wr => ∃ k : Nat, k ≤ l.length ∧ i = .int .i64 k ∧ Hid (n ∈ l ↔ n ∈ l.drop k) ∧ Hid (Ext w wr)) (fun i _ => l.length - (intOf i).toNat)
 case atStart => exact ⟨0, Nat.zero_le _, rfl, HIN, lh (Ext.rfl' w)⟩
 case round =>
  obtain ⟨k, hk, rfl, hpl, hext⟩ := hrel
  clear HIN
  by_cases hlt : k < l.length
  ·obtain ⟨b, o, x, rfl, hx, hc⟩ := (h.ext hext.out).at1 hlt
   by_cases hn : x = n
   ·have z1 : (x == n) = true := by simp [hn]
    have HM := lh (List.mem_of_getElem? hx)
    subst hn
    clear hx
    go_wp2
    try go_quiet (fail)
    try go_wp2
    go_ret
    rw [decide_eq_true HM.out]
    first | exact ⟨rfl, hext.out⟩ | exact ⟨rfl, hext.out.drN _⟩ | exact ⟨rfl, hext.out.dr⟩
   ·have z1 : (x == n) = false := by rw [beq_eq_false_iff_ne]; exact hn
    have H2 := lh (show n ∈ l ↔ n ∈ l.drop (k + 1) by
     rw [hpl.out, drop_cons l k hx, List.mem_cons]
     exact ⟨fun h1 => h1.resolve_left (fun e => hn e.symm), .inr⟩)
    clear hx hn
    go_wp2
    try go_quiet (fail)
    try go_wp2
    go_roundw
    case rel => exact ⟨k + 1, by omega, by go_num, H2, by first | exact hext | exact lh (hext.out.drN _) | exact lh hext.out.dr⟩
    case measure => simp [intOf]; omega
  ·obtain rfl : k = l.length := by omega
   have HM := lh (show n ∉ l by rw [hpl.out, List.drop_length]; simp)
   go_wp2
   go_ret
   rw [decide_eq_false HM.out]
   exact ⟨rfl, hext.out⟩
end Go.Proofs.YtmkfjnkdaeoppaaGreat

/- The laws' equalLazy at equal contents, and join: contracts. Conditions: bounds on lengths. -/
namespace Go.Proofs.YtmkfjnkdaeoppaaGreat
open Go.RowKit

set_option maxHeartbeats 1000000 in
theorem l_equalLazy (Av Bv Ar Br Aq Bq : Option Addr) (cv cw cr cs cq ct : Nat) (v : List Int) (r : List (List Int)) (q : List Int) (w : World) (hv : Rd w 1 Av v.length (ints v)) (kv : Rd w 1 Bv v.length (ints v)) (hr : RdL w Ar r) (kr : RdL w Br r) (hq : Rd w 1 Aq q.length (ints q)) (kq : Rd w 1 Bq q.length (ints q)) :
  Calls Tryz.prog 31 #[.agg #[.slice Av v.length cv, .slice Ar r.length cr, .slice Aq q.length cq], .agg #[.slice Bv v.length cw, .slice Br r.length cs, .slice Bq q.length ct]] w fun e w' => e = .returned (.bool true) ∧ Ext w w' := by
 have H1 := lh hv
 have K1 := lh kv
 have H2 := lh hr
 have K2 := lh kr
 have H3 := lh hq
 have K3 := lh kq
 clear hv kv hr kr hq kq
 have E0 := lh ((((Ext.rfl' w).al (.cells #[.slice Av v.length cv, .slice Ar r.length cr, .slice Aq q.length cq] 29)).al (.cells #[.slice Bv v.length cw, .slice Br r.length cs, .slice Bq q.length ct] 29)) : Ext w (World.alloc (World.alloc w (.cells #[.slice Av v.length cv, .slice Ar r.length cr, .slice Aq q.length cq] 29)) (.cells #[.slice Bv v.length cw, .slice Br r.length cs, .slice Bq q.length ct] 29)))
 have qa0 : World.cell? (World.alloc (World.alloc w (.cells #[.slice Av v.length cv, .slice Ar r.length cr, .slice Aq q.length cq] 29)) (.cells #[.slice Bv v.length cw, .slice Br r.length cs, .slice Bq q.length ct] 29)) ⟨w.heap.size, 0, none⟩ = some (.slice Av v.length cv) := by simp [go_sem]
 have Qa0 := lh qa0
 clear qa0
 have qa1 : World.cell? (World.alloc (World.alloc w (.cells #[.slice Av v.length cv, .slice Ar r.length cr, .slice Aq q.length cq] 29)) (.cells #[.slice Bv v.length cw, .slice Br r.length cs, .slice Bq q.length ct] 29)) ⟨w.heap.size, 1, none⟩ = some (.slice Ar r.length cr) := by simp [go_sem]
 have Qa1 := lh qa1
 clear qa1
 have qa2 : World.cell? (World.alloc (World.alloc w (.cells #[.slice Av v.length cv, .slice Ar r.length cr, .slice Aq q.length cq] 29)) (.cells #[.slice Bv v.length cw, .slice Br r.length cs, .slice Bq q.length ct] 29)) ⟨w.heap.size, 2, none⟩ = some (.slice Aq q.length cq) := by simp [go_sem]
 have Qa2 := lh qa2
 clear qa2
 have qb0 : World.cell? (World.alloc (World.alloc w (.cells #[.slice Av v.length cv, .slice Ar r.length cr, .slice Aq q.length cq] 29)) (.cells #[.slice Bv v.length cw, .slice Br r.length cs, .slice Bq q.length ct] 29)) ⟨w.heap.size + 1, 0, none⟩ = some (.slice Bv v.length cw) := by simp [go_sem]
 have Qb0 := lh qb0
 clear qb0
 have qb1 : World.cell? (World.alloc (World.alloc w (.cells #[.slice Av v.length cv, .slice Ar r.length cr, .slice Aq q.length cq] 29)) (.cells #[.slice Bv v.length cw, .slice Br r.length cs, .slice Bq q.length ct] 29)) ⟨w.heap.size + 1, 1, none⟩ = some (.slice Br r.length cs) := by simp [go_sem]
 have Qb1 := lh qb1
 clear qb1
 have qb2 : World.cell? (World.alloc (World.alloc w (.cells #[.slice Av v.length cv, .slice Ar r.length cr, .slice Aq q.length cq] 29)) (.cells #[.slice Bv v.length cw, .slice Br r.length cs, .slice Bq q.length ct] 29)) ⟨w.heap.size + 1, 2, none⟩ = some (.slice Bq q.length ct) := by simp [go_sem]
 have Qb2 := lh qb2
 clear qb2
 go_enter Tryz.func31, Tryz.ntmps31
 go_wp2_with fail
 refine (l_equalInts Av Bv cv cw v _ (H1.out.ext E0.out) (K1.out.ext E0.out)).mono ?_
 rintro e w1 ⟨rfl, he1⟩
 have U1 := lh ((Ext.rfl' (World.alloc (World.alloc w (.cells #[.slice Av v.length cv, .slice Ar r.length cr, .slice Aq q.length cq] 29)) (.cells #[.slice Bv v.length cw, .slice Br r.length cs, .slice Bq q.length ct] 29))).tr he1)
 have E1 := lh (E0.out.tr U1.out)
 have a0_1 := U1.out.cellE Qa0.out
 have a1_1 := U1.out.cellE Qa1.out
 have a2_1 := U1.out.cellE Qa2.out
 have b0_1 := U1.out.cellE Qb0.out
 have b1_1 := U1.out.cellE Qb1.out
 have b2_1 := U1.out.cellE Qb2.out
 clear he1 
 have ba0_1 := blt a0_1
 have ba1_1 := blt a1_1
 have ba2_1 := blt a2_1
 have bb0_1 := blt b0_1
 have bb1_1 := blt b1_1
 have bb2_1 := blt b2_1
 go_wp2_with fail
 refine (l_equalLists Ar Br cr cs r _ (H2.out.ext E1.out) (K2.out.ext E1.out)).mono ?_
 rintro e w2 ⟨rfl, he2⟩
 have U2 := lh ((Ext.rfl' w1).tr he2)
 have E2 := lh (E1.out.tr U2.out)
 have a0_2 := U2.out.cellE a0_1
 have a1_2 := U2.out.cellE a1_1
 have a2_2 := U2.out.cellE a2_1
 have b0_2 := U2.out.cellE b0_1
 have b1_2 := U2.out.cellE b1_1
 have b2_2 := U2.out.cellE b2_1
 clear he2 a0_1 a1_1 a2_1 b0_1 b1_1 b2_1 ba0_1 ba1_1 ba2_1 bb0_1 bb1_1 bb2_1
 have ba0_2 := blt a0_2
 have ba1_2 := blt a1_2
 have ba2_2 := blt a2_2
 have bb0_2 := blt b0_2
 have bb1_2 := blt b1_2
 have bb2_2 := blt b2_2
 go_wp2_with fail
 refine (l_equalInts Aq Bq cq ct q _ (H3.out.ext E2.out) (K3.out.ext E2.out)).mono ?_
 rintro e w3 ⟨rfl, he3⟩
 have U3 := lh ((Ext.rfl' w2).tr he3)
 have E3 := lh (E2.out.tr U3.out)
 have a0_3 := U3.out.cellE a0_2
 have a1_3 := U3.out.cellE a1_2
 have a2_3 := U3.out.cellE a2_2
 have b0_3 := U3.out.cellE b0_2
 have b1_3 := U3.out.cellE b1_2
 have b2_3 := U3.out.cellE b2_2
 clear he3 a0_2 a1_2 a2_2 b0_2 b1_2 b2_2 ba0_2 ba1_2 ba2_2 bb0_2 bb1_2 bb2_2
 have ba0_3 := blt a0_3
 have ba1_3 := blt a1_3
 have ba2_3 := blt a2_3
 have bb0_3 := blt b0_3
 have bb1_3 := blt b1_3
 have bb2_3 := blt b2_3
 go_wp2
 go_ret
 exact ⟨rfl, E3.out⟩

theorem l_join (A B : Option Addr) (ca cb : Nat) (a b : List Int) (w : World) (h : Rd w 1 A a.length (ints a)) (k : Rd w 1 B b.length (ints b)) (ha : a.length ≤ 1048576) (hb : b.length ≤ 1048576) :
  Calls Tryz.prog 45 #[.slice A a.length ca, .slice B b.length cb] w fun e w' => ∃ A' c', e = .returned (.slice A' (a ++ b).length c') ∧ Own w' w.heap.size 3 1 A' (a ++ b).length c' (ints (a ++ b)) ∧ Ext w w' := by
 have e1 := (Ext.rfl' w).al (.cells #[] 3)
 have hs := h.ext e1
 have K := lh k
 clear h k
 have hl : (a ++ b).length = a.length + b.length := List.length_append
 have HL := lh hl
 have hi : ints (a ++ b) = ints a ++ ints b := by simp [ints]
 have HI := lh hi
 clear hl hi
 go_enter Tryz.func45, Tryz.ntmps45
 go_wp2_with (first
  | (at_builtin; refine wpList_appR rfl rfl eiInt rfl (Own.new w 3 1 #[] 0 (Nat.le_refl _) (by unfold maxLen; omega) rfl) rfl hs (one_ints a) (by unfold maxLen; omega) (by omega) (by simp) ?_; intro A2 c2 w2 ho2 hg2 hat2; have O2 := lh (show Own w2 w.heap.size 3 1 A2 a.length c2 (ints a) by simpa using ho2); have E2 := lh (((Ext.rfl' w).al (.cells #[] 3)).gr hg2 (by simp [blk])); clear ho2 hg2 hat2 hs)
  | (at_builtin; refine wpList_appR rfl rfl eiInt rfl O2.out rfl (K.out.ext E2.out) (one_ints b) (by unfold maxLen; omega) (by omega) E2.out.size ?_; intro A3 c3 w3 ho3 hg3 hat3; have O3 := lh ho3; have E3 := lh (E2.out.gr hg3 (fun b hb => (O2.out.lt hb).1)); clear ho3 hg3 hat3))
 have O4 : Own w3 w.heap.size 3 1 A3 (a ++ b).length c3 (ints (a ++ b)) := by rw [HL.out, HI.out]; exact O3.out
 have e4 := HL.out
 go_ret
 exact ⟨A3, c3, by rw [e4]; rfl, O4, E3.out⟩
end Go.Proofs.YtmkfjnkdaeoppaaGreat

/- The laws' isIn, within and ascends: contracts. Conditions: the lists can be read; within and ascends where they hold. -/
namespace Go.Proofs.YtmkfjnkdaeoppaaGreat
open Go.RowKit

theorem l_isIn (A : Option Addr) (c : Nat) (l : List Int) (n : Int) (w : World) (h : Rd w 1 A l.length (ints l)) (hin : n ∈ l) :
  Calls Tryz.prog 22 #[.slice A l.length c, .int .i64 n] w fun e w' => e = .returned (.bool true) ∧ Ext w w' := by
 have hm := h.big
 have HIN := lh (show n ∈ l.drop 0 by simpa using hin)
 clear hin
 go_enter Tryz.func22, Tryz.ntmps22
 go_wp2
 go_loopw [5] (fun i wr => ∃ k : Nat, k ≤ l.length ∧ i = .int .i64 k ∧ Hid (n ∈ l.drop k) ∧ Hid (Ext w wr)) (fun i _ => l.length - (intOf i).toNat)
 case atStart => exact ⟨0, Nat.zero_le _, rfl, HIN, lh (Ext.rfl' w)⟩
 case round =>
  obtain ⟨k, hk, rfl, hpl, hext⟩ := hrel
  clear HIN
  have hlt : k < l.length := by
   have h1 := hpl.out
   cases Nat.lt_or_ge k l.length with
   | inl h => exact h
   | inr h2 => rw [List.drop_eq_nil_of_le h2] at h1; cases h1
  obtain ⟨b, o, x, rfl, hx, hc⟩ := (h.ext hext.out).at1 hlt
  by_cases hn : x = n
  ·have z1 : (x == n) = true := by simp [hn]
   clear hx hn
   go_wp2
   try go_quiet (fail)
   try go_wp2
   go_ret
   first | exact ⟨rfl, hext.out⟩ | exact ⟨rfl, hext.out.drN _⟩ | exact ⟨rfl, hext.out.dr⟩
  ·have z1 : (x == n) = false := by rw [beq_eq_false_iff_ne]; exact hn
   have H2 := lh (show n ∈ l.drop (k + 1) by
    have h1 := hpl.out
    rw [drop_cons l k hx, List.mem_cons] at h1
    exact h1.resolve_left (fun e => hn e.symm))
   clear hx hn
   go_wp2
   try go_quiet (fail)
   try go_wp2
   go_roundw
   case rel => exact ⟨k + 1, by omega, by go_num, H2, by first | exact hext | exact lh (hext.out.drN _) | exact lh hext.out.dr⟩
   case measure => simp [intOf]; omega

theorem l_within (A B : Option Addr) (ca cb : Nat) (a b : List Int) (w : World) (h : Rd w 1 A a.length (ints a)) (k : Rd w 1 B b.length (ints b)) (hs : ∀ x ∈ a, x ∈ b) :
  Calls Tryz.prog 47 #[.slice A a.length ca, .slice B b.length cb] w fun e w' => e = .returned (.bool true) ∧ Ext w w' := by
 have hm := h.big
 have HS := lh (fun x w hx k => l_isIn B cb b x w k (hs x hx))
 clear hs
 have K := lh k
 clear k
 go_enter Tryz.func47, Tryz.ntmps47
 go_wp2
 go_loopw [5] (fun i wr => ∃ n : Nat, n ≤ a.length ∧ i = .int .i64 n ∧ Hid (Ext w wr)) (fun i _ => a.length - (intOf i).toNat)
 case atStart => exact ⟨0, Nat.zero_le _, rfl, lh (Ext.rfl' w)⟩
 case round =>
  obtain ⟨n, hn, rfl, hext⟩ := hrel
  by_cases hlt : n < a.length
  ·obtain ⟨ba, oa, x, rfl, hx, hcx⟩ := (h.ext hext.out).at1 hlt
   have HX := lh (List.mem_of_getElem? hx)
   clear hx
   go_wp2_with fail
   refine (HS.out x _ HX.out (K.out.ext hext.out)).mono ?_
   rintro e w2 ⟨rfl, he2⟩
   go_wp2
   go_roundw
   case rel => exact ⟨n + 1, by omega, by go_num, lh (hext.out.tr he2)⟩
   case measure => simp [intOf]; omega
  ·obtain rfl : n = a.length := by omega
   go_wp2
   go_ret
   exact ⟨rfl, hext.out⟩

theorem l_ascends (A : Option Addr) (c : Nat) (l : List Int) (w : World) (h : Rd w 1 A l.length (ints l)) (hs : ∀ (i : Nat) (x y : Int), l[i]? = some x → l[i + 1]? = some y → x < y) :
  Calls Tryz.prog 23 #[.slice A l.length c] w fun e w' => e = .returned (.bool true) ∧ Ext w w' := by
 have hm := h.big
 have HS := lh hs
 clear hs
 go_enter Tryz.func23, Tryz.ntmps23
 go_wp2
 go_loopw [3] (fun i wr => ∃ k : Nat, 1 ≤ k ∧ i = .int .i64 k ∧ Hid (Ext w wr)) (fun i _ => l.length - (intOf i).toNat)
 case atStart => exact ⟨1, Nat.le_refl _, rfl, lh (Ext.rfl' w)⟩
 case round =>
  obtain ⟨k, hk, rfl, hext⟩ := hrel
  by_cases hlt : k < l.length
  ·obtain ⟨j, rfl⟩ : ∃ j, k = j + 1 := ⟨k - 1, by omega⟩
   obtain ⟨b, o, x, rfl, hx, hc⟩ := (h.ext hext.out).at1 hlt
   obtain ⟨b2, o2, y, he2, hy, hc2⟩ := (h.ext hext.out).at1 (show j < l.length by omega)
   obtain ⟨rfl, rfl⟩ : b2 = b ∧ o2 = o := by simp only [Option.some.injEq, Addr.mk.injEq, and_true] at he2; exact ⟨he2.1.symm, he2.2.symm⟩
   have hxy : ¬ x ≤ y := by have := HS.out j y x hy hx; omega
   have iw : IntKind.i64.wrap (((j + 1 : Nat) : Int) - 1) = (j : Int) := by rw [IntWalk.i64_in _ (by omega)]; omega
   clear hx hy he2
   go_wp2
   try go_quiet (fail)
   try go_wp2
   go_roundw
   case rel => exact ⟨j + 1 + 1, by omega, by go_num, by first | exact hext | exact lh (hext.out.drN _)⟩
   case measure => simp [intOf]; omega
  ·go_wp2
   go_ret
   exact ⟨rfl, hext.out⟩
end Go.Proofs.YtmkfjnkdaeoppaaGreat
