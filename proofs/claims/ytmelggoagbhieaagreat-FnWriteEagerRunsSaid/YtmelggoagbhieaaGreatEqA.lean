/- The laws' comparisons of lists and states at equal contents: contracts. Conditions: none. -/
import Derived.Test.YtmelggoagbhieaaGreatCore
import Derived.Deep.QuietTactic
import Derived.BigQuiet
import Derived.Deep.RegionHeld3
namespace Go.Proofs.YtmelggoagbhieaaGreat
open Go.RowKit

set_option maxHeartbeats 1000000 in
theorem l_equalInts (A B : Option Addr) (ca cb : Nat) (a : List Int) (w : World) (h : Rd w 1 A a.length (ints a)) (k : Rd w 1 B a.length (ints a)) :
    Calls Tryz.prog 19 #[.slice A a.length ca, .slice B a.length cb] w fun e w' => e = .returned (.bool true) ∧ Ext w w' := by
  have hk := k.big
  go_enter Tryz.func19, Tryz.ntmps19
  go_wp2
  go_loopw [5] (fun i wr => ∃ n : Nat, n ≤ a.length ∧ i = .int .i64 n ∧ Ext w wr) (fun i _ => a.length - (intOf i).toNat)
  case atStart => exact ⟨0, Nat.zero_le _, rfl, Ext.rfl' w⟩
  case round =>
    obtain ⟨n, hn, rfl, hext⟩ := hrel
    by_cases hlt : n < a.length
    · obtain ⟨ba, oa, x, rfl, hx, hcx⟩ := (h.ext hext).at1 hlt
      obtain ⟨bb, ob, y, rfl, hy, hcy⟩ := (k.ext hext).at1 hlt
      rw [hx] at hy
      injection hy with hy
      subst hy
      have hb1 : (x != x) = false := by simp
      clear hx
      go_wp2
      go_quiet (fail)
      go_wp2
      go_roundw
      case rel => exact ⟨n + 1, by omega, by go_num, hext.drN _⟩
      case measure => simp [intOf]; omega
    · obtain rfl : n = a.length := by omega
      go_wp2
      go_ret
      exact ⟨rfl, hext⟩

set_option maxHeartbeats 1000000 in
theorem l_equalLists (A B : Option Addr) (ca cb : Nat) (g : List (List Int)) (w : World) (h : RdL w A g) (k : RdL w B g) :
    Calls Tryz.prog 86 #[.slice A g.length ca, .slice B g.length cb] w fun e w' => e = .returned (.bool true) ∧ Ext w w' := by
  have hk := k.1
  go_enter Tryz.func86, Tryz.ntmps86
  go_wp2
  go_loopw [5] (fun i wr => ∃ n : Nat, n ≤ g.length ∧ i = .int .i64 n ∧ Ext w wr) (fun i _ => g.length - (intOf i).toNat)
  case atStart => exact ⟨0, Nat.zero_le _, rfl, Ext.rfl' w⟩
  case round =>
    obtain ⟨n, hn, rfl, hext⟩ := hrel
    by_cases hlt : n < g.length
    · obtain ⟨l, ba, oa, Ap, cp, hx, rfl, h0, hr, _⟩ := (h.ext hext).at_ hlt
      obtain ⟨y, bb, ob, Bp, cq, hy, rfl, g0, gr, _⟩ := (k.ext hext).at_ hlt
      rw [hx] at hy
      injection hy with hy
      subst hy
      clear hx
      have H0 := Lib.hid ((Ext.rfl' wr).dr)
      have HC := Lib.hid (fun w h k => l_equalInts Ap Bp cp cq l w h k)
      go_wp2_with fail
      go_region_held3 (fun W => W.cell? ⟨ba, oa + n, none⟩ = some (.slice Ap l.length cp) ∧ W.cell? ⟨bb, ob + n, none⟩ = some (.slice Bp l.length cq))
        (first | exact ⟨e9.cellE h0, e9.cellE g0⟩ | go_keep)
        (first | (go_at_call 19; refine (HC.out _ (hr.ext H0.out) (gr.ext H0.out)).mono ?_; rintro e w2 ⟨rfl, he2⟩; have e9 := H0.out.tr he2))
      all_goals
        go_wp2
        go_roundw
        case rel => exact ⟨n + 1, by omega, by go_num, hext.tr e9⟩
        case measure => simp [intOf]; omega
    · obtain rfl : n = g.length := by omega
      go_wp2
      go_ret
      exact ⟨rfl, hext⟩

theorem l_equalEager (Av Bv Ar Br : Option Addr) (cv cw cr cs : Nat) (v : List Int) (r : List (List Int)) (w : World) (hv : Rd w 1 Av v.length (ints v)) (kv : Rd w 1 Bv v.length (ints v)) (hr : RdL w Ar r) (kr : RdL w Br r) :
    Calls Tryz.prog 18 #[.agg #[.slice Av v.length cv, .slice Ar r.length cr], .agg #[.slice Bv v.length cw, .slice Br r.length cs]] w fun e w' => e = .returned (.bool true) ∧ Ext w w' := by
  have HE := Lib.hid (((Ext.rfl' w).al (.cells #[.slice Av v.length cv, .slice Ar r.length cr] 29)).al (.cells #[.slice Bv v.length cw, .slice Br r.length cs] 29))
  have HC := Lib.hid (fun w h k => l_equalInts Av Bv cv cw v w h k)
  have HD := Lib.hid (fun w h k => l_equalLists Ar Br cr cs r w h k)
  go_enter Tryz.func18, Tryz.ntmps18
  go_wp2_with (first
    | (go_at_call 19; refine (HC.out _ (hv.ext HE.out) (kv.ext HE.out)).mono ?_; rintro e w2 ⟨rfl, he2⟩; have e2 := HE.out.tr he2; have k1 := he2.cellE (by simp [go_sem] : (((w.alloc (.cells #[.slice Av v.length cv, .slice Ar r.length cr] 29)).alloc (.cells #[.slice Bv v.length cw, .slice Br r.length cs] 29)).cell? ⟨w.heap.size, 1, none⟩ = some (.slice Ar r.length cr))); have k2 := he2.cellE (by simp [go_sem] : (((w.alloc (.cells #[.slice Av v.length cv, .slice Ar r.length cr] 29)).alloc (.cells #[.slice Bv v.length cw, .slice Br r.length cs] 29)).cell? ⟨w.heap.size + 1, 1, none⟩ = some (.slice Br r.length cs))))
    | (go_at_call 86; refine (HD.out _ (hr.ext e2) (kr.ext e2)).mono ?_; rintro e w3 ⟨rfl, he3⟩))
  go_ret
  exact ⟨rfl, e2.tr he3⟩

end Go.Proofs.YtmelggoagbhieaaGreat
