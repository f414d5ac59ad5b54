/- The laws' comparisons of nodes, graphs, lists, states at equal contents: contracts. -/
import Derived.Test.YtkkegmimofmhpaaLawD
namespace Go.Proofs.Ytkkegmimofmhpaa
open Go.RowKit

set_option maxHeartbeats 1000000 in
theorem l_eqNodeS (A B : Option Addr) (ca cb : Nat) (g : Sg.Graph) (w : World) (h : RdN w A g) (k : RdN w B g) :
    Calls Try.prog 85 #[.slice A g.length ca, .slice B g.length cb] w fun e w' => e = .returned (.bool true) ∧ Ext w w' := by
  have hk := k.1
  go_enter Try.func85, Try.ntmps85
  go_wp2
  go_loopw [5] (fun i wr => ∃ n : Nat, n ≤ g.length ∧ i = .int .i64 n ∧ Ext w wr) (fun i _ => g.length - (intOf i).toNat)
  case atStart => exact ⟨0, Nat.zero_le _, rfl, Ext.rfl' w⟩
  case round =>
    obtain ⟨n, hn, rfl, hext⟩ := hrel
    by_cases hlt : n < g.length
    · obtain ⟨⟨nk, nf⟩, ba, oa, Ap, cp, hx, rfl, h0, h1, hr, _⟩ := (h.ext hext).at_ hlt
      obtain ⟨y, bb, ob, Bp, cq, hy, rfl, g0, g1, gr, _⟩ := (k.ext hext).at_ hlt
      rw [hx] at hy
      injection hy with hy
      subst hy
      clear hx
      dsimp only at *
      have H0 := Lib.hid ((Ext.rfl' wr).dr)
      have HC := Lib.hid (fun w h k => l_eqNode nk Ap Bp cp cq nf w h k)
      go_wp2_with fail
      go_region_held3 (fun W => W.cell? ⟨ba, oa + n * 2, none⟩ = some (.int .i64 nk) ∧ W.cell? ⟨ba, oa + n * 2 + 1, none⟩ = some (.slice Ap nf.length cp)
          ∧ W.cell? ⟨bb, ob + n * 2, none⟩ = some (.int .i64 nk) ∧ W.cell? ⟨bb, ob + n * 2 + 1, none⟩ = some (.slice Bp nf.length cq))
        (first | exact ⟨e9.cellE h0, e9.cellE h1, e9.cellE g0, e9.cellE g1⟩ | go_keep)
        (first | (go_at_call 147; refine (HC.out _ (hr.ext H0.out) (gr.ext H0.out)).mono ?_; rintro e w2 ⟨rfl, he2⟩; have e9 := H0.out.tr he2))
      all_goals
        go_wp2
        go_roundw
        case rel => exact ⟨n + 1, by omega, by go_num, hext.tr e9⟩
        case measure => simp [intOf]; omega
    · obtain rfl : n = g.length := by omega
      go_wp2
      go_ret
      exact ⟨rfl, hext⟩

set_option maxHeartbeats 1000000 in
theorem l_eqIntSS (A B : Option Addr) (ca cb : Nat) (g : List (List Int)) (w : World) (h : RdL w A g) (k : RdL w B g) :
    Calls Try.prog 86 #[.slice A g.length ca, .slice B g.length cb] w fun e w' => e = .returned (.bool true) ∧ Ext w w' := by
  have hk := k.1
  go_enter Try.func86, Try.ntmps86
  go_wp2
  go_loopw [5] (fun i wr => ∃ n : Nat, n ≤ g.length ∧ i = .int .i64 n ∧ Ext w wr) (fun i _ => g.length - (intOf i).toNat)
  case atStart => exact ⟨0, Nat.zero_le _, rfl, Ext.rfl' w⟩
  case round =>
    obtain ⟨n, hn, rfl, hext⟩ := hrel
    by_cases hlt : n < g.length
    · obtain ⟨l, ba, oa, Ap, cp, hx, rfl, h0, hr, _⟩ := (h.ext hext).at_ hlt
      obtain ⟨y, bb, ob, Bp, cq, hy, rfl, g0, gr, _⟩ := (k.ext hext).at_ hlt
      rw [hx] at hy
      injection hy with hy
      subst hy
      clear hx
      have H0 := Lib.hid ((Ext.rfl' wr).dr)
      have HC := Lib.hid (fun w h k => l_eqIntS Ap Bp cp cq l w h k)
      go_wp2_with fail
      go_region_held3 (fun W => W.cell? ⟨ba, oa + n, none⟩ = some (.slice Ap l.length cp) ∧ W.cell? ⟨bb, ob + n, none⟩ = some (.slice Bp l.length cq))
        (first | exact ⟨e9.cellE h0, e9.cellE g0⟩ | go_keep)
        (first | (go_at_call 40; refine (HC.out _ (hr.ext H0.out) (gr.ext H0.out)).mono ?_; rintro e w2 ⟨rfl, he2⟩; have e9 := H0.out.tr he2))
      all_goals
        go_wp2
        go_roundw
        case rel => exact ⟨n + 1, by omega, by go_num, hext.tr e9⟩
        case measure => simp [intOf]; omega
    · obtain rfl : n = g.length := by omega
      go_wp2
      go_ret
      exact ⟨rfl, hext⟩

theorem l_eqGraph (A B : Option Addr) (ca cb : Nat) (g : Sg.Graph) (w : World) (h : RdN w A g) (k : RdN w B g) :
    Calls Try.prog 30 #[.agg #[.slice A g.length ca], .agg #[.slice B g.length cb]] w fun e w' => e = .returned (.bool true) ∧ Ext w w' := by
  have HE := Lib.hid (((Ext.rfl' w).al (.cells #[.slice A g.length ca] 25)).al (.cells #[.slice B g.length cb] 25))
  have HC := Lib.hid (fun w h k => l_eqNodeS A B ca cb g w h k)
  go_enter Try.func30, Try.ntmps30
  go_wp2_with (go_at_call 85; refine (HC.out _ (h.ext HE.out) (k.ext HE.out)).mono ?_; rintro e w2 ⟨rfl, he2⟩)
  go_ret
  exact ⟨rfl, HE.out.tr he2⟩

theorem l_eqEager (Av Bv Ar Br : Option Addr) (cv cw cr cs : Nat) (v : List Int) (r : List (List Int)) (w : World) (hv : Rd w 1 Av v.length (ints v)) (kv : Rd w 1 Bv v.length (ints v)) (hr : RdL w Ar r) (kr : RdL w Br r) :
    Calls Try.prog 31 #[.agg #[.slice Av v.length cv, .slice Ar r.length cr], .agg #[.slice Bv v.length cw, .slice Br r.length cs]] w fun e w' => e = .returned (.bool true) ∧ Ext w w' := by
  have HE := Lib.hid (((Ext.rfl' w).al (.cells #[.slice Av v.length cv, .slice Ar r.length cr] 31)).al (.cells #[.slice Bv v.length cw, .slice Br r.length cs] 31))
  have HC := Lib.hid (fun w h k => l_eqIntS Av Bv cv cw v w h k)
  have HD := Lib.hid (fun w h k => l_eqIntSS Ar Br cr cs r w h k)
  go_enter Try.func31, Try.ntmps31
  go_wp2_with (first
    | (go_at_call 40; refine (HC.out _ (hv.ext HE.out) (kv.ext HE.out)).mono ?_; rintro e w2 ⟨rfl, he2⟩; have e2 := HE.out.tr he2; have k1 := he2.cellE (by simp [go_sem] : (((w.alloc (.cells #[.slice Av v.length cv, .slice Ar r.length cr] 31)).alloc (.cells #[.slice Bv v.length cw, .slice Br r.length cs] 31)).cell? ⟨w.heap.size, 1, none⟩ = some (.slice Ar r.length cr))); have k2 := he2.cellE (by simp [go_sem] : (((w.alloc (.cells #[.slice Av v.length cv, .slice Ar r.length cr] 31)).alloc (.cells #[.slice Bv v.length cw, .slice Br r.length cs] 31)).cell? ⟨w.heap.size + 1, 1, none⟩ = some (.slice Br r.length cs))))
    | (go_at_call 86; refine (HD.out _ (hr.ext e2) (kr.ext e2)).mono ?_; rintro e w3 ⟨rfl, he3⟩))
  go_ret
  exact ⟨rfl, e2.tr he3⟩
end Go.Proofs.Ytkkegmimofmhpaa
