/- The laws' comparisons of ints, parts, formulas at equal contents: contracts. -/
import Derived.Test.YtkkegmimofmhpaaGraph
import Derived.Deep.QuietTactic
import Derived.BigQuiet
import Derived.Deep.RegionHeld3
namespace Go.Proofs.Ytkkegmimofmhpaa
open Go.RowKit

set_option maxHeartbeats 1000000 in
theorem l_eqIntS (A B : Option Addr) (ca cb : Nat) (a : List Int) (w : World) (h : Rd w 1 A a.length (ints a)) (k : Rd w 1 B a.length (ints a)) :
    Calls Try.prog 40 #[.slice A a.length ca, .slice B a.length cb] w fun e w' => e = .returned (.bool true) ∧ Ext w w' := by
  have hk := k.big
  go_enter Try.func40, Try.ntmps40
  go_wp2
  go_loopw [5] (fun i wr => ∃ n : Nat, n ≤ a.length ∧ i = .int .i64 n ∧ Ext w wr) (fun i _ => a.length - (intOf i).toNat)
  case atStart => exact ⟨0, Nat.zero_le _, rfl, Ext.rfl' w⟩
  case round =>
    obtain ⟨n, hn, rfl, hext⟩ := hrel
    by_cases hlt : n < a.length
    · obtain ⟨ba, oa, x, rfl, hx, hcx⟩ := (h.ext hext).at1 hlt
      obtain ⟨bb, ob, y, rfl, hy, hcy⟩ := (k.ext hext).at1 hlt
      rw [hx] at hy
      injection hy with hy
      subst hy
      have hb1 : (x != x) = false := by simp
      clear hx
      go_wp2
      go_quiet (fail)
      go_wp2
      go_roundw
      case rel => exact ⟨n + 1, by omega, by go_num, hext.drN _⟩
      case measure => simp [intOf]; omega
    · obtain rfl : n = a.length := by omega
      go_wp2
      go_ret
      exact ⟨rfl, hext⟩

theorem l_eqPart (p : Sg.Part) (w : World) : Calls Try.prog 210 #[pv p, pv p] w fun e w' => e = .returned (.bool true) ∧ Ext w w' := by
  obtain ⟨k, a, b, c, n⟩ := p
  go_enter Try.func210, Try.ntmps210
  go_wp2
  go_ret
  exact ⟨rfl, ((Ext.rfl' w).al _).al _⟩

set_option maxHeartbeats 1000000 in
theorem l_eqPartS (A B : Option Addr) (ca cb : Nat) (f : List Sg.Part) (w : World) (h : Rd w 5 A f.length (parts f)) (k : Rd w 5 B f.length (parts f)) :
    Calls Try.prog 196 #[.slice A f.length ca, .slice B f.length cb] w fun e w' => e = .returned (.bool true) ∧ Ext w w' := by
  have hk := k.big
  have HP := Lib.hid l_eqPart
  go_enter Try.func196, Try.ntmps196
  go_wp2
  go_loopw [5] (fun i wr => ∃ n : Nat, n ≤ f.length ∧ i = .int .i64 n ∧ Ext w wr) (fun i _ => f.length - (intOf i).toNat)
  case atStart => exact ⟨0, Nat.zero_le _, rfl, Ext.rfl' w⟩
  case round =>
    obtain ⟨n, hn, rfl, hext⟩ := hrel
    by_cases hlt : n < f.length
    · obtain ⟨ba, oa, x, rfl, hx, h0, h1, h2, h3, h4⟩ := (h.ext hext).atP hlt
      obtain ⟨bb, ob, y, rfl, hy, g0, g1, g2, g3, g4⟩ := (k.ext hext).atP hlt
      rw [hx] at hy
      injection hy with hy
      subst hy
      clear hx
      have H0 := Lib.hid ((Ext.rfl' wr).dr)
      go_wp2_with fail
      go_region_held3 (fun W => W.cell? ⟨ba, oa + n * 5, none⟩ = some (.int .i64 x.kind) ∧ W.cell? ⟨ba, oa + n * 5 + 1, none⟩ = some (.int .i64 x.a) ∧ W.cell? ⟨ba, oa + n * 5 + 2, none⟩ = some (.int .i64 x.b) ∧ W.cell? ⟨ba, oa + n * 5 + 3, none⟩ = some (.int .i64 x.c) ∧ W.cell? ⟨ba, oa + n * 5 + 4, none⟩ = some (.int .i64 x.n)
          ∧ W.cell? ⟨bb, ob + n * 5, none⟩ = some (.int .i64 x.kind) ∧ W.cell? ⟨bb, ob + n * 5 + 1, none⟩ = some (.int .i64 x.a) ∧ W.cell? ⟨bb, ob + n * 5 + 2, none⟩ = some (.int .i64 x.b) ∧ W.cell? ⟨bb, ob + n * 5 + 3, none⟩ = some (.int .i64 x.c) ∧ W.cell? ⟨bb, ob + n * 5 + 4, none⟩ = some (.int .i64 x.n))
        (first | exact ⟨e9.cellE h0, e9.cellE h1, e9.cellE h2, e9.cellE h3, e9.cellE h4, e9.cellE g0, e9.cellE g1, e9.cellE g2, e9.cellE g3, e9.cellE g4⟩ | go_keep)
        (first | (go_at_call 210; refine (HP.out x _).mono ?_; rintro e w2 ⟨rfl, he2⟩; have e9 := H0.out.tr he2))
      all_goals
        go_wp2
        go_roundw
        case rel => exact ⟨n + 1, by omega, by go_num, hext.tr e9⟩
        case measure => simp [intOf]; omega
    · obtain rfl : n = f.length := by omega
      go_wp2
      go_ret
      exact ⟨rfl, hext⟩

theorem l_eqFormula (A B : Option Addr) (ca cb : Nat) (f : List Sg.Part) (w : World) (h : Rd w 5 A f.length (parts f)) (k : Rd w 5 B f.length (parts f)) :
    Calls Try.prog 181 #[.agg #[.slice A f.length ca], .agg #[.slice B f.length cb]] w fun e w' => e = .returned (.bool true) ∧ Ext w w' := by
  have HE := Lib.hid (((Ext.rfl' w).al (.cells #[.slice A f.length ca] 92)).al (.cells #[.slice B f.length cb] 92))
  have HC := Lib.hid (fun w h k => l_eqPartS A B ca cb f w h k)
  go_enter Try.func181, Try.ntmps181
  go_wp2_with (go_at_call 196; refine (HC.out _ (h.ext HE.out) (k.ext HE.out)).mono ?_; rintro e w2 ⟨rfl, he2⟩)
  go_ret
  exact ⟨rfl, HE.out.tr he2⟩

theorem l_eqNode (kd : Int) (A B : Option Addr) (ca cb : Nat) (f : List Sg.Part) (w : World) (h : Rd w 5 A f.length (parts f)) (k : Rd w 5 B f.length (parts f)) :
    Calls Try.prog 147 #[.agg #[.int .i64 kd, .slice A f.length ca], .agg #[.int .i64 kd, .slice B f.length cb]] w fun e w' => e = .returned (.bool true) ∧ Ext w w' := by
  have HE := Lib.hid (((Ext.rfl' w).al (.cells #[.int .i64 kd, .slice A f.length ca] 94)).al (.cells #[.int .i64 kd, .slice B f.length cb] 94))
  have HC := Lib.hid (fun w h k => l_eqFormula A B ca cb f w h k)
  have hb : (kd != kd) = false := by simp
  go_enter Try.func147, Try.ntmps147
  go_wp2_with (go_at_call 181; refine (HC.out _ (h.ext HE.out) (k.ext HE.out)).mono ?_; rintro e w2 ⟨rfl, he2⟩)
  go_ret
  exact ⟨rfl, HE.out.tr he2⟩
end Go.Proofs.Ytkkegmimofmhpaa
