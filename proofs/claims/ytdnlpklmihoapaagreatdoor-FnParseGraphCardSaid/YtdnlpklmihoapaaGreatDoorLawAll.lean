/- Parts of one proof, joined. The laws' sizes: contracts. Conditions: the purse is a natural number of at most 2^20. The laws' sizes of formulas, nodes, graphs, lists: contracts. Conditions: the purse is a natural number of at most 2^20. The laws' sizes of graphs and states; the reference's ValidEager: contracts. The laws' comparisons of ints, parts, formulas at equal contents: contracts. The laws' comparisons of nodes, graphs, lists, states at equal contents: contracts. The laws' copies of ints and parts: contracts. Conditions: at most 2^20 elements. The laws' copies of formulas and nodes: contracts. Conditions: at most 2^20 elements. The laws' copies of nodes: contracts. Conditions: at most 2^20 elements. The laws' copies of lists of lists: contract. Conditions: at most 2^20 elements. Zero nodes in memory. Conditions: none. The laws' copies of lists of nodes: contract. The laws' copies of graphs and states: contracts. The laws' marks: every number of a value is written anew, one after the other; and held. Contracts. Conditions: bounds on lengths. The laws' marks of parts, nodes, graphs, states: contracts. Conditions: bounds on lengths. -/
import Derived.Test.YtdnlpklmihoapaaGreatDoorCore
import Derived.Test.YtdnlpklmihoapaaGreatDoorSpecTwo
import Derived.Deep.QuietTactic
import Derived.BigQuiet
import Derived.Deep.RegionHeld3
import Derived.Handy
import Derived.Test.YtdnlpklmihoapaaGreatDoorTy
/- The laws' sizes: contracts. Conditions: the purse is a natural number of at most 2^20. -/
namespace Sg
def szFrom : List Nat → Nat → Int
 | [], L => L
 | n :: r, L => if L < n then -1 else szFrom r (L - n)
def szL (ns : List Nat) (L : Nat) : Int := if L < ns.length then -1 else szFrom ns (L - ns.length)
end Sg
namespace Go.Proofs.YtdnlpklmihoapaaGreatDoor
open Go.RowKit

/-- nodes in memory, of any number -/
def RdN0 (w : World) (A : Option Addr) (g : Sg.Graph) : Prop :=
 g.length ≤ maxLen ∧ ∀ (i : Nat) (n : Sg.Node), g[i]? = some n → ∃ b o Ap cp, A = some ⟨b, o, none⟩ ∧ w.cell? ⟨b, o + i * 2, none⟩ = some (.int .i64 n.kind) ∧
  w.cell? ⟨b, o + i * 2 + 1, none⟩ = some (.slice Ap n.f.length cp) ∧ Rd w 5 Ap n.f.length (parts n.f)
theorem RdN0.ext {w w' : World} {A : Option Addr} {g : Sg.Graph} (h : RdN0 w A g) (e : Ext w w') : RdN0 w' A g :=
 ⟨h.1, fun i n hn => let ⟨b, o, Ap, cp, ha, h1, h2, h3⟩ := h.2 i n hn; ⟨b, o, Ap, cp, ha, e.cellE h1, e.cellE h2, h3.ext e⟩⟩
theorem RdN0.at_ {w : World} {A : Option Addr} {g : Sg.Graph} (h : RdN0 w A g) {i : Nat} (hi : i < g.length) : ∃ n b o Ap cp, g[i]? = some n ∧ A = some ⟨b, o, none⟩ ∧ w.cell? ⟨b, o + i * 2, none⟩ = some (.int .i64 n.kind) ∧
  w.cell? ⟨b, o + i * 2 + 1, none⟩ = some (.slice Ap n.f.length cp) ∧ Rd w 5 Ap n.f.length (parts n.f) := by
 have hx : g[i]? = some g[i] := List.getElem?_eq_getElem hi
 obtain ⟨b, o, Ap, cp, r⟩ := h.2 i _ hx
 exact ⟨_, b, o, Ap, cp, hx, r⟩
/-- lists of numbers in memory, of any number -/
def RdL0 (w : World) (A : Option Addr) (ll : List (List Int)) : Prop :=
 ll.length ≤ maxLen ∧ ∀ (i : Nat) (l : List Int), ll[i]? = some l → ∃ b o Al cl, A = some ⟨b, o, none⟩ ∧ w.cell? ⟨b, o + i, none⟩ = some (.slice Al l.length cl) ∧ Rd w 1 Al l.length (ints l)
theorem RdL0.ext {w w' : World} {A : Option Addr} {ll : List (List Int)} (h : RdL0 w A ll) (e : Ext w w') : RdL0 w' A ll :=
 ⟨h.1, fun i l hl => let ⟨b, o, Al, cl, ha, h1, h2⟩ := h.2 i l hl; ⟨b, o, Al, cl, ha, e.cellE h1, h2.ext e⟩⟩
theorem RdL0.at_ {w : World} {A : Option Addr} {ll : List (List Int)} (h : RdL0 w A ll) {i : Nat} (hi : i < ll.length) : ∃ l b o Al cl, ll[i]? = some l ∧ A = some ⟨b, o, none⟩ ∧ w.cell? ⟨b, o + i, none⟩ = some (.slice Al l.length cl) ∧ Rd w 1 Al l.length (ints l) := by
 have hx : ll[i]? = some ll[i] := List.getElem?_eq_getElem hi
 obtain ⟨b, o, Al, cl, r⟩ := h.2 i _ hx
 exact ⟨_, b, o, Al, cl, hx, r⟩

end Go.Proofs.YtdnlpklmihoapaaGreatDoor

/- The laws' sizes of formulas, nodes, graphs, lists: contracts. Conditions: the purse is a natural number of at most 2^20. -/
namespace Go.Proofs.YtdnlpklmihoapaaGreatDoor
open Go.RowKit

end Go.Proofs.YtdnlpklmihoapaaGreatDoor


/- The laws' sizes of graphs and states; the reference's ValidEager: contracts. -/
namespace Sg
end Sg
namespace Go.Proofs.YtdnlpklmihoapaaGreatDoor
open Go.RowKit

end Go.Proofs.YtdnlpklmihoapaaGreatDoor

/- The laws' comparisons of ints, parts, formulas at equal contents: contracts. -/
namespace Go.Proofs.YtdnlpklmihoapaaGreatDoor
open Go.RowKit

set_option maxHeartbeats 1000000 in
theorem l_eqIntS (A B : Option Addr) (ca cb : Nat) (a : List Int) (w : World) (h : Rd w 1 A a.length (ints a)) (k : Rd w 1 B a.length (ints a)) :
  Calls Tryz.prog 9 #[.slice A a.length ca, .slice B a.length cb] w fun e w' => e = .returned (.bool true) ∧ Ext w w' := by
 have hk := k.big
 go_enter Tryz.func9, Tryz.ntmps9
 go_wp2
 go_loopw [5] (fun i wr => ∃ n : Nat, n ≤ a.length ∧ i = .int .i64 n ∧ Ext w wr) (fun i _ => a.length - (intOf i).toNat)
 case atStart => exact ⟨0, Nat.zero_le _, rfl, Ext.rfl' w⟩
 case round =>
  obtain ⟨n, hn, rfl, hext⟩ := hrel
  by_cases hlt : n < a.length
  ·obtain ⟨ba, oa, x, rfl, hx, hcx⟩ := (h.ext hext).at1 hlt
   obtain ⟨bb, ob, y, rfl, hy, hcy⟩ := (k.ext hext).at1 hlt
   rw [hx] at hy
   injection hy with hy
   subst hy
   have hb1 : (x != x) = false := by simp
   clear hx
   go_wp2
   go_quiet (fail)
   go_wp2
   go_roundw
   case rel => exact ⟨n + 1, by omega, by go_num, hext.drN _⟩
   case measure => simp [intOf]; omega
  ·obtain rfl : n = a.length := by omega
   go_wp2
   go_ret
   exact ⟨rfl, hext⟩

theorem l_eqPart (p : Sg.Part) (w : World) : Calls Tryz.prog 143 #[pv p, pv p] w fun e w' => e = .returned (.bool true) ∧ Ext w w' := by
 obtain ⟨k, a, b, c, n⟩ := p
 go_enter Tryz.func143, Tryz.ntmps143
 go_wp2
 go_ret
 exact ⟨rfl, ((Ext.rfl' w).al _).al _⟩

set_option maxHeartbeats 1000000 in
theorem l_eqPartS (A B : Option Addr) (ca cb : Nat) (f : List Sg.Part) (w : World) (h : Rd w 5 A f.length (parts f)) (k : Rd w 5 B f.length (parts f)) :
  Calls Tryz.prog 123 #[.slice A f.length ca, .slice B f.length cb] w fun e w' => e = .returned (.bool true) ∧ Ext w w' := by
 have hk := k.big
 have HP := lh l_eqPart
 go_enter Tryz.func123, Tryz.ntmps123
 go_wp2
 go_loopw [5] (fun i wr => ∃ n : Nat, n ≤ f.length ∧ i = .int .i64 n ∧ Ext w wr) (fun i _ => f.length - (intOf i).toNat)
 case atStart => exact ⟨0, Nat.zero_le _, rfl, Ext.rfl' w⟩
 case round =>
  obtain ⟨n, hn, rfl, hext⟩ := hrel
  by_cases hlt : n < f.length
  ·obtain ⟨ba, oa, x, rfl, hx, h0, h1, h2, h3, h4⟩ := (h.ext hext).atP hlt
   obtain ⟨bb, ob, y, rfl, hy, g0, g1, g2, g3, g4⟩ := (k.ext hext).atP hlt
   rw [hx] at hy
   injection hy with hy
   subst hy
   clear hx
   have H0 := lh ((Ext.rfl' wr).dr)
   go_wp2_with fail
   go_region_held3 (fun W => W.cell? ⟨ba, oa + n * 5, none⟩ = some (.int .i64 x.kind) ∧ W.cell? ⟨ba, oa + n * 5 + 1, none⟩ = some (.int .i64 x.a) ∧ W.cell? ⟨ba, oa + n * 5 + 2, none⟩ = some (.int .i64 x.b) ∧ W.cell? ⟨ba, oa + n * 5 + 3, none⟩ = some (.int .i64 x.c) ∧ W.cell? ⟨ba, oa + n * 5 + 4, none⟩ = some (.int .i64 x.n)
     ∧ W.cell? ⟨bb, ob + n * 5, none⟩ = some (.int .i64 x.kind) ∧ W.cell? ⟨bb, ob + n * 5 + 1, none⟩ = some (.int .i64 x.a) ∧ W.cell? ⟨bb, ob + n * 5 + 2, none⟩ = some (.int .i64 x.b) ∧ W.cell? ⟨bb, ob + n * 5 + 3, none⟩ = some (.int .i64 x.c) ∧ W.cell? ⟨bb, ob + n * 5 + 4, none⟩ = some (.int .i64 x.n))
    (first | exact ⟨e9.cellE h0, e9.cellE h1, e9.cellE h2, e9.cellE h3, e9.cellE h4, e9.cellE g0, e9.cellE g1, e9.cellE g2, e9.cellE g3, e9.cellE g4⟩ | go_keep)
    (first | (go_at_call 143; refine (HP.out x _).mono ?_; rintro e w2 ⟨rfl, he2⟩; have e9 := H0.out.tr he2))
   all_goals
    go_wp2
    go_roundw
    case rel => exact ⟨n + 1, by omega, by go_num, hext.tr e9⟩
    case measure => simp [intOf]; omega
  ·obtain rfl : n = f.length := by omega
   go_wp2
   go_ret
   exact ⟨rfl, hext⟩

theorem l_eqFormula (A B : Option Addr) (ca cb : Nat) (f : List Sg.Part) (w : World) (h : Rd w 5 A f.length (parts f)) (k : Rd w 5 B f.length (parts f)) :
  Calls Tryz.prog 93 #[.agg #[.slice A f.length ca], .agg #[.slice B f.length cb]] w fun e w' => e = .returned (.bool true) ∧ Ext w w' := by
 have HE := lh (((Ext.rfl' w).al (.cells #[.slice A f.length ca] 48)).al (.cells #[.slice B f.length cb] 48))
 have HC := lh (fun w h k => l_eqPartS A B ca cb f w h k)
 go_enter Tryz.func93, Tryz.ntmps93
 go_wp2_with (go_at_call 123; refine (HC.out _ (h.ext HE.out) (k.ext HE.out)).mono ?_; rintro e w2 ⟨rfl, he2⟩)
 go_ret
 exact ⟨rfl, HE.out.tr he2⟩

theorem l_eqNode (kd : Int) (A B : Option Addr) (ca cb : Nat) (f : List Sg.Part) (w : World) (h : Rd w 5 A f.length (parts f)) (k : Rd w 5 B f.length (parts f)) :
  Calls Tryz.prog 60 #[.agg #[.int .i64 kd, .slice A f.length ca], .agg #[.int .i64 kd, .slice B f.length cb]] w fun e w' => e = .returned (.bool true) ∧ Ext w w' := by
 have HE := lh (((Ext.rfl' w).al (.cells #[.int .i64 kd, .slice A f.length ca] 50)).al (.cells #[.int .i64 kd, .slice B f.length cb] 50))
 have HC := lh (fun w h k => l_eqFormula A B ca cb f w h k)
 have hb : (kd != kd) = false := by simp
 go_enter Tryz.func60, Tryz.ntmps60
 go_wp2_with (go_at_call 93; refine (HC.out _ (h.ext HE.out) (k.ext HE.out)).mono ?_; rintro e w2 ⟨rfl, he2⟩)
 go_ret
 exact ⟨rfl, HE.out.tr he2⟩
end Go.Proofs.YtdnlpklmihoapaaGreatDoor

/- The laws' comparisons of nodes, graphs, lists, states at equal contents: contracts. -/
namespace Go.Proofs.YtdnlpklmihoapaaGreatDoor
open Go.RowKit

set_option maxHeartbeats 1000000 in
theorem l_eqNodeS (A B : Option Addr) (ca cb : Nat) (g : Sg.Graph) (w : World) (h : RdN w A g) (k : RdN w B g) :
  Calls Tryz.prog 30 #[.slice A g.length ca, .slice B g.length cb] w fun e w' => e = .returned (.bool true) ∧ Ext w w' := by
 have hk := k.1
 go_enter Tryz.func30, Tryz.ntmps30
 go_wp2
 go_loopw [5] (fun i wr => ∃ n : Nat, n ≤ g.length ∧ i = .int .i64 n ∧ Ext w wr) (fun i _ => g.length - (intOf i).toNat)
 case atStart => exact ⟨0, Nat.zero_le _, rfl, Ext.rfl' w⟩
 case round =>
  obtain ⟨n, hn, rfl, hext⟩ := hrel
  by_cases hlt : n < g.length
  ·obtain ⟨⟨nk, nf⟩, ba, oa, Ap, cp, hx, rfl, h0, h1, hr, _⟩ := (h.ext hext).at_ hlt
   obtain ⟨y, bb, ob, Bp, cq, hy, rfl, g0, g1, gr, _⟩ := (k.ext hext).at_ hlt
   rw [hx] at hy
   injection hy with hy
   subst hy
   clear hx
   dsimp only at *
   have H0 := lh ((Ext.rfl' wr).dr)
   have HC := lh (fun w h k => l_eqNode nk Ap Bp cp cq nf w h k)
   go_wp2_with fail
   go_region_held3 (fun W => W.cell? ⟨ba, oa + n * 2, none⟩ = some (.int .i64 nk) ∧ W.cell? ⟨ba, oa + n * 2 + 1, none⟩ = some (.slice Ap nf.length cp)
     ∧ W.cell? ⟨bb, ob + n * 2, none⟩ = some (.int .i64 nk) ∧ W.cell? ⟨bb, ob + n * 2 + 1, none⟩ = some (.slice Bp nf.length cq))
    (first | exact ⟨e9.cellE h0, e9.cellE h1, e9.cellE g0, e9.cellE g1⟩ | go_keep)
    (first | (go_at_call 60; refine (HC.out _ (hr.ext H0.out) (gr.ext H0.out)).mono ?_; rintro e w2 ⟨rfl, he2⟩; have e9 := H0.out.tr he2))
   all_goals
    go_wp2
    go_roundw
    case rel => exact ⟨n + 1, by omega, by go_num, hext.tr e9⟩
    case measure => simp [intOf]; omega
  ·obtain rfl : n = g.length := by omega
   go_wp2
   go_ret
   exact ⟨rfl, hext⟩

theorem l_eqGraph (A B : Option Addr) (ca cb : Nat) (g : Sg.Graph) (w : World) (h : RdN w A g) (k : RdN w B g) :
  Calls Tryz.prog 8 #[.agg #[.slice A g.length ca], .agg #[.slice B g.length cb]] w fun e w' => e = .returned (.bool true) ∧ Ext w w' := by
 have HE := lh (((Ext.rfl' w).al (.cells #[.slice A g.length ca] 24)).al (.cells #[.slice B g.length cb] 24))
 have HC := lh (fun w h k => l_eqNodeS A B ca cb g w h k)
 go_enter Tryz.func8, Tryz.ntmps8
 go_wp2_with (go_at_call 30; refine (HC.out _ (h.ext HE.out) (k.ext HE.out)).mono ?_; rintro e w2 ⟨rfl, he2⟩)
 go_ret
 exact ⟨rfl, HE.out.tr he2⟩

end Go.Proofs.YtdnlpklmihoapaaGreatDoor

/- The laws' copies of ints and parts: contracts. Conditions: at most 2^20 elements. -/
namespace Go.Proofs.YtdnlpklmihoapaaGreatDoor
open Go.RowKit

end Go.Proofs.YtdnlpklmihoapaaGreatDoor

/- The laws' copies of formulas and nodes: contracts. Conditions: at most 2^20 elements. -/
namespace Go.Proofs.YtdnlpklmihoapaaGreatDoor
open Go.RowKit

end Go.Proofs.YtdnlpklmihoapaaGreatDoor

/- The laws' copies of nodes: contracts. Conditions: at most 2^20 elements. -/
namespace Go.Proofs.YtdnlpklmihoapaaGreatDoor
open Go.RowKit

end Go.Proofs.YtdnlpklmihoapaaGreatDoor

/- The laws' copies of lists of lists: contract. Conditions: at most 2^20 elements. -/
namespace Go.Proofs.YtdnlpklmihoapaaGreatDoor
open Go.RowKit

theorem fill1 (hs : List Value) (k n : Nat) (h : hs.length = k) (hk : k < n) (z x : Value) : (hs ++ List.replicate (n - k) z).set k x = (hs ++ [x]) ++ List.replicate (n - (k + 1)) z := by
 rw [List.set_append_right _ _ (by omega), h, Nat.sub_self, show n - k = (n - (k + 1)) + 1 from by omega, List.replicate_succ, List.set_cons_zero, List.append_assoc]
 rfl

end Go.Proofs.YtdnlpklmihoapaaGreatDoor

/- Zero nodes in memory. Conditions: none. -/
namespace Go.Proofs.YtdnlpklmihoapaaGreatDoor
open Go.RowKit
def zs (m : Nat) : List Value := (List.replicate m [Value.int .i64 0, .slice none 0 0]).flatten
end Go.Proofs.YtdnlpklmihoapaaGreatDoor

/- The laws' copies of lists of nodes: contract. -/
namespace Go.Proofs.YtdnlpklmihoapaaGreatDoor
open Go.RowKit

end Go.Proofs.YtdnlpklmihoapaaGreatDoor

/- The laws' copies of graphs and states: contracts. -/
namespace Go.Proofs.YtdnlpklmihoapaaGreatDoor
open Go.RowKit

end Go.Proofs.YtdnlpklmihoapaaGreatDoor

/- The laws' marks: every number of a value is written anew, one after the other; and held. Contracts. Conditions: bounds on lengths. -/
namespace Go.Proofs.YtdnlpklmihoapaaGreatDoor
open Go.RowKit

set_option maxHeartbeats 1000000 in
theorem l_markIntS {B : Nat} (A : Option Addr) (c : Nat) (l : List Int) (k : Int) (w : World) (h : Own w B 3 1 A l.length c (ints l)) (hk : 0 ≤ k) (hb : k + (l.length : Int) ≤ 1000000000000) :
  Calls Tryz.prog 11 #[.slice A l.length c, .int .i64 k] w fun e w' => e = .returned (.int .i64 (k + (l.length : Int))) ∧ Own w' B 3 1 A l.length c (ints (num k l.length)) ∧ Mod (fun b => blk A = some b) w w' := by
 have H := lh h
 go_enter Tryz.func11, Tryz.ntmps11
 go_wp2
 go_loopw [1, 5] (fun s i wr => ∃ j : Nat, j ≤ l.length ∧ i = .int .i64 j ∧ s = .int .i64 (k + (j : Int)) ∧ Own wr B 3 1 A l.length c (ints (num k j ++ l.drop j)) ∧ Mod (fun b => blk A = some b) w wr) (fun _ i _ => l.length - (intOf i).toNat)
 case atStart => exact ⟨0, Nat.zero_le _, rfl, by simp, by simpa [num] using h, Mod.rfl' _ _⟩
 case round =>
  clear h
  obtain ⟨j, hj, rfl, rfl, hown, hm⟩ := hrel
  by_cases hlt : j < l.length
  ·obtain ⟨g, rfl, hg⟩ := hown.at_ (by omega)
   have hl : l[j]? = some l[j] := List.getElem?_eq_getElem hlt
   have hx : (ints (num k j ++ l.drop j))[j]? = some (.int .i64 l[j]) := by rw [ints_at, List.getElem?_append_right (by simp)]; simp [hl]
   have hc := hown.cell hx
   have hf := hown.free j
   have hgw := (hown.lt (g := g) rfl).2
   have hset : (ints (num k j ++ l.drop j)).set j (.int .i64 (k + (j : Int))) = ints (num k (j + 1) ++ l.drop (j + 1)) := by
    rw [ints_set, set_mid _ _ j l[j] _ (by simp) (by rw [drop_cons l j hl]; simp), num_succ]
    simp
   have Hs := lh hset
   have Ho := lh hown
   have Hm := lh hm
   clear hown hm hset hx hl
   go_wp2
   go_roundw
   case rel => exact ⟨j + 1, by omega, by go_num, by simp only [Value.int.injEq, true_and]; omega, by rw [← Hs.out]; exact Ho.out.st j _, Hm.out.set (p := ⟨g, j, none⟩) (.inl rfl) _⟩
   case measure => simp [intOf]; omega
  ·obtain rfl : j = l.length := by omega
   rw [List.drop_length, List.append_nil] at hown
   have Ho := lh hown
   clear hown
   go_wp2
   go_ret
   exact ⟨rfl, Ho.out, hm⟩

set_option maxHeartbeats 1000000 in
theorem l_heldIntS (A : Option Addr) (c n : Nat) (k : Int) (w : World) (h : Rd w 1 A n (ints (num k n))) (hk : 0 ≤ k) (hb : k + (n : Int) ≤ 1000000000000) :
  Calls Tryz.prog 13 #[.slice A n c, .int .i64 k] w fun e w' => e = .returned (.int .i64 (k + (n : Int))) ∧ w = w' := by
 go_enter Tryz.func13, Tryz.ntmps13
 go_wp2
 go_loop [1, 5] (fun s i => ∃ j : Nat, j ≤ n ∧ i = .int .i64 j ∧ s = .int .i64 (k + (j : Int))) (fun _ i => n - (intOf i).toNat)
 case atStart => exact ⟨0, Nat.zero_le _, rfl, by simp⟩
 case round =>
  obtain ⟨j, hj, rfl, rfl⟩ := hrel
  by_cases hlt : j < n
  ·obtain ⟨b, o, x, rfl, hx, hc⟩ := h.at1 hlt
   rw [num_at k n j hlt] at hx
   injection hx with hx
   subst hx
   have hne : ((k + (j : Int)) != (k + (j : Int))) = false := by simp
   go_wp2
   go_round
   case rel => exact ⟨j + 1, by omega, by go_num, by simp only [Value.int.injEq, true_and]; omega⟩
   case measure => simp [intOf]; omega
  ·obtain rfl : j = n := by omega
   go_wp2
   go_ret
   exact ⟨rfl, rfl⟩

theorem OwnL.upd {w w' : World} {B c : Nat} {A : Option Addr} {ll : List (List Int)} {hs : List (Option Addr × Nat)} (k : OwnL w B A c ll hs) {j : Nat} {l l' : List Int} {h0 : Option Addr × Nat} (hl : ll[j]? = some l) (hh : hs[j]? = some h0) (hn : l'.length = l.length)
  (own' : Own w' B 3 1 h0.1 l'.length h0.2 (ints l')) (m : Mod (fun b => blk h0.1 = some b) w w') : OwnL w' B A c (ll.set j l') hs := by
 have e : (listIts ll).set j ⟨[], l'.length, ints l'⟩ = listIts (ll.set j l') := by simp [listIts, List.map_set]
 unfold OwnL
 rw [← e]
 refine OwnD.upd k hh ?_ own' fun b _ h1 _ => ?_
 ·rw [dcells_same (it' := ⟨[], l'.length, ints l'⟩) (listIts_at hl) rfl hn]
  exact k.out.keep fun g hg => m.block g (k.out.lt hg).2 (fun e => k.dio j h0 hh g hg e)
 ·by_cases hb : b < w.heap.size
  ·exact m.block b hb h1
  ·have := (k.lt ‹fpD A hs b›).2
   omega

end Go.Proofs.YtdnlpklmihoapaaGreatDoor

/- The laws' marks of parts, nodes, graphs, states: contracts. Conditions: bounds on lengths. -/
namespace Go.Proofs.YtdnlpklmihoapaaGreatDoor
open Go.RowKit

theorem parts_mark (f : List Sg.Part) (k : Int) (j : Nat) (hj : j < f.length) :
  ((((((parts (numP k j ++ f.drop j)).set (j * 5) (.int .i64 (k + 5 * (j : Int)))).set (j * 5 + 1) (.int .i64 (k + 5 * (j : Int) + 1))).set (j * 5 + 2) (.int .i64 (k + 5 * (j : Int) + 2))).set (j * 5 + 3) (.int .i64 (k + 5 * (j : Int) + 3))).set (j * 5 + 4) (.int .i64 (k + 5 * (j : Int) + 4))) = parts (numP k (j + 1) ++ f.drop (j + 1)) := by
 have e1 : parts (numP k j ++ f.drop j) = parts (numP k j) ++ (pcs f[j] ++ parts (f.drop (j + 1))) := by
  rw [drop_cons f j (List.getElem?_eq_getElem hj)]; simp only [parts, List.flatMap_append, List.flatMap_cons]
 have e2 : parts (numP k (j + 1) ++ f.drop (j + 1)) = parts (numP k j) ++ (pcs ⟨k + 5 * (j : Int), k + 5 * (j : Int) + 1, k + 5 * (j : Int) + 2, k + 5 * (j : Int) + 3, k + 5 * (j : Int) + 4⟩ ++ parts (f.drop (j + 1))) := by
  rw [numP_succ]; simp [parts]
 have hl : (parts (numP k j)).length = j * 5 := by simp
 rw [e1, e2]
 generalize parts (numP k j) = X at *
 generalize parts (f.drop (j + 1)) = Y
 generalize f[j] = p
 rw [← hl]
 simp [pcs]

set_option maxHeartbeats 2000000 in
theorem l_markPartS {B : Nat} (A : Option Addr) (c : Nat) (f : List Sg.Part) (k : Int) (w : World) (h : Own w B 85 5 A f.length c (parts f)) (hk : 0 ≤ k) (hb : k + 5 * (f.length : Int) ≤ 1000000000000) :
  Calls Tryz.prog 61 #[.slice A f.length c, .int .i64 k] w fun e w' => e = .returned (.int .i64 (k + 5 * (f.length : Int))) ∧ Own w' B 85 5 A f.length c (parts (numP k f.length)) ∧ Mod (fun b => blk A = some b) w w' := by
 have H := lh h
 go_enter Tryz.func61, Tryz.ntmps61
 go_wp2
 go_loopw [1, 5] (fun s i wr => ∃ j : Nat, j ≤ f.length ∧ i = .int .i64 j ∧ s = .int .i64 (k + 5 * (j : Int)) ∧ Own wr B 85 5 A f.length c (parts (numP k j ++ f.drop j)) ∧ Mod (fun b => blk A = some b) w wr) (fun _ i _ => f.length - (intOf i).toNat)
 case atStart => exact ⟨0, Nat.zero_le _, rfl, by simp, by simpa [numP] using h, Mod.rfl' _ _⟩
 case round =>
  clear h
  obtain ⟨j, hj, rfl, rfl, hown, hm⟩ := hrel
  by_cases hlt : j < f.length
  ·obtain ⟨g, rfl, hg⟩ := hown.at_ (by omega)
   have hxs : ∀ i, i < 5 → ∃ u, (parts (numP k j ++ f.drop j))[j * 5 + i]? = some u := fun i hi => ⟨_, List.getElem?_eq_getElem (by simp; omega)⟩
   obtain ⟨u0, e0⟩ := hxs 0 (by omega)
   obtain ⟨u1, e1⟩ := hxs 1 (by omega)
   obtain ⟨u2, e2⟩ := hxs 2 (by omega)
   obtain ⟨u3, e3⟩ := hxs 3 (by omega)
   obtain ⟨u4, e4⟩ := hxs 4 (by omega)
   have r0 := hown.cell e0
   have r1 := hown.cell e1
   have r2 := hown.cell e2
   have r3 := hown.cell e3
   have r4 := hown.cell e4
   rw [Nat.add_zero] at r0
   have q0 := hown.free (j * 5)
   have q1 := hown.free (j * 5 + 1)
   have q2 := hown.free (j * 5 + 2)
   have q3 := hown.free (j * 5 + 3)
   have q4 := hown.free (j * 5 + 4)
   have hgw := (hown.lt (g := g) rfl).2
   have Hs := lh (parts_mark f k j hlt)
   have Ho := lh hown
   have Hm := lh hm
   clear hown hm hxs e0 e1 e2 e3 e4
   go_wp2
   go_roundw
   case rel =>
    refine ⟨j + 1, by omega, by go_num, by simp only [Value.int.injEq, true_and]; omega, ?_, ((((Hm.out.set (p := ⟨g, j * 5, none⟩) (.inl rfl) _).set (p := ⟨g, j * 5 + 1, none⟩) (.inl rfl) _).set (p := ⟨g, j * 5 + 2, none⟩) (.inl rfl) _).set (p := ⟨g, j * 5 + 3, none⟩) (.inl rfl) _).set (p := ⟨g, j * 5 + 4, none⟩) (.inl rfl) _⟩
    rw [← Hs.out]
    have := ((((Ho.out.st (j * 5) (.int .i64 (k + 5 * (j : Int)))).st (j * 5 + 1) (.int .i64 (k + 5 * (j : Int) + 1))).st (j * 5 + 2) (.int .i64 (k + 5 * (j : Int) + 2))).st (j * 5 + 3) (.int .i64 (k + 5 * (j : Int) + 3))).st (j * 5 + 4) (.int .i64 (k + 5 * (j : Int) + 4))
    refine cast ?_ this
    congr 1
    simp only [Int.add_assoc]
    rfl
   case measure => simp [intOf]; omega
  ·obtain rfl : j = f.length := by omega
   rw [List.drop_length, List.append_nil] at hown
   have Ho := lh hown
   clear hown
   go_wp2
   go_ret
   exact ⟨rfl, Ho.out, hm⟩

theorem OwnN.upd {w w1 w' : World} {B c o : Nat} {g : Sg.Graph} {hs : List (Option Addr × Nat)} (k : OwnN w B (some ⟨o, 0, none⟩) c g hs) {j : Nat} {n : Sg.Node} {kd : Int} {f' : List Sg.Part} {h0 : Option Addr × Nat} (hl : g[j]? = some n) (hh : hs[j]? = some h0) (hn : f'.length = n.f.length)
  (hw1 : w1 = w.setCell ⟨o, j * 2, none⟩ (.int .i64 kd)) (own' : Own w' B 85 5 h0.1 f'.length h0.2 (parts f')) (m : Mod (fun b => blk h0.1 = some b) w1 w') : OwnN w' B (some ⟨o, 0, none⟩) c (g.set j ⟨kd, f'⟩) hs := by
 have e : (nodeIts g).set j ⟨[.int .i64 kd], f'.length, parts f'⟩ = nodeIts (g.set j ⟨kd, f'⟩) := by simp [nodeIts, List.map_set]
 have hoo : blk h0.1 ≠ some o := k.dio j h0 hh o rfl
 have hz : w1.heap.size = w.heap.size := by rw [hw1]; simp [World.setCell]
 unfold OwnN
 rw [← e]
 refine OwnD.upd k hh ?_ own' fun b hb h1 h2 => ?_
 ·have h1 := k.out.st (j * 2) (.int .i64 kd)
  rw [← hw1, dcells_pre (it' := ⟨[.int .i64 kd], f'.length, parts f'⟩) (nodeIts_pre g) (List.getElem?_eq_some_iff.1 hh).1 (nodeIts_at hl) rfl rfl hn] at h1
  exact h1.keep fun b hb => by
   simp [blk] at hb
   subst hb
   exact m.block o (h1.lt rfl).2 hoo
 ·have hbw := (k.lt hb).2
  have : w1.heap[b]? = w.heap[b]? := by rw [hw1]; exact Below.heap_setCell _ _ _ _ (fun e => h2 (by simp [blk, e]))
  rw [← this]
  exact m.block b (by omega) h1

set_option maxHeartbeats 2000000 in
theorem l_markNodeS {B : Nat} (A : Option Addr) (c : Nat) (g : Sg.Graph) (hs : List (Option Addr × Nat)) (k : Int) (w : World) (h : OwnN w B A c g hs) (hk : 0 ≤ k) (hb : k + (totN g : Int) ≤ 1000000000000) (hbl : g.length ≤ 1048576) :
  Calls Tryz.prog 31 #[.slice A g.length c, .int .i64 k] w fun e w' => e = .returned (.int .i64 (k + (totN g : Int))) ∧ OwnN w' B A c (numN k g) hs ∧ Mod (fpD A hs) w w' := by
 have H := lh h
 have HM := lh (@l_markPartS B)
 go_enter Tryz.func31, Tryz.ntmps31
 go_wp2
 go_loopw [1, 5] (fun s i wr => ∃ j : Nat, j ≤ g.length ∧ i = .int .i64 j ∧ s = .int .i64 (k + (totN (g.take j) : Int)) ∧ OwnN wr B A c (numN k (g.take j) ++ g.drop j) hs ∧ Mod (fpD A hs) w wr) (fun _ i _ => g.length - (intOf i).toNat)
 case atStart => exact ⟨0, Nat.zero_le _, rfl, by simp [totN], by simpa [numN] using h, Mod.rfl' _ _⟩
 case round =>
  clear h
  obtain ⟨j, hj, rfl, rfl, hown, hm⟩ := hrel
  by_cases hlt : j < g.length
  ·obtain ⟨n, hl⟩ : ∃ n, g[j]? = some n := ⟨_, List.getElem?_eq_getElem hlt⟩
   have hl2 : (numN k (g.take j) ++ g.drop j)[j]? = some n := by rw [List.getElem?_append_right (by simp; omega)]; simp [hl, Nat.min_eq_left hj]
   obtain ⟨h0, hh, hin⟩ := hown.at_ (nodeIts_at hl2)
   obtain ⟨o, rfl, hg⟩ := hown.out.at_ (by simp; omega)
   have hc0 := hown.out.cell (j := j * 2 + 0) (u := .int .i64 n.kind) (by rw [at_dcells (nodeIts_pre _) j 0 (by omega) (nodeIts_at hl2) hh]; rfl)
   have hc1 := hown.out.cell (j := j * 2 + 1) (u := .slice h0.1 n.f.length h0.2) (by rw [at_dcells (nodeIts_pre _) j 1 (by omega) (nodeIts_at hl2) hh]; rfl)
   rw [Nat.add_zero] at hc0
   have hf0 := hown.out.free (j * 2)
   have hgw := (hown.out.lt (g := o) rfl).2
   have htk : totN (g.take (j + 1)) = totN (g.take j) + (1 + 5 * n.f.length) := by rw [take_snoc g j hl, totN_snoc]
   have htl := totN_take_le g (j + 1)
   have hset : (numN k (g.take j) ++ g.drop j).set j ⟨k + (totN (g.take j) : Int), numP (k + (totN (g.take j) : Int) + 1) n.f.length⟩ = numN k (g.take (j + 1)) ++ g.drop (j + 1) := by
    rw [set_mid _ _ j n _ (by simp; omega) (by rw [drop_cons g j hl]; simp), take_snoc g j hl, numN_snoc]
    simp
   have hne : blk h0.1 ≠ some o := hown.dio j h0 hh o rfl
   obtain ⟨t, ht⟩ : ∃ t, t = totN (g.take j) := ⟨_, rfl⟩
   rw [← ht] at htk hset
   rw [htk] at htl
   rw [← ht]
   have Hs := lh hset
   have Ht := lh htk
   have Ho := lh hown
   have Hm := lh hm
   have Hl2 := lh hl2
   have Hh := lh hh
   have Hin := lh hin
   have Hne := lh hne
   have hkt : 0 ≤ k + (t : Int) := by omega
   obtain ⟨nk, nf⟩ := n
   dsimp only at *
   clear hown hm hset hl hl2 hh hin ht htk hne
   go_wp2_with fail
   refine (HM.out h0.1 h0.2 nf (k + (t : Int) + 1) _ (Hin.out.set (p := ⟨o, j * 2, none⟩) Hne.out _) (by omega) (by omega)).mono ?_
   rintro e w1 ⟨rfl, ho1, hm1⟩
   have ho2 := OwnN.upd (kd := k + (t : Int)) (f' := numP (k + (t : Int) + 1) nf.length) Ho.out Hl2.out Hh.out (by simp) rfl (by simpa using ho1) hm1
   rw [Hs.out] at ho2
   have Ho2 := lh ho2
   have Hm1 := lh hm1
   clear ho1 hm1 ho2
   go_wp2
   go_roundw
   case rel => exact ⟨j + 1, by omega, by go_num, by rw [Ht.out]; simp only [Value.int.injEq, true_and]; omega, Ho2.out, (Hm.out.set (p := ⟨o, j * 2, none⟩) (.inl (.inl rfl)) _).tr Hm1.out fun x hx => .inl (.inr ⟨h0, List.mem_of_getElem? Hh.out, hx⟩)⟩
   case measure => simp [intOf]; omega
  ·obtain rfl : j = g.length := by omega
   rw [List.drop_length, List.append_nil, List.take_length] at hown
   have Ho := lh hown
   clear hown
   have e1 : g.take g.length = g := List.take_length
   rw [e1]
   clear e1
   go_wp2
   go_ret
   exact ⟨rfl, Ho.out, hm⟩

theorem l_markGraph {B : Nat} (A : Option Addr) (c : Nat) (g : Sg.Graph) (hs : List (Option Addr × Nat)) (k : Int) (w : World) (h : OwnN w B A c g hs) (hk : 0 ≤ k) (hb : k + (totN g : Int) ≤ 1000000000000) (hbl : g.length ≤ 1048576) :
  Calls Tryz.prog 10 #[.agg #[.slice A g.length c], .int .i64 k] w fun e w' => e = .returned (.int .i64 (k + (totN g : Int))) ∧ OwnN w' B A c (numN k g) hs ∧ Mod (fpD A hs) w w' := by
 have HM := lh (fun w h => l_markNodeS (B := B) A c g hs k w h hk hb hbl)
 go_enter Tryz.func10, Tryz.ntmps10
 go_wp2_with (go_at_call 31; refine (HM.out _ (h.ext ((Ext.rfl' w).al _))).mono ?_; rintro e w1 ⟨rfl, ho1, hm1⟩)
 go_ret
 exact ⟨rfl, ho1, ((Mod.rfl' _ w).al _).tr' hm1⟩

end Go.Proofs.YtdnlpklmihoapaaGreatDoor
