/- Parts of one proof, joined. The laws' sizes: contracts. Conditions: the purse is a natural number of at most 2^20. The laws' sizes of formulas, nodes, graphs, lists: contracts. Conditions: the purse is a natural number of at most 2^20. The laws' sizes of graphs and states; the reference's ValidEager: contracts. The laws' comparisons of ints, parts, formulas at equal contents: contracts. The laws' comparisons of nodes, graphs, lists, states at equal contents: contracts. -/
import Derived.Test.YtkbihkggneaeeaaCore
import Derived.Test.YtkbihkggneaeeaaSpecTwo
import Derived.Deep.QuietTactic
import Derived.BigQuiet
import Derived.Deep.RegionHeld3
/- The laws' sizes: contracts. Conditions: the purse is a natural number of at most 2^20. -/
namespace Sg
def szI (n L : Nat) : Int := if L < n then -1 else ((L - n : Nat) : Int)
def szFrom : List Nat → Nat → Int
  | [], L => L
  | n :: r, L => if L < n then -1 else szFrom r (L - n)
def szL (ns : List Nat) (L : Nat) : Int := if L < ns.length then -1 else szFrom ns (L - ns.length)
theorem szFrom_ok : ∀ (ns : List Nat) (L : Nat), 0 ≤ szFrom ns L → (∀ n ∈ ns, n ≤ L) ∧ ∃ M : Nat, M ≤ L ∧ szFrom ns L = M
  | [], L, _ => ⟨fun n hn => (by cases hn), L, Nat.le_refl _, rfl⟩
  | n :: r, L, h => by
    unfold szFrom at h ⊢
    split at h
    · omega
    · rename_i hl
      rw [if_neg hl]
      obtain ⟨h1, M, h2, h3⟩ := szFrom_ok r (L - n) h
      refine ⟨fun m hm => ?_, M, by omega, h3⟩
      rcases List.mem_cons.1 hm with rfl | hm
      · omega
      · have := h1 m hm; omega
theorem szL_ok (ns : List Nat) (L : Nat) (h : 0 ≤ szL ns L) : ns.length ≤ L ∧ (∀ n ∈ ns, n ≤ L) ∧ ∃ M : Nat, M ≤ L ∧ szL ns L = M := by
  unfold szL at h ⊢
  split at h
  · omega
  · rename_i hl
    rw [if_neg hl]
    obtain ⟨h1, M, h2, h3⟩ := szFrom_ok ns _ h
    exact ⟨by omega, fun n hn => by have := h1 n hn; omega, M, by omega, h3⟩
end Sg
namespace Go.Proofs.Ytkbihkggneaeeaa
open Go.RowKit

/-- nodes in memory, of any number -/
def RdN0 (w : World) (A : Option Addr) (g : Sg.Graph) : Prop :=
  g.length ≤ maxLen ∧ ∀ (i : Nat) (n : Sg.Node), g[i]? = some n → ∃ b o Ap cp, A = some ⟨b, o, none⟩ ∧ w.cell? ⟨b, o + i * 2, none⟩ = some (.int .i64 n.kind) ∧
    w.cell? ⟨b, o + i * 2 + 1, none⟩ = some (.slice Ap n.f.length cp) ∧ Rd w 5 Ap n.f.length (parts n.f)
theorem RdN0.ext {w w' : World} {A : Option Addr} {g : Sg.Graph} (h : RdN0 w A g) (e : Ext w w') : RdN0 w' A g :=
  ⟨h.1, fun i n hn => let ⟨b, o, Ap, cp, ha, h1, h2, h3⟩ := h.2 i n hn; ⟨b, o, Ap, cp, ha, e.cellE h1, e.cellE h2, h3.ext e⟩⟩
theorem RdN0.at_ {w : World} {A : Option Addr} {g : Sg.Graph} (h : RdN0 w A g) {i : Nat} (hi : i < g.length) : ∃ n b o Ap cp, g[i]? = some n ∧ A = some ⟨b, o, none⟩ ∧ w.cell? ⟨b, o + i * 2, none⟩ = some (.int .i64 n.kind) ∧
    w.cell? ⟨b, o + i * 2 + 1, none⟩ = some (.slice Ap n.f.length cp) ∧ Rd w 5 Ap n.f.length (parts n.f) := by
  have hx : g[i]? = some g[i] := List.getElem?_eq_getElem hi
  obtain ⟨b, o, Ap, cp, r⟩ := h.2 i _ hx
  exact ⟨_, b, o, Ap, cp, hx, r⟩
/-- lists of numbers in memory, of any number -/
def RdL0 (w : World) (A : Option Addr) (ll : List (List Int)) : Prop :=
  ll.length ≤ maxLen ∧ ∀ (i : Nat) (l : List Int), ll[i]? = some l → ∃ b o Al cl, A = some ⟨b, o, none⟩ ∧ w.cell? ⟨b, o + i, none⟩ = some (.slice Al l.length cl) ∧ Rd w 1 Al l.length (ints l)
theorem RdL0.ext {w w' : World} {A : Option Addr} {ll : List (List Int)} (h : RdL0 w A ll) (e : Ext w w') : RdL0 w' A ll :=
  ⟨h.1, fun i l hl => let ⟨b, o, Al, cl, ha, h1, h2⟩ := h.2 i l hl; ⟨b, o, Al, cl, ha, e.cellE h1, h2.ext e⟩⟩
theorem RdL0.at_ {w : World} {A : Option Addr} {ll : List (List Int)} (h : RdL0 w A ll) {i : Nat} (hi : i < ll.length) : ∃ l b o Al cl, ll[i]? = some l ∧ A = some ⟨b, o, none⟩ ∧ w.cell? ⟨b, o + i, none⟩ = some (.slice Al l.length cl) ∧ Rd w 1 Al l.length (ints l) := by
  have hx : ll[i]? = some ll[i] := List.getElem?_eq_getElem hi
  obtain ⟨b, o, Al, cl, r⟩ := h.2 i _ hx
  exact ⟨_, b, o, Al, cl, hx, r⟩

theorem RdN.to0 {w : World} {A : Option Addr} {g : Sg.Graph} (h : RdN w A g) : RdN0 w A g :=
  ⟨by have := h.1; unfold maxLen; omega, fun i n hn => let ⟨b, o, Ap, cp, ha, h1, h2, h3, _⟩ := h.2 i n hn; ⟨b, o, Ap, cp, ha, h1, h2, h3⟩⟩
theorem RdL.to0 {w : World} {A : Option Addr} {ll : List (List Int)} (h : RdL w A ll) : RdL0 w A ll :=
  ⟨by have := h.1; unfold maxLen; omega, fun i l hi => let ⟨b, o, Al, cl, ha, h1, h2, _⟩ := h.2 i l hi; ⟨b, o, Al, cl, ha, h1, h2⟩⟩

end Go.Proofs.Ytkbihkggneaeeaa

/- The laws' sizes of formulas, nodes, graphs, lists: contracts. Conditions: the purse is a natural number of at most 2^20. -/
namespace Go.Proofs.Ytkbihkggneaeeaa
open Go.RowKit

end Go.Proofs.Ytkbihkggneaeeaa


/- The laws' sizes of graphs and states; the reference's ValidEager: contracts. -/
namespace Sg
theorem szFrom_neg : ∀ (ns : List Nat) (L : Nat), szFrom ns L = -1 ∨ 0 ≤ szFrom ns L
  | [], L => .inr (by simp [szFrom])
  | n :: r, L => by
    simp only [szFrom]
    split
    · exact .inl rfl
    · exact szFrom_neg r _
theorem szL_neg (ns : List Nat) (L : Nat) : szL ns L = -1 ∨ 0 ≤ szL ns L := by
  unfold szL
  split
  · exact .inl rfl
  · exact szFrom_neg _ _
def szE (v : List Int) (r : List (List Int)) (L : Nat) : Int := if L < v.length then -1 else szL (r.map List.length) (L - v.length)
end Sg
namespace Go.Proofs.Ytkbihkggneaeeaa
open Go.RowKit

theorem s_ValidEager (A Av Ar : Option Addr) (c cv cr : Nat) (g : Sg.Graph) (v : List Int) (r : List (List Int)) (w : World) (h : RdN w A g) (hv : Rd w 1 Av v.length (ints v)) (hr : RdL w Ar r) (hvl : v.length ≤ 1048576) :
    Calls Try.prog 25 #[.agg #[.slice A g.length c], .agg #[.slice Av v.length cv, .slice Ar r.length cr]] w fun e w' => e = .returned (.bool (Sg.validE g ⟨v, r⟩)) ∧ Ext w w' := by
  have HC := Lib.hid (fun w h hv hr => s_validEager A Av Ar c cv cr g v r w h hv hr hvl)
  have e0 := ((Ext.rfl' w).al (.cells #[.slice A g.length c] 25)).al (.cells #[.slice Av v.length cv, .slice Ar r.length cr] 31)
  have HE := Lib.hid e0
  clear e0
  go_enter Try.func25, Try.ntmps25
  go_wp2_with (go_at_call 58; refine (HC.out _ (h.ext HE.out) (hv.ext HE.out) (hr.ext HE.out)).mono ?_; rintro e w1 ⟨rfl, he1⟩)
  go_ret
  exact ⟨rfl, HE.out.tr he1⟩
end Go.Proofs.Ytkbihkggneaeeaa

/- The laws' comparisons of ints, parts, formulas at equal contents: contracts. -/
namespace Go.Proofs.Ytkbihkggneaeeaa
open Go.RowKit

end Go.Proofs.Ytkbihkggneaeeaa

/- The laws' comparisons of nodes, graphs, lists, states at equal contents: contracts. -/
namespace Go.Proofs.Ytkbihkggneaeeaa
open Go.RowKit

end Go.Proofs.Ytkbihkggneaeeaa
