/- Parts of one proof, joined. The laws' sizes: contracts. Conditions: the purse is a natural number of at most 2^20. The laws' sizes of formulas, nodes, graphs, lists: contracts. Conditions: the purse is a natural number of at most 2^20. The laws' sizes of graphs and states; the reference's ValidEager: contracts. The laws' comparisons of ints, parts, formulas at equal contents: contracts. The laws' comparisons of nodes, graphs, lists, states at equal contents: contracts. -/
import Derived.Test.YtmelggoagbhieaaGreatCore
import Derived.Test.YtmelggoagbhieaaGreatSpecTwo
import Derived.Deep.QuietTactic
import Derived.BigQuiet
import Derived.Deep.RegionHeld3
/- The laws' sizes: contracts. Conditions: the purse is a natural number of at most 2^20. -/
namespace Sg
end Sg
namespace Go.Proofs.YtmelggoagbhieaaGreat
open Go.RowKit

/-- nodes in memory, of any number -/
def RdN0 (w : World) (A : Option Addr) (g : Sg.Graph) : Prop :=
  g.length ≤ maxLen ∧ ∀ (i : Nat) (n : Sg.Node), g[i]? = some n → ∃ b o Ap cp, A = some ⟨b, o, none⟩ ∧ w.cell? ⟨b, o + i * 2, none⟩ = some (.int .i64 n.kind) ∧
    w.cell? ⟨b, o + i * 2 + 1, none⟩ = some (.slice Ap n.f.length cp) ∧ Rd w 5 Ap n.f.length (parts n.f)
theorem RdN0.ext {w w' : World} {A : Option Addr} {g : Sg.Graph} (h : RdN0 w A g) (e : Ext w w') : RdN0 w' A g :=
  ⟨h.1, fun i n hn => let ⟨b, o, Ap, cp, ha, h1, h2, h3⟩ := h.2 i n hn; ⟨b, o, Ap, cp, ha, e.cellE h1, e.cellE h2, h3.ext e⟩⟩
theorem RdN0.at_ {w : World} {A : Option Addr} {g : Sg.Graph} (h : RdN0 w A g) {i : Nat} (hi : i < g.length) : ∃ n b o Ap cp, g[i]? = some n ∧ A = some ⟨b, o, none⟩ ∧ w.cell? ⟨b, o + i * 2, none⟩ = some (.int .i64 n.kind) ∧
    w.cell? ⟨b, o + i * 2 + 1, none⟩ = some (.slice Ap n.f.length cp) ∧ Rd w 5 Ap n.f.length (parts n.f) := by
  have hx : g[i]? = some g[i] := List.getElem?_eq_getElem hi
  obtain ⟨b, o, Ap, cp, r⟩ := h.2 i _ hx
  exact ⟨_, b, o, Ap, cp, hx, r⟩
/-- lists of numbers in memory, of any number -/
def RdL0 (w : World) (A : Option Addr) (ll : List (List Int)) : Prop :=
  ll.length ≤ maxLen ∧ ∀ (i : Nat) (l : List Int), ll[i]? = some l → ∃ b o Al cl, A = some ⟨b, o, none⟩ ∧ w.cell? ⟨b, o + i, none⟩ = some (.slice Al l.length cl) ∧ Rd w 1 Al l.length (ints l)
theorem RdL0.ext {w w' : World} {A : Option Addr} {ll : List (List Int)} (h : RdL0 w A ll) (e : Ext w w') : RdL0 w' A ll :=
  ⟨h.1, fun i l hl => let ⟨b, o, Al, cl, ha, h1, h2⟩ := h.2 i l hl; ⟨b, o, Al, cl, ha, e.cellE h1, h2.ext e⟩⟩
theorem RdL0.at_ {w : World} {A : Option Addr} {ll : List (List Int)} (h : RdL0 w A ll) {i : Nat} (hi : i < ll.length) : ∃ l b o Al cl, ll[i]? = some l ∧ A = some ⟨b, o, none⟩ ∧ w.cell? ⟨b, o + i, none⟩ = some (.slice Al l.length cl) ∧ Rd w 1 Al l.length (ints l) := by
  have hx : ll[i]? = some ll[i] := List.getElem?_eq_getElem hi
  obtain ⟨b, o, Al, cl, r⟩ := h.2 i _ hx
  exact ⟨_, b, o, Al, cl, hx, r⟩

end Go.Proofs.YtmelggoagbhieaaGreat

/- The laws' sizes of formulas, nodes, graphs, lists: contracts. Conditions: the purse is a natural number of at most 2^20. -/
namespace Go.Proofs.YtmelggoagbhieaaGreat
open Go.RowKit

end Go.Proofs.YtmelggoagbhieaaGreat


/- The laws' sizes of graphs and states; the reference's ValidEager: contracts. -/
namespace Sg
end Sg
namespace Go.Proofs.YtmelggoagbhieaaGreat
open Go.RowKit

end Go.Proofs.YtmelggoagbhieaaGreat

/- The laws' comparisons of ints, parts, formulas at equal contents: contracts. -/
namespace Go.Proofs.YtmelggoagbhieaaGreat
open Go.RowKit

end Go.Proofs.YtmelggoagbhieaaGreat

/- The laws' comparisons of nodes, graphs, lists, states at equal contents: contracts. -/
namespace Go.Proofs.YtmelggoagbhieaaGreat
open Go.RowKit

end Go.Proofs.YtmelggoagbhieaaGreat
