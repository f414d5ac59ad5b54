/- Graphs and lists of lists in memory. Conditions: none. -/
import Derived.Test.YtkkegmimofmhpaaBase
import Derived.Test.YtkkegmimofmhpaaModelG
namespace Go.Proofs.Ytkkegmimofmhpaa
open Go.RowKit

theorem blt {w : World} {b o : Nat} {u : Value} (h : w.cell? ⟨b, o, none⟩ = some u) : b < w.heap.size := World.block_lt_of_cell? w ⟨b, o, none⟩ h

/-- nodes in memory -/
def RdN (w : World) (A : Option Addr) (g : Sg.Graph) : Prop :=
  g.length ≤ 1048576 ∧ ∀ (i : Nat) (n : Sg.Node), g[i]? = some n → ∃ b o Ap cp, A = some ⟨b, o, none⟩ ∧ w.cell? ⟨b, o + i * 2, none⟩ = some (.int .i64 n.kind) ∧
    w.cell? ⟨b, o + i * 2 + 1, none⟩ = some (.slice Ap n.f.length cp) ∧ Rd w 5 Ap n.f.length (parts n.f) ∧ n.f.length ≤ 1048576
theorem RdN.ext {w w' : World} {A : Option Addr} {g : Sg.Graph} (h : RdN w A g) (e : Ext w w') : RdN w' A g :=
  ⟨h.1, fun i n hn => let ⟨b, o, Ap, cp, ha, h1, h2, h3, h4⟩ := h.2 i n hn; ⟨b, o, Ap, cp, ha, e.cellE h1, e.cellE h2, h3.ext e, h4⟩⟩
theorem RdN.at_ {w : World} {A : Option Addr} {g : Sg.Graph} (h : RdN w A g) {i : Nat} (hi : i < g.length) : ∃ n b o Ap cp, g[i]? = some n ∧ A = some ⟨b, o, none⟩ ∧ w.cell? ⟨b, o + i * 2, none⟩ = some (.int .i64 n.kind) ∧
    w.cell? ⟨b, o + i * 2 + 1, none⟩ = some (.slice Ap n.f.length cp) ∧ Rd w 5 Ap n.f.length (parts n.f) ∧ n.f.length ≤ 1048576 := by
  have hx : g[i]? = some g[i] := List.getElem?_eq_getElem hi
  obtain ⟨b, o, Ap, cp, r⟩ := h.2 i _ hx
  exact ⟨_, b, o, Ap, cp, hx, r⟩

/-- lists of numbers in memory -/
def RdL (w : World) (A : Option Addr) (ll : List (List Int)) : Prop :=
  ll.length ≤ 1048576 ∧ ∀ (i : Nat) (l : List Int), ll[i]? = some l → ∃ b o Al cl, A = some ⟨b, o, none⟩ ∧ w.cell? ⟨b, o + i, none⟩ = some (.slice Al l.length cl) ∧ Rd w 1 Al l.length (ints l) ∧ l.length ≤ 1048576
theorem RdL.ext {w w' : World} {A : Option Addr} {ll : List (List Int)} (h : RdL w A ll) (e : Ext w w') : RdL w' A ll :=
  ⟨h.1, fun i l hl => let ⟨b, o, Al, cl, ha, h1, h2, h3⟩ := h.2 i l hl; ⟨b, o, Al, cl, ha, e.cellE h1, h2.ext e, h3⟩⟩
theorem RdL.at_ {w : World} {A : Option Addr} {ll : List (List Int)} (h : RdL w A ll) {i : Nat} (hi : i < ll.length) : ∃ l b o Al cl, ll[i]? = some l ∧ A = some ⟨b, o, none⟩ ∧ w.cell? ⟨b, o + i, none⟩ = some (.slice Al l.length cl) ∧ Rd w 1 Al l.length (ints l) ∧ l.length ≤ 1048576 := by
  have hx : ll[i]? = some ll[i] := List.getElem?_eq_getElem hi
  obtain ⟨b, o, Al, cl, r⟩ := h.2 i _ hx
  exact ⟨_, b, o, Al, cl, hx, r⟩
end Go.Proofs.Ytkkegmimofmhpaa
