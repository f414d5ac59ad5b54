/- Lists of lists in memory, with their room. Conditions: none. -/
import Derived.Test.YtjogmblilagohaaGreatCore
namespace Go.Proofs.YtjogmblilagohaaGreat
open Go.RowKit

/-- lists of numbers in memory, with room that is told -/
def RdLC (w : World) (A : Option Addr) (ll : List (List Int)) : Prop :=
  ll.length ≤ 1048576 ∧ ∀ (i : Nat) (l : List Int), ll[i]? = some l → ∃ b o Al cl, A = some ⟨b, o, none⟩ ∧ w.cell? ⟨b, o + i, none⟩ = some (.slice Al l.length cl) ∧ Rd w 1 Al l.length (ints l) ∧ l.length ≤ 1048576 ∧ l.length ≤ cl ∧ cl ≤ maxLen
theorem RdLC.ext {w w' : World} {A : Option Addr} {ll : List (List Int)} (h : RdLC w A ll) (e : Ext w w') : RdLC w' A ll :=
  ⟨h.1, fun i l hl => let ⟨b, o, Al, cl, ha, h1, h2, h3, h4⟩ := h.2 i l hl; ⟨b, o, Al, cl, ha, e.cellE h1, h2.ext e, h3, h4⟩⟩
theorem RdLC.rdL {w : World} {A : Option Addr} {ll : List (List Int)} (h : RdLC w A ll) : RdL w A ll :=
  ⟨h.1, fun i l hl => let ⟨b, o, Al, cl, ha, h1, h2, h3, _⟩ := h.2 i l hl; ⟨b, o, Al, cl, ha, h1, h2, h3⟩⟩
theorem RdLC.at_ {w : World} {A : Option Addr} {ll : List (List Int)} (h : RdLC w A ll) {i : Nat} (hi : i < ll.length) : ∃ l b o Al cl, ll[i]? = some l ∧ A = some ⟨b, o, none⟩ ∧ w.cell? ⟨b, o + i, none⟩ = some (.slice Al l.length cl) ∧ Rd w 1 Al l.length (ints l) ∧ l.length ≤ 1048576 ∧ l.length ≤ cl ∧ cl ≤ maxLen := by
  have hx : ll[i]? = some ll[i] := List.getElem?_eq_getElem hi
  obtain ⟨b, o, Al, cl, r⟩ := h.2 i _ hx
  exact ⟨_, b, o, Al, cl, hx, r⟩
end Go.Proofs.YtjogmblilagohaaGreat
