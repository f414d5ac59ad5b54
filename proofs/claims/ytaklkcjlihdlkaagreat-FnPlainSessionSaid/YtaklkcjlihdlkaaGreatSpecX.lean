/- The reference's goodWrites: its contract. Conditions: bounds on lengths. -/
import Derived.Test.YtaklkcjlihdlkaaGreatTy
import Derived.Test.YtaklkcjlihdlkaaGreatCellA
import Derived.Deep.QuietTactic
import Derived.BigQuiet
namespace Sg
def goodW (g : Graph) (nodes values : List Int) : Bool := decide (nodes.length = values.length) && decide (nodes.length ≤ 10) && inR999 values && cellsDiffer g nodes
theorem goodW_same {g : Graph} (hG : g.length ≤ 10) (nodes values : List Int) : goodW g nodes values = (cellsDiffer g nodes && decide (nodes.length = values.length) && inR999 values) := by
 unfold goodW
 cases hc : cellsDiffer g nodes
 ·simp
 ·have := cellsDiffer_len hc
  have h10 : decide (nodes.length ≤ 10) = true := by simp; omega
  rw [h10]; simp
end Sg
namespace Go.Proofs.YtaklkcjlihdlkaaGreat
open Go.RowKit
theorem s_placeE (A : Option Addr) (len c : Nat) (l : List Int) (n p : Int) (w : World) (h : Rd w 1 A len (ints l)) (hp : p = placeIn l n) :
  Calls Tryz.prog 99 #[.slice A len c, .int .i64 n] w fun e w' => e = .returned (.int .i64 p) ∧ Ext w w' := by
 subst hp
 exact (s_placeIn A len c l n w h).mono fun e w' hh => ⟨hh.1, by have := hh.2; subst this; exact Ext.rfl' _⟩

end Go.Proofs.YtaklkcjlihdlkaaGreat
