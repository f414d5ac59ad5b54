/- Parts of one proof, joined. The laws' copies of ints and parts: contracts. Conditions: at most 2^20 elements. The laws' copies of formulas and nodes: contracts. Conditions: at most 2^20 elements. The laws' copies of nodes: contracts. Conditions: at most 2^20 elements. The laws' copies of lists of lists: contract. Conditions: at most 2^20 elements. Zero nodes in memory. Conditions: none. The laws' copies of lists of nodes: contract. The laws' copies of graphs and states: contracts. -/
import Derived.Test.YtmelggoagbhieaaGreatCore
import Derived.Handy
/- The laws' copies of ints and parts: contracts. Conditions: at most 2^20 elements. -/
namespace Go.Proofs.YtmelggoagbhieaaGreat
open Go.RowKit

end Go.Proofs.YtmelggoagbhieaaGreat

/- The laws' copies of formulas and nodes: contracts. Conditions: at most 2^20 elements. -/
namespace Go.Proofs.YtmelggoagbhieaaGreat
open Go.RowKit

end Go.Proofs.YtmelggoagbhieaaGreat

/- The laws' copies of nodes: contracts. Conditions: at most 2^20 elements. -/
namespace Go.Proofs.YtmelggoagbhieaaGreat
open Go.RowKit

end Go.Proofs.YtmelggoagbhieaaGreat

/- The laws' copies of lists of lists: contract. Conditions: at most 2^20 elements. -/
namespace Go.Proofs.YtmelggoagbhieaaGreat
open Go.RowKit

theorem fill1 (hs : List Value) (k n : Nat) (h : hs.length = k) (hk : k < n) (z x : Value) : (hs ++ List.replicate (n - k) z).set k x = (hs ++ [x]) ++ List.replicate (n - (k + 1)) z := by
  rw [List.set_append_right _ _ (by omega), h, Nat.sub_self, show n - k = (n - (k + 1)) + 1 from by omega, List.replicate_succ, List.set_cons_zero, List.append_assoc]
  rfl

end Go.Proofs.YtmelggoagbhieaaGreat

/- Zero nodes in memory. Conditions: none. -/
namespace Go.Proofs.YtmelggoagbhieaaGreat
open Go.RowKit
end Go.Proofs.YtmelggoagbhieaaGreat

/- The laws' copies of lists of nodes: contract. -/
namespace Go.Proofs.YtmelggoagbhieaaGreat
open Go.RowKit

end Go.Proofs.YtmelggoagbhieaaGreat

/- The laws' copies of graphs and states: contracts. -/
namespace Go.Proofs.YtmelggoagbhieaaGreat
open Go.RowKit

end Go.Proofs.YtmelggoagbhieaaGreat
