/- Parts of one proof, joined. The laws' comparisons of lists and states at equal contents: contracts, and more. Conditions: in the theorems. -/
import Derived.Deep.QuietTactic
import Derived.BigQuiet
import Derived.Deep.RegionHeld3
import Derived.IntWalk
import Derived.Test.YthibllkleakiiaaGreatDoorSpecOne
namespace Go.Proofs.YthibllkleakiiaaGreatDoor
open Go.RowKit
end Go.Proofs.YthibllkleakiiaaGreatDoor
