/- Parts of one proof, joined. The program's ValidEager: its contract. Conditions: bounds on lengths. The program's ValidEager: its contract. Conditions: bounds on lengths. -/
import Derived.Test.YtgojnefiephafaaGreatImplThree
import Derived.Deep.QuietTactic
import Derived.BigQuiet
namespace Go.Proofs.YtgojnefiephafaaGreat
open Go.RowKit
end Go.Proofs.YtgojnefiephafaaGreat
namespace Go.Proofs.YtgojnefiephafaaGreat
open Go.RowKit
end Go.Proofs.YtgojnefiephafaaGreat
