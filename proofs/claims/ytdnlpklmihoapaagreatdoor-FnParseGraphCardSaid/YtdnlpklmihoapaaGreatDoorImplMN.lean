/- Parts of one proof, joined. The program's ValidEager: its contract. Conditions: bounds on lengths. The program's ValidEager: its contract. Conditions: bounds on lengths. -/
import Derived.Test.YtdnlpklmihoapaaGreatDoorTy
import Derived.Test.YtdnlpklmihoapaaGreatDoorImplThree
import Derived.Test.YtdnlpklmihoapaaGreatDoorImplTwo
import Derived.Test.YtdnlpklmihoapaaGreatDoorSpecTwo
import Derived.Deep.QuietTactic
import Derived.BigQuiet
/- The program's ValidEager: its contract. Conditions: bounds on lengths. -/
namespace Go.Proofs.YtdnlpklmihoapaaGreatDoor
open Go.RowKit

end Go.Proofs.YtdnlpklmihoapaaGreatDoor

/- The program's ValidEager: its contract. Conditions: bounds on lengths. -/
namespace Go.Proofs.YtdnlpklmihoapaaGreatDoor
open Go.RowKit

end Go.Proofs.YtdnlpklmihoapaaGreatDoor
