/- The program's which, for any function value that answers: its contract. Conditions: bounds on lengths. -/
import Derived.Test.YtdnlpklmihoapaaGreatDoorImplTwo
import Derived.Test.YtdnlpklmihoapaaGreatDoorModelsA
namespace Go.Proofs.YtdnlpklmihoapaaGreatDoor
open Go.RowKit

end Go.Proofs.YtdnlpklmihoapaaGreatDoor
