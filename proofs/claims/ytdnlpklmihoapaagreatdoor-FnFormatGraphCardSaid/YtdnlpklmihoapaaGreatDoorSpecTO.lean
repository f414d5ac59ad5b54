/- Parts of one proof, joined. The reference's cellsOf and CellsOf: contracts. Conditions: bounds on lengths. The reference's meets and MustRun: contracts. Conditions: bounds on lengths. -/
import Derived.Test.YtdnlpklmihoapaaGreatDoorTy
import Derived.Test.YtdnlpklmihoapaaGreatDoorLawAll
import Derived.Test.YtdnlpklmihoapaaGreatDoorModelsA
import Derived.Test.YtdnlpklmihoapaaGreatDoorSpecThree
/- The reference's cellsOf and CellsOf: contracts. Conditions: bounds on lengths. -/
namespace Go.Proofs.YtdnlpklmihoapaaGreatDoor
open Go.RowKit

end Go.Proofs.YtdnlpklmihoapaaGreatDoor

/- The reference's meets and MustRun: contracts. Conditions: bounds on lengths. -/
namespace Go.Proofs.YtdnlpklmihoapaaGreatDoor
open Go.RowKit

end Go.Proofs.YtdnlpklmihoapaaGreatDoor
