/- Parts of one proof, joined. The reference's cellsOf and CellsOf: contracts. Conditions: bounds on lengths. The reference's meets and MustRun: contracts. Conditions: bounds on lengths. -/
import Derived.Test.YteighpaljdlnaaaTy
import Derived.Test.YteighpaljdlnaaaLawAll
import Derived.Test.YteighpaljdlnaaaModelsA
import Derived.Test.YteighpaljdlnaaaSpecThree
/- The reference's cellsOf and CellsOf: contracts. Conditions: bounds on lengths. -/
namespace Go.Proofs.Yteighpaljdlnaaa
open Go.RowKit

end Go.Proofs.Yteighpaljdlnaaa

/- The reference's meets and MustRun: contracts. Conditions: bounds on lengths. -/
namespace Go.Proofs.Yteighpaljdlnaaa
open Go.RowKit

end Go.Proofs.Yteighpaljdlnaaa
