/- Parts of one proof, joined. The reference's cellsOf and CellsOf: contracts. Conditions: bounds on lengths. The reference's meets and MustRun: contracts. Conditions: bounds on lengths. -/
import Derived.Test.YteighpaljdlnaaaGreatTy
import Derived.Test.YteighpaljdlnaaaGreatLawAll
import Derived.Test.YteighpaljdlnaaaGreatModelsA
import Derived.Test.YteighpaljdlnaaaGreatSpecThree
/- The reference's cellsOf and CellsOf: contracts. Conditions: bounds on lengths. -/
namespace Go.Proofs.YteighpaljdlnaaaGreat
open Go.RowKit

end Go.Proofs.YteighpaljdlnaaaGreat

/- The reference's meets and MustRun: contracts. Conditions: bounds on lengths. -/
namespace Go.Proofs.YteighpaljdlnaaaGreat
open Go.RowKit

end Go.Proofs.YteighpaljdlnaaaGreat
