/- Parts of one proof, joined. The reference's cellsOf and CellsOf: contracts. Conditions: bounds on lengths. The reference's meets and MustRun: contracts. Conditions: bounds on lengths. -/
import Derived.Test.YtaklkcjlihdlkaaTy
import Derived.Test.YtaklkcjlihdlkaaLawAll
import Derived.Test.YtaklkcjlihdlkaaModelsA
import Derived.Test.YtaklkcjlihdlkaaSpecThree
/- The reference's cellsOf and CellsOf: contracts. Conditions: bounds on lengths. -/
namespace Go.Proofs.Ytaklkcjlihdlkaa
open Go.RowKit

end Go.Proofs.Ytaklkcjlihdlkaa

/- The reference's meets and MustRun: contracts. Conditions: bounds on lengths. -/
namespace Go.Proofs.Ytaklkcjlihdlkaa
open Go.RowKit

end Go.Proofs.Ytaklkcjlihdlkaa
