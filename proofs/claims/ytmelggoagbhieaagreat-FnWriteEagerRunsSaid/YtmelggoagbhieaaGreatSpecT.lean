/- The reference's cellsOf and CellsOf: contracts. Conditions: bounds on lengths. -/
import Derived.Test.YtmelggoagbhieaaGreatLawOne
import Derived.Test.YtmelggoagbhieaaGreatModelsA
namespace Go.Proofs.YtmelggoagbhieaaGreat
open Go.RowKit

end Go.Proofs.YtmelggoagbhieaaGreat
