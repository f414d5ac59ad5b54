/- The reference's cellsOf and CellsOf: contracts. Conditions: bounds on lengths. -/
import Derived.Test.YtjogmblilagohaaGreatLawOne
import Derived.Test.YtjogmblilagohaaGreatModelsA
namespace Go.Proofs.YtjogmblilagohaaGreat
open Go.RowKit

end Go.Proofs.YtjogmblilagohaaGreat
