/- The reference's meets and MustRun: contracts. Conditions: bounds on lengths. -/
import Derived.Test.YtkbihkggneaeeaaSpecThree
import Derived.Test.YtkbihkggneaeeaaModelW
namespace Go.Proofs.Ytkbihkggneaeeaa
open Go.RowKit

end Go.Proofs.Ytkbihkggneaeeaa
