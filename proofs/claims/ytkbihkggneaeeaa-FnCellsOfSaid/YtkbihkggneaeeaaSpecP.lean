/- The reference's MustRun: its contract. Conditions: bounds on lengths. -/
import Derived.Test.YtkbihkggneaeeaaSpecO
namespace Go.Proofs.Ytkbihkggneaeeaa
open Go.RowKit

end Go.Proofs.Ytkbihkggneaeeaa
