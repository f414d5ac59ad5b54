/- The program's which, for any function value that answers: its contract. Conditions: bounds on lengths. -/
import Derived.Test.YtdnlpklmihoapaaDoorImplTwo
import Derived.Test.YtdnlpklmihoapaaDoorModelsA
namespace Go.Proofs.YtdnlpklmihoapaaDoor
open Go.RowKit

end Go.Proofs.YtdnlpklmihoapaaDoor
