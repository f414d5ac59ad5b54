/- Parts of one proof, joined. The program's ValidEager: its contract. Conditions: bounds on lengths. The program's ValidEager: its contract. Conditions: bounds on lengths. -/
import Derived.Test.YtdnlpklmihoapaaDoorTy
import Derived.Test.YtdnlpklmihoapaaDoorImplThree
import Derived.Test.YtdnlpklmihoapaaDoorImplTwo
import Derived.Test.YtdnlpklmihoapaaDoorSpecTwo
import Derived.Deep.QuietTactic
import Derived.BigQuiet
/- The program's ValidEager: its contract. Conditions: bounds on lengths. -/
namespace Go.Proofs.YtdnlpklmihoapaaDoor
open Go.RowKit

end Go.Proofs.YtdnlpklmihoapaaDoor

/- The program's ValidEager: its contract. Conditions: bounds on lengths. -/
namespace Go.Proofs.YtdnlpklmihoapaaDoor
open Go.RowKit

end Go.Proofs.YtdnlpklmihoapaaDoor
