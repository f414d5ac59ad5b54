/- Parts of one proof, joined. The program's ValidEager: its contract. Conditions: bounds on lengths. The program's ValidEager: its contract. Conditions: bounds on lengths. -/
import Derived.Test.YteighpaljdlnaaaTy
import Derived.Test.YteighpaljdlnaaaImplThree
import Derived.Test.YteighpaljdlnaaaImplTwo
import Derived.Test.YteighpaljdlnaaaSpecTwo
import Derived.Deep.QuietTactic
import Derived.BigQuiet
/- The program's ValidEager: its contract. Conditions: bounds on lengths. -/
namespace Go.Proofs.Yteighpaljdlnaaa
open Go.RowKit

end Go.Proofs.Yteighpaljdlnaaa

/- The program's ValidEager: its contract. Conditions: bounds on lengths. -/
namespace Go.Proofs.Yteighpaljdlnaaa
open Go.RowKit

end Go.Proofs.Yteighpaljdlnaaa
