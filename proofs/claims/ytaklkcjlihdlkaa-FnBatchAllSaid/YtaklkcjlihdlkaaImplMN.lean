/- Parts of one proof, joined. The program's ValidEager: its contract. Conditions: bounds on lengths. The program's ValidEager: its contract. Conditions: bounds on lengths. -/
import Derived.Test.YtaklkcjlihdlkaaTy
import Derived.Test.YtaklkcjlihdlkaaImplThree
import Derived.Test.YtaklkcjlihdlkaaImplTwo
import Derived.Test.YtaklkcjlihdlkaaSpecTwo
import Derived.Deep.QuietTactic
import Derived.BigQuiet
/- The program's ValidEager: its contract. Conditions: bounds on lengths. -/
namespace Go.Proofs.Ytaklkcjlihdlkaa
open Go.RowKit

end Go.Proofs.Ytaklkcjlihdlkaa

/- The program's ValidEager: its contract. Conditions: bounds on lengths. -/
namespace Go.Proofs.Ytaklkcjlihdlkaa
open Go.RowKit

end Go.Proofs.Ytaklkcjlihdlkaa
