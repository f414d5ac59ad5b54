/- Parts of one proof, joined. The program's ValidEager: its contract. Conditions: bounds on lengths. The program's ValidEager: its contract. Conditions: bounds on lengths. -/
import Derived.Test.YtaklkcjlihdlkaaGreatTy
import Derived.Test.YtaklkcjlihdlkaaGreatImplThree
import Derived.Test.YtaklkcjlihdlkaaGreatImplTwo
import Derived.Test.YtaklkcjlihdlkaaGreatSpecTwo
import Derived.Deep.QuietTactic
import Derived.BigQuiet
/- The program's ValidEager: its contract. Conditions: bounds on lengths. -/
namespace Go.Proofs.YtaklkcjlihdlkaaGreat
open Go.RowKit

end Go.Proofs.YtaklkcjlihdlkaaGreat

/- The program's ValidEager: its contract. Conditions: bounds on lengths. -/
namespace Go.Proofs.YtaklkcjlihdlkaaGreat
open Go.RowKit

end Go.Proofs.YtaklkcjlihdlkaaGreat
