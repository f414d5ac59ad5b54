/- Parts of one proof, joined. The program's ValidEager: its contract. Conditions: bounds on lengths. The program's ValidEager: its contract. Conditions: bounds on lengths. -/
import Derived.Test.YteighpaljdlnaaaGreatTy
import Derived.Test.YteighpaljdlnaaaGreatImplThree
import Derived.Test.YteighpaljdlnaaaGreatImplTwo
import Derived.Test.YteighpaljdlnaaaGreatSpecTwo
import Derived.Deep.QuietTactic
import Derived.BigQuiet
/- The program's ValidEager: its contract. Conditions: bounds on lengths. -/
namespace Go.Proofs.YteighpaljdlnaaaGreat
open Go.RowKit

end Go.Proofs.YteighpaljdlnaaaGreat

/- The program's ValidEager: its contract. Conditions: bounds on lengths. -/
namespace Go.Proofs.YteighpaljdlnaaaGreat
open Go.RowKit

end Go.Proofs.YteighpaljdlnaaaGreat
