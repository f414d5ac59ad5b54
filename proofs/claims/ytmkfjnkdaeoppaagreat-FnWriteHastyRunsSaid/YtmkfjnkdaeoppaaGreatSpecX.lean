/- The reference's goodWrites: its contract. Conditions: bounds on lengths. -/
import Derived.Test.YtmkfjnkdaeoppaaGreatTy
import Derived.Test.YtmkfjnkdaeoppaaGreatCellA
import Derived.Deep.QuietTactic
import Derived.BigQuiet
namespace Sg
end Sg
namespace Go.Proofs.YtmkfjnkdaeoppaaGreat
open Go.RowKit
end Go.Proofs.YtmkfjnkdaeoppaaGreat
