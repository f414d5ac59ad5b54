/- FnExactValidLazy: the law's walk with the contracts of both functions. Conditions: the arguments can be read. -/
import Derived.Test.YtjogmblilagohaaGreatLawV
import Derived.Test.YtjogmblilagohaaGreatSpecQRS
import Derived.Test.YtjogmblilagohaaGreatImplW
namespace Go.Proofs.YtjogmblilagohaaGreat
open Go.RowKit
end Go.Proofs.YtjogmblilagohaaGreat
