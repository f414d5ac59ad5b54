/- The draws of a graph and cells: contracts. Conditions: the code can be read. -/
import Derived.Test.YtjogmblilagohaaGreatDrawH
namespace Go.Proofs.YtjogmblilagohaaGreat
open Go.RowKit

end Go.Proofs.YtjogmblilagohaaGreat
