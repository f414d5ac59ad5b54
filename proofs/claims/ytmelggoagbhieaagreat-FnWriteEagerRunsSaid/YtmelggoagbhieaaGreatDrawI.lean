/- The draws of a graph and cells: contracts. Conditions: the code can be read. -/
import Derived.Test.YtmelggoagbhieaaGreatDrawH
namespace Go.Proofs.YtmelggoagbhieaaGreat
open Go.RowKit

end Go.Proofs.YtmelggoagbhieaaGreat
