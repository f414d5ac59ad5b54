/- The laws' marks of lazy states: contracts. Conditions: bounds on lengths. -/
import Derived.Test.YtgojnefiephafaaGreatLawVW
namespace Go.Proofs.YtgojnefiephafaaGreat
open Go.RowKit
end Go.Proofs.YtgojnefiephafaaGreat
