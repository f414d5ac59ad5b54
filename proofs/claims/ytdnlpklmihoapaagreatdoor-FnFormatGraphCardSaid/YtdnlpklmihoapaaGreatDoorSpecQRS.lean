/- Parts of one proof, joined. The reference's missing: its contract. Conditions: bounds on lengths. The reference's goodColour: its contract. Conditions: valid graphs, lists of one length. The reference's validLazy and ValidLazy: contracts. Conditions: bounds on lengths. -/
import Derived.Test.YtdnlpklmihoapaaGreatDoorSpecTO
import Derived.Test.YtdnlpklmihoapaaGreatDoorModelsA
import Derived.Test.YtdnlpklmihoapaaGreatDoorTy
/- The reference's missing: its contract. Conditions: bounds on lengths. -/
namespace Go.Proofs.YtdnlpklmihoapaaGreatDoor
open Go.RowKit

end Go.Proofs.YtdnlpklmihoapaaGreatDoor

/- The reference's goodColour: its contract. Conditions: valid graphs, lists of one length. -/
namespace Go.Proofs.YtdnlpklmihoapaaGreatDoor
open Go.RowKit

section
variable {g : Sg.Graph} {v q : List Int} {r : List (List Int)} {k : Nat} {nk x qk : Int} {nf : List Sg.Part} {l : List Int}
end

end Go.Proofs.YtdnlpklmihoapaaGreatDoor

/- The reference's validLazy and ValidLazy: contracts. Conditions: bounds on lengths. -/
namespace Go.Proofs.YtdnlpklmihoapaaGreatDoor
open Go.RowKit

end Go.Proofs.YtdnlpklmihoapaaGreatDoor
