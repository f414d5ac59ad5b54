/- The reference's writes: its contract. Conditions: a valid state, cells that can be written. -/
import Derived.Test.YtmkfjnkdaeoppaaGreatTy
import Derived.Test.YtmkfjnkdaeoppaaGreatSpecX
import Derived.Test.YtmkfjnkdaeoppaaGreatSepAll
import Derived.Test.YtmkfjnkdaeoppaaGreatModelH
import Derived.Test.YtmkfjnkdaeoppaaGreatSpecTO
namespace Go.Proofs.YtmkfjnkdaeoppaaGreat
open Go.RowKit

end Go.Proofs.YtmkfjnkdaeoppaaGreat
