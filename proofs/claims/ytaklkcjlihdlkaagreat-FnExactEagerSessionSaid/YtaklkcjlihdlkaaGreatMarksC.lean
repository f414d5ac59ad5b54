/- The laws' marks of lazy states: contracts. Conditions: bounds on lengths. -/
import Derived.Test.YtaklkcjlihdlkaaGreatLawAll
import Derived.Test.YtaklkcjlihdlkaaGreatLawVW
namespace Go.Proofs.YtaklkcjlihdlkaaGreat
open Go.RowKit

structure SmallZ (st : Sg.Lazy) : Prop where
 v : st.vals.length ≤ 1048576
 r : st.reads.length ≤ 1048576
 e : ∀ l ∈ st.reads, l.length ≤ 1048576
 t : totL st.reads ≤ 100000000000
 q : st.cols.length ≤ 1048576

end Go.Proofs.YtaklkcjlihdlkaaGreat
