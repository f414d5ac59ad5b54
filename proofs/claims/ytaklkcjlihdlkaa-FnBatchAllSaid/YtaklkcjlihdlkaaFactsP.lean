/- Closed facts of this seat's program. -/
import Derived.Test.YtaklkcjlihdlkaaRows
import Derived.JoinedOf
import Derived.ProofKit
namespace Go.Proofs.Ytaklkcjlihdlkaa
open Go.ChangeShapes Go.WideShapes Go.ChangeAt Go.RowKit
theorem p2 : (laidOutB Try.prog) = true := by kernel_rfl
theorem p3 : (mapsRowed Try.prog) = true := by kernel_rfl
theorem p7 : ((Try.prog.stops == [])) = true := by kernel_rfl
theorem p9 : ((Try.prog.stopKnobs == [])) = true := by kernel_rfl
theorem p23 : ((Rows.fnBatchAllRow.plainKeys == Try.prog.plainKeys)) = true := by kernel_rfl
theorem p25 : (Try.prog.stopsHeard) = true := by kernel_rfl
theorem p26 : (Try.prog.mayEnter) = true := by kernel_rfl
theorem p27 : ((Rows.fnBatchAllRow.lifted == Try.prog.liftsFinal)) = true := by kernel_rfl
theorem p28 : ((Try.prog.make == some Rows.fnBatchAllRow.make)) = true := by kernel_rfl
end Go.Proofs.Ytaklkcjlihdlkaa
