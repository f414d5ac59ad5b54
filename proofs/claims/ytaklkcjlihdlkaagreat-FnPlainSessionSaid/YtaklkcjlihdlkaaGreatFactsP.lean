/- Closed facts of this seat's program. -/
import Derived.Test.YtaklkcjlihdlkaaGreatRows
import Derived.JoinedOf
import Derived.ProofKit
namespace Go.Proofs.YtaklkcjlihdlkaaGreat
open Go.ChangeShapes Go.WideShapes Go.ChangeAt Go.RowKit
theorem p2 : (laidOutB Tryz.prog) = true := by kernel_rfl
theorem p3 : (mapsRowed Tryz.prog) = true := by kernel_rfl
theorem p7 : ((Tryz.prog.stops == [])) = true := by kernel_rfl
theorem p9 : ((Tryz.prog.stopKnobs == [])) = true := by kernel_rfl
theorem p23 : ((Rows.fnPlainSessionRow.plainKeys == Tryz.prog.plainKeys)) = true := by kernel_rfl
theorem p25 : (Tryz.prog.stopsHeard) = true := by kernel_rfl
theorem p26 : (Tryz.prog.mayEnter) = true := by kernel_rfl
theorem p27 : ((Rows.fnPlainSessionRow.lifted == Tryz.prog.liftsFinal)) = true := by kernel_rfl
theorem p28 : ((Tryz.prog.make == some Rows.fnPlainSessionRow.make)) = true := by kernel_rfl
end Go.Proofs.YtaklkcjlihdlkaaGreat
