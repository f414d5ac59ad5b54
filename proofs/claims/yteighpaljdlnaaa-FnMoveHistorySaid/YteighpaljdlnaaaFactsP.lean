/- Closed facts of this seat's program. -/
import Derived.Test.YteighpaljdlnaaaRows
import Derived.JoinedOf
import Derived.ProofKit
namespace Go.Proofs.Yteighpaljdlnaaa
open Go.ChangeShapes Go.WideShapes Go.ChangeAt Go.RowKit
theorem p2 : (laidOutB Try.prog) = true := by kernel_rfl
theorem p3 : (mapsRowed Try.prog) = true := by kernel_rfl
theorem p7 : ((Try.prog.stops == [])) = true := by kernel_rfl
theorem p9 : ((Try.prog.stopKnobs == [])) = true := by kernel_rfl
theorem p23 : ((Rows.fnWhyChangedRow.plainKeys == Try.prog.plainKeys)) = true := by kernel_rfl
theorem p25 : (Try.prog.stopsHeard) = true := by kernel_rfl
theorem p26 : (Try.prog.mayEnter) = true := by kernel_rfl
theorem p27 : ((Rows.fnWhyChangedRow.lifted == Try.prog.liftsFinal)) = true := by kernel_rfl
theorem p28 : ((Try.prog.make == some Rows.fnWhyChangedRow.make)) = true := by kernel_rfl
end Go.Proofs.Yteighpaljdlnaaa
