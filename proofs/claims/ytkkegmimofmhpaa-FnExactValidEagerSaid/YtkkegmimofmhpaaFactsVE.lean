/- Closed facts of a row. -/
import Derived.Test.YtkkegmimofmhpaaRows
import Derived.JoinedOf
import Derived.ProofKit
namespace Go.Proofs.Ytkkegmimofmhpaa.fnExactValidEagerDone
open Go.ChangeShapes Go.WideShapes Go.ChangeAt Go.RowKit
theorem c1 : (Rows.fnExactValidEagerRow.wf (OpenSpec.ofChange Rows.fnExactValidEagerSpec)) = true := by kernel_rfl
theorem c2 : (laidOutB Try.prog) = true := by kernel_rfl
theorem c3 : (mapsRowed Try.prog) = true := by kernel_rfl
theorem c4 : (Try.f4.params.all (Try.prog.readableRec ·)) = true := by kernel_rfl
theorem c5 : (namedTie Try.prog Rows.fnExactValidEagerRow.named Rows.fnExactValidEagerSpec.vars) = true := by kernel_rfl
theorem c6 : ((Rows.fnExactValidEagerRow.stops == [])) = true := by kernel_rfl
theorem c7 : ((Try.prog.stops == [])) = true := by kernel_rfl
theorem c8 : ((Rows.fnExactValidEagerRow.knobs == [])) = true := by kernel_rfl
theorem c9 : ((Try.prog.stopKnobs == [])) = true := by kernel_rfl
theorem c10 : ((Rows.fnExactValidEagerRow.inPlace == Try.prog.inPlace 4)) = true := by kernel_rfl
theorem c11 : ((Rows.fnExactValidEagerRow.unfollowed == Try.prog.unfollowed 4)) = true := by kernel_rfl
theorem c12 : ((Rows.fnExactValidEagerRow.recurses == Try.prog.recurses 4)) = true := by kernel_rfl
theorem c13 : ((Rows.fnExactValidEagerRow.named == Try.prog.varsNamed 4)) = true := by kernel_rfl
theorem c14 : ((Rows.fnExactValidEagerRow.maps == (Try.f4.params.toList ++ Rows.fnExactValidEagerSpec.plain.varTypes Try.prog).any (Try.prog.mapsRec ·))) = true := by kernel_rfl
theorem c15 : ((Rows.fnExactValidEagerRow.ifaces == (Try.f4.params.toList ++ Rows.fnExactValidEagerSpec.plain.varTypes Try.prog).any (Try.prog.ifacesRec ·))) = true := by kernel_rfl
theorem c16 : ((Rows.fnExactValidEagerRow.mapsOut == Try.prog.mapsAmong Try.f4.resultTypes.toList)) = true := by kernel_rfl
theorem c17 : ((Rows.fnExactValidEagerRow.loops == (Try.f4.params.toList ++ Rows.fnExactValidEagerSpec.plain.varTypes Try.prog).any (Try.prog.loopsFrom ·))) = true := by kernel_rfl
theorem c18 : ((Rows.fnExactValidEagerRow.wideKeys == (Try.f4.params.toList ++ Rows.fnExactValidEagerSpec.plain.varTypes Try.prog ++ Try.f4.resultTypes.toList).any (Try.prog.wideKeysFrom ·))) = true := by kernel_rfl
theorem c19 : (Rows.fnExactValidEagerSpec.vars.all (Try.prog.varReadable ·)) = true := by kernel_rfl
theorem c20 : (Try.f4.resultTypes.all (fun t => Try.prog.readableRec t && decide (t < Try.prog.types.size))) = true := by kernel_rfl
theorem c21 : ((Rows.fnExactValidEagerRow.ifacesOut == Try.f4.resultTypes.toList.any (Try.prog.ifacesRec ·))) = true := by kernel_rfl
theorem c22 : ((Rows.fnExactValidEagerRow.loopsOut == Try.f4.resultTypes.toList.any (Try.prog.loopsFrom ·))) = true := by kernel_rfl
theorem c23 : ((Rows.fnExactValidEagerRow.plainKeys == Try.prog.plainKeys)) = true := by kernel_rfl
theorem c24 : (Rows.fnExactValidEagerRow.shortTexts.isNone) = true := by kernel_rfl
theorem c25 : (Try.prog.stopsHeard) = true := by kernel_rfl
theorem c26 : (Try.prog.mayEnter) = true := by kernel_rfl
theorem c27 : ((Rows.fnExactValidEagerRow.lifted == Try.prog.liftsFinal)) = true := by kernel_rfl
theorem c28 : ((Try.prog.make == some Rows.fnExactValidEagerRow.make)) = true := by kernel_rfl
theorem c29 : ((Rows.fnExactValidEagerRow.kinds == (if Rows.fnExactValidEagerRow.domain.isEmpty then [] else Try.f4.params.toList.map fun t => match Try.prog.underlying t with | some (.int k) => some k | _ => none))) = true := by kernel_rfl
theorem c30 : ((Rows.fnExactValidEagerRow.pinned == Rows.fnExactValidEagerRow.pinnedBy)) = true := by kernel_rfl
theorem c31 : ((Rows.fnExactValidEagerRow.veiled == (Try.f4.params.toList ++ Rows.fnExactValidEagerSpec.plain.varTypes Try.prog ++ Try.f4.resultTypes.toList).any (Try.prog.veiledRec ·))) = true := by kernel_rfl
theorem c32 : (Rows.fnExactValidEagerRow.veiledFits Try.prog Try.f4.params.toList (Try.f4.params.toList ++ Rows.fnExactValidEagerSpec.plain.varTypes Try.prog ++ Try.f4.resultTypes.toList)) = true := by kernel_rfl
theorem and2 {a b : Bool} (h : a = true) (k : b = true) : (a && b) = true := by rw [h, k]; rfl
set_option maxRecDepth 100000 in
theorem closed : joinedFacts Try.prog 4 Try.f4 Rows.fnExactValidEagerSpec Rows.fnExactValidEagerRow = true := (and2 (and2 (and2 (and2 (and2 (and2 (and2 (and2 (and2 (and2 (and2 (and2 (and2 (and2 (and2 (and2 (and2 (and2 (and2 (and2 (and2 (and2 (and2 (and2 (and2 (and2 (and2 (and2 (and2 (and2 (and2 c1 c2) c3) c4) c5) c6) c7) c8) c9) c10) c11) c12) c13) c14) c15) c16) c17) c18) c19) c20) c21) c22) c23) c24) c25) c26) c27) c28) c29) c30) c31) c32)
end Go.Proofs.Ytkkegmimofmhpaa.fnExactValidEagerDone
