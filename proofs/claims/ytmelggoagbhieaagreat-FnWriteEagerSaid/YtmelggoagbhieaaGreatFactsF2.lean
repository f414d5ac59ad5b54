/- Closed facts of a row. -/
import Derived.Test.YtmelggoagbhieaaGreatFactsP
import Derived.Test.YtmelggoagbhieaaGreatRows
import Derived.JoinedOf
import Derived.ProofKit
namespace Go.Proofs.YtmelggoagbhieaaGreat.fnWriteEagerDone
open Go.ChangeShapes Go.WideShapes Go.ChangeAt Go.RowKit
theorem c1 : (Rows.fnWriteEagerRow.wf (OpenSpec.ofChange Rows.fnWriteEagerSpec)) = true := by kernel_rfl
theorem c2 : (laidOutB Tryz.prog) = true := p2
theorem c3 : (mapsRowed Tryz.prog) = true := p3
theorem c4 : (Tryz.f3.params.all (Tryz.prog.readableRec ·)) = true := by kernel_rfl
theorem c5 : (namedTie Tryz.prog Rows.fnWriteEagerRow.named Rows.fnWriteEagerSpec.vars) = true := by kernel_rfl
theorem c6 : ((Rows.fnWriteEagerRow.stops == [])) = true := by kernel_rfl
theorem c7 : ((Tryz.prog.stops == [])) = true := p7
theorem c8 : ((Rows.fnWriteEagerRow.knobs == [])) = true := by kernel_rfl
theorem c9 : ((Tryz.prog.stopKnobs == [])) = true := p9
theorem c10 : ((Rows.fnWriteEagerRow.inPlace == Tryz.prog.inPlace 3)) = true := by kernel_rfl
theorem c11 : ((Rows.fnWriteEagerRow.unfollowed == Tryz.prog.unfollowed 3)) = true := by kernel_rfl
theorem c12 : ((Rows.fnWriteEagerRow.recurses == Tryz.prog.recurses 3)) = true := by kernel_rfl
theorem c13 : ((Rows.fnWriteEagerRow.named == Tryz.prog.varsNamed 3)) = true := by kernel_rfl
theorem c14 : ((Rows.fnWriteEagerRow.maps == (Tryz.f3.params.toList ++ Rows.fnWriteEagerSpec.plain.varTypes Tryz.prog).any (Tryz.prog.mapsRec ·))) = true := by kernel_rfl
theorem c15 : ((Rows.fnWriteEagerRow.ifaces == (Tryz.f3.params.toList ++ Rows.fnWriteEagerSpec.plain.varTypes Tryz.prog).any (Tryz.prog.ifacesRec ·))) = true := by kernel_rfl
theorem c16 : ((Rows.fnWriteEagerRow.mapsOut == Tryz.prog.mapsAmong Tryz.f3.resultTypes.toList)) = true := by kernel_rfl
theorem c17 : ((Rows.fnWriteEagerRow.loops == (Tryz.f3.params.toList ++ Rows.fnWriteEagerSpec.plain.varTypes Tryz.prog).any (Tryz.prog.loopsFrom ·))) = true := by kernel_rfl
theorem c18 : ((Rows.fnWriteEagerRow.wideKeys == (Tryz.f3.params.toList ++ Rows.fnWriteEagerSpec.plain.varTypes Tryz.prog ++ Tryz.f3.resultTypes.toList).any (Tryz.prog.wideKeysFrom ·))) = true := by kernel_rfl
theorem c19 : (Rows.fnWriteEagerSpec.vars.all (Tryz.prog.varReadable ·)) = true := by kernel_rfl
theorem c20 : (Tryz.f3.resultTypes.all (fun t => Tryz.prog.readableRec t && decide (t < Tryz.prog.types.size))) = true := by kernel_rfl
theorem c21 : ((Rows.fnWriteEagerRow.ifacesOut == Tryz.f3.resultTypes.toList.any (Tryz.prog.ifacesRec ·))) = true := by kernel_rfl
theorem c22 : ((Rows.fnWriteEagerRow.loopsOut == Tryz.f3.resultTypes.toList.any (Tryz.prog.loopsFrom ·))) = true := by kernel_rfl
theorem c23 : ((Rows.fnWriteEagerRow.plainKeys == Tryz.prog.plainKeys)) = true := p23
theorem c24 : (Rows.fnWriteEagerRow.shortTexts.isNone) = true := by kernel_rfl
theorem c25 : (Tryz.prog.stopsHeard) = true := p25
theorem c26 : (Tryz.prog.mayEnter) = true := p26
theorem c27 : ((Rows.fnWriteEagerRow.lifted == Tryz.prog.liftsFinal)) = true := p27
theorem c28 : ((Tryz.prog.make == some Rows.fnWriteEagerRow.make)) = true := p28
theorem c29 : ((Rows.fnWriteEagerRow.kinds == (if Rows.fnWriteEagerRow.domain.isEmpty then [] else Tryz.f3.params.toList.map fun t => match Tryz.prog.underlying t with | some (.int k) => some k | _ => none))) = true := by kernel_rfl
theorem c30 : ((Rows.fnWriteEagerRow.pinned == Rows.fnWriteEagerRow.pinnedBy)) = true := by kernel_rfl
theorem c31 : ((Rows.fnWriteEagerRow.veiled == (Tryz.f3.params.toList ++ Rows.fnWriteEagerSpec.plain.varTypes Tryz.prog ++ Tryz.f3.resultTypes.toList).any (Tryz.prog.veiledRec ·))) = true := by kernel_rfl
theorem c32 : (Rows.fnWriteEagerRow.veiledFits Tryz.prog Tryz.f3.params.toList (Tryz.f3.params.toList ++ Rows.fnWriteEagerSpec.plain.varTypes Tryz.prog ++ Tryz.f3.resultTypes.toList)) = true := by kernel_rfl
theorem and2 {a b : Bool} (h : a = true) (k : b = true) : (a && b) = true := by rw [h, k]; rfl
set_option maxRecDepth 100000 in
theorem closed : joinedFacts Tryz.prog 3 Tryz.f3 Rows.fnWriteEagerSpec Rows.fnWriteEagerRow = true := (and2 (and2 (and2 (and2 (and2 (and2 (and2 (and2 (and2 (and2 (and2 (and2 (and2 (and2 (and2 (and2 (and2 (and2 (and2 (and2 (and2 (and2 (and2 (and2 (and2 (and2 (and2 (and2 (and2 (and2 (and2 c1 c2) c3) c4) c5) c6) c7) c8) c9) c10) c11) c12) c13) c14) c15) c16) c17) c18) c19) c20) c21) c22) c23) c24) c25) c26) c27) c28) c29) c30) c31) c32)
end Go.Proofs.YtmelggoagbhieaaGreat.fnWriteEagerDone
