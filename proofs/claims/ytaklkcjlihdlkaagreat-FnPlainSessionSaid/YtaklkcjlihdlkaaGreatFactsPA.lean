/- Closed facts of a row. -/
import Derived.Test.YtaklkcjlihdlkaaGreatFactsP
import Derived.Test.YtaklkcjlihdlkaaGreatRows
import Derived.JoinedOf
import Derived.ProofKit
namespace Go.Proofs.YtaklkcjlihdlkaaGreat.fnPlainSessionDone
open Go.ChangeShapes Go.WideShapes Go.ChangeAt Go.RowKit
theorem c1 : (Rows.fnPlainSessionRow.wf (OpenSpec.ofChange Rows.fnPlainSessionSpec)) = true := by kernel_rfl
theorem c2 : (laidOutB Tryz.prog) = true := p2
theorem c3 : (mapsRowed Tryz.prog) = true := p3
theorem c4 : (Tryz.f3.params.all (Tryz.prog.readableRec ·)) = true := by kernel_rfl
theorem c5 : (namedTie Tryz.prog Rows.fnPlainSessionRow.named Rows.fnPlainSessionSpec.vars) = true := by kernel_rfl
theorem c6 : ((Rows.fnPlainSessionRow.stops == [])) = true := by kernel_rfl
theorem c7 : ((Tryz.prog.stops == [])) = true := p7
theorem c8 : ((Rows.fnPlainSessionRow.knobs == [])) = true := by kernel_rfl
theorem c9 : ((Tryz.prog.stopKnobs == [])) = true := p9
theorem c10 : ((Rows.fnPlainSessionRow.inPlace == Tryz.prog.inPlace 3)) = true := by kernel_rfl
theorem c11 : ((Rows.fnPlainSessionRow.unfollowed == Tryz.prog.unfollowed 3)) = true := by kernel_rfl
theorem c12 : ((Rows.fnPlainSessionRow.recurses == Tryz.prog.recurses 3)) = true := by kernel_rfl
theorem c13 : ((Rows.fnPlainSessionRow.named == Tryz.prog.varsNamed 3)) = true := by kernel_rfl
theorem c14 : ((Rows.fnPlainSessionRow.maps == (Tryz.f3.params.toList ++ Rows.fnPlainSessionSpec.plain.varTypes Tryz.prog).any (Tryz.prog.mapsRec ·))) = true := by kernel_rfl
theorem c15 : ((Rows.fnPlainSessionRow.ifaces == (Tryz.f3.params.toList ++ Rows.fnPlainSessionSpec.plain.varTypes Tryz.prog).any (Tryz.prog.ifacesRec ·))) = true := by kernel_rfl
theorem c16 : ((Rows.fnPlainSessionRow.mapsOut == Tryz.prog.mapsAmong Tryz.f3.resultTypes.toList)) = true := by kernel_rfl
theorem c17 : ((Rows.fnPlainSessionRow.loops == (Tryz.f3.params.toList ++ Rows.fnPlainSessionSpec.plain.varTypes Tryz.prog).any (Tryz.prog.loopsFrom ·))) = true := by kernel_rfl
theorem c18 : ((Rows.fnPlainSessionRow.wideKeys == (Tryz.f3.params.toList ++ Rows.fnPlainSessionSpec.plain.varTypes Tryz.prog ++ Tryz.f3.resultTypes.toList).any (Tryz.prog.wideKeysFrom ·))) = true := by kernel_rfl
theorem c19 : (Rows.fnPlainSessionSpec.vars.all (Tryz.prog.varReadable ·)) = true := by kernel_rfl
theorem c20 : (Tryz.f3.resultTypes.all (fun t => Tryz.prog.readableRec t && decide (t < Tryz.prog.types.size))) = true := by kernel_rfl
theorem c21 : ((Rows.fnPlainSessionRow.ifacesOut == Tryz.f3.resultTypes.toList.any (Tryz.prog.ifacesRec ·))) = true := by kernel_rfl
theorem c22 : ((Rows.fnPlainSessionRow.loopsOut == Tryz.f3.resultTypes.toList.any (Tryz.prog.loopsFrom ·))) = true := by kernel_rfl
theorem c23 : ((Rows.fnPlainSessionRow.plainKeys == Tryz.prog.plainKeys)) = true := p23
theorem c24 : (Rows.fnPlainSessionRow.shortTexts.isNone) = true := by kernel_rfl
theorem c25 : (Tryz.prog.stopsHeard) = true := p25
theorem c26 : (Tryz.prog.mayEnter) = true := p26
theorem c27 : ((Rows.fnPlainSessionRow.lifted == Tryz.prog.liftsFinal)) = true := p27
theorem c28 : ((Tryz.prog.make == some Rows.fnPlainSessionRow.make)) = true := p28
theorem c29 : ((Rows.fnPlainSessionRow.kinds == (if Rows.fnPlainSessionRow.domain.isEmpty then [] else Tryz.f3.params.toList.map fun t => match Tryz.prog.underlying t with | some (.int k) => some k | _ => none))) = true := by kernel_rfl
theorem c30 : ((Rows.fnPlainSessionRow.pinned == Rows.fnPlainSessionRow.pinnedBy)) = true := by kernel_rfl
theorem c31 : ((Rows.fnPlainSessionRow.veiled == (Tryz.f3.params.toList ++ Rows.fnPlainSessionSpec.plain.varTypes Tryz.prog ++ Tryz.f3.resultTypes.toList).any (Tryz.prog.veiledRec ·))) = true := by kernel_rfl
theorem c32 : (Rows.fnPlainSessionRow.veiledFits Tryz.prog Tryz.f3.params.toList (Tryz.f3.params.toList ++ Rows.fnPlainSessionSpec.plain.varTypes Tryz.prog ++ Tryz.f3.resultTypes.toList)) = true := by kernel_rfl
theorem and2 {a b : Bool} (h : a = true) (k : b = true) : (a && b) = true := by rw [h, k]; rfl
set_option maxRecDepth 100000 in
theorem closed : joinedFacts Tryz.prog 3 Tryz.f3 Rows.fnPlainSessionSpec Rows.fnPlainSessionRow = true := (and2 (and2 (and2 (and2 (and2 (and2 (and2 (and2 (and2 (and2 (and2 (and2 (and2 (and2 (and2 (and2 (and2 (and2 (and2 (and2 (and2 (and2 (and2 (and2 (and2 (and2 (and2 (and2 (and2 (and2 (and2 c1 c2) c3) c4) c5) c6) c7) c8) c9) c10) c11) c12) c13) c14) c15) c16) c17) c18) c19) c20) c21) c22) c23) c24) c25) c26) c27) c28) c29) c30) c31) c32)
end Go.Proofs.YtaklkcjlihdlkaaGreat.fnPlainSessionDone
