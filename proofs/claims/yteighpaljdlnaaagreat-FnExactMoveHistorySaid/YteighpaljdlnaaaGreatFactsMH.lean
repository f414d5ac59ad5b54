/- Closed facts of a row. -/
import Derived.Test.YteighpaljdlnaaaGreatFactsP
import Derived.Test.YteighpaljdlnaaaGreatRows
import Derived.JoinedOf
import Derived.ProofKit
namespace Go.Proofs.YteighpaljdlnaaaGreat.fnExactMoveHistoryDone
open Go.ChangeShapes Go.WideShapes Go.ChangeAt Go.RowKit
theorem c1 : (Rows.fnExactMoveHistoryRow.wf (OpenSpec.ofChange Rows.fnExactMoveHistorySpec)) = true := by kernel_rfl
theorem c2 : (laidOutB Tryz.prog) = true := p2
theorem c3 : (mapsRowed Tryz.prog) = true := p3
theorem c4 : (Tryz.f3.params.all (Tryz.prog.readableRec ·)) = true := by kernel_rfl
theorem c5 : (namedTie Tryz.prog Rows.fnExactMoveHistoryRow.named Rows.fnExactMoveHistorySpec.vars) = true := by kernel_rfl
theorem c6 : ((Rows.fnExactMoveHistoryRow.stops == [])) = true := by kernel_rfl
theorem c7 : ((Tryz.prog.stops == [])) = true := p7
theorem c8 : ((Rows.fnExactMoveHistoryRow.knobs == [])) = true := by kernel_rfl
theorem c9 : ((Tryz.prog.stopKnobs == [])) = true := p9
theorem c10 : ((Rows.fnExactMoveHistoryRow.inPlace == Tryz.prog.inPlace 3)) = true := by kernel_rfl
theorem c11 : ((Rows.fnExactMoveHistoryRow.unfollowed == Tryz.prog.unfollowed 3)) = true := by kernel_rfl
theorem c12 : ((Rows.fnExactMoveHistoryRow.recurses == Tryz.prog.recurses 3)) = true := by kernel_rfl
theorem c13 : ((Rows.fnExactMoveHistoryRow.named == Tryz.prog.varsNamed 3)) = true := by kernel_rfl
theorem c14 : ((Rows.fnExactMoveHistoryRow.maps == (Tryz.f3.params.toList ++ Rows.fnExactMoveHistorySpec.plain.varTypes Tryz.prog).any (Tryz.prog.mapsRec ·))) = true := by kernel_rfl
theorem c15 : ((Rows.fnExactMoveHistoryRow.ifaces == (Tryz.f3.params.toList ++ Rows.fnExactMoveHistorySpec.plain.varTypes Tryz.prog).any (Tryz.prog.ifacesRec ·))) = true := by kernel_rfl
theorem c16 : ((Rows.fnExactMoveHistoryRow.mapsOut == Tryz.prog.mapsAmong Tryz.f3.resultTypes.toList)) = true := by kernel_rfl
theorem c17 : ((Rows.fnExactMoveHistoryRow.loops == (Tryz.f3.params.toList ++ Rows.fnExactMoveHistorySpec.plain.varTypes Tryz.prog).any (Tryz.prog.loopsFrom ·))) = true := by kernel_rfl
theorem c18 : ((Rows.fnExactMoveHistoryRow.wideKeys == (Tryz.f3.params.toList ++ Rows.fnExactMoveHistorySpec.plain.varTypes Tryz.prog ++ Tryz.f3.resultTypes.toList).any (Tryz.prog.wideKeysFrom ·))) = true := by kernel_rfl
theorem c19 : (Rows.fnExactMoveHistorySpec.vars.all (Tryz.prog.varReadable ·)) = true := by kernel_rfl
theorem c20 : (Tryz.f3.resultTypes.all (fun t => Tryz.prog.readableRec t && decide (t < Tryz.prog.types.size))) = true := by kernel_rfl
theorem c21 : ((Rows.fnExactMoveHistoryRow.ifacesOut == Tryz.f3.resultTypes.toList.any (Tryz.prog.ifacesRec ·))) = true := by kernel_rfl
theorem c22 : ((Rows.fnExactMoveHistoryRow.loopsOut == Tryz.f3.resultTypes.toList.any (Tryz.prog.loopsFrom ·))) = true := by kernel_rfl
theorem c23 : ((Rows.fnExactMoveHistoryRow.plainKeys == Tryz.prog.plainKeys)) = true := p23
theorem c24 : (Rows.fnExactMoveHistoryRow.shortTexts.isNone) = true := by kernel_rfl
theorem c25 : (Tryz.prog.stopsHeard) = true := p25
theorem c26 : (Tryz.prog.mayEnter) = true := p26
theorem c27 : ((Rows.fnExactMoveHistoryRow.lifted == Tryz.prog.liftsFinal)) = true := p27
theorem c28 : ((Tryz.prog.make == some Rows.fnExactMoveHistoryRow.make)) = true := p28
theorem c29 : ((Rows.fnExactMoveHistoryRow.kinds == (if Rows.fnExactMoveHistoryRow.domain.isEmpty then [] else Tryz.f3.params.toList.map fun t => match Tryz.prog.underlying t with | some (.int k) => some k | _ => none))) = true := by kernel_rfl
theorem c30 : ((Rows.fnExactMoveHistoryRow.pinned == Rows.fnExactMoveHistoryRow.pinnedBy)) = true := by kernel_rfl
theorem c31 : ((Rows.fnExactMoveHistoryRow.veiled == (Tryz.f3.params.toList ++ Rows.fnExactMoveHistorySpec.plain.varTypes Tryz.prog ++ Tryz.f3.resultTypes.toList).any (Tryz.prog.veiledRec ·))) = true := by kernel_rfl
theorem c32 : (Rows.fnExactMoveHistoryRow.veiledFits Tryz.prog Tryz.f3.params.toList (Tryz.f3.params.toList ++ Rows.fnExactMoveHistorySpec.plain.varTypes Tryz.prog ++ Tryz.f3.resultTypes.toList)) = true := by kernel_rfl
theorem and2 {a b : Bool} (h : a = true) (k : b = true) : (a && b) = true := by rw [h, k]; rfl
set_option maxRecDepth 100000 in
theorem closed : joinedFacts Tryz.prog 3 Tryz.f3 Rows.fnExactMoveHistorySpec Rows.fnExactMoveHistoryRow = true := (and2 (and2 (and2 (and2 (and2 (and2 (and2 (and2 (and2 (and2 (and2 (and2 (and2 (and2 (and2 (and2 (and2 (and2 (and2 (and2 (and2 (and2 (and2 (and2 (and2 (and2 (and2 (and2 (and2 (and2 (and2 c1 c2) c3) c4) c5) c6) c7) c8) c9) c10) c11) c12) c13) c14) c15) c16) c17) c18) c19) c20) c21) c22) c23) c24) c25) c26) c27) c28) c29) c30) c31) c32)
end Go.Proofs.YteighpaljdlnaaaGreat.fnExactMoveHistoryDone
