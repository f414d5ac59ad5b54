/- Closed facts of a row. -/
import Derived.Test.YteighpaljdlnaaaFactsP
import Derived.Test.YteighpaljdlnaaaRows
import Derived.JoinedOf
import Derived.ProofKit
namespace Go.Proofs.Yteighpaljdlnaaa.fnMoveHistoryDone
open Go.ChangeShapes Go.WideShapes Go.ChangeAt Go.RowKit
theorem c1 : (Rows.fnMoveHistoryRow.wf (OpenSpec.ofChange Rows.fnMoveHistorySpec)) = true := by kernel_rfl
theorem c2 : (laidOutB Try.prog) = true := p2
theorem c3 : (mapsRowed Try.prog) = true := p3
theorem c4 : (Try.f4.params.all (Try.prog.readableRec ·)) = true := by kernel_rfl
theorem c5 : (namedTie Try.prog Rows.fnMoveHistoryRow.named Rows.fnMoveHistorySpec.vars) = true := by kernel_rfl
theorem c6 : ((Rows.fnMoveHistoryRow.stops == [])) = true := by kernel_rfl
theorem c7 : ((Try.prog.stops == [])) = true := p7
theorem c8 : ((Rows.fnMoveHistoryRow.knobs == [])) = true := by kernel_rfl
theorem c9 : ((Try.prog.stopKnobs == [])) = true := p9
theorem c10 : ((Rows.fnMoveHistoryRow.inPlace == Try.prog.inPlace 4)) = true := by kernel_rfl
theorem c11 : ((Rows.fnMoveHistoryRow.unfollowed == Try.prog.unfollowed 4)) = true := by kernel_rfl
theorem c12 : ((Rows.fnMoveHistoryRow.recurses == Try.prog.recurses 4)) = true := by kernel_rfl
theorem c13 : ((Rows.fnMoveHistoryRow.named == Try.prog.varsNamed 4)) = true := by kernel_rfl
theorem c14 : ((Rows.fnMoveHistoryRow.maps == (Try.f4.params.toList ++ Rows.fnMoveHistorySpec.plain.varTypes Try.prog).any (Try.prog.mapsRec ·))) = true := by kernel_rfl
theorem c15 : ((Rows.fnMoveHistoryRow.ifaces == (Try.f4.params.toList ++ Rows.fnMoveHistorySpec.plain.varTypes Try.prog).any (Try.prog.ifacesRec ·))) = true := by kernel_rfl
theorem c16 : ((Rows.fnMoveHistoryRow.mapsOut == Try.prog.mapsAmong Try.f4.resultTypes.toList)) = true := by kernel_rfl
theorem c17 : ((Rows.fnMoveHistoryRow.loops == (Try.f4.params.toList ++ Rows.fnMoveHistorySpec.plain.varTypes Try.prog).any (Try.prog.loopsFrom ·))) = true := by kernel_rfl
theorem c18 : ((Rows.fnMoveHistoryRow.wideKeys == (Try.f4.params.toList ++ Rows.fnMoveHistorySpec.plain.varTypes Try.prog ++ Try.f4.resultTypes.toList).any (Try.prog.wideKeysFrom ·))) = true := by kernel_rfl
theorem c19 : (Rows.fnMoveHistorySpec.vars.all (Try.prog.varReadable ·)) = true := by kernel_rfl
theorem c20 : (Try.f4.resultTypes.all (fun t => Try.prog.readableRec t && decide (t < Try.prog.types.size))) = true := by kernel_rfl
theorem c21 : ((Rows.fnMoveHistoryRow.ifacesOut == Try.f4.resultTypes.toList.any (Try.prog.ifacesRec ·))) = true := by kernel_rfl
theorem c22 : ((Rows.fnMoveHistoryRow.loopsOut == Try.f4.resultTypes.toList.any (Try.prog.loopsFrom ·))) = true := by kernel_rfl
theorem c23 : ((Rows.fnMoveHistoryRow.plainKeys == Try.prog.plainKeys)) = true := p23
theorem c24 : (Rows.fnMoveHistoryRow.shortTexts.isNone) = true := by kernel_rfl
theorem c25 : (Try.prog.stopsHeard) = true := p25
theorem c26 : (Try.prog.mayEnter) = true := p26
theorem c27 : ((Rows.fnMoveHistoryRow.lifted == Try.prog.liftsFinal)) = true := p27
theorem c28 : ((Try.prog.make == some Rows.fnMoveHistoryRow.make)) = true := p28
theorem c29 : ((Rows.fnMoveHistoryRow.kinds == (if Rows.fnMoveHistoryRow.domain.isEmpty then [] else Try.f4.params.toList.map fun t => match Try.prog.underlying t with | some (.int k) => some k | _ => none))) = true := by kernel_rfl
theorem c30 : ((Rows.fnMoveHistoryRow.pinned == Rows.fnMoveHistoryRow.pinnedBy)) = true := by kernel_rfl
theorem c31 : ((Rows.fnMoveHistoryRow.veiled == (Try.f4.params.toList ++ Rows.fnMoveHistorySpec.plain.varTypes Try.prog ++ Try.f4.resultTypes.toList).any (Try.prog.veiledRec ·))) = true := by kernel_rfl
theorem c32 : (Rows.fnMoveHistoryRow.veiledFits Try.prog Try.f4.params.toList (Try.f4.params.toList ++ Rows.fnMoveHistorySpec.plain.varTypes Try.prog ++ Try.f4.resultTypes.toList)) = true := by kernel_rfl
theorem and2 {a b : Bool} (h : a = true) (k : b = true) : (a && b) = true := by rw [h, k]; rfl
set_option maxRecDepth 100000 in
theorem closed : joinedFacts Try.prog 4 Try.f4 Rows.fnMoveHistorySpec Rows.fnMoveHistoryRow = true := (and2 (and2 (and2 (and2 (and2 (and2 (and2 (and2 (and2 (and2 (and2 (and2 (and2 (and2 (and2 (and2 (and2 (and2 (and2 (and2 (and2 (and2 (and2 (and2 (and2 (and2 (and2 (and2 (and2 (and2 (and2 c1 c2) c3) c4) c5) c6) c7) c8) c9) c10) c11) c12) c13) c14) c15) c16) c17) c18) c19) c20) c21) c22) c23) c24) c25) c26) c27) c28) c29) c30) c31) c32)
end Go.Proofs.Yteighpaljdlnaaa.fnMoveHistoryDone
