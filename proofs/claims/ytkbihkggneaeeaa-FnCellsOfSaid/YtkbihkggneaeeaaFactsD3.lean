/- Closed facts of a row. -/
import Derived.Test.YtkbihkggneaeeaaFactsP
import Derived.Test.YtkbihkggneaeeaaRows
import Derived.JoinedOf
import Derived.ProofKit
namespace Go.Proofs.Ytkbihkggneaeeaa.fnCellsOfDone
open Go.ChangeShapes Go.WideShapes Go.ChangeAt Go.RowKit
theorem c1 : (Rows.fnCellsOfRow.wf (OpenSpec.ofChange Rows.fnCellsOfSpec)) = true := by kernel_rfl
theorem c2 : (laidOutB Try.prog) = true := p2
theorem c3 : (mapsRowed Try.prog) = true := p3
theorem c4 : (Try.f6.params.all (Try.prog.readableRec ·)) = true := by kernel_rfl
theorem c5 : (namedTie Try.prog Rows.fnCellsOfRow.named Rows.fnCellsOfSpec.vars) = true := by kernel_rfl
theorem c6 : ((Rows.fnCellsOfRow.stops == [])) = true := by kernel_rfl
theorem c7 : ((Try.prog.stops == [])) = true := p7
theorem c8 : ((Rows.fnCellsOfRow.knobs == [])) = true := by kernel_rfl
theorem c9 : ((Try.prog.stopKnobs == [])) = true := p9
theorem c10 : ((Rows.fnCellsOfRow.inPlace == Try.prog.inPlace 6)) = true := by kernel_rfl
theorem c11 : ((Rows.fnCellsOfRow.unfollowed == Try.prog.unfollowed 6)) = true := by kernel_rfl
theorem c12 : ((Rows.fnCellsOfRow.recurses == Try.prog.recurses 6)) = true := by kernel_rfl
theorem c13 : ((Rows.fnCellsOfRow.named == Try.prog.varsNamed 6)) = true := by kernel_rfl
theorem c14 : ((Rows.fnCellsOfRow.maps == (Try.f6.params.toList ++ Rows.fnCellsOfSpec.plain.varTypes Try.prog).any (Try.prog.mapsRec ·))) = true := by kernel_rfl
theorem c15 : ((Rows.fnCellsOfRow.ifaces == (Try.f6.params.toList ++ Rows.fnCellsOfSpec.plain.varTypes Try.prog).any (Try.prog.ifacesRec ·))) = true := by kernel_rfl
theorem c16 : ((Rows.fnCellsOfRow.mapsOut == Try.prog.mapsAmong Try.f6.resultTypes.toList)) = true := by kernel_rfl
theorem c17 : ((Rows.fnCellsOfRow.loops == (Try.f6.params.toList ++ Rows.fnCellsOfSpec.plain.varTypes Try.prog).any (Try.prog.loopsFrom ·))) = true := by kernel_rfl
theorem c18 : ((Rows.fnCellsOfRow.wideKeys == (Try.f6.params.toList ++ Rows.fnCellsOfSpec.plain.varTypes Try.prog ++ Try.f6.resultTypes.toList).any (Try.prog.wideKeysFrom ·))) = true := by kernel_rfl
theorem c19 : (Rows.fnCellsOfSpec.vars.all (Try.prog.varReadable ·)) = true := by kernel_rfl
theorem c20 : (Try.f6.resultTypes.all (fun t => Try.prog.readableRec t && decide (t < Try.prog.types.size))) = true := by kernel_rfl
theorem c21 : ((Rows.fnCellsOfRow.ifacesOut == Try.f6.resultTypes.toList.any (Try.prog.ifacesRec ·))) = true := by kernel_rfl
theorem c22 : ((Rows.fnCellsOfRow.loopsOut == Try.f6.resultTypes.toList.any (Try.prog.loopsFrom ·))) = true := by kernel_rfl
theorem c23 : ((Rows.fnCellsOfRow.plainKeys == Try.prog.plainKeys)) = true := p23
theorem c24 : (Rows.fnCellsOfRow.shortTexts.isNone) = true := by kernel_rfl
theorem c25 : (Try.prog.stopsHeard) = true := p25
theorem c26 : (Try.prog.mayEnter) = true := p26
theorem c27 : ((Rows.fnCellsOfRow.lifted == Try.prog.liftsFinal)) = true := p27
theorem c28 : ((Try.prog.make == some Rows.fnCellsOfRow.make)) = true := p28
theorem c29 : ((Rows.fnCellsOfRow.kinds == (if Rows.fnCellsOfRow.domain.isEmpty then [] else Try.f6.params.toList.map fun t => match Try.prog.underlying t with | some (.int k) => some k | _ => none))) = true := by kernel_rfl
theorem c30 : ((Rows.fnCellsOfRow.pinned == Rows.fnCellsOfRow.pinnedBy)) = true := by kernel_rfl
theorem c31 : ((Rows.fnCellsOfRow.veiled == (Try.f6.params.toList ++ Rows.fnCellsOfSpec.plain.varTypes Try.prog ++ Try.f6.resultTypes.toList).any (Try.prog.veiledRec ·))) = true := by kernel_rfl
theorem c32 : (Rows.fnCellsOfRow.veiledFits Try.prog Try.f6.params.toList (Try.f6.params.toList ++ Rows.fnCellsOfSpec.plain.varTypes Try.prog ++ Try.f6.resultTypes.toList)) = true := by kernel_rfl
theorem and2 {a b : Bool} (h : a = true) (k : b = true) : (a && b) = true := by rw [h, k]; rfl
set_option maxRecDepth 100000 in
theorem closed : joinedFacts Try.prog 6 Try.f6 Rows.fnCellsOfSpec Rows.fnCellsOfRow = true := (and2 (and2 (and2 (and2 (and2 (and2 (and2 (and2 (and2 (and2 (and2 (and2 (and2 (and2 (and2 (and2 (and2 (and2 (and2 (and2 (and2 (and2 (and2 (and2 (and2 (and2 (and2 (and2 (and2 (and2 (and2 c1 c2) c3) c4) c5) c6) c7) c8) c9) c10) c11) c12) c13) c14) c15) c16) c17) c18) c19) c20) c21) c22) c23) c24) c25) c26) c27) c28) c29) c30) c31) c32)
end Go.Proofs.Ytkbihkggneaeeaa.fnCellsOfDone
