/- Closed facts of a row. -/
import Derived.Test.YtaklkcjlihdlkaaFactsP
import Derived.Test.YtaklkcjlihdlkaaRows
import Derived.JoinedOf
import Derived.ProofKit
namespace Go.Proofs.Ytaklkcjlihdlkaa.fnBatchAllDone
open Go.ChangeShapes Go.WideShapes Go.ChangeAt Go.RowKit
theorem c1 : (Rows.fnBatchAllRow.wf (OpenSpec.ofChange Rows.fnBatchAllSpec)) = true := by kernel_rfl
theorem c2 : (laidOutB Try.prog) = true := p2
theorem c3 : (mapsRowed Try.prog) = true := p3
theorem c4 : (Try.f3.params.all (Try.prog.readableRec ·)) = true := by kernel_rfl
theorem c5 : (namedTie Try.prog Rows.fnBatchAllRow.named Rows.fnBatchAllSpec.vars) = true := by kernel_rfl
theorem c6 : ((Rows.fnBatchAllRow.stops == [])) = true := by kernel_rfl
theorem c7 : ((Try.prog.stops == [])) = true := p7
theorem c8 : ((Rows.fnBatchAllRow.knobs == [])) = true := by kernel_rfl
theorem c9 : ((Try.prog.stopKnobs == [])) = true := p9
theorem c10 : ((Rows.fnBatchAllRow.inPlace == Try.prog.inPlace 3)) = true := by kernel_rfl
theorem c11 : ((Rows.fnBatchAllRow.unfollowed == Try.prog.unfollowed 3)) = true := by kernel_rfl
theorem c12 : ((Rows.fnBatchAllRow.recurses == Try.prog.recurses 3)) = true := by kernel_rfl
theorem c13 : ((Rows.fnBatchAllRow.named == Try.prog.varsNamed 3)) = true := by kernel_rfl
theorem c14 : ((Rows.fnBatchAllRow.maps == (Try.f3.params.toList ++ Rows.fnBatchAllSpec.plain.varTypes Try.prog).any (Try.prog.mapsRec ·))) = true := by kernel_rfl
theorem c15 : ((Rows.fnBatchAllRow.ifaces == (Try.f3.params.toList ++ Rows.fnBatchAllSpec.plain.varTypes Try.prog).any (Try.prog.ifacesRec ·))) = true := by kernel_rfl
theorem c16 : ((Rows.fnBatchAllRow.mapsOut == Try.prog.mapsAmong Try.f3.resultTypes.toList)) = true := by kernel_rfl
theorem c17 : ((Rows.fnBatchAllRow.loops == (Try.f3.params.toList ++ Rows.fnBatchAllSpec.plain.varTypes Try.prog).any (Try.prog.loopsFrom ·))) = true := by kernel_rfl
theorem c18 : ((Rows.fnBatchAllRow.wideKeys == (Try.f3.params.toList ++ Rows.fnBatchAllSpec.plain.varTypes Try.prog ++ Try.f3.resultTypes.toList).any (Try.prog.wideKeysFrom ·))) = true := by kernel_rfl
theorem c19 : (Rows.fnBatchAllSpec.vars.all (Try.prog.varReadable ·)) = true := by kernel_rfl
theorem c20 : (Try.f3.resultTypes.all (fun t => Try.prog.readableRec t && decide (t < Try.prog.types.size))) = true := by kernel_rfl
theorem c21 : ((Rows.fnBatchAllRow.ifacesOut == Try.f3.resultTypes.toList.any (Try.prog.ifacesRec ·))) = true := by kernel_rfl
theorem c22 : ((Rows.fnBatchAllRow.loopsOut == Try.f3.resultTypes.toList.any (Try.prog.loopsFrom ·))) = true := by kernel_rfl
theorem c23 : ((Rows.fnBatchAllRow.plainKeys == Try.prog.plainKeys)) = true := p23
theorem c24 : (Rows.fnBatchAllRow.shortTexts.isNone) = true := by kernel_rfl
theorem c25 : (Try.prog.stopsHeard) = true := p25
theorem c26 : (Try.prog.mayEnter) = true := p26
theorem c27 : ((Rows.fnBatchAllRow.lifted == Try.prog.liftsFinal)) = true := p27
theorem c28 : ((Try.prog.make == some Rows.fnBatchAllRow.make)) = true := p28
theorem c29 : ((Rows.fnBatchAllRow.kinds == (if Rows.fnBatchAllRow.domain.isEmpty then [] else Try.f3.params.toList.map fun t => match Try.prog.underlying t with | some (.int k) => some k | _ => none))) = true := by kernel_rfl
theorem c30 : ((Rows.fnBatchAllRow.pinned == Rows.fnBatchAllRow.pinnedBy)) = true := by kernel_rfl
theorem c31 : ((Rows.fnBatchAllRow.veiled == (Try.f3.params.toList ++ Rows.fnBatchAllSpec.plain.varTypes Try.prog ++ Try.f3.resultTypes.toList).any (Try.prog.veiledRec ·))) = true := by kernel_rfl
theorem c32 : (Rows.fnBatchAllRow.veiledFits Try.prog Try.f3.params.toList (Try.f3.params.toList ++ Rows.fnBatchAllSpec.plain.varTypes Try.prog ++ Try.f3.resultTypes.toList)) = true := by kernel_rfl
theorem and2 {a b : Bool} (h : a = true) (k : b = true) : (a && b) = true := by rw [h, k]; rfl
set_option maxRecDepth 100000 in
theorem closed : joinedFacts Try.prog 3 Try.f3 Rows.fnBatchAllSpec Rows.fnBatchAllRow = true := (and2 (and2 (and2 (and2 (and2 (and2 (and2 (and2 (and2 (and2 (and2 (and2 (and2 (and2 (and2 (and2 (and2 (and2 (and2 (and2 (and2 (and2 (and2 (and2 (and2 (and2 (and2 (and2 (and2 (and2 (and2 c1 c2) c3) c4) c5) c6) c7) c8) c9) c10) c11) c12) c13) c14) c15) c16) c17) c18) c19) c20) c21) c22) c23) c24) c25) c26) c27) c28) c29) c30) c31) c32)
end Go.Proofs.Ytaklkcjlihdlkaa.fnBatchAllDone
