/- Closed facts of a row. -/
import Derived.Test.YtdnlpklmihoapaaDoorOpenAll
import Derived.Test.YtdnlpklmihoapaaDoorRows
import Derived.JoinedOf
import Derived.ProofKit
namespace Go.Proofs.YtdnlpklmihoapaaDoor.fnParseFormulaDone
open Go.ChangeShapes Go.WideShapes Go.ChangeAt Go.RowKit
theorem c1 : (Rows.fnParseFormulaRow.wf (OpenSpec.ofChange Rows.fnParseFormulaSpec)) = true := by kernel_rfl
theorem c2 : (laidOutB Tryd.prog) = true := p2
theorem c3 : (mapsRowed Tryd.prog) = true := p3
theorem c4 : (Tryd.f6.params.all (Tryd.prog.readableRec ·)) = true := by kernel_rfl
theorem c5 : (namedTie Tryd.prog Rows.fnParseFormulaRow.named Rows.fnParseFormulaSpec.vars) = true := by kernel_rfl
theorem c6 : ((Rows.fnParseFormulaRow.stops == [])) = true := by kernel_rfl
theorem c7 : ((Tryd.prog.stops == [])) = true := p7
theorem c8 : ((Rows.fnParseFormulaRow.knobs == [])) = true := by kernel_rfl
theorem c9 : ((Tryd.prog.stopKnobs == [])) = true := p9
theorem c10 : ((Rows.fnParseFormulaRow.inPlace == Tryd.prog.inPlace 6)) = true := by kernel_rfl
theorem c11 : ((Rows.fnParseFormulaRow.unfollowed == Tryd.prog.unfollowed 6)) = true := by kernel_rfl
theorem c12 : ((Rows.fnParseFormulaRow.recurses == Tryd.prog.recurses 6)) = true := by kernel_rfl
theorem c13 : ((Rows.fnParseFormulaRow.named == Tryd.prog.varsNamed 6)) = true := by kernel_rfl
theorem c14 : ((Rows.fnParseFormulaRow.maps == (Tryd.f6.params.toList ++ Rows.fnParseFormulaSpec.plain.varTypes Tryd.prog).any (Tryd.prog.mapsRec ·))) = true := by kernel_rfl
theorem c15 : ((Rows.fnParseFormulaRow.ifaces == (Tryd.f6.params.toList ++ Rows.fnParseFormulaSpec.plain.varTypes Tryd.prog).any (Tryd.prog.ifacesRec ·))) = true := by kernel_rfl
theorem c16 : ((Rows.fnParseFormulaRow.mapsOut == Tryd.prog.mapsAmong Tryd.f6.resultTypes.toList)) = true := by kernel_rfl
theorem c17 : ((Rows.fnParseFormulaRow.loops == (Tryd.f6.params.toList ++ Rows.fnParseFormulaSpec.plain.varTypes Tryd.prog).any (Tryd.prog.loopsFrom ·))) = true := by kernel_rfl
theorem c18 : ((Rows.fnParseFormulaRow.wideKeys == (Tryd.f6.params.toList ++ Rows.fnParseFormulaSpec.plain.varTypes Tryd.prog ++ Tryd.f6.resultTypes.toList).any (Tryd.prog.wideKeysFrom ·))) = true := by kernel_rfl
theorem c19 : (Rows.fnParseFormulaSpec.vars.all (Tryd.prog.varReadable ·)) = true := by kernel_rfl
theorem c20 : (Tryd.f6.resultTypes.all (fun t => Tryd.prog.readableRec t && decide (t < Tryd.prog.types.size))) = true := by kernel_rfl
theorem c21 : ((Rows.fnParseFormulaRow.ifacesOut == Tryd.f6.resultTypes.toList.any (Tryd.prog.ifacesRec ·))) = true := by kernel_rfl
theorem c22 : ((Rows.fnParseFormulaRow.loopsOut == Tryd.f6.resultTypes.toList.any (Tryd.prog.loopsFrom ·))) = true := by kernel_rfl
theorem c23 : ((Rows.fnParseFormulaRow.plainKeys == Tryd.prog.plainKeys)) = true := p23
theorem c24 : (Rows.fnParseFormulaRow.shortTexts.isNone) = true := by kernel_rfl
theorem c25 : (Tryd.prog.stopsHeard) = true := p25
theorem c26 : (Tryd.prog.mayEnter) = true := p26
theorem c27 : ((Rows.fnParseFormulaRow.lifted == Tryd.prog.liftsFinal)) = true := p27
theorem c28 : ((Tryd.prog.make == some Rows.fnParseFormulaRow.make)) = true := p28
theorem c29 : ((Rows.fnParseFormulaRow.kinds == (if Rows.fnParseFormulaRow.domain.isEmpty then [] else Tryd.f6.params.toList.map fun t => match Tryd.prog.underlying t with | some (.int k) => some k | _ => none))) = true := by kernel_rfl
theorem c30 : ((Rows.fnParseFormulaRow.pinned == Rows.fnParseFormulaRow.pinnedBy)) = true := by kernel_rfl
theorem c31 : ((Rows.fnParseFormulaRow.veiled == (Tryd.f6.params.toList ++ Rows.fnParseFormulaSpec.plain.varTypes Tryd.prog ++ Tryd.f6.resultTypes.toList).any (Tryd.prog.veiledRec ·))) = true := by kernel_rfl
theorem c32 : (Rows.fnParseFormulaRow.veiledFits Tryd.prog Tryd.f6.params.toList (Tryd.f6.params.toList ++ Rows.fnParseFormulaSpec.plain.varTypes Tryd.prog ++ Tryd.f6.resultTypes.toList)) = true := by kernel_rfl
theorem and2 {a b : Bool} (h : a = true) (k : b = true) : (a && b) = true := by rw [h, k]; rfl
set_option maxRecDepth 100000 in
theorem closed : joinedFacts Tryd.prog 6 Tryd.f6 Rows.fnParseFormulaSpec Rows.fnParseFormulaRow = true := (and2 (and2 (and2 (and2 (and2 (and2 (and2 (and2 (and2 (and2 (and2 (and2 (and2 (and2 (and2 (and2 (and2 (and2 (and2 (and2 (and2 (and2 (and2 (and2 (and2 (and2 (and2 (and2 (and2 (and2 (and2 c1 c2) c3) c4) c5) c6) c7) c8) c9) c10) c11) c12) c13) c14) c15) c16) c17) c18) c19) c20) c21) c22) c23) c24) c25) c26) c27) c28) c29) c30) c31) c32)
end Go.Proofs.YtdnlpklmihoapaaDoor.fnParseFormulaDone
