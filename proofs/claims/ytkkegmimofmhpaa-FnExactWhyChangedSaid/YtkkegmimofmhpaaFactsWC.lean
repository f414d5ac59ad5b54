/- Closed facts of a row. -/
import Derived.Test.YtkkegmimofmhpaaFactsP
import Derived.Test.YtkkegmimofmhpaaRows
import Derived.JoinedOf
import Derived.ProofKit
namespace Go.Proofs.Ytkkegmimofmhpaa.fnExactWhyChangedDone
open Go.ChangeShapes Go.WideShapes Go.ChangeAt Go.RowKit
theorem c1 : (Rows.fnExactWhyChangedRow.wf (OpenSpec.ofChange Rows.fnExactWhyChangedSpec)) = true := by kernel_rfl
theorem c2 : (laidOutB Try.prog) = true := p2
theorem c3 : (mapsRowed Try.prog) = true := p3
theorem c4 : (Try.f13.params.all (Try.prog.readableRec ·)) = true := by kernel_rfl
theorem c5 : (namedTie Try.prog Rows.fnExactWhyChangedRow.named Rows.fnExactWhyChangedSpec.vars) = true := by kernel_rfl
theorem c6 : ((Rows.fnExactWhyChangedRow.stops == [])) = true := by kernel_rfl
theorem c7 : ((Try.prog.stops == [])) = true := p7
theorem c8 : ((Rows.fnExactWhyChangedRow.knobs == [])) = true := by kernel_rfl
theorem c9 : ((Try.prog.stopKnobs == [])) = true := p9
theorem c10 : ((Rows.fnExactWhyChangedRow.inPlace == Try.prog.inPlace 13)) = true := by kernel_rfl
theorem c11 : ((Rows.fnExactWhyChangedRow.unfollowed == Try.prog.unfollowed 13)) = true := by kernel_rfl
theorem c12 : ((Rows.fnExactWhyChangedRow.recurses == Try.prog.recurses 13)) = true := by kernel_rfl
theorem c13 : ((Rows.fnExactWhyChangedRow.named == Try.prog.varsNamed 13)) = true := by kernel_rfl
theorem c14 : ((Rows.fnExactWhyChangedRow.maps == (Try.f13.params.toList ++ Rows.fnExactWhyChangedSpec.plain.varTypes Try.prog).any (Try.prog.mapsRec ·))) = true := by kernel_rfl
theorem c15 : ((Rows.fnExactWhyChangedRow.ifaces == (Try.f13.params.toList ++ Rows.fnExactWhyChangedSpec.plain.varTypes Try.prog).any (Try.prog.ifacesRec ·))) = true := by kernel_rfl
theorem c16 : ((Rows.fnExactWhyChangedRow.mapsOut == Try.prog.mapsAmong Try.f13.resultTypes.toList)) = true := by kernel_rfl
theorem c17 : ((Rows.fnExactWhyChangedRow.loops == (Try.f13.params.toList ++ Rows.fnExactWhyChangedSpec.plain.varTypes Try.prog).any (Try.prog.loopsFrom ·))) = true := by kernel_rfl
theorem c18 : ((Rows.fnExactWhyChangedRow.wideKeys == (Try.f13.params.toList ++ Rows.fnExactWhyChangedSpec.plain.varTypes Try.prog ++ Try.f13.resultTypes.toList).any (Try.prog.wideKeysFrom ·))) = true := by kernel_rfl
theorem c19 : (Rows.fnExactWhyChangedSpec.vars.all (Try.prog.varReadable ·)) = true := by kernel_rfl
theorem c20 : (Try.f13.resultTypes.all (fun t => Try.prog.readableRec t && decide (t < Try.prog.types.size))) = true := by kernel_rfl
theorem c21 : ((Rows.fnExactWhyChangedRow.ifacesOut == Try.f13.resultTypes.toList.any (Try.prog.ifacesRec ·))) = true := by kernel_rfl
theorem c22 : ((Rows.fnExactWhyChangedRow.loopsOut == Try.f13.resultTypes.toList.any (Try.prog.loopsFrom ·))) = true := by kernel_rfl
theorem c23 : ((Rows.fnExactWhyChangedRow.plainKeys == Try.prog.plainKeys)) = true := p23
theorem c24 : (Rows.fnExactWhyChangedRow.shortTexts.isNone) = true := by kernel_rfl
theorem c25 : (Try.prog.stopsHeard) = true := p25
theorem c26 : (Try.prog.mayEnter) = true := p26
theorem c27 : ((Rows.fnExactWhyChangedRow.lifted == Try.prog.liftsFinal)) = true := p27
theorem c28 : ((Try.prog.make == some Rows.fnExactWhyChangedRow.make)) = true := p28
theorem c29 : ((Rows.fnExactWhyChangedRow.kinds == (if Rows.fnExactWhyChangedRow.domain.isEmpty then [] else Try.f13.params.toList.map fun t => match Try.prog.underlying t with | some (.int k) => some k | _ => none))) = true := by kernel_rfl
theorem c30 : ((Rows.fnExactWhyChangedRow.pinned == Rows.fnExactWhyChangedRow.pinnedBy)) = true := by kernel_rfl
theorem c31 : ((Rows.fnExactWhyChangedRow.veiled == (Try.f13.params.toList ++ Rows.fnExactWhyChangedSpec.plain.varTypes Try.prog ++ Try.f13.resultTypes.toList).any (Try.prog.veiledRec ·))) = true := by kernel_rfl
theorem c32 : (Rows.fnExactWhyChangedRow.veiledFits Try.prog Try.f13.params.toList (Try.f13.params.toList ++ Rows.fnExactWhyChangedSpec.plain.varTypes Try.prog ++ Try.f13.resultTypes.toList)) = true := by kernel_rfl
theorem and2 {a b : Bool} (h : a = true) (k : b = true) : (a && b) = true := by rw [h, k]; rfl
set_option maxRecDepth 100000 in
theorem closed : joinedFacts Try.prog 13 Try.f13 Rows.fnExactWhyChangedSpec Rows.fnExactWhyChangedRow = true := (and2 (and2 (and2 (and2 (and2 (and2 (and2 (and2 (and2 (and2 (and2 (and2 (and2 (and2 (and2 (and2 (and2 (and2 (and2 (and2 (and2 (and2 (and2 (and2 (and2 (and2 (and2 (and2 (and2 (and2 (and2 c1 c2) c3) c4) c5) c6) c7) c8) c9) c10) c11) c12) c13) c14) c15) c16) c17) c18) c19) c20) c21) c22) c23) c24) c25) c26) c27) c28) c29) c30) c31) c32)
end Go.Proofs.Ytkkegmimofmhpaa.fnExactWhyChangedDone
