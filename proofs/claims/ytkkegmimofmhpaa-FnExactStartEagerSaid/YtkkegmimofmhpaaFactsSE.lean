/- Closed facts of a row. -/
import Derived.Test.YtkkegmimofmhpaaFactsP
import Derived.Test.YtkkegmimofmhpaaRows
import Derived.JoinedOf
import Derived.ProofKit
namespace Go.Proofs.Ytkkegmimofmhpaa.fnExactStartEagerDone
open Go.ChangeShapes Go.WideShapes Go.ChangeAt Go.RowKit
theorem c1 : (Rows.fnExactStartEagerRow.wf (OpenSpec.ofChange Rows.fnExactStartEagerSpec)) = true := by kernel_rfl
theorem c2 : (laidOutB Try.prog) = true := p2
theorem c3 : (mapsRowed Try.prog) = true := p3
theorem c4 : (Try.f7.params.all (Try.prog.readableRec ·)) = true := by kernel_rfl
theorem c5 : (namedTie Try.prog Rows.fnExactStartEagerRow.named Rows.fnExactStartEagerSpec.vars) = true := by kernel_rfl
theorem c6 : ((Rows.fnExactStartEagerRow.stops == [])) = true := by kernel_rfl
theorem c7 : ((Try.prog.stops == [])) = true := p7
theorem c8 : ((Rows.fnExactStartEagerRow.knobs == [])) = true := by kernel_rfl
theorem c9 : ((Try.prog.stopKnobs == [])) = true := p9
theorem c10 : ((Rows.fnExactStartEagerRow.inPlace == Try.prog.inPlace 7)) = true := by kernel_rfl
theorem c11 : ((Rows.fnExactStartEagerRow.unfollowed == Try.prog.unfollowed 7)) = true := by kernel_rfl
theorem c12 : ((Rows.fnExactStartEagerRow.recurses == Try.prog.recurses 7)) = true := by kernel_rfl
theorem c13 : ((Rows.fnExactStartEagerRow.named == Try.prog.varsNamed 7)) = true := by kernel_rfl
theorem c14 : ((Rows.fnExactStartEagerRow.maps == (Try.f7.params.toList ++ Rows.fnExactStartEagerSpec.plain.varTypes Try.prog).any (Try.prog.mapsRec ·))) = true := by kernel_rfl
theorem c15 : ((Rows.fnExactStartEagerRow.ifaces == (Try.f7.params.toList ++ Rows.fnExactStartEagerSpec.plain.varTypes Try.prog).any (Try.prog.ifacesRec ·))) = true := by kernel_rfl
theorem c16 : ((Rows.fnExactStartEagerRow.mapsOut == Try.prog.mapsAmong Try.f7.resultTypes.toList)) = true := by kernel_rfl
theorem c17 : ((Rows.fnExactStartEagerRow.loops == (Try.f7.params.toList ++ Rows.fnExactStartEagerSpec.plain.varTypes Try.prog).any (Try.prog.loopsFrom ·))) = true := by kernel_rfl
theorem c18 : ((Rows.fnExactStartEagerRow.wideKeys == (Try.f7.params.toList ++ Rows.fnExactStartEagerSpec.plain.varTypes Try.prog ++ Try.f7.resultTypes.toList).any (Try.prog.wideKeysFrom ·))) = true := by kernel_rfl
theorem c19 : (Rows.fnExactStartEagerSpec.vars.all (Try.prog.varReadable ·)) = true := by kernel_rfl
theorem c20 : (Try.f7.resultTypes.all (fun t => Try.prog.readableRec t && decide (t < Try.prog.types.size))) = true := by kernel_rfl
theorem c21 : ((Rows.fnExactStartEagerRow.ifacesOut == Try.f7.resultTypes.toList.any (Try.prog.ifacesRec ·))) = true := by kernel_rfl
theorem c22 : ((Rows.fnExactStartEagerRow.loopsOut == Try.f7.resultTypes.toList.any (Try.prog.loopsFrom ·))) = true := by kernel_rfl
theorem c23 : ((Rows.fnExactStartEagerRow.plainKeys == Try.prog.plainKeys)) = true := p23
theorem c24 : (Rows.fnExactStartEagerRow.shortTexts.isNone) = true := by kernel_rfl
theorem c25 : (Try.prog.stopsHeard) = true := p25
theorem c26 : (Try.prog.mayEnter) = true := p26
theorem c27 : ((Rows.fnExactStartEagerRow.lifted == Try.prog.liftsFinal)) = true := p27
theorem c28 : ((Try.prog.make == some Rows.fnExactStartEagerRow.make)) = true := p28
theorem c29 : ((Rows.fnExactStartEagerRow.kinds == (if Rows.fnExactStartEagerRow.domain.isEmpty then [] else Try.f7.params.toList.map fun t => match Try.prog.underlying t with | some (.int k) => some k | _ => none))) = true := by kernel_rfl
theorem c30 : ((Rows.fnExactStartEagerRow.pinned == Rows.fnExactStartEagerRow.pinnedBy)) = true := by kernel_rfl
theorem c31 : ((Rows.fnExactStartEagerRow.veiled == (Try.f7.params.toList ++ Rows.fnExactStartEagerSpec.plain.varTypes Try.prog ++ Try.f7.resultTypes.toList).any (Try.prog.veiledRec ·))) = true := by kernel_rfl
theorem c32 : (Rows.fnExactStartEagerRow.veiledFits Try.prog Try.f7.params.toList (Try.f7.params.toList ++ Rows.fnExactStartEagerSpec.plain.varTypes Try.prog ++ Try.f7.resultTypes.toList)) = true := by kernel_rfl
theorem and2 {a b : Bool} (h : a = true) (k : b = true) : (a && b) = true := by rw [h, k]; rfl
set_option maxRecDepth 100000 in
theorem closed : joinedFacts Try.prog 7 Try.f7 Rows.fnExactStartEagerSpec Rows.fnExactStartEagerRow = true := (and2 (and2 (and2 (and2 (and2 (and2 (and2 (and2 (and2 (and2 (and2 (and2 (and2 (and2 (and2 (and2 (and2 (and2 (and2 (and2 (and2 (and2 (and2 (and2 (and2 (and2 (and2 (and2 (and2 (and2 (and2 c1 c2) c3) c4) c5) c6) c7) c8) c9) c10) c11) c12) c13) c14) c15) c16) c17) c18) c19) c20) c21) c22) c23) c24) c25) c26) c27) c28) c29) c30) c31) c32)
end Go.Proofs.Ytkkegmimofmhpaa.fnExactStartEagerDone
