/- Closed facts of a row. -/
import Derived.Test.YtjogmblilagohaaGreatFactsP
import Derived.Test.YtjogmblilagohaaGreatRows
import Derived.JoinedOf
import Derived.ProofKit
namespace Go.Proofs.YtjogmblilagohaaGreat.fnExactForgetNodeDone
open Go.ChangeShapes Go.WideShapes Go.ChangeAt Go.RowKit
theorem c1 : (Rows.fnExactForgetNodeRow.wf (OpenSpec.ofChange Rows.fnExactForgetNodeSpec)) = true := by kernel_rfl
theorem c2 : (laidOutB Tryz.prog) = true := p2
theorem c3 : (mapsRowed Tryz.prog) = true := p3
theorem c4 : (Tryz.f12.params.all (Tryz.prog.readableRec ·)) = true := by kernel_rfl
theorem c5 : (namedTie Tryz.prog Rows.fnExactForgetNodeRow.named Rows.fnExactForgetNodeSpec.vars) = true := by kernel_rfl
theorem c6 : ((Rows.fnExactForgetNodeRow.stops == [])) = true := by kernel_rfl
theorem c7 : ((Tryz.prog.stops == [])) = true := p7
theorem c8 : ((Rows.fnExactForgetNodeRow.knobs == [])) = true := by kernel_rfl
theorem c9 : ((Tryz.prog.stopKnobs == [])) = true := p9
theorem c10 : ((Rows.fnExactForgetNodeRow.inPlace == Tryz.prog.inPlace 12)) = true := by kernel_rfl
theorem c11 : ((Rows.fnExactForgetNodeRow.unfollowed == Tryz.prog.unfollowed 12)) = true := by kernel_rfl
theorem c12 : ((Rows.fnExactForgetNodeRow.recurses == Tryz.prog.recurses 12)) = true := by kernel_rfl
theorem c13 : ((Rows.fnExactForgetNodeRow.named == Tryz.prog.varsNamed 12)) = true := by kernel_rfl
theorem c14 : ((Rows.fnExactForgetNodeRow.maps == (Tryz.f12.params.toList ++ Rows.fnExactForgetNodeSpec.plain.varTypes Tryz.prog).any (Tryz.prog.mapsRec ·))) = true := by kernel_rfl
theorem c15 : ((Rows.fnExactForgetNodeRow.ifaces == (Tryz.f12.params.toList ++ Rows.fnExactForgetNodeSpec.plain.varTypes Tryz.prog).any (Tryz.prog.ifacesRec ·))) = true := by kernel_rfl
theorem c16 : ((Rows.fnExactForgetNodeRow.mapsOut == Tryz.prog.mapsAmong Tryz.f12.resultTypes.toList)) = true := by kernel_rfl
theorem c17 : ((Rows.fnExactForgetNodeRow.loops == (Tryz.f12.params.toList ++ Rows.fnExactForgetNodeSpec.plain.varTypes Tryz.prog).any (Tryz.prog.loopsFrom ·))) = true := by kernel_rfl
theorem c18 : ((Rows.fnExactForgetNodeRow.wideKeys == (Tryz.f12.params.toList ++ Rows.fnExactForgetNodeSpec.plain.varTypes Tryz.prog ++ Tryz.f12.resultTypes.toList).any (Tryz.prog.wideKeysFrom ·))) = true := by kernel_rfl
theorem c19 : (Rows.fnExactForgetNodeSpec.vars.all (Tryz.prog.varReadable ·)) = true := by kernel_rfl
theorem c20 : (Tryz.f12.resultTypes.all (fun t => Tryz.prog.readableRec t && decide (t < Tryz.prog.types.size))) = true := by kernel_rfl
theorem c21 : ((Rows.fnExactForgetNodeRow.ifacesOut == Tryz.f12.resultTypes.toList.any (Tryz.prog.ifacesRec ·))) = true := by kernel_rfl
theorem c22 : ((Rows.fnExactForgetNodeRow.loopsOut == Tryz.f12.resultTypes.toList.any (Tryz.prog.loopsFrom ·))) = true := by kernel_rfl
theorem c23 : ((Rows.fnExactForgetNodeRow.plainKeys == Tryz.prog.plainKeys)) = true := p23
theorem c24 : (Rows.fnExactForgetNodeRow.shortTexts.isNone) = true := by kernel_rfl
theorem c25 : (Tryz.prog.stopsHeard) = true := p25
theorem c26 : (Tryz.prog.mayEnter) = true := p26
theorem c27 : ((Rows.fnExactForgetNodeRow.lifted == Tryz.prog.liftsFinal)) = true := p27
theorem c28 : ((Tryz.prog.make == some Rows.fnExactForgetNodeRow.make)) = true := p28
theorem c29 : ((Rows.fnExactForgetNodeRow.kinds == (if Rows.fnExactForgetNodeRow.domain.isEmpty then [] else Tryz.f12.params.toList.map fun t => match Tryz.prog.underlying t with | some (.int k) => some k | _ => none))) = true := by kernel_rfl
theorem c30 : ((Rows.fnExactForgetNodeRow.pinned == Rows.fnExactForgetNodeRow.pinnedBy)) = true := by kernel_rfl
theorem c31 : ((Rows.fnExactForgetNodeRow.veiled == (Tryz.f12.params.toList ++ Rows.fnExactForgetNodeSpec.plain.varTypes Tryz.prog ++ Tryz.f12.resultTypes.toList).any (Tryz.prog.veiledRec ·))) = true := by kernel_rfl
theorem c32 : (Rows.fnExactForgetNodeRow.veiledFits Tryz.prog Tryz.f12.params.toList (Tryz.f12.params.toList ++ Rows.fnExactForgetNodeSpec.plain.varTypes Tryz.prog ++ Tryz.f12.resultTypes.toList)) = true := by kernel_rfl
theorem and2 {a b : Bool} (h : a = true) (k : b = true) : (a && b) = true := by rw [h, k]; rfl
set_option maxRecDepth 100000 in
theorem closed : joinedFacts Tryz.prog 12 Tryz.f12 Rows.fnExactForgetNodeSpec Rows.fnExactForgetNodeRow = true := (and2 (and2 (and2 (and2 (and2 (and2 (and2 (and2 (and2 (and2 (and2 (and2 (and2 (and2 (and2 (and2 (and2 (and2 (and2 (and2 (and2 (and2 (and2 (and2 (and2 (and2 (and2 (and2 (and2 (and2 (and2 c1 c2) c3) c4) c5) c6) c7) c8) c9) c10) c11) c12) c13) c14) c15) c16) c17) c18) c19) c20) c21) c22) c23) c24) c25) c26) c27) c28) c29) c30) c31) c32)
end Go.Proofs.YtjogmblilagohaaGreat.fnExactForgetNodeDone
