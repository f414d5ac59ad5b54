/- Closed facts of a row. -/
import Derived.Test.YtjogmblilagohaaGreatFactsP
import Derived.Test.YtjogmblilagohaaGreatRows
import Derived.JoinedOf
import Derived.ProofKit
namespace Go.Proofs.YtjogmblilagohaaGreat.fnExactWriteLazyDone
open Go.ChangeShapes Go.WideShapes Go.ChangeAt Go.RowKit
theorem c1 : (Rows.fnExactWriteLazyRow.wf (OpenSpec.ofChange Rows.fnExactWriteLazySpec)) = true := by kernel_rfl
theorem c2 : (laidOutB Tryz.prog) = true := p2
theorem c3 : (mapsRowed Tryz.prog) = true := p3
theorem c4 : (Tryz.f11.params.all (Tryz.prog.readableRec ·)) = true := by kernel_rfl
theorem c5 : (namedTie Tryz.prog Rows.fnExactWriteLazyRow.named Rows.fnExactWriteLazySpec.vars) = true := by kernel_rfl
theorem c6 : ((Rows.fnExactWriteLazyRow.stops == [])) = true := by kernel_rfl
theorem c7 : ((Tryz.prog.stops == [])) = true := p7
theorem c8 : ((Rows.fnExactWriteLazyRow.knobs == [])) = true := by kernel_rfl
theorem c9 : ((Tryz.prog.stopKnobs == [])) = true := p9
theorem c10 : ((Rows.fnExactWriteLazyRow.inPlace == Tryz.prog.inPlace 11)) = true := by kernel_rfl
theorem c11 : ((Rows.fnExactWriteLazyRow.unfollowed == Tryz.prog.unfollowed 11)) = true := by kernel_rfl
theorem c12 : ((Rows.fnExactWriteLazyRow.recurses == Tryz.prog.recurses 11)) = true := by kernel_rfl
theorem c13 : ((Rows.fnExactWriteLazyRow.named == Tryz.prog.varsNamed 11)) = true := by kernel_rfl
theorem c14 : ((Rows.fnExactWriteLazyRow.maps == (Tryz.f11.params.toList ++ Rows.fnExactWriteLazySpec.plain.varTypes Tryz.prog).any (Tryz.prog.mapsRec ·))) = true := by kernel_rfl
theorem c15 : ((Rows.fnExactWriteLazyRow.ifaces == (Tryz.f11.params.toList ++ Rows.fnExactWriteLazySpec.plain.varTypes Tryz.prog).any (Tryz.prog.ifacesRec ·))) = true := by kernel_rfl
theorem c16 : ((Rows.fnExactWriteLazyRow.mapsOut == Tryz.prog.mapsAmong Tryz.f11.resultTypes.toList)) = true := by kernel_rfl
theorem c17 : ((Rows.fnExactWriteLazyRow.loops == (Tryz.f11.params.toList ++ Rows.fnExactWriteLazySpec.plain.varTypes Tryz.prog).any (Tryz.prog.loopsFrom ·))) = true := by kernel_rfl
theorem c18 : ((Rows.fnExactWriteLazyRow.wideKeys == (Tryz.f11.params.toList ++ Rows.fnExactWriteLazySpec.plain.varTypes Tryz.prog ++ Tryz.f11.resultTypes.toList).any (Tryz.prog.wideKeysFrom ·))) = true := by kernel_rfl
theorem c19 : (Rows.fnExactWriteLazySpec.vars.all (Tryz.prog.varReadable ·)) = true := by kernel_rfl
theorem c20 : (Tryz.f11.resultTypes.all (fun t => Tryz.prog.readableRec t && decide (t < Tryz.prog.types.size))) = true := by kernel_rfl
theorem c21 : ((Rows.fnExactWriteLazyRow.ifacesOut == Tryz.f11.resultTypes.toList.any (Tryz.prog.ifacesRec ·))) = true := by kernel_rfl
theorem c22 : ((Rows.fnExactWriteLazyRow.loopsOut == Tryz.f11.resultTypes.toList.any (Tryz.prog.loopsFrom ·))) = true := by kernel_rfl
theorem c23 : ((Rows.fnExactWriteLazyRow.plainKeys == Tryz.prog.plainKeys)) = true := p23
theorem c24 : (Rows.fnExactWriteLazyRow.shortTexts.isNone) = true := by kernel_rfl
theorem c25 : (Tryz.prog.stopsHeard) = true := p25
theorem c26 : (Tryz.prog.mayEnter) = true := p26
theorem c27 : ((Rows.fnExactWriteLazyRow.lifted == Tryz.prog.liftsFinal)) = true := p27
theorem c28 : ((Tryz.prog.make == some Rows.fnExactWriteLazyRow.make)) = true := p28
theorem c29 : ((Rows.fnExactWriteLazyRow.kinds == (if Rows.fnExactWriteLazyRow.domain.isEmpty then [] else Tryz.f11.params.toList.map fun t => match Tryz.prog.underlying t with | some (.int k) => some k | _ => none))) = true := by kernel_rfl
theorem c30 : ((Rows.fnExactWriteLazyRow.pinned == Rows.fnExactWriteLazyRow.pinnedBy)) = true := by kernel_rfl
theorem c31 : ((Rows.fnExactWriteLazyRow.veiled == (Tryz.f11.params.toList ++ Rows.fnExactWriteLazySpec.plain.varTypes Tryz.prog ++ Tryz.f11.resultTypes.toList).any (Tryz.prog.veiledRec ·))) = true := by kernel_rfl
theorem c32 : (Rows.fnExactWriteLazyRow.veiledFits Tryz.prog Tryz.f11.params.toList (Tryz.f11.params.toList ++ Rows.fnExactWriteLazySpec.plain.varTypes Tryz.prog ++ Tryz.f11.resultTypes.toList)) = true := by kernel_rfl
theorem and2 {a b : Bool} (h : a = true) (k : b = true) : (a && b) = true := by rw [h, k]; rfl
set_option maxRecDepth 100000 in
theorem closed : joinedFacts Tryz.prog 11 Tryz.f11 Rows.fnExactWriteLazySpec Rows.fnExactWriteLazyRow = true := (and2 (and2 (and2 (and2 (and2 (and2 (and2 (and2 (and2 (and2 (and2 (and2 (and2 (and2 (and2 (and2 (and2 (and2 (and2 (and2 (and2 (and2 (and2 (and2 (and2 (and2 (and2 (and2 (and2 (and2 (and2 c1 c2) c3) c4) c5) c6) c7) c8) c9) c10) c11) c12) c13) c14) c15) c16) c17) c18) c19) c20) c21) c22) c23) c24) c25) c26) c27) c28) c29) c30) c31) c32)
end Go.Proofs.YtjogmblilagohaaGreat.fnExactWriteLazyDone
