/- Closed facts of a row. -/
import Derived.Test.YtmkfjnkdaeoppaaGreatFactsP
import Derived.Test.YtmkfjnkdaeoppaaGreatRows
import Derived.JoinedOf
import Derived.ProofKit
namespace Go.Proofs.YtmkfjnkdaeoppaaGreat.fnWriteHastyDone
open Go.ChangeShapes Go.WideShapes Go.ChangeAt Go.RowKit
theorem c1 : (Rows.fnWriteHastyRow.wf (OpenSpec.ofChange Rows.fnWriteHastySpec)) = true := by kernel_rfl
theorem c2 : (laidOutB Tryz.prog) = true := p2
theorem c3 : (mapsRowed Tryz.prog) = true := p3
theorem c4 : (Tryz.f15.params.all (Tryz.prog.readableRec ·)) = true := by kernel_rfl
theorem c5 : (namedTie Tryz.prog Rows.fnWriteHastyRow.named Rows.fnWriteHastySpec.vars) = true := by kernel_rfl
theorem c6 : ((Rows.fnWriteHastyRow.stops == [])) = true := by kernel_rfl
theorem c7 : ((Tryz.prog.stops == [])) = true := p7
theorem c8 : ((Rows.fnWriteHastyRow.knobs == [])) = true := by kernel_rfl
theorem c9 : ((Tryz.prog.stopKnobs == [])) = true := p9
theorem c10 : ((Rows.fnWriteHastyRow.inPlace == Tryz.prog.inPlace 15)) = true := by kernel_rfl
theorem c11 : ((Rows.fnWriteHastyRow.unfollowed == Tryz.prog.unfollowed 15)) = true := by kernel_rfl
theorem c12 : ((Rows.fnWriteHastyRow.recurses == Tryz.prog.recurses 15)) = true := by kernel_rfl
theorem c13 : ((Rows.fnWriteHastyRow.named == Tryz.prog.varsNamed 15)) = true := by kernel_rfl
theorem c14 : ((Rows.fnWriteHastyRow.maps == (Tryz.f15.params.toList ++ Rows.fnWriteHastySpec.plain.varTypes Tryz.prog).any (Tryz.prog.mapsRec ·))) = true := by kernel_rfl
theorem c15 : ((Rows.fnWriteHastyRow.ifaces == (Tryz.f15.params.toList ++ Rows.fnWriteHastySpec.plain.varTypes Tryz.prog).any (Tryz.prog.ifacesRec ·))) = true := by kernel_rfl
theorem c16 : ((Rows.fnWriteHastyRow.mapsOut == Tryz.prog.mapsAmong Tryz.f15.resultTypes.toList)) = true := by kernel_rfl
theorem c17 : ((Rows.fnWriteHastyRow.loops == (Tryz.f15.params.toList ++ Rows.fnWriteHastySpec.plain.varTypes Tryz.prog).any (Tryz.prog.loopsFrom ·))) = true := by kernel_rfl
theorem c18 : ((Rows.fnWriteHastyRow.wideKeys == (Tryz.f15.params.toList ++ Rows.fnWriteHastySpec.plain.varTypes Tryz.prog ++ Tryz.f15.resultTypes.toList).any (Tryz.prog.wideKeysFrom ·))) = true := by kernel_rfl
theorem c19 : (Rows.fnWriteHastySpec.vars.all (Tryz.prog.varReadable ·)) = true := by kernel_rfl
theorem c20 : (Tryz.f15.resultTypes.all (fun t => Tryz.prog.readableRec t && decide (t < Tryz.prog.types.size))) = true := by kernel_rfl
theorem c21 : ((Rows.fnWriteHastyRow.ifacesOut == Tryz.f15.resultTypes.toList.any (Tryz.prog.ifacesRec ·))) = true := by kernel_rfl
theorem c22 : ((Rows.fnWriteHastyRow.loopsOut == Tryz.f15.resultTypes.toList.any (Tryz.prog.loopsFrom ·))) = true := by kernel_rfl
theorem c23 : ((Rows.fnWriteHastyRow.plainKeys == Tryz.prog.plainKeys)) = true := p23
theorem c24 : (Rows.fnWriteHastyRow.shortTexts.isNone) = true := by kernel_rfl
theorem c25 : (Tryz.prog.stopsHeard) = true := p25
theorem c26 : (Tryz.prog.mayEnter) = true := p26
theorem c27 : ((Rows.fnWriteHastyRow.lifted == Tryz.prog.liftsFinal)) = true := p27
theorem c28 : ((Tryz.prog.make == some Rows.fnWriteHastyRow.make)) = true := p28
theorem c29 : ((Rows.fnWriteHastyRow.kinds == (if Rows.fnWriteHastyRow.domain.isEmpty then [] else Tryz.f15.params.toList.map fun t => match Tryz.prog.underlying t with | some (.int k) => some k | _ => none))) = true := by kernel_rfl
theorem c30 : ((Rows.fnWriteHastyRow.pinned == Rows.fnWriteHastyRow.pinnedBy)) = true := by kernel_rfl
theorem c31 : ((Rows.fnWriteHastyRow.veiled == (Tryz.f15.params.toList ++ Rows.fnWriteHastySpec.plain.varTypes Tryz.prog ++ Tryz.f15.resultTypes.toList).any (Tryz.prog.veiledRec ·))) = true := by kernel_rfl
theorem c32 : (Rows.fnWriteHastyRow.veiledFits Tryz.prog Tryz.f15.params.toList (Tryz.f15.params.toList ++ Rows.fnWriteHastySpec.plain.varTypes Tryz.prog ++ Tryz.f15.resultTypes.toList)) = true := by kernel_rfl
theorem and2 {a b : Bool} (h : a = true) (k : b = true) : (a && b) = true := by rw [h, k]; rfl
set_option maxRecDepth 100000 in
theorem closed : joinedFacts Tryz.prog 15 Tryz.f15 Rows.fnWriteHastySpec Rows.fnWriteHastyRow = true := (and2 (and2 (and2 (and2 (and2 (and2 (and2 (and2 (and2 (and2 (and2 (and2 (and2 (and2 (and2 (and2 (and2 (and2 (and2 (and2 (and2 (and2 (and2 (and2 (and2 (and2 (and2 (and2 (and2 (and2 (and2 c1 c2) c3) c4) c5) c6) c7) c8) c9) c10) c11) c12) c13) c14) c15) c16) c17) c18) c19) c20) c21) c22) c23) c24) c25) c26) c27) c28) c29) c30) c31) c32)
end Go.Proofs.YtmkfjnkdaeoppaaGreat.fnWriteHastyDone
