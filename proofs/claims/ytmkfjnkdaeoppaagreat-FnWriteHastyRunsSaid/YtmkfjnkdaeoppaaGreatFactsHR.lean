/- Closed facts of a row. -/
import Derived.Test.YtmkfjnkdaeoppaaGreatFactsP
import Derived.Test.YtmkfjnkdaeoppaaGreatRows
import Derived.JoinedOf
import Derived.ProofKit
namespace Go.Proofs.YtmkfjnkdaeoppaaGreat.fnWriteHastyRunsDone
open Go.ChangeShapes Go.WideShapes Go.ChangeAt Go.RowKit
theorem c1 : (Rows.fnWriteHastyRunsRow.wf (OpenSpec.ofChange Rows.fnWriteHastyRunsSpec)) = true := by kernel_rfl
theorem c2 : (laidOutB Tryz.prog) = true := p2
theorem c3 : (mapsRowed Tryz.prog) = true := p3
theorem c4 : (Tryz.f16.params.all (Tryz.prog.readableRec ·)) = true := by kernel_rfl
theorem c5 : (namedTie Tryz.prog Rows.fnWriteHastyRunsRow.named Rows.fnWriteHastyRunsSpec.vars) = true := by kernel_rfl
theorem c6 : ((Rows.fnWriteHastyRunsRow.stops == [])) = true := by kernel_rfl
theorem c7 : ((Tryz.prog.stops == [])) = true := p7
theorem c8 : ((Rows.fnWriteHastyRunsRow.knobs == [])) = true := by kernel_rfl
theorem c9 : ((Tryz.prog.stopKnobs == [])) = true := p9
theorem c10 : ((Rows.fnWriteHastyRunsRow.inPlace == Tryz.prog.inPlace 16)) = true := by kernel_rfl
theorem c11 : ((Rows.fnWriteHastyRunsRow.unfollowed == Tryz.prog.unfollowed 16)) = true := by kernel_rfl
theorem c12 : ((Rows.fnWriteHastyRunsRow.recurses == Tryz.prog.recurses 16)) = true := by kernel_rfl
theorem c13 : ((Rows.fnWriteHastyRunsRow.named == Tryz.prog.varsNamed 16)) = true := by kernel_rfl
theorem c14 : ((Rows.fnWriteHastyRunsRow.maps == (Tryz.f16.params.toList ++ Rows.fnWriteHastyRunsSpec.plain.varTypes Tryz.prog).any (Tryz.prog.mapsRec ·))) = true := by kernel_rfl
theorem c15 : ((Rows.fnWriteHastyRunsRow.ifaces == (Tryz.f16.params.toList ++ Rows.fnWriteHastyRunsSpec.plain.varTypes Tryz.prog).any (Tryz.prog.ifacesRec ·))) = true := by kernel_rfl
theorem c16 : ((Rows.fnWriteHastyRunsRow.mapsOut == Tryz.prog.mapsAmong Tryz.f16.resultTypes.toList)) = true := by kernel_rfl
theorem c17 : ((Rows.fnWriteHastyRunsRow.loops == (Tryz.f16.params.toList ++ Rows.fnWriteHastyRunsSpec.plain.varTypes Tryz.prog).any (Tryz.prog.loopsFrom ·))) = true := by kernel_rfl
theorem c18 : ((Rows.fnWriteHastyRunsRow.wideKeys == (Tryz.f16.params.toList ++ Rows.fnWriteHastyRunsSpec.plain.varTypes Tryz.prog ++ Tryz.f16.resultTypes.toList).any (Tryz.prog.wideKeysFrom ·))) = true := by kernel_rfl
theorem c19 : (Rows.fnWriteHastyRunsSpec.vars.all (Tryz.prog.varReadable ·)) = true := by kernel_rfl
theorem c20 : (Tryz.f16.resultTypes.all (fun t => Tryz.prog.readableRec t && decide (t < Tryz.prog.types.size))) = true := by kernel_rfl
theorem c21 : ((Rows.fnWriteHastyRunsRow.ifacesOut == Tryz.f16.resultTypes.toList.any (Tryz.prog.ifacesRec ·))) = true := by kernel_rfl
theorem c22 : ((Rows.fnWriteHastyRunsRow.loopsOut == Tryz.f16.resultTypes.toList.any (Tryz.prog.loopsFrom ·))) = true := by kernel_rfl
theorem c23 : ((Rows.fnWriteHastyRunsRow.plainKeys == Tryz.prog.plainKeys)) = true := p23
theorem c24 : (Rows.fnWriteHastyRunsRow.shortTexts.isNone) = true := by kernel_rfl
theorem c25 : (Tryz.prog.stopsHeard) = true := p25
theorem c26 : (Tryz.prog.mayEnter) = true := p26
theorem c27 : ((Rows.fnWriteHastyRunsRow.lifted == Tryz.prog.liftsFinal)) = true := p27
theorem c28 : ((Tryz.prog.make == some Rows.fnWriteHastyRunsRow.make)) = true := p28
theorem c29 : ((Rows.fnWriteHastyRunsRow.kinds == (if Rows.fnWriteHastyRunsRow.domain.isEmpty then [] else Tryz.f16.params.toList.map fun t => match Tryz.prog.underlying t with | some (.int k) => some k | _ => none))) = true := by kernel_rfl
theorem c30 : ((Rows.fnWriteHastyRunsRow.pinned == Rows.fnWriteHastyRunsRow.pinnedBy)) = true := by kernel_rfl
theorem c31 : ((Rows.fnWriteHastyRunsRow.veiled == (Tryz.f16.params.toList ++ Rows.fnWriteHastyRunsSpec.plain.varTypes Tryz.prog ++ Tryz.f16.resultTypes.toList).any (Tryz.prog.veiledRec ·))) = true := by kernel_rfl
theorem c32 : (Rows.fnWriteHastyRunsRow.veiledFits Tryz.prog Tryz.f16.params.toList (Tryz.f16.params.toList ++ Rows.fnWriteHastyRunsSpec.plain.varTypes Tryz.prog ++ Tryz.f16.resultTypes.toList)) = true := by kernel_rfl
theorem and2 {a b : Bool} (h : a = true) (k : b = true) : (a && b) = true := by rw [h, k]; rfl
set_option maxRecDepth 100000 in
theorem closed : joinedFacts Tryz.prog 16 Tryz.f16 Rows.fnWriteHastyRunsSpec Rows.fnWriteHastyRunsRow = true := (and2 (and2 (and2 (and2 (and2 (and2 (and2 (and2 (and2 (and2 (and2 (and2 (and2 (and2 (and2 (and2 (and2 (and2 (and2 (and2 (and2 (and2 (and2 (and2 (and2 (and2 (and2 (and2 (and2 (and2 (and2 c1 c2) c3) c4) c5) c6) c7) c8) c9) c10) c11) c12) c13) c14) c15) c16) c17) c18) c19) c20) c21) c22) c23) c24) c25) c26) c27) c28) c29) c30) c31) c32)
end Go.Proofs.YtmkfjnkdaeoppaaGreat.fnWriteHastyRunsDone
