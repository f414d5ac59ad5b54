/- Closed facts of a row. -/
import Derived.Test.YtmkfjnkdaeoppaaGreatFactsP
import Derived.Test.YtmkfjnkdaeoppaaGreatRows
import Derived.JoinedOf
import Derived.ProofKit
namespace Go.Proofs.YtmkfjnkdaeoppaaGreat.fnWriteLazyBackDone
open Go.ChangeShapes Go.WideShapes Go.ChangeAt Go.RowKit
theorem c1 : (Rows.fnWriteLazyBackRow.wf (OpenSpec.ofChange Rows.fnWriteLazyBackSpec)) = true := by kernel_rfl
theorem c2 : (laidOutB Tryz.prog) = true := p2
theorem c3 : (mapsRowed Tryz.prog) = true := p3
theorem c4 : (Tryz.f8.params.all (Tryz.prog.readableRec ·)) = true := by kernel_rfl
theorem c5 : (namedTie Tryz.prog Rows.fnWriteLazyBackRow.named Rows.fnWriteLazyBackSpec.vars) = true := by kernel_rfl
theorem c6 : ((Rows.fnWriteLazyBackRow.stops == [])) = true := by kernel_rfl
theorem c7 : ((Tryz.prog.stops == [])) = true := p7
theorem c8 : ((Rows.fnWriteLazyBackRow.knobs == [])) = true := by kernel_rfl
theorem c9 : ((Tryz.prog.stopKnobs == [])) = true := p9
theorem c10 : ((Rows.fnWriteLazyBackRow.inPlace == Tryz.prog.inPlace 8)) = true := by kernel_rfl
theorem c11 : ((Rows.fnWriteLazyBackRow.unfollowed == Tryz.prog.unfollowed 8)) = true := by kernel_rfl
theorem c12 : ((Rows.fnWriteLazyBackRow.recurses == Tryz.prog.recurses 8)) = true := by kernel_rfl
theorem c13 : ((Rows.fnWriteLazyBackRow.named == Tryz.prog.varsNamed 8)) = true := by kernel_rfl
theorem c14 : ((Rows.fnWriteLazyBackRow.maps == (Tryz.f8.params.toList ++ Rows.fnWriteLazyBackSpec.plain.varTypes Tryz.prog).any (Tryz.prog.mapsRec ·))) = true := by kernel_rfl
theorem c15 : ((Rows.fnWriteLazyBackRow.ifaces == (Tryz.f8.params.toList ++ Rows.fnWriteLazyBackSpec.plain.varTypes Tryz.prog).any (Tryz.prog.ifacesRec ·))) = true := by kernel_rfl
theorem c16 : ((Rows.fnWriteLazyBackRow.mapsOut == Tryz.prog.mapsAmong Tryz.f8.resultTypes.toList)) = true := by kernel_rfl
theorem c17 : ((Rows.fnWriteLazyBackRow.loops == (Tryz.f8.params.toList ++ Rows.fnWriteLazyBackSpec.plain.varTypes Tryz.prog).any (Tryz.prog.loopsFrom ·))) = true := by kernel_rfl
theorem c18 : ((Rows.fnWriteLazyBackRow.wideKeys == (Tryz.f8.params.toList ++ Rows.fnWriteLazyBackSpec.plain.varTypes Tryz.prog ++ Tryz.f8.resultTypes.toList).any (Tryz.prog.wideKeysFrom ·))) = true := by kernel_rfl
theorem c19 : (Rows.fnWriteLazyBackSpec.vars.all (Tryz.prog.varReadable ·)) = true := by kernel_rfl
theorem c20 : (Tryz.f8.resultTypes.all (fun t => Tryz.prog.readableRec t && decide (t < Tryz.prog.types.size))) = true := by kernel_rfl
theorem c21 : ((Rows.fnWriteLazyBackRow.ifacesOut == Tryz.f8.resultTypes.toList.any (Tryz.prog.ifacesRec ·))) = true := by kernel_rfl
theorem c22 : ((Rows.fnWriteLazyBackRow.loopsOut == Tryz.f8.resultTypes.toList.any (Tryz.prog.loopsFrom ·))) = true := by kernel_rfl
theorem c23 : ((Rows.fnWriteLazyBackRow.plainKeys == Tryz.prog.plainKeys)) = true := p23
theorem c24 : (Rows.fnWriteLazyBackRow.shortTexts.isNone) = true := by kernel_rfl
theorem c25 : (Tryz.prog.stopsHeard) = true := p25
theorem c26 : (Tryz.prog.mayEnter) = true := p26
theorem c27 : ((Rows.fnWriteLazyBackRow.lifted == Tryz.prog.liftsFinal)) = true := p27
theorem c28 : ((Tryz.prog.make == some Rows.fnWriteLazyBackRow.make)) = true := p28
theorem c29 : ((Rows.fnWriteLazyBackRow.kinds == (if Rows.fnWriteLazyBackRow.domain.isEmpty then [] else Tryz.f8.params.toList.map fun t => match Tryz.prog.underlying t with | some (.int k) => some k | _ => none))) = true := by kernel_rfl
theorem c30 : ((Rows.fnWriteLazyBackRow.pinned == Rows.fnWriteLazyBackRow.pinnedBy)) = true := by kernel_rfl
theorem c31 : ((Rows.fnWriteLazyBackRow.veiled == (Tryz.f8.params.toList ++ Rows.fnWriteLazyBackSpec.plain.varTypes Tryz.prog ++ Tryz.f8.resultTypes.toList).any (Tryz.prog.veiledRec ·))) = true := by kernel_rfl
theorem c32 : (Rows.fnWriteLazyBackRow.veiledFits Tryz.prog Tryz.f8.params.toList (Tryz.f8.params.toList ++ Rows.fnWriteLazyBackSpec.plain.varTypes Tryz.prog ++ Tryz.f8.resultTypes.toList)) = true := by kernel_rfl
theorem and2 {a b : Bool} (h : a = true) (k : b = true) : (a && b) = true := by rw [h, k]; rfl
set_option maxRecDepth 100000 in
theorem closed : joinedFacts Tryz.prog 8 Tryz.f8 Rows.fnWriteLazyBackSpec Rows.fnWriteLazyBackRow = true := (and2 (and2 (and2 (and2 (and2 (and2 (and2 (and2 (and2 (and2 (and2 (and2 (and2 (and2 (and2 (and2 (and2 (and2 (and2 (and2 (and2 (and2 (and2 (and2 (and2 (and2 (and2 (and2 (and2 (and2 (and2 c1 c2) c3) c4) c5) c6) c7) c8) c9) c10) c11) c12) c13) c14) c15) c16) c17) c18) c19) c20) c21) c22) c23) c24) c25) c26) c27) c28) c29) c30) c31) c32)
end Go.Proofs.YtmkfjnkdaeoppaaGreat.fnWriteLazyBackDone
