/- Closed facts of a row. -/
import Derived.Test.YtjogmblilagohaaGreatFactsP
import Derived.Test.YtjogmblilagohaaGreatRows
import Derived.JoinedOf
import Derived.ProofKit
namespace Go.Proofs.YtjogmblilagohaaGreat.fnWriteEagerTwiceDone
open Go.ChangeShapes Go.WideShapes Go.ChangeAt Go.RowKit
theorem c1 : (Rows.fnWriteEagerTwiceRow.wf (OpenSpec.ofChange Rows.fnWriteEagerTwiceSpec)) = true := by kernel_rfl
theorem c2 : (laidOutB Tryz.prog) = true := p2
theorem c3 : (mapsRowed Tryz.prog) = true := p3
theorem c4 : (Tryz.f3.params.all (Tryz.prog.readableRec ·)) = true := by kernel_rfl
theorem c5 : (namedTie Tryz.prog Rows.fnWriteEagerTwiceRow.named Rows.fnWriteEagerTwiceSpec.vars) = true := by kernel_rfl
theorem c6 : ((Rows.fnWriteEagerTwiceRow.stops == [])) = true := by kernel_rfl
theorem c7 : ((Tryz.prog.stops == [])) = true := p7
theorem c8 : ((Rows.fnWriteEagerTwiceRow.knobs == [])) = true := by kernel_rfl
theorem c9 : ((Tryz.prog.stopKnobs == [])) = true := p9
theorem c10 : ((Rows.fnWriteEagerTwiceRow.inPlace == Tryz.prog.inPlace 3)) = true := by kernel_rfl
theorem c11 : ((Rows.fnWriteEagerTwiceRow.unfollowed == Tryz.prog.unfollowed 3)) = true := by kernel_rfl
theorem c12 : ((Rows.fnWriteEagerTwiceRow.recurses == Tryz.prog.recurses 3)) = true := by kernel_rfl
theorem c13 : ((Rows.fnWriteEagerTwiceRow.named == Tryz.prog.varsNamed 3)) = true := by kernel_rfl
theorem c14 : ((Rows.fnWriteEagerTwiceRow.maps == (Tryz.f3.params.toList ++ Rows.fnWriteEagerTwiceSpec.plain.varTypes Tryz.prog).any (Tryz.prog.mapsRec ·))) = true := by kernel_rfl
theorem c15 : ((Rows.fnWriteEagerTwiceRow.ifaces == (Tryz.f3.params.toList ++ Rows.fnWriteEagerTwiceSpec.plain.varTypes Tryz.prog).any (Tryz.prog.ifacesRec ·))) = true := by kernel_rfl
theorem c16 : ((Rows.fnWriteEagerTwiceRow.mapsOut == Tryz.prog.mapsAmong Tryz.f3.resultTypes.toList)) = true := by kernel_rfl
theorem c17 : ((Rows.fnWriteEagerTwiceRow.loops == (Tryz.f3.params.toList ++ Rows.fnWriteEagerTwiceSpec.plain.varTypes Tryz.prog).any (Tryz.prog.loopsFrom ·))) = true := by kernel_rfl
theorem c18 : ((Rows.fnWriteEagerTwiceRow.wideKeys == (Tryz.f3.params.toList ++ Rows.fnWriteEagerTwiceSpec.plain.varTypes Tryz.prog ++ Tryz.f3.resultTypes.toList).any (Tryz.prog.wideKeysFrom ·))) = true := by kernel_rfl
theorem c19 : (Rows.fnWriteEagerTwiceSpec.vars.all (Tryz.prog.varReadable ·)) = true := by kernel_rfl
theorem c20 : (Tryz.f3.resultTypes.all (fun t => Tryz.prog.readableRec t && decide (t < Tryz.prog.types.size))) = true := by kernel_rfl
theorem c21 : ((Rows.fnWriteEagerTwiceRow.ifacesOut == Tryz.f3.resultTypes.toList.any (Tryz.prog.ifacesRec ·))) = true := by kernel_rfl
theorem c22 : ((Rows.fnWriteEagerTwiceRow.loopsOut == Tryz.f3.resultTypes.toList.any (Tryz.prog.loopsFrom ·))) = true := by kernel_rfl
theorem c23 : ((Rows.fnWriteEagerTwiceRow.plainKeys == Tryz.prog.plainKeys)) = true := p23
theorem c24 : (Rows.fnWriteEagerTwiceRow.shortTexts.isNone) = true := by kernel_rfl
theorem c25 : (Tryz.prog.stopsHeard) = true := p25
theorem c26 : (Tryz.prog.mayEnter) = true := p26
theorem c27 : ((Rows.fnWriteEagerTwiceRow.lifted == Tryz.prog.liftsFinal)) = true := p27
theorem c28 : ((Tryz.prog.make == some Rows.fnWriteEagerTwiceRow.make)) = true := p28
theorem c29 : ((Rows.fnWriteEagerTwiceRow.kinds == (if Rows.fnWriteEagerTwiceRow.domain.isEmpty then [] else Tryz.f3.params.toList.map fun t => match Tryz.prog.underlying t with | some (.int k) => some k | _ => none))) = true := by kernel_rfl
theorem c30 : ((Rows.fnWriteEagerTwiceRow.pinned == Rows.fnWriteEagerTwiceRow.pinnedBy)) = true := by kernel_rfl
theorem c31 : ((Rows.fnWriteEagerTwiceRow.veiled == (Tryz.f3.params.toList ++ Rows.fnWriteEagerTwiceSpec.plain.varTypes Tryz.prog ++ Tryz.f3.resultTypes.toList).any (Tryz.prog.veiledRec ·))) = true := by kernel_rfl
theorem c32 : (Rows.fnWriteEagerTwiceRow.veiledFits Tryz.prog Tryz.f3.params.toList (Tryz.f3.params.toList ++ Rows.fnWriteEagerTwiceSpec.plain.varTypes Tryz.prog ++ Tryz.f3.resultTypes.toList)) = true := by kernel_rfl
theorem and2 {a b : Bool} (h : a = true) (k : b = true) : (a && b) = true := by rw [h, k]; rfl
set_option maxRecDepth 100000 in
theorem closed : joinedFacts Tryz.prog 3 Tryz.f3 Rows.fnWriteEagerTwiceSpec Rows.fnWriteEagerTwiceRow = true := (and2 (and2 (and2 (and2 (and2 (and2 (and2 (and2 (and2 (and2 (and2 (and2 (and2 (and2 (and2 (and2 (and2 (and2 (and2 (and2 (and2 (and2 (and2 (and2 (and2 (and2 (and2 (and2 (and2 (and2 (and2 c1 c2) c3) c4) c5) c6) c7) c8) c9) c10) c11) c12) c13) c14) c15) c16) c17) c18) c19) c20) c21) c22) c23) c24) c25) c26) c27) c28) c29) c30) c31) c32)
end Go.Proofs.YtjogmblilagohaaGreat.fnWriteEagerTwiceDone
