/- Closed facts of a row. -/
import Derived.Test.YtmkfjnkdaeoppaaGreatFactsP
import Derived.Test.YtmkfjnkdaeoppaaGreatRows
import Derived.JoinedOf
import Derived.ProofKit
namespace Go.Proofs.YtmkfjnkdaeoppaaGreat.fnSettleLazyDone
open Go.ChangeShapes Go.WideShapes Go.ChangeAt Go.RowKit
theorem c1 : (Rows.fnSettleLazyRow.wf (OpenSpec.ofChange Rows.fnSettleLazySpec)) = true := by kernel_rfl
theorem c2 : (laidOutB Tryz.prog) = true := p2
theorem c3 : (mapsRowed Tryz.prog) = true := p3
theorem c4 : (Tryz.f14.params.all (Tryz.prog.readableRec ·)) = true := by kernel_rfl
theorem c5 : (namedTie Tryz.prog Rows.fnSettleLazyRow.named Rows.fnSettleLazySpec.vars) = true := by kernel_rfl
theorem c6 : ((Rows.fnSettleLazyRow.stops == [])) = true := by kernel_rfl
theorem c7 : ((Tryz.prog.stops == [])) = true := p7
theorem c8 : ((Rows.fnSettleLazyRow.knobs == [])) = true := by kernel_rfl
theorem c9 : ((Tryz.prog.stopKnobs == [])) = true := p9
theorem c10 : ((Rows.fnSettleLazyRow.inPlace == Tryz.prog.inPlace 14)) = true := by kernel_rfl
theorem c11 : ((Rows.fnSettleLazyRow.unfollowed == Tryz.prog.unfollowed 14)) = true := by kernel_rfl
theorem c12 : ((Rows.fnSettleLazyRow.recurses == Tryz.prog.recurses 14)) = true := by kernel_rfl
theorem c13 : ((Rows.fnSettleLazyRow.named == Tryz.prog.varsNamed 14)) = true := by kernel_rfl
theorem c14 : ((Rows.fnSettleLazyRow.maps == (Tryz.f14.params.toList ++ Rows.fnSettleLazySpec.plain.varTypes Tryz.prog).any (Tryz.prog.mapsRec ·))) = true := by kernel_rfl
theorem c15 : ((Rows.fnSettleLazyRow.ifaces == (Tryz.f14.params.toList ++ Rows.fnSettleLazySpec.plain.varTypes Tryz.prog).any (Tryz.prog.ifacesRec ·))) = true := by kernel_rfl
theorem c16 : ((Rows.fnSettleLazyRow.mapsOut == Tryz.prog.mapsAmong Tryz.f14.resultTypes.toList)) = true := by kernel_rfl
theorem c17 : ((Rows.fnSettleLazyRow.loops == (Tryz.f14.params.toList ++ Rows.fnSettleLazySpec.plain.varTypes Tryz.prog).any (Tryz.prog.loopsFrom ·))) = true := by kernel_rfl
theorem c18 : ((Rows.fnSettleLazyRow.wideKeys == (Tryz.f14.params.toList ++ Rows.fnSettleLazySpec.plain.varTypes Tryz.prog ++ Tryz.f14.resultTypes.toList).any (Tryz.prog.wideKeysFrom ·))) = true := by kernel_rfl
theorem c19 : (Rows.fnSettleLazySpec.vars.all (Tryz.prog.varReadable ·)) = true := by kernel_rfl
theorem c20 : (Tryz.f14.resultTypes.all (fun t => Tryz.prog.readableRec t && decide (t < Tryz.prog.types.size))) = true := by kernel_rfl
theorem c21 : ((Rows.fnSettleLazyRow.ifacesOut == Tryz.f14.resultTypes.toList.any (Tryz.prog.ifacesRec ·))) = true := by kernel_rfl
theorem c22 : ((Rows.fnSettleLazyRow.loopsOut == Tryz.f14.resultTypes.toList.any (Tryz.prog.loopsFrom ·))) = true := by kernel_rfl
theorem c23 : ((Rows.fnSettleLazyRow.plainKeys == Tryz.prog.plainKeys)) = true := p23
theorem c24 : (Rows.fnSettleLazyRow.shortTexts.isNone) = true := by kernel_rfl
theorem c25 : (Tryz.prog.stopsHeard) = true := p25
theorem c26 : (Tryz.prog.mayEnter) = true := p26
theorem c27 : ((Rows.fnSettleLazyRow.lifted == Tryz.prog.liftsFinal)) = true := p27
theorem c28 : ((Tryz.prog.make == some Rows.fnSettleLazyRow.make)) = true := p28
theorem c29 : ((Rows.fnSettleLazyRow.kinds == (if Rows.fnSettleLazyRow.domain.isEmpty then [] else Tryz.f14.params.toList.map fun t => match Tryz.prog.underlying t with | some (.int k) => some k | _ => none))) = true := by kernel_rfl
theorem c30 : ((Rows.fnSettleLazyRow.pinned == Rows.fnSettleLazyRow.pinnedBy)) = true := by kernel_rfl
theorem c31 : ((Rows.fnSettleLazyRow.veiled == (Tryz.f14.params.toList ++ Rows.fnSettleLazySpec.plain.varTypes Tryz.prog ++ Tryz.f14.resultTypes.toList).any (Tryz.prog.veiledRec ·))) = true := by kernel_rfl
theorem c32 : (Rows.fnSettleLazyRow.veiledFits Tryz.prog Tryz.f14.params.toList (Tryz.f14.params.toList ++ Rows.fnSettleLazySpec.plain.varTypes Tryz.prog ++ Tryz.f14.resultTypes.toList)) = true := by kernel_rfl
theorem and2 {a b : Bool} (h : a = true) (k : b = true) : (a && b) = true := by rw [h, k]; rfl
set_option maxRecDepth 100000 in
theorem closed : joinedFacts Tryz.prog 14 Tryz.f14 Rows.fnSettleLazySpec Rows.fnSettleLazyRow = true := (and2 (and2 (and2 (and2 (and2 (and2 (and2 (and2 (and2 (and2 (and2 (and2 (and2 (and2 (and2 (and2 (and2 (and2 (and2 (and2 (and2 (and2 (and2 (and2 (and2 (and2 (and2 (and2 (and2 (and2 (and2 c1 c2) c3) c4) c5) c6) c7) c8) c9) c10) c11) c12) c13) c14) c15) c16) c17) c18) c19) c20) c21) c22) c23) c24) c25) c26) c27) c28) c29) c30) c31) c32)
end Go.Proofs.YtmkfjnkdaeoppaaGreat.fnSettleLazyDone
