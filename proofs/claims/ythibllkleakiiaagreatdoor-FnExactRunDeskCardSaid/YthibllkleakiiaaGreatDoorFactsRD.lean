/- Closed facts of a row. -/
import Derived.Test.YthibllkleakiiaaGreatDoorRows
import Derived.JoinedOf
import Derived.ProofKit
import Derived.Test.YthibllkleakiiaaGreatDoorOpenAll
namespace Go.Proofs.YthibllkleakiiaaGreatDoor.fnExactRunDeskDone
open Go.ChangeShapes Go.WideShapes Go.ChangeAt Go.RowKit
theorem c1:(Rows.fnExactRunDeskRow.wf (OpenSpec.ofChange Rows.fnExactRunDeskSpec))=true:=by kernel_rfl
theorem c2:(laidOutB Tryz.prog)=true:=p2
theorem c3:(mapsRowed Tryz.prog)=true:=p3
theorem c4:(Tryz.f3.params.all (Tryz.prog.readableRec ·))=true:=by kernel_rfl
theorem c5:(namedTie Tryz.prog Rows.fnExactRunDeskRow.named Rows.fnExactRunDeskSpec.vars)=true:=by kernel_rfl
theorem c6:((Rows.fnExactRunDeskRow.stops == []))=true:=by kernel_rfl
theorem c7:((Tryz.prog.stops == []))=true:=p7
theorem c8:((Rows.fnExactRunDeskRow.knobs == []))=true:=by kernel_rfl
theorem c9:((Tryz.prog.stopKnobs == []))=true:=p9
theorem XJ:((Rows.fnExactRunDeskRow.inPlace == Tryz.prog.inPlace 3))=true:=by kernel_rfl
theorem XK:((Rows.fnExactRunDeskRow.unfollowed == Tryz.prog.unfollowed 3))=true:=by kernel_rfl
theorem Xq:((Rows.fnExactRunDeskRow.recurses == Tryz.prog.recurses 3))=true:=by kernel_rfl
theorem XL:((Rows.fnExactRunDeskRow.named == Tryz.prog.varsNamed 3))=true:=by kernel_rfl
theorem Xr:((Rows.fnExactRunDeskRow.maps == (Tryz.f3.params.toList++Rows.fnExactRunDeskSpec.plain.varTypes Tryz.prog).any (Tryz.prog.mapsRec ·)))=true:=by kernel_rfl
theorem XM:((Rows.fnExactRunDeskRow.ifaces == (Tryz.f3.params.toList++Rows.fnExactRunDeskSpec.plain.varTypes Tryz.prog).any (Tryz.prog.ifacesRec ·)))=true:=by kernel_rfl
theorem XN:((Rows.fnExactRunDeskRow.mapsOut == Tryz.prog.mapsAmong Tryz.f3.resultTypes.toList))=true:=by kernel_rfl
theorem XO:((Rows.fnExactRunDeskRow.loops == (Tryz.f3.params.toList++Rows.fnExactRunDeskSpec.plain.varTypes Tryz.prog).any (Tryz.prog.loopsFrom ·)))=true:=by kernel_rfl
theorem XP:((Rows.fnExactRunDeskRow.wideKeys == (Tryz.f3.params.toList++Rows.fnExactRunDeskSpec.plain.varTypes Tryz.prog++Tryz.f3.resultTypes.toList).any (Tryz.prog.wideKeysFrom ·)))=true:=by kernel_rfl
theorem XQ:(Rows.fnExactRunDeskSpec.vars.all (Tryz.prog.varReadable ·))=true:=by kernel_rfl
theorem XR:(Tryz.f3.resultTypes.all (fun t=>Tryz.prog.readableRec t && decide (t<Tryz.prog.types.size)))=true:=by kernel_rfl
theorem XS:((Rows.fnExactRunDeskRow.ifacesOut == Tryz.f3.resultTypes.toList.any (Tryz.prog.ifacesRec ·)))=true:=by kernel_rfl
theorem XT:((Rows.fnExactRunDeskRow.loopsOut == Tryz.f3.resultTypes.toList.any (Tryz.prog.loopsFrom ·)))=true:=by kernel_rfl
theorem XU:((Rows.fnExactRunDeskRow.plainKeys == Tryz.prog.plainKeys))=true:=Xy
theorem XV:(Rows.fnExactRunDeskRow.shortTexts.isNone)=true:=by kernel_rfl
theorem XW:(Tryz.prog.stopsHeard)=true:=Xz
theorem XX:(Tryz.prog.mayEnter)=true:=XA
theorem XY:((Rows.fnExactRunDeskRow.lifted == Tryz.prog.liftsFinal))=true:=XB
theorem XZ:((Tryz.prog.make == some Rows.fnExactRunDeskRow.make))=true:=XD
theorem X0:((Rows.fnExactRunDeskRow.kinds == (if Rows.fnExactRunDeskRow.domain.isEmpty then [] else Tryz.f3.params.toList.map fun t=>match Tryz.prog.underlying t with | some (.int k)=>some k | _=>none)))=true:=by kernel_rfl
theorem X1:((Rows.fnExactRunDeskRow.pinned == Rows.fnExactRunDeskRow.pinnedBy))=true:=by kernel_rfl
theorem X2:((Rows.fnExactRunDeskRow.veiled == (Tryz.f3.params.toList++Rows.fnExactRunDeskSpec.plain.varTypes Tryz.prog++Tryz.f3.resultTypes.toList).any (Tryz.prog.veiledRec ·)))=true:=by kernel_rfl
theorem X8:(Rows.fnExactRunDeskRow.veiledFits Tryz.prog Tryz.f3.params.toList (Tryz.f3.params.toList++Rows.fnExactRunDeskSpec.plain.varTypes Tryz.prog++Tryz.f3.resultTypes.toList))=true:=by kernel_rfl
theorem Ep {a b:Bool}(h:a=true)(k:b=true):(a && b)=true:=by rw[h,k];rfl
set_option maxRecDepth 100000 in
theorem closed:joinedFacts Tryz.prog 3 Tryz.f3 Rows.fnExactRunDeskSpec Rows.fnExactRunDeskRow=true:=(Ep (Ep (Ep (Ep (Ep (Ep (Ep (Ep (Ep (Ep (Ep (Ep (Ep (Ep (Ep (Ep (Ep (Ep (Ep (Ep (Ep (Ep (Ep (Ep (Ep (Ep (Ep (Ep (Ep (Ep (Ep c1 c2) c3) c4) c5) c6) c7) c8) c9) XJ) XK) Xq) XL) Xr) XM) XN) XO) XP) XQ) XR) XS) XT) XU) XV) XW) XX) XY) XZ) X0) X1) X2) X8)
end Go.Proofs.YthibllkleakiiaaGreatDoor.fnExactRunDeskDone
