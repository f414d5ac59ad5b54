/- Closed facts of a row. -/
import Derived.Test.YthibllkleakiiaaGreatDoorRows
import Derived.JoinedOf
import Derived.ProofKit
import Derived.Test.YthibllkleakiiaaGreatDoorOpenAll
namespace Go.Proofs.YthibllkleakiiaaGreatDoor.fnExactRunDeskDone
open Go.ChangeShapes Go.WideShapes Go.ChangeAt Go.RowKit
theorem c1:(Rows.fnExactRunDeskRow.wf (OpenSpec.ofChange Rows.fnExactRunDeskSpec))=true:=by kernel_rfl
theorem c2:(laidOutB Tryz.prog)=true:=p2
theorem c3:(mapsRowed Tryz.prog)=true:=p3
theorem c4:(Tryz.f3.params.all (Tryz.prog.readableRec ·))=true:=by kernel_rfl
theorem c5:(namedTie Tryz.prog Rows.fnExactRunDeskRow.named Rows.fnExactRunDeskSpec.vars)=true:=by kernel_rfl
theorem c6:((Rows.fnExactRunDeskRow.stops == []))=true:=by kernel_rfl
theorem c7:((Tryz.prog.stops == []))=true:=p7
theorem c8:((Rows.fnExactRunDeskRow.knobs == []))=true:=by kernel_rfl
theorem c9:((Tryz.prog.stopKnobs == []))=true:=p9
theorem Y9:((Rows.fnExactRunDeskRow.inPlace == Tryz.prog.inPlace 3))=true:=by kernel_rfl
theorem Y_:((Rows.fnExactRunDeskRow.unfollowed == Tryz.prog.unfollowed 3))=true:=by kernel_rfl
theorem Uk:((Rows.fnExactRunDeskRow.recurses == Tryz.prog.recurses 3))=true:=by kernel_rfl
theorem Za:((Rows.fnExactRunDeskRow.named == Tryz.prog.varsNamed 3))=true:=by kernel_rfl
theorem YR:((Rows.fnExactRunDeskRow.maps == (Tryz.f3.params.toList++Rows.fnExactRunDeskSpec.plain.varTypes Tryz.prog).any (Tryz.prog.mapsRec ·)))=true:=by kernel_rfl
theorem Zb:((Rows.fnExactRunDeskRow.ifaces == (Tryz.f3.params.toList++Rows.fnExactRunDeskSpec.plain.varTypes Tryz.prog).any (Tryz.prog.ifacesRec ·)))=true:=by kernel_rfl
theorem Zc:((Rows.fnExactRunDeskRow.mapsOut == Tryz.prog.mapsAmong Tryz.f3.resultTypes.toList))=true:=by kernel_rfl
theorem Zd:((Rows.fnExactRunDeskRow.loops == (Tryz.f3.params.toList++Rows.fnExactRunDeskSpec.plain.varTypes Tryz.prog).any (Tryz.prog.loopsFrom ·)))=true:=by kernel_rfl
theorem Ze:((Rows.fnExactRunDeskRow.wideKeys == (Tryz.f3.params.toList++Rows.fnExactRunDeskSpec.plain.varTypes Tryz.prog++Tryz.f3.resultTypes.toList).any (Tryz.prog.wideKeysFrom ·)))=true:=by kernel_rfl
theorem Zf:(Rows.fnExactRunDeskSpec.vars.all (Tryz.prog.varReadable ·))=true:=by kernel_rfl
theorem Zg:(Tryz.f3.resultTypes.all (fun t=>Tryz.prog.readableRec t && decide (t<Tryz.prog.types.size)))=true:=by kernel_rfl
theorem Zh:((Rows.fnExactRunDeskRow.ifacesOut == Tryz.f3.resultTypes.toList.any (Tryz.prog.ifacesRec ·)))=true:=by kernel_rfl
theorem Zi:((Rows.fnExactRunDeskRow.loopsOut == Tryz.f3.resultTypes.toList.any (Tryz.prog.loopsFrom ·)))=true:=by kernel_rfl
theorem Zj:((Rows.fnExactRunDeskRow.plainKeys == Tryz.prog.plainKeys))=true:=Zy
theorem Zk:(Rows.fnExactRunDeskRow.shortTexts.isNone)=true:=by kernel_rfl
theorem Zl:(Tryz.prog.stopsHeard)=true:=Zz
theorem Zm:(Tryz.prog.mayEnter)=true:=ZA
theorem Zn:((Rows.fnExactRunDeskRow.lifted == Tryz.prog.liftsFinal))=true:=ZB
theorem Zo:((Tryz.prog.make == some Rows.fnExactRunDeskRow.make))=true:=ZC
theorem Zp:((Rows.fnExactRunDeskRow.kinds == (if Rows.fnExactRunDeskRow.domain.isEmpty then [] else Tryz.f3.params.toList.map fun t=>match Tryz.prog.underlying t with | some (.int k)=>some k | _=>none)))=true:=by kernel_rfl
theorem Zr:((Rows.fnExactRunDeskRow.pinned == Rows.fnExactRunDeskRow.pinnedBy))=true:=by kernel_rfl
theorem Zs:((Rows.fnExactRunDeskRow.veiled == (Tryz.f3.params.toList++Rows.fnExactRunDeskSpec.plain.varTypes Tryz.prog++Tryz.f3.resultTypes.toList).any (Tryz.prog.veiledRec ·)))=true:=by kernel_rfl
theorem Zt:(Rows.fnExactRunDeskRow.veiledFits Tryz.prog Tryz.f3.params.toList (Tryz.f3.params.toList++Rows.fnExactRunDeskSpec.plain.varTypes Tryz.prog++Tryz.f3.resultTypes.toList))=true:=by kernel_rfl
theorem Cn {a b:Bool}(h:a=true)(k:b=true):(a && b)=true:=by rw[h,k];rfl
set_option maxRecDepth 100000 in
theorem closed:joinedFacts Tryz.prog 3 Tryz.f3 Rows.fnExactRunDeskSpec Rows.fnExactRunDeskRow=true:=(Cn (Cn (Cn (Cn (Cn (Cn (Cn (Cn (Cn (Cn (Cn (Cn (Cn (Cn (Cn (Cn (Cn (Cn (Cn (Cn (Cn (Cn (Cn (Cn (Cn (Cn (Cn (Cn (Cn (Cn (Cn c1 c2) c3) c4) c5) c6) c7) c8) c9) Y9) Y_) Uk) Za) YR) Zb) Zc) Zd) Ze) Zf) Zg) Zh) Zi) Zj) Zk) Zl) Zm) Zn) Zo) Zp) Zr) Zs) Zt)
end Go.Proofs.YthibllkleakiiaaGreatDoor.fnExactRunDeskDone
