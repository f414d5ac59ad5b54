/- Closed facts of a row. -/
import Derived.Test.YthibllkleakiiaaGreatDoorRows
import Derived.JoinedOf
import Derived.ProofKit
import Derived.Test.YthibllkleakiiaaGreatDoorOpenAll
namespace Go.Proofs.YthibllkleakiiaaGreatDoor.fnRunDeskDone
open Go.ChangeShapes Go.WideShapes Go.ChangeAt Go.RowKit
theorem c1:(Rows.fnRunDeskRow.wf (OpenSpec.ofChange Rows.fnRunDeskSpec))=true:=by kernel_rfl
theorem c2:(laidOutB Tryz.prog)=true:=p2
theorem c3:(mapsRowed Tryz.prog)=true:=p3
theorem c4:(Tryz.f4.params.all (Tryz.prog.readableRec ·))=true:=by kernel_rfl
theorem c5:(namedTie Tryz.prog Rows.fnRunDeskRow.named Rows.fnRunDeskSpec.vars)=true:=by kernel_rfl
theorem c6:((Rows.fnRunDeskRow.stops == []))=true:=by kernel_rfl
theorem c7:((Tryz.prog.stops == []))=true:=p7
theorem c8:((Rows.fnRunDeskRow.knobs == []))=true:=by kernel_rfl
theorem c9:((Tryz.prog.stopKnobs == []))=true:=p9
theorem Y9:((Rows.fnRunDeskRow.inPlace == Tryz.prog.inPlace 4))=true:=by kernel_rfl
theorem Y_:((Rows.fnRunDeskRow.unfollowed == Tryz.prog.unfollowed 4))=true:=by kernel_rfl
theorem Uk:((Rows.fnRunDeskRow.recurses == Tryz.prog.recurses 4))=true:=by kernel_rfl
theorem Za:((Rows.fnRunDeskRow.named == Tryz.prog.varsNamed 4))=true:=by kernel_rfl
theorem YR:((Rows.fnRunDeskRow.maps == (Tryz.f4.params.toList++Rows.fnRunDeskSpec.plain.varTypes Tryz.prog).any (Tryz.prog.mapsRec ·)))=true:=by kernel_rfl
theorem Zb:((Rows.fnRunDeskRow.ifaces == (Tryz.f4.params.toList++Rows.fnRunDeskSpec.plain.varTypes Tryz.prog).any (Tryz.prog.ifacesRec ·)))=true:=by kernel_rfl
theorem Zc:((Rows.fnRunDeskRow.mapsOut == Tryz.prog.mapsAmong Tryz.f4.resultTypes.toList))=true:=by kernel_rfl
theorem Zd:((Rows.fnRunDeskRow.loops == (Tryz.f4.params.toList++Rows.fnRunDeskSpec.plain.varTypes Tryz.prog).any (Tryz.prog.loopsFrom ·)))=true:=by kernel_rfl
theorem Ze:((Rows.fnRunDeskRow.wideKeys == (Tryz.f4.params.toList++Rows.fnRunDeskSpec.plain.varTypes Tryz.prog++Tryz.f4.resultTypes.toList).any (Tryz.prog.wideKeysFrom ·)))=true:=by kernel_rfl
theorem Zf:(Rows.fnRunDeskSpec.vars.all (Tryz.prog.varReadable ·))=true:=by kernel_rfl
theorem Zg:(Tryz.f4.resultTypes.all (fun t=>Tryz.prog.readableRec t && decide (t<Tryz.prog.types.size)))=true:=by kernel_rfl
theorem Zh:((Rows.fnRunDeskRow.ifacesOut == Tryz.f4.resultTypes.toList.any (Tryz.prog.ifacesRec ·)))=true:=by kernel_rfl
theorem Zi:((Rows.fnRunDeskRow.loopsOut == Tryz.f4.resultTypes.toList.any (Tryz.prog.loopsFrom ·)))=true:=by kernel_rfl
theorem Zj:((Rows.fnRunDeskRow.plainKeys == Tryz.prog.plainKeys))=true:=Zy
theorem Zk:(Rows.fnRunDeskRow.shortTexts.isNone)=true:=by kernel_rfl
theorem Zl:(Tryz.prog.stopsHeard)=true:=Zz
theorem Zm:(Tryz.prog.mayEnter)=true:=ZA
theorem Zn:((Rows.fnRunDeskRow.lifted == Tryz.prog.liftsFinal))=true:=ZB
theorem Zo:((Tryz.prog.make == some Rows.fnRunDeskRow.make))=true:=ZC
theorem Zp:((Rows.fnRunDeskRow.kinds == (if Rows.fnRunDeskRow.domain.isEmpty then [] else Tryz.f4.params.toList.map fun t=>match Tryz.prog.underlying t with | some (.int k)=>some k | _=>none)))=true:=by kernel_rfl
theorem Zr:((Rows.fnRunDeskRow.pinned == Rows.fnRunDeskRow.pinnedBy))=true:=by kernel_rfl
theorem Zs:((Rows.fnRunDeskRow.veiled == (Tryz.f4.params.toList++Rows.fnRunDeskSpec.plain.varTypes Tryz.prog++Tryz.f4.resultTypes.toList).any (Tryz.prog.veiledRec ·)))=true:=by kernel_rfl
theorem Zt:(Rows.fnRunDeskRow.veiledFits Tryz.prog Tryz.f4.params.toList (Tryz.f4.params.toList++Rows.fnRunDeskSpec.plain.varTypes Tryz.prog++Tryz.f4.resultTypes.toList))=true:=by kernel_rfl
theorem Cn {a b:Bool}(h:a=true)(k:b=true):(a && b)=true:=by rw[h,k];rfl
set_option maxRecDepth 100000 in
theorem closed:joinedFacts Tryz.prog 4 Tryz.f4 Rows.fnRunDeskSpec Rows.fnRunDeskRow=true:=(Cn (Cn (Cn (Cn (Cn (Cn (Cn (Cn (Cn (Cn (Cn (Cn (Cn (Cn (Cn (Cn (Cn (Cn (Cn (Cn (Cn (Cn (Cn (Cn (Cn (Cn (Cn (Cn (Cn (Cn (Cn c1 c2) c3) c4) c5) c6) c7) c8) c9) Y9) Y_) Uk) Za) YR) Zb) Zc) Zd) Ze) Zf) Zg) Zh) Zi) Zj) Zk) Zl) Zm) Zn) Zo) Zp) Zr) Zs) Zt)
end Go.Proofs.YthibllkleakiiaaGreatDoor.fnRunDeskDone
