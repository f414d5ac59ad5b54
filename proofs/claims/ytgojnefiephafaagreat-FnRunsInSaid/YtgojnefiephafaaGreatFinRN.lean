/- Parts of one proof, joined. Closed facts of a row. FnRunsIn: for every input the law returns true, and the arguments read as before. Conditions: none. -/
import Derived.Test.YtgojnefiephafaaGreatOpenAll
import Derived.Test.YtgojnefiephafaaGreatRows
import Derived.JoinedOf
import Derived.ProofKit
import Derived.Test.YtgojnefiephafaaGreatLsR
import Derived.WalkKit
import Derived.OpenShut
import Derived.ShutString
import Derived.ChangeOld
import Derived.Below
namespace Go.Proofs.YtgojnefiephafaaGreat.fnRunsInDone
open Go.ChangeShapes Go.WideShapes Go.ChangeAt Go.RowKit
theorem c1:(Rows.fnRunsInRow.wf (OpenSpec.ofChange Rows.fnRunsInSpec))=true:=by kernel_rfl
theorem c2:(laidOutB Tryz.prog)=true:=p2
theorem c3:(mapsRowed Tryz.prog)=true:=p3
theorem c4:(Tryz.f6.params.all (Tryz.prog.readableRec ·))=true:=by kernel_rfl
theorem c5:(namedTie Tryz.prog Rows.fnRunsInRow.named Rows.fnRunsInSpec.vars)=true:=by kernel_rfl
theorem c6:((Rows.fnRunsInRow.stops == []))=true:=by kernel_rfl
theorem c7:((Tryz.prog.stops == []))=true:=p7
theorem c8:((Rows.fnRunsInRow.knobs == []))=true:=by kernel_rfl
theorem c9:((Tryz.prog.stopKnobs == []))=true:=p9
theorem c10:((Rows.fnRunsInRow.inPlace == Tryz.prog.inPlace 6))=true:=by kernel_rfl
theorem c11:((Rows.fnRunsInRow.unfollowed == Tryz.prog.unfollowed 6))=true:=by kernel_rfl
theorem c12:((Rows.fnRunsInRow.recurses == Tryz.prog.recurses 6))=true:=by kernel_rfl
theorem c13:((Rows.fnRunsInRow.named == Tryz.prog.varsNamed 6))=true:=by kernel_rfl
theorem c14:((Rows.fnRunsInRow.maps == (Tryz.f6.params.toList++Rows.fnRunsInSpec.plain.varTypes Tryz.prog).any (Tryz.prog.mapsRec ·)))=true:=by kernel_rfl
theorem c15:((Rows.fnRunsInRow.ifaces == (Tryz.f6.params.toList++Rows.fnRunsInSpec.plain.varTypes Tryz.prog).any (Tryz.prog.ifacesRec ·)))=true:=by kernel_rfl
theorem c16:((Rows.fnRunsInRow.mapsOut == Tryz.prog.mapsAmong Tryz.f6.resultTypes.toList))=true:=by kernel_rfl
theorem c17:((Rows.fnRunsInRow.loops == (Tryz.f6.params.toList++Rows.fnRunsInSpec.plain.varTypes Tryz.prog).any (Tryz.prog.loopsFrom ·)))=true:=by kernel_rfl
theorem c18:((Rows.fnRunsInRow.wideKeys == (Tryz.f6.params.toList++Rows.fnRunsInSpec.plain.varTypes Tryz.prog++Tryz.f6.resultTypes.toList).any (Tryz.prog.wideKeysFrom ·)))=true:=by kernel_rfl
theorem c19:(Rows.fnRunsInSpec.vars.all (Tryz.prog.varReadable ·))=true:=by kernel_rfl
theorem c20:(Tryz.f6.resultTypes.all (fun t=>Tryz.prog.readableRec t && decide (t<Tryz.prog.types.size)))=true:=by kernel_rfl
theorem c21:((Rows.fnRunsInRow.ifacesOut == Tryz.f6.resultTypes.toList.any (Tryz.prog.ifacesRec ·)))=true:=by kernel_rfl
theorem c22:((Rows.fnRunsInRow.loopsOut == Tryz.f6.resultTypes.toList.any (Tryz.prog.loopsFrom ·)))=true:=by kernel_rfl
theorem c23:((Rows.fnRunsInRow.plainKeys == Tryz.prog.plainKeys))=true:=p23
theorem c24:(Rows.fnRunsInRow.shortTexts.isNone)=true:=by kernel_rfl
theorem c25:(Tryz.prog.stopsHeard)=true:=p25
theorem c26:(Tryz.prog.mayEnter)=true:=p26
theorem c27:((Rows.fnRunsInRow.lifted == Tryz.prog.liftsFinal))=true:=p27
theorem c28:((Tryz.prog.make == some Rows.fnRunsInRow.make))=true:=p28
theorem c29:((Rows.fnRunsInRow.kinds == (if Rows.fnRunsInRow.domain.isEmpty then [] else Tryz.f6.params.toList.map fun t=>match Tryz.prog.underlying t with | some (.int k)=>some k | _=>none)))=true:=by kernel_rfl
theorem c30:((Rows.fnRunsInRow.pinned == Rows.fnRunsInRow.pinnedBy))=true:=by kernel_rfl
theorem c31:((Rows.fnRunsInRow.veiled == (Tryz.f6.params.toList++Rows.fnRunsInSpec.plain.varTypes Tryz.prog++Tryz.f6.resultTypes.toList).any (Tryz.prog.veiledRec ·)))=true:=by kernel_rfl
theorem c32:(Rows.fnRunsInRow.veiledFits Tryz.prog Tryz.f6.params.toList (Tryz.f6.params.toList++Rows.fnRunsInSpec.plain.varTypes Tryz.prog++Tryz.f6.resultTypes.toList))=true:=by kernel_rfl
theorem and2 {a b:Bool} (h:a=true) (k:b=true):(a && b)=true:=by rw [h,k];rfl
set_option maxRecDepth 100000 in
theorem closed:joinedFacts Tryz.prog 6 Tryz.f6 Rows.fnRunsInSpec Rows.fnRunsInRow=true:=(and2 (and2 (and2 (and2 (and2 (and2 (and2 (and2 (and2 (and2 (and2 (and2 (and2 (and2 (and2 (and2 (and2 (and2 (and2 (and2 (and2 (and2 (and2 (and2 (and2 (and2 (and2 (and2 (and2 (and2 (and2 c1 c2) c3) c4) c5) c6) c7) c8) c9) c10) c11) c12) c13) c14) c15) c16) c17) c18) c19) c20) c21) c22) c23) c24) c25) c26) c27) c28) c29) c30) c31) c32)
end Go.Proofs.YtgojnefiephafaaGreat.fnRunsInDone
namespace Go.Proofs.YtgojnefiephafaaGreat.fnRunsInDone
open Go.ChangeShapes Go.WideShapes Go.ChangeAt Go.RowKit
theorem own:ownKnob Tryz.prog.godebug=none:=by kernel_rfl
theorem laidOut:laidOutB Tryz.prog=true:=by kernel_rfl
set_option maxRecDepth 100000 in
theorem lifted (os:Os) (started:os.Started) (H:Type) (enc:TypeId × Value→H) :
  ReturnsInHanded {} Tryz.checked os 6 .any (Rows.fnRunsInSpec.pre6 enc Tryz.prog Tryz.f6 Rows.fnRunsInRow.domain false) (Rows.fnRunsInSpec.post enc Tryz.prog Tryz.f6 false true false false):=by
 refine returnsInHanded_of_change (C:=Tryz.checked) own started (by kernel_rfl) Tryz.func6
  (ChangeSpec.witness6 (enc:=enc) (C:=Tryz.checked) false ⟨#[],#[.slice none 0 0],[]⟩ 8 (by kernel_rfl) (by kernel_rfl) (by kernel_rfl) (by kernel_rfl)) ?_
 intro W base args ds gs before hval0 hW hcnd _;have hval:∀ (j:Nat) t v,Tryz.f6.params[j]? = some t→args[j]? = some v→Value.okWide Tryz.prog W .any base t v:=hval0;have hW':=hW;obtain ⟨p,q,hA0,hV,rfl,hfz,hnd⟩:=hW;have hA:DataW.TrodAll enc Tryz.prog W 0 (fun _=>true) true Tryz.f6.params.toList args.toList ds p:=hA0;rw [Tryz.params6] at hA hval;obtain ⟨v0,vs0,d0,ds0,p0,q0,hargs,rfl,rfl,h0,r0⟩:=trodAll_cons hA;obtain ⟨rfl,rfl,rfl⟩:=trodAll_nil r0;obtain rfl:args=#[v0]:=by cases args;simp_all
 obtain ⟨rfl,rfl⟩:=trodVars_none hV;have lt0:∀ x ∈ p0,x.block<W.heap.size:=by obtain ⟨m,hm⟩:=h0;exact DataW.trod_lt m _ _ _ hm
 obtain ⟨A0,c0,l0,rfl,w0,w0b,w0c,w0m⟩:=arg_bytes (hval 0 47 v0 rfl rfl) h0;clear hA0 hval0;refine (ex_FnRunsIn _ _ _ W w0 w0b w0c w0m).mono fun e W' ⟨he,bel⟩=>?_;subst he;exact ⟨_,rfl,_,_,_,[],_,[],hW',trodAll_mk1 (shut_bool Tryz.underlying4 _),(trodAll_cons_mk (Below.trod laidOut (by kernel_rfl) (of_decide_eq_true (by kernel_rfl)) h0 bel lt0) trodAll_mk0),rfl,bel.frame _,fun h=>by cases h⟩
theorem over:Rows.fnRunsInRow.holds Tryz.pinned (OpenSpec.ofChange Rows.fnRunsInSpec) :=
 OpenClaim.holds_of_wide 6 Tryz.f6 rfl rfl rfl rfl rfl rfl rfl ⟨rfl,rfl,rfl,rfl,rfl⟩ rfl rfl rfl rfl rfl (by kernel_rfl) Tryz.func6 closed
  (of_decide_eq_true (by kernel_rfl)) (by unfold Func.isWrapper;first | (rw [if_pos (by decide +kernel)];kernel_rfl) | (rw [if_neg (by decide +kernel)];exact ⟨rfl,rfl⟩))
  (fun os started H enc _=>lifted os started H enc)
theorem proved:Rows.FnRunsInSaid:=over
#print axioms proved
end Go.Proofs.YtgojnefiephafaaGreat.fnRunsInDone
