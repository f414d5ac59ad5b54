/- Parts of one proof, joined. Closed facts of a row. FnExactRunsIn: for every input the law returns true, and the arguments read as before. Conditions: none. -/
import Derived.Test.YtgojnefiephafaaGreatRows
import Derived.JoinedOf
import Derived.ProofKit
import Derived.Test.YtgojnefiephafaaGreatLwRI
import Derived.WalkKit
import Derived.OpenShut
import Derived.ShutString
import Derived.ChangeOld
import Derived.Below
namespace Go.Proofs.YtgojnefiephafaaGreat.fnExactRunsInDone
open Go.ChangeShapes Go.WideShapes Go.ChangeAt Go.RowKit
theorem c1:(Rows.fnExactRunsInRow.wf (OpenSpec.ofChange Rows.fnExactRunsInSpec))=true:=by kernel_rfl
theorem c2:(laidOutB Tryz.prog)=true:=p2
theorem c3:(mapsRowed Tryz.prog)=true:=p3
theorem c4:(Tryz.f7.params.all (Tryz.prog.readableRec ·))=true:=by kernel_rfl
theorem c5:(namedTie Tryz.prog Rows.fnExactRunsInRow.named Rows.fnExactRunsInSpec.vars)=true:=by kernel_rfl
theorem c6:((Rows.fnExactRunsInRow.stops == []))=true:=by kernel_rfl
theorem c7:((Tryz.prog.stops == []))=true:=p7
theorem c8:((Rows.fnExactRunsInRow.knobs == []))=true:=by kernel_rfl
theorem c9:((Tryz.prog.stopKnobs == []))=true:=p9
theorem c10:((Rows.fnExactRunsInRow.inPlace == Tryz.prog.inPlace 7))=true:=by kernel_rfl
theorem c11:((Rows.fnExactRunsInRow.unfollowed == Tryz.prog.unfollowed 7))=true:=by kernel_rfl
theorem c12:((Rows.fnExactRunsInRow.recurses == Tryz.prog.recurses 7))=true:=by kernel_rfl
theorem c13:((Rows.fnExactRunsInRow.named == Tryz.prog.varsNamed 7))=true:=by kernel_rfl
theorem c14:((Rows.fnExactRunsInRow.maps == (Tryz.f7.params.toList++Rows.fnExactRunsInSpec.plain.varTypes Tryz.prog).any (Tryz.prog.mapsRec ·)))=true:=by kernel_rfl
theorem c15:((Rows.fnExactRunsInRow.ifaces == (Tryz.f7.params.toList++Rows.fnExactRunsInSpec.plain.varTypes Tryz.prog).any (Tryz.prog.ifacesRec ·)))=true:=by kernel_rfl
theorem c16:((Rows.fnExactRunsInRow.mapsOut == Tryz.prog.mapsAmong Tryz.f7.resultTypes.toList))=true:=by kernel_rfl
theorem c17:((Rows.fnExactRunsInRow.loops == (Tryz.f7.params.toList++Rows.fnExactRunsInSpec.plain.varTypes Tryz.prog).any (Tryz.prog.loopsFrom ·)))=true:=by kernel_rfl
theorem c18:((Rows.fnExactRunsInRow.wideKeys == (Tryz.f7.params.toList++Rows.fnExactRunsInSpec.plain.varTypes Tryz.prog++Tryz.f7.resultTypes.toList).any (Tryz.prog.wideKeysFrom ·)))=true:=by kernel_rfl
theorem c19:(Rows.fnExactRunsInSpec.vars.all (Tryz.prog.varReadable ·))=true:=by kernel_rfl
theorem c20:(Tryz.f7.resultTypes.all (fun t=>Tryz.prog.readableRec t && decide (t<Tryz.prog.types.size)))=true:=by kernel_rfl
theorem c21:((Rows.fnExactRunsInRow.ifacesOut == Tryz.f7.resultTypes.toList.any (Tryz.prog.ifacesRec ·)))=true:=by kernel_rfl
theorem c22:((Rows.fnExactRunsInRow.loopsOut == Tryz.f7.resultTypes.toList.any (Tryz.prog.loopsFrom ·)))=true:=by kernel_rfl
theorem c23:((Rows.fnExactRunsInRow.plainKeys == Tryz.prog.plainKeys))=true:=p23
theorem c24:(Rows.fnExactRunsInRow.shortTexts.isNone)=true:=by kernel_rfl
theorem c25:(Tryz.prog.stopsHeard)=true:=p25
theorem c26:(Tryz.prog.mayEnter)=true:=p26
theorem c27:((Rows.fnExactRunsInRow.lifted == Tryz.prog.liftsFinal))=true:=p27
theorem c28:((Tryz.prog.make == some Rows.fnExactRunsInRow.make))=true:=p28
theorem c29:((Rows.fnExactRunsInRow.kinds == (if Rows.fnExactRunsInRow.domain.isEmpty then [] else Tryz.f7.params.toList.map fun t=>match Tryz.prog.underlying t with | some (.int k)=>some k | _=>none)))=true:=by kernel_rfl
theorem c30:((Rows.fnExactRunsInRow.pinned == Rows.fnExactRunsInRow.pinnedBy))=true:=by kernel_rfl
theorem c31:((Rows.fnExactRunsInRow.veiled == (Tryz.f7.params.toList++Rows.fnExactRunsInSpec.plain.varTypes Tryz.prog++Tryz.f7.resultTypes.toList).any (Tryz.prog.veiledRec ·)))=true:=by kernel_rfl
theorem c32:(Rows.fnExactRunsInRow.veiledFits Tryz.prog Tryz.f7.params.toList (Tryz.f7.params.toList++Rows.fnExactRunsInSpec.plain.varTypes Tryz.prog++Tryz.f7.resultTypes.toList))=true:=by kernel_rfl
theorem and2 {a b:Bool} (h:a=true) (k:b=true):(a && b)=true:=by rw [h,k];rfl
set_option maxRecDepth 100000 in
theorem closed:joinedFacts Tryz.prog 7 Tryz.f7 Rows.fnExactRunsInSpec Rows.fnExactRunsInRow=true:=(and2 (and2 (and2 (and2 (and2 (and2 (and2 (and2 (and2 (and2 (and2 (and2 (and2 (and2 (and2 (and2 (and2 (and2 (and2 (and2 (and2 (and2 (and2 (and2 (and2 (and2 (and2 (and2 (and2 (and2 (and2 c1 c2) c3) c4) c5) c6) c7) c8) c9) c10) c11) c12) c13) c14) c15) c16) c17) c18) c19) c20) c21) c22) c23) c24) c25) c26) c27) c28) c29) c30) c31) c32)
end Go.Proofs.YtgojnefiephafaaGreat.fnExactRunsInDone
namespace Go.Proofs.YtgojnefiephafaaGreat.fnExactRunsInDone
open Go.ChangeShapes Go.WideShapes Go.ChangeAt Go.RowKit
theorem own:ownKnob Tryz.prog.godebug=none:=by kernel_rfl
theorem laidOut:laidOutB Tryz.prog=true:=by kernel_rfl
set_option maxRecDepth 100000 in
theorem lifted (os:Os) (started:os.Started) (H:Type) (enc:TypeId × Value→H) :
  ReturnsInHanded {} Tryz.checked os 7 .any (Rows.fnExactRunsInSpec.pre6 enc Tryz.prog Tryz.f7 Rows.fnExactRunsInRow.domain false) (Rows.fnExactRunsInSpec.post enc Tryz.prog Tryz.f7 false true false false):=by
 refine returnsInHanded_of_change (C:=Tryz.checked) own started (by kernel_rfl) Tryz.func7
  (ChangeSpec.witness6 (enc:=enc) (C:=Tryz.checked) false ⟨#[],#[.agg #[.slice none 0 0],.slice none 0 0,.slice none 0 0],[]⟩ 8 (by kernel_rfl) (by kernel_rfl) (by kernel_rfl) (by kernel_rfl)) ?_
 intro W base args ds gs before hval0 hW hcnd _;have hval:∀ (j:Nat) t v,Tryz.f7.params[j]? = some t→args[j]? = some v→Value.okWide Tryz.prog W .any base t v:=hval0;have hW':=hW;obtain ⟨p,q,hA0,hV,rfl,hfz,hnd⟩:=hW;have hA:DataW.TrodAll enc Tryz.prog W 0 (fun _=>true) true Tryz.f7.params.toList args.toList ds p:=hA0;rw [Tryz.params7] at hA hval;obtain ⟨v0,vs0,d0,ds0,p0,q0,hargs,rfl,rfl,h0,r0⟩:=trodAll_cons hA;obtain ⟨v1,vs1,d1,ds1,p1,q1,rfl,rfl,rfl,h1,r1⟩:=trodAll_cons r0;obtain ⟨v2,vs2,d2,ds2,p2,q2,rfl,rfl,rfl,h2,r2⟩:=trodAll_cons r1;obtain ⟨rfl,rfl,rfl⟩:=trodAll_nil r2;obtain rfl:args=#[v0,v1,v2]:=by cases args;simp_all
 obtain ⟨rfl,rfl⟩:=trodVars_none hV;have lt0:∀ x ∈ p0,x.block<W.heap.size:=by obtain ⟨m,hm⟩:=h0;exact DataW.trod_lt m _ _ _ hm
 obtain ⟨A0,c0,g0,rfl,w0⟩:=arg_graph (hval 0 24 v0 rfl rfl) h0;have lt1:∀ x ∈ p1,x.block<W.heap.size:=by obtain ⟨m,hm⟩:=h1;exact DataW.trod_lt m _ _ _ hm
 obtain ⟨A1,c1,l1,rfl,w1⟩:=arg_ints (hval 1 25 v1 rfl rfl) h1;have lt2:∀ x ∈ p2,x.block<W.heap.size:=by obtain ⟨m,hm⟩:=h2;exact DataW.trod_lt m _ _ _ hm
 obtain ⟨A2,c2,l2,rfl,w2⟩:=arg_acts (hval 2 26 v2 rfl rfl) h2;clear hA0 hval0;refine (ex_FnExactRunsIn _ _ _ _ _ _ _ _ _ W w0 w1 w2).mono fun e W' ⟨he,bel⟩=>?_;subst he;exact ⟨_,rfl,_,_,_,[],_,[],hW',trodAll_mk1 (shut_bool Tryz.underlying4 _),(trodAll_cons_mk (Below.trod laidOut (by kernel_rfl) (of_decide_eq_true (by kernel_rfl)) h0 bel lt0) (trodAll_cons_mk (Below.trod laidOut (by kernel_rfl) (of_decide_eq_true (by kernel_rfl)) h1 bel lt1) (trodAll_cons_mk (Below.trod laidOut (by kernel_rfl) (of_decide_eq_true (by kernel_rfl)) h2 bel lt2) trodAll_mk0))),rfl,bel.frame _,fun h=>by cases h⟩
theorem over:Rows.fnExactRunsInRow.holds Tryz.pinned (OpenSpec.ofChange Rows.fnExactRunsInSpec) :=
 OpenClaim.holds_of_wide 7 Tryz.f7 rfl rfl rfl rfl rfl rfl rfl ⟨rfl,rfl,rfl,rfl,rfl⟩ rfl rfl rfl rfl rfl (by kernel_rfl) Tryz.func7 closed
  (of_decide_eq_true (by kernel_rfl)) (by unfold Func.isWrapper;first | (rw [if_pos (by decide +kernel)];kernel_rfl) | (rw [if_neg (by decide +kernel)];exact ⟨rfl,rfl⟩))
  (fun os started H enc _=>lifted os started H enc)
theorem proved:Rows.FnExactRunsInSaid:=over
#print axioms proved
end Go.Proofs.YtgojnefiephafaaGreat.fnExactRunsInDone
