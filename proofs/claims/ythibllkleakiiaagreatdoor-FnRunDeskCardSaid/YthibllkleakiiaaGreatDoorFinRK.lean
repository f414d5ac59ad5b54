/- FnRunDesk: for every input the law returns true, and the argument and the words read as before; the card. Conditions: none. -/
import Derived.Test.YthibllkleakiiaaGreatDoorRows
import Derived.Test.YthibllkleakiiaaGreatDoorCards
import Derived.Test.YthibllkleakiiaaGreatDoorTie
import Derived.WalkKit
import Derived.ProofKit
import Derived.OpenShut
import Derived.ShutString
import Derived.ChangeVars
import Derived.Below
import Derived.Stop.Joined
import Derived.SevenTiedAt
import Derived.Lay
import Derived.Test.YthibllkleakiiaaGreatDoorFactsRK
import Derived.Test.YthibllkleakiiaaGreatDoorLawRK
import Derived.Test.YthibllkleakiiaaGreatDoorTxVX
namespace Go.Proofs.YthibllkleakiiaaGreatDoor.fnRunDeskDone
open Go.ChangeShapes Go.WideShapes Go.ChangeAt Go.RowKit
theorem own:ownKnob Tryz.prog.godebug=none:=by kernel_rfl
theorem laidOut:laidOutB Tryz.prog=true:=by kernel_rfl
set_option maxRecDepth 100000 in
theorem lifted (os:Os)(started:os.Started)(H:Type)(enc:TypeId × Value->H) :
  ReturnsInHanded {} Tryz.checked os 4 .any (fun w args=>(Rows.fnRunDeskSpec.pre enc Tryz.prog Tryz.f4 [] false w args/\laidMetH Tryz.prog Rows.fnRunDeskRow.laid w)/\sizedMet enc Tryz.prog Tryz.f4 (OpenSpec.ofChange Rows.fnRunDeskSpec) false w args)
   (Rows.fnRunDeskSpec.post enc Tryz.prog Tryz.f4 false true false false):=by
 refine returnsInHanded_of_calls own started (by kernel_rfl)
  (ChangeSpec.witness_shaped (enc:=enc) (C:=Tryz.checked) (os:=os) (X:=fun w _=>laidMetH Tryz.prog Rows.fnRunDeskRow.laid w) false (World.laidAll Tryz.prog os Rows.fnRunDeskRow.laid) #[.slice none 0 0] 8 (World.laidAll_os _ _ _)
   (World.shaped_of_ZipB (by kernel_rfl) (by kernel_rfl)) (by kernel_rfl) (by kernel_rfl) (by kernel_rfl)
   (by rw[MakeChecks.laidMetH_plain _ _ _ (by kernel_rfl)];exact laidMet_laidAll _ (by kernel_rfl) (by kernel_rfl))) ?_
 intro w tape i _ hsh _ hok hpre _
 obtain⟨_,_,_,fn',hfn',_,_,_,_,hval0⟩:=hok
 obtain rfl:fn'=Tryz.f4:=Option.some.inj (hfn'.symm.trans Tryz.func4)
 obtain⟨⟨⟨ds,gs,before,hw,_⟩,hx⟩,_⟩:=hpre
 have hW:=DataW.Whole.of_heap (w':=w.forCall tape i) (by rfl) hw
 have hL:laidMetH Tryz.prog Rows.fnRunDeskRow.laid (w.forCall tape i):=hx.of_heap (by rfl)
 suffices key:Calls Tryz.prog 4 i.args (w.forCall tape i) fun e W'=>∃ v,e= .returned v/\Rows.fnRunDeskSpec.post enc Tryz.prog Tryz.f4 false true false false (w.forCall tape i) i.args v W' by
  refine key.mono fun e W' ⟨v,he,hp⟩=>?_
  subst he
  exact ChangeSpec.post_blind hp
 clear hw hx
 generalize hB:w.heap.size=base at hval0
 generalize w.forCall tape i=W at *
 generalize i.args=args at *
 have hval:∀ (j:Nat) t v,Tryz.f4.params[j]? = some t->args[j]? = some v->Value.okWide Tryz.prog W .any base t v:=hval0
 have hW':=hW
 obtain⟨p,q,hA0,hV,rfl,hfz,hnd⟩:=hW
 have hA:DataW.TrodAll enc Tryz.prog W 0 (fun _=>true) true Tryz.f4.params.toList args.toList ds p:=hA0
 rw[Tryz.params4] at hA hval
 obtain⟨v0,vs0,d0,ds0,p0,q0,hargs,rfl,rfl,h0,r0⟩:=trodAll_cons hA
 obtain⟨rfl,rfl,rfl⟩:=trodAll_nil r0
 obtain rfl:args=#[v0]:=by cases args;simp_all
 obtain⟨gv,tv,cv,fv,dv,pv,rfl,hgv,htv,hvv,hdv,rfl⟩:=trodVars_one hV
 have lt0:∀ x ∈ p0,x.block<W.heap.size:=by obtain⟨m,hm⟩:=h0;exact DataW.trod_lt m _ _ _ hm
 obtain⟨A0,c0,l0,rfl,w0,hr0,hc0,hm0⟩:=Ue (hval 0 28 v0 rfl rfl) h0
 have ltv:∀ x ∈ pv,x.block<W.heap.size:=DataW.trod_lt fv _ _ _ hdv
 obtain rfl:=Option.some.inj (MU.symm.trans hgv)
 obtain rfl:=Option.some.inj (MV.symm.trans htv)
 have hcv:∃ a n c,cv=#[.slice a n c]:=by
  rcases DataW.trod_slice Tryz.underlying22 hdv with ⟨hc,_⟩ | ⟨a,len,cap,_,_,_,_,hc,_⟩
  ·exact⟨none,0,0,Array.eq_one_of_toList hc⟩
  ·exact⟨some a,len,cap,Array.eq_one_of_toList hc⟩
 obtain⟨av,nv,kv,rfl⟩:=hcv
 have hG:Ge W:=MY hL (by kernel_rfl) (by simp[Rows.fnRunDeskRow]) (by simp[Rows.fnRunDeskRow]) (by simp[Rows.fnRunDeskRow]) (by simp[Rows.fnRunDeskRow]) hsh
 clear hA0 hval0
 refine(Pe _ _ _ _ hG w0 hr0 hc0 hm0).mono fun e W' ⟨he,bel⟩=>?_
 subst he
 have hTv:DataW.Trod enc Tryz.prog W 0 (fun _=>true) true 22 (.slice av nv kv) dv pv:=⟨fv,hdv⟩
 obtain⟨fv',hdv'⟩:=Below.trod laidOut (by kernel_rfl) (of_decide_eq_true (by kernel_rfl)) hTv bel ltv
 exact⟨_,rfl,_,_,_,[],_,_,hW',trodAll_mk1 (shut_bool Tryz.underlying4 _),(trodAll_cons_mk (Below.trod laidOut (by kernel_rfl) (of_decide_eq_true (by kernel_rfl)) h0 bel lt0) trodAll_mk0),
  trodVars_mk1 MU MV (KD bel hvv) hdv',bel.frame _,fun h=>by cases h⟩
theorem over:Rows.FnRunDeskSaid :=
 OpenClaim.holds_of_wide 4 Tryz.f4 rfl rfl rfl rfl rfl rfl rfl ⟨rfl,rfl,rfl,rfl,rfl⟩ rfl rfl rfl rfl rfl (by kernel_rfl) Tryz.func4 closed
  (of_decide_eq_true (by kernel_rfl)) (by unfold Func.isWrapper;first | (rw[if_pos (by decide +kernel)];kernel_rfl) | (rw[if_neg (by decide +kernel)];exact⟨rfl,rfl⟩))
  (fun os started H enc _=>lifted os started H enc)
theorem proved:Rows.FnRunDeskCardSaid :=
 Claim7.holds_tied_plain_at .later [] [.data,.data,.data,.data,.sentinel,.sentinel,.widerDeep,.pinned] true (true,"bfb210b033057a38ba34e11db15d880c47e9e4d765d6a7f99f1ee1668f23519b") true
  over (fun _ h=>by cases h) (by kernel_rfl) (fun _ h=>by cases h) fnRunDesk_row_tie rfl ⟨rfl,rfl⟩ (by kernel_rfl) rfl
  (fun f fn hf hfn=>by
   obtain rfl:f=4:=Option.some.inj ((show Tryz.prog.funcNamed "loop.example/signalgraph/laws.FnRunDesk"=some 4 by kernel_rfl).symm.trans hf) |>.symm
   obtain rfl:fn=Tryz.f4:=(Option.some.inj (Tryz.func4.symm.trans hfn)).symm
   exact⟨by kernel_rfl,fun j t ht=>by
    rw[Tryz.params4] at ht
    have h3:t=28:=by
     rcases j with _ | j
     ·simpa using ht.symm
     ·simp at ht
    subst h3
    exact(show Tryz.prog.wantsStandIn 28=false by kernel_rfl)⟩)
  (by kernel_rfl)
#print axioms proved
end Go.Proofs.YthibllkleakiiaaGreatDoor.fnRunDeskDone
