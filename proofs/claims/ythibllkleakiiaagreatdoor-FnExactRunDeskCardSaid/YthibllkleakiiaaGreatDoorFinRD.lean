/- FnExactRunDesk: for every input the law returns true, and the arguments and the words read as before; the card. Conditions: none. -/
import Derived.Test.YthibllkleakiiaaGreatDoorRows
import Derived.Test.YthibllkleakiiaaGreatDoorCards
import Derived.Test.YthibllkleakiiaaGreatDoorTie
import Derived.WalkKit
import Derived.ProofKit
import Derived.OpenShut
import Derived.ShutString
import Derived.ChangeVars
import Derived.Below
import Derived.Stop.Joined
import Derived.SevenTiedAt
import Derived.Lay
import Derived.Test.YthibllkleakiiaaGreatDoorFactsRD
import Derived.Test.YthibllkleakiiaaGreatDoorLawRD
import Derived.Test.YthibllkleakiiaaGreatDoorTxVX
namespace Go.Proofs.YthibllkleakiiaaGreatDoor.fnExactRunDeskDone
open Go.ChangeShapes Go.WideShapes Go.ChangeAt Go.RowKit
theorem own:ownKnob Tryz.prog.godebug=none:=by kernel_rfl
theorem laidOut:laidOutB Tryz.prog=true:=by kernel_rfl
set_option maxRecDepth 100000 in
theorem lifted (os:Os)(started:os.Started)(H:Type)(enc:TypeId × Value->H) :
  ReturnsInHanded {} Tryz.checked os 3 .any (fun w args=>(Rows.fnExactRunDeskSpec.pre enc Tryz.prog Tryz.f3 [] false w args/\laidMetH Tryz.prog Rows.fnExactRunDeskRow.laid w)/\sizedMet enc Tryz.prog Tryz.f3 (OpenSpec.ofChange Rows.fnExactRunDeskSpec) false w args)
   (Rows.fnExactRunDeskSpec.post enc Tryz.prog Tryz.f3 false true false false):=by
 refine returnsInHanded_of_calls own started (by kernel_rfl)
  (ChangeSpec.witness_shaped (enc:=enc) (C:=Tryz.checked) (os:=os) (X:=fun w _=>laidMetH Tryz.prog Rows.fnExactRunDeskRow.laid w) false (World.laidAll Tryz.prog os Rows.fnExactRunDeskRow.laid) #[.string ⟨#[]⟩,.slice none 0 0] 8 (World.laidAll_os _ _ _)
   (World.shaped_of_ZipB (by kernel_rfl) (by kernel_rfl)) (by kernel_rfl) (by kernel_rfl) (by kernel_rfl)
   (by rw[MakeChecks.laidMetH_plain _ _ _ (by kernel_rfl)];exact laidMet_laidAll _ (by kernel_rfl) (by kernel_rfl))) ?_
 intro w tape i _ hsh _ hok hpre _
 obtain⟨_,_,_,fn',hfn',_,_,_,_,hval0⟩:=hok
 obtain rfl:fn'=Tryz.f3:=Option.some.inj (hfn'.symm.trans Tryz.func3)
 obtain⟨⟨⟨ds,gs,before,hw,_⟩,hx⟩,_⟩:=hpre
 have hW:=DataW.Whole.of_heap (w':=w.forCall tape i) (by rfl) hw
 have hL:laidMetH Tryz.prog Rows.fnExactRunDeskRow.laid (w.forCall tape i):=hx.of_heap (by rfl)
 suffices key:Calls Tryz.prog 3 i.args (w.forCall tape i) fun e W'=>∃ v,e= .returned v/\Rows.fnExactRunDeskSpec.post enc Tryz.prog Tryz.f3 false true false false (w.forCall tape i) i.args v W' by
  refine key.mono fun e W' ⟨v,he,hp⟩=>?_
  subst he
  exact ChangeSpec.post_blind hp
 clear hw hx
 generalize hB:w.heap.size=base at hval0
 generalize w.forCall tape i=W at *
 generalize i.args=args at *
 have hval:∀ (j:Nat) t v,Tryz.f3.params[j]? = some t->args[j]? = some v->Value.okWide Tryz.prog W .any base t v:=hval0
 have hW':=hW
 obtain⟨p,q,hA0,hV,rfl,hfz,hnd⟩:=hW
 have hA:DataW.TrodAll enc Tryz.prog W 0 (fun _=>true) true Tryz.f3.params.toList args.toList ds p:=hA0
 rw[Tryz.params3] at hA hval
 obtain⟨v0,vs0,d0,ds0,p0,q0,hargs,rfl,rfl,h0,r0⟩:=trodAll_cons hA
 obtain⟨v1,vs1,d1,ds1,p1,q1,rfl,rfl,rfl,h1,r1⟩:=trodAll_cons r0
 obtain⟨rfl,rfl,rfl⟩:=trodAll_nil r1
 obtain rfl:args=#[v0,v1]:=by cases args;simp_all
 obtain⟨gv,tv,cv,fv,dv,pv,rfl,hgv,htv,hvv,hdv,rfl⟩:=trodVars_one hV
 have lt0:∀ x ∈ p0,x.block<W.heap.size:=by obtain⟨m,hm⟩:=h0;exact DataW.trod_lt m _ _ _ hm
 have lt1:∀ x ∈ p1,x.block<W.heap.size:=by obtain⟨m,hm⟩:=h1;exact DataW.trod_lt m _ _ _ hm
 obtain⟨A1,c1,ss,rfl,hr1,hz1⟩:=Vm (hval 1 22 v1 rfl rfl) h1
 obtain⟨s0,rfl⟩:=okWide_string Tryz.underlying9 (hval 0 9 v0 rfl rfl)
 have ltv:∀ x ∈ pv,x.block<W.heap.size:=DataW.trod_lt fv _ _ _ hdv
 obtain rfl:=Option.some.inj (MU.symm.trans hgv)
 obtain rfl:=Option.some.inj (MV.symm.trans htv)
 have hcv:∃ a n c,cv=#[.slice a n c]:=by
  rcases DataW.trod_slice Tryz.underlying22 hdv with ⟨hc,_⟩ | ⟨a,len,cap,_,_,_,_,hc,_⟩
  ·exact⟨none,0,0,Array.eq_one_of_toList hc⟩
  ·exact⟨some a,len,cap,Array.eq_one_of_toList hc⟩
 obtain⟨av,nv,kv,rfl⟩:=hcv
 have hG:Ge W:=MY hL (by kernel_rfl) (by simp[Rows.fnExactRunDeskRow]) (by simp[Rows.fnExactRunDeskRow]) (by simp[Rows.fnExactRunDeskRow]) (by simp[Rows.fnExactRunDeskRow]) hsh
 clear hA0 hval0
 refine(KC s0 A1 c1 ss _ hG hr1 hz1).mono fun e W' ⟨he,bel⟩=>?_
 subst he
 have hTv:DataW.Trod enc Tryz.prog W 0 (fun _=>true) true 22 (.slice av nv kv) dv pv:=⟨fv,hdv⟩
 obtain⟨fv',hdv'⟩:=Below.trod laidOut (by kernel_rfl) (of_decide_eq_true (by kernel_rfl)) hTv bel ltv
 exact⟨_,rfl,_,_,_,[],_,_,hW',trodAll_mk1 (shut_bool Tryz.underlying4 _),(trodAll_cons_mk (Below.trod laidOut (by kernel_rfl) (of_decide_eq_true (by kernel_rfl)) h0 bel lt0) (trodAll_cons_mk (Below.trod laidOut (by kernel_rfl) (of_decide_eq_true (by kernel_rfl)) h1 bel lt1) trodAll_mk0)),
  trodVars_mk1 MU MV (KD bel hvv) hdv',bel.frame _,fun h=>by cases h⟩
theorem over:Rows.FnExactRunDeskSaid :=
 OpenClaim.holds_of_wide 3 Tryz.f3 rfl rfl rfl rfl rfl rfl rfl ⟨rfl,rfl,rfl,rfl,rfl⟩ rfl rfl rfl rfl rfl (by kernel_rfl) Tryz.func3 closed
  (of_decide_eq_true (by kernel_rfl)) (by unfold Func.isWrapper;first | (rw[if_pos (by decide +kernel)];kernel_rfl) | (rw[if_neg (by decide +kernel)];exact⟨rfl,rfl⟩))
  (fun os started H enc _=>lifted os started H enc)
theorem proved:Rows.FnExactRunDeskCardSaid :=
 Claim7.holds_tied_plain_at .later [] [.data,.data,.data,.data,.sentinel,.sentinel,.widerDeep,.pinned] true (true,"bfb210b033057a38ba34e11db15d880c47e9e4d765d6a7f99f1ee1668f23519b") true
  over (fun _ h=>by cases h) (by kernel_rfl) (fun _ h=>by cases h) fnExactRunDesk_row_tie rfl ⟨rfl,rfl⟩ (by kernel_rfl) rfl
  (fun f fn hf hfn=>by
   obtain rfl:f=3:=Option.some.inj ((show Tryz.prog.funcNamed "loop.example/signalgraph/laws.FnExactRunDesk"=some 3 by kernel_rfl).symm.trans hf) |>.symm
   obtain rfl:fn=Tryz.f3:=(Option.some.inj (Tryz.func3.symm.trans hfn)).symm
   exact⟨by kernel_rfl,fun j t ht=>by
    rw[Tryz.params3] at ht
    have h3:t=9\/t=22:=by
     rcases j with _ | _ | j
     ·exact .inl (by simpa using ht.symm)
     ·exact .inr (by simpa using ht.symm)
     ·simp at ht
    rcases h3 with rfl | rfl
    ·exact(show Tryz.prog.wantsStandIn 9=false by kernel_rfl)
    ·exact(show Tryz.prog.wantsStandIn 22=false by kernel_rfl)⟩)
  (by kernel_rfl)
#print axioms proved
end Go.Proofs.YthibllkleakiiaaGreatDoor.fnExactRunDeskDone
