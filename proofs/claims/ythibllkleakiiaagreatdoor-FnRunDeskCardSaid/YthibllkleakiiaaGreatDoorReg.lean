/- Parts of one proof, joined. A drawn region, whatever order is picked, by an invariant over the operations that are done. Conditions: none. -/
import Derived.Deep.RegionHeld3
namespace Go.Proofs.YthibllkleakiiaaGreatDoor
theorem pu:(∀ (l:List Value)(i:Nat)(x:Value),l.toArray.setIfInBounds i x=(l.set i x).toArray)/\(∀ (l:List Bool) (i:Nat) (x:Bool),l.toArray.setIfInBounds i x=(l.set i x).toArray)/\(∀ (a x:Value) (l:List Value),(a :: l).set 0 x=x :: l)/\(∀ (a x:Bool) (l:List Bool),(a :: l).set 0 x=x :: l) /\
    (∀ (a x:Value) (l:List Value) (n:Nat),(a :: l).set (n+1) x=a :: l.set n x)/\(∀ (a x:Bool) (l:List Bool) (n:Nat),(a :: l).set (n+1) x=a :: l.set n x):=by
  refine⟨fun l i x=>?_,fun l i x=>?_,fun _ _ _=>rfl,fun _ _ _=>rfl,fun _ _ _ _=>rfl,fun _ _ _ _=>rfl⟩ <;> simp
theorem pg:(∀ (l:List Oper)(i:Nat)(h:i<l.toArray.size),l.toArray[i]'h=l[i]'(by simpa using h))/\(∀ (a:Oper) (l:List Oper) (h:0<(a :: l).length),(a :: l)[0]'h=a)/\(∀ (a:Oper) (l:List Oper) (i:Nat) (h:i+1<(a :: l).length),(a :: l)[i+1]'h=l[i]'(by simpa using h)):=⟨fun _ _ _=>rfl,fun _ _ _=>rfl,fun _ _ _ _=>rfl⟩
theorem co {w:World}{a b:Addr}{v:Value}(h:a≠b:=by intro e;injection e;omega):(w.setCell a v).cell? b=w.cell? b:=World.cell?_setCell_other w a b v h
section
variable {P:Program} {ops:Array Oper} {Q:Exit->Act->World->Prop} {md:Region.Mode} {S:World->Prop}
theorem ty (i:Nat){oi:Oper}{v:Value}{fuel:Nat}{listed l':Array Bool}{a a':Act}{w:World}(h:wpAnyH P md ops Q S fuel l' a' w)(hi:ops[i]? = some oi:=by simp only[List.getElem?_toArray,List.getElem?_cons_succ,List.getElem?_cons_zero];rfl)(hv:∀ w,S w->(execOp a.eval oi).run P w= .ok (.value v) w:=by (intro w hSw;(try dsimp only at hSw);go_simp;try with_reducible rfl))(hs:Region.noSelect ops=true:=by kernel_rfl)(hf:Region.free md ops listed i=true:=by kernel_rfl)(hr:(Region.ready md ops listed).contains i=true:=by kernel_rfl)(hQ:∀ c a w,Q (.panic c) (a.put oi.dst v) w->Q (.panic c) a w:=by exact fun _ _ _ h=>h)(hw:Region.wanted oi (yielded ops a.tmps)=true:=by kernel_rfl)(hS:S w:=by assumption)(hl:listed.setIfInBounds i true=l':=by (try simp only[List.setIfInBounds_toArray,List.set_cons_zero,List.set_cons_succ]);rfl)(ha:a.put oi.dst v=a':=by (try simp only[Act.put,List.setIfInBounds_toArray,List.set_cons_zero,List.set_cons_succ]);rfl):wpAnyH P md ops Q S (fuel+1) listed a w:=by
  subst hl ha;exact wpAnyH_take hi hs hf hr hQ (Or.inl ⟨hw,hv⟩) hS h
theorem tn (i:Nat){oi:Oper}{fuel:Nat}{listed l':Array Bool}{a a':Act}{w:World}(h:wpAnyH P md ops Q S fuel l' a' w)(hi:ops[i]? = some oi:=by simp only[List.getElem?_toArray,List.getElem?_cons_succ,List.getElem?_cons_zero];rfl)(hs:Region.noSelect ops=true:=by kernel_rfl)(hf:Region.free md ops listed i=true:=by kernel_rfl)(hr:(Region.ready md ops listed).contains i=true:=by kernel_rfl)(hQ:∀ c a w,Q (.panic c) (a.put oi.dst undef) w->Q (.panic c) a w:=by exact fun _ _ _ h=>h)(hw:Region.wanted oi (yielded ops a.tmps)=false:=by kernel_rfl)(hS:S w:=by assumption)(hl:listed.setIfInBounds i true=l':=by (try simp only[List.setIfInBounds_toArray,List.set_cons_zero,List.set_cons_succ]);rfl)(ha:a.put oi.dst undef=a':=by (try simp only[Act.put,List.setIfInBounds_toArray,List.set_cons_zero,List.set_cons_succ]);rfl):wpAnyH P md ops Q S (fuel+1) listed a w:=by
  subst hl ha;exact wpAnyH_take hi hs hf hr hQ (Or.inr ⟨hw,rfl⟩) hS h
theorem tv (i:Nat){oi:Oper}{v:Value}{fuel:Nat}{listed:Array Bool}{a:Act}{w:World}(hv:∀ w,S w->(execOp a.eval oi).run P w= .ok (.value v) w)(h:wpAnyH P md ops Q S fuel (listed.setIfInBounds i true) (a.put oi.dst v) w)(hi:ops[i]? = some oi:=by simp only[List.getElem?_toArray,List.getElem?_cons_succ,List.getElem?_cons_zero];rfl)(hs:Region.noSelect ops=true:=by kernel_rfl)(hf:Region.free md ops listed i=true:=by kernel_rfl)(hr:(Region.ready md ops listed).contains i=true:=by kernel_rfl)(hQ:∀ c a w,Q (.panic c) (a.put oi.dst v) w->Q (.panic c) a w:=by exact fun _ _ _ h=>h)(hw:Region.wanted oi (yielded ops a.tmps)=true:=by kernel_rfl)(hS:S w:=by assumption):wpAnyH P md ops Q S (fuel+1) listed a w:=wpAnyH_take hi hs hf hr hQ (Or.inl ⟨hw,hv⟩) hS h
theorem DL (i:Nat){o:Oper}{fuel:Nat}{listed:Array Bool}{a:Act}{w:World}(ho:ops[i]? = some o)(h:∀ K':Act->World->Prop,Shut (∀ a w,S w->(S w->wpAnyH P md ops Q S fuel (listed.setIfInBounds i true) a w)->K' a w)->if Region.wanted o (yielded ops a.tmps)=true then Oper.wp P o a w K' Q else K' (a.put o.dst undef) w)(hr:Region.ready md ops listed=[i]:=by kernel_rfl):wpAnyH P md ops Q S (fuel+1) listed a w:=wpAnyH_ready hr (by simp) (AllReadyH.cons ho h AllReadyH.nil)
theorem dn {listed:Array Bool}{a:Act}{w:World}{fuel:Nat}(h:Q .normal a w)(hr:Region.ready md ops listed=[]:=by kernel_rfl):wpAnyH P md ops Q S fuel listed a w:=wpAnyH_done hr h fuel
end
section
variable {P:Program} {ops:Array Oper} {Q:Exit->Act->World->Prop} {md:Region.Mode} {S:World->Prop} {z:Nat}
def Qi (P:Program)(md:Region.Mode)(ops:Array Oper)(Q:Exit->Act->World->Prop)(S:World->Prop)(z:Nat):Nat->Array Bool->Act->World->Prop
  | 0,listed,a,w=>Region.ready md ops listed=[]/\Q .normal a w
  | fuel+1,listed,a,w=>(Region.ready md ops listed=[]->Q .normal a w) /\
    ∀ i ∈ Region.ready md ops listed,wpOp P ops Q i (fun a' w'=>(i≠z->S w')/\Qi P md ops Q S z fuel (listed.setIfInBounds i true) a' w') a w
theorem Ni:∀ (fuel:Nat)(listed:Array Bool)(a:Act)(w:World),Qi P md ops Q S z fuel listed a w->wpAny P md ops Q fuel listed a w
  | 0,_,_,_,h=>h
  | fuel+1,_,_,_,h=>⟨h.1,fun i hi=>wpOp_mono (fun a' w' h'=>Ni fuel _ a' w' h'.2) (h.2 i hi)⟩
def Tp (md:Region.Mode)(ops:Array Oper)(z:Nat):Bool:=match ops[z]? with
  | some oz=>(List.range ops.size).all fun i=>i == z || oz.after.toList.any fun e=>Region.binds md e && e.on == i
  | none=>false
theorem SI (h:Tp md ops z=true){i:Nat}{oi oz:Oper}(hi:ops[i]? = some oi)(hz:ops[z]? = some oz)(hne:i≠z):∃ e ∈ oz.after,Region.binds md e=true/\e.on=i:=by
  unfold Tp at h;rw[hz] at h;simp only[List.all_eq_true,List.mem_range,Bool.or_eq_true,beq_iff_eq,List.any_eq_true,Bool.and_eq_true] at h;rcases h i (Array.getElem?_eq_some_iff.1 hi).1 with h | ⟨e,he,h1,h2⟩
  · exact absurd h hne
  · exact⟨e,by simpa using he,h1,h2⟩
theorem Uy {i:Nat}{oi:Oper}{v:Value}(hlast:Tp md ops z=true)(hi:ops[i]? = some oi)(hiz:i≠z)(hsel:∀ (j:Nat) (o:Oper) cs b,ops[j]? = some o->o.op≠.select cs b)(hQ:∀ c a w,Q (.panic c) (a.put oi.dst v) w->Q (.panic c) a w) :
    ∀ (fuel:Nat) (listed:Array Bool) (a:Act) (w:World),
      (∀ j oj,ops[j]? = some oj->j≠i->listed.getD j true=false->(∀ e ∈ oj.after,Region.binds md e=true->e.on≠i)->oi.apart ops oj=true) ->
      i ∈ Region.ready md ops listed->YieldsIf P ops S oi v a->S w ->
      Qi P md ops Q S z fuel (listed.setIfInBounds i true) (a.put oi.dst v) w->Qi P md ops Q S z (fuel+1) listed a w:=by
  intro fuel;induction fuel with
  | zero =>
    intro listed a w _ hr hy hS H;refine⟨fun h=>(by rw[h] at hr;cases hr),fun j hj=>?_⟩;by_cases hji:j=i
    · subst hji;exact hy.wpOp hi hS ⟨fun _=>hS,H⟩
    · have:=ready_mono hj hji;rw[H.1] at this;cases this
  | succ fuel ih =>
    intro listed a w hfree hr hy hS H;refine⟨fun h=>(by rw[h] at hr;cases hr),fun j hj=>?_⟩;by_cases hji:j=i
    · subst hji;exact hy.wpOp hi hS ⟨fun _=>hS,H⟩
    · have h1:=H.2 j (ready_mono hj hji);obtain⟨hjun,oj,hoj,hall⟩:=mem_ready.1 hj
      have hnot:∀ e ∈ oj.after,Region.binds md e=true->e.on≠i:=fun e he hb heq=>by
        have h1:=hall e he hb;have h0:=(mem_ready.1 hr).1;rw[heq] at h1;rcases Nat.lt_or_ge i listed.size with h' | h'
        · simp[h'] at h0 h1;rw[h0] at h1;cases h1
        · simp[Array.getElem?_eq_none h'] at h1
      have hjz:j≠z:=fun e=>by
        subst e;obtain⟨e,he,hb,hon⟩:=SI hlast hi hoj hiz;exact hnot e he hb hon
      have h2:=wpOp_putIf hoj (hfree j oj hoj hji hjun hnot) (fun cs b=>hsel i oi cs b hi) (fun cs b=>hsel j oj cs b hoj) hQ hy h1
      have hfree':∀ k ok,ops[k]? = some ok->k≠i->(listed.setIfInBounds j true).getD k true=false ->
          (∀ e ∈ ok.after,Region.binds md e=true->e.on≠i)->oi.apart ops ok=true:=fun k ok hk hki hun hno=>by
        refine hfree k ok hk hki ?_ hno;by_cases hjk:j=k
        · subst hjk;exact hjun
        · rw[getD_set_ne true hjk] at hun;exact hun
      refine wpOp_mono (fun a' w' h3=>⟨fun _=>h3.2.1 hjz,ih (listed.setIfInBounds j true) a' w' hfree' (ready_mono hr (Ne.symm hji)) h3.1 (h3.2.1 hjz) ?_⟩) h2;rw[Array.setIfInBounds_comm _ _ hji];exact h3.2.2
theorem zy (i:Nat){oi:Oper}{v:Value}{fuel:Nat}{listed l':Array Bool}{a a':Act}{w:World}(h:Qi P md ops Q S z fuel l' a' w)(hi:ops[i]? = some oi:=by simp only[List.getElem?_toArray,List.getElem?_cons_succ,List.getElem?_cons_zero];rfl)(hv:∀ w,S w->(execOp a.eval oi).run P w= .ok (.value v) w:=by (intro w hSw;(try dsimp only at hSw);go_simp;try with_reducible rfl))(hs:Region.noSelect ops=true:=by kernel_rfl)(hf:Region.free md ops listed i=true:=by kernel_rfl)(hr:(Region.ready md ops listed).contains i=true:=by kernel_rfl)(hQ:∀ c a w,Q (.panic c) (a.put oi.dst v) w->Q (.panic c) a w:=by exact fun _ _ _ h=>h)(hw:Region.wanted oi (yielded ops a.tmps)=true:=by kernel_rfl)(hS:S w:=by assumption)(hl:listed.setIfInBounds i true=l':=by (try simp only[List.setIfInBounds_toArray,List.set_cons_zero,List.set_cons_succ]);rfl)(ha:a.put oi.dst v=a':=by (try simp only[Act.put,List.setIfInBounds_toArray,List.set_cons_zero,List.set_cons_succ]);rfl)(hlast:Tp md ops z=true:=by kernel_rfl)(hiz:i≠z:=by decide):Qi P md ops Q S z (fuel+1) listed a w:=by
  subst hl ha;exact Uy hlast hi hiz (Region.noSelect_spec hs) hQ fuel listed a w (Region.free_spec hi hf) (by simpa using hr) (Or.inl ⟨hw,hv⟩) hS h
theorem zr (i:Nat){o:Oper}{fuel:Nat}{listed:Array Bool}{a:Act}{w:World}(ho:ops[i]? = some o)(h:∀ K':Act->World->Prop,Shut (∀ a w,(i≠z->S w)->((i≠z->S w)->Qi P md ops Q S z fuel (listed.setIfInBounds i true) a w)->K' a w)->if Region.wanted o (yielded ops a.tmps)=true then Oper.wp P o a w K' Q else K' (a.put o.dst undef) w)(hr:Region.ready md ops listed=[i]:=by kernel_rfl):Qi P md ops Q S z (fuel+1) listed a w:=by
  refine⟨fun h0=>(by rw[hr] at h0;cases h0),fun j hj=>?_⟩;rw[hr,List.mem_singleton] at hj;subst hj;exact wpOp_step ho (fun K' hK=>h K' (fun a w hS hW=>hK a w ⟨hS,hW hS⟩))
theorem SX (i j:Nat){o o2:Oper}{fuel:Nat}{listed:Array Bool}{a:Act}{w:World}(ho:ops[i]? = some o)(ho2:ops[j]? = some o2)(h:∀ K':Act->World->Prop,Shut (∀ a w,(i≠z->S w)->((i≠z->S w)->Qi P md ops Q S z fuel (listed.setIfInBounds i true) a w)->K' a w)->if Region.wanted o (yielded ops a.tmps)=true then Oper.wp P o a w K' Q else K' (a.put o.dst undef) w)(h2:∀ K':Act->World->Prop,Shut (∀ a w,(j≠z->S w)->((j≠z->S w)->Qi P md ops Q S z fuel (listed.setIfInBounds j true) a w)->K' a w)->if Region.wanted o2 (yielded ops a.tmps)=true then Oper.wp P o2 a w K' Q else K' (a.put o2.dst undef) w)(hr:Region.ready md ops listed=[i,j]:=by kernel_rfl):Qi P md ops Q S z (fuel+1) listed a w:=by
  refine⟨fun h0=>(by rw[hr] at h0;cases h0),fun k hk=>?_⟩;rw[hr] at hk;simp only[List.mem_cons,List.not_mem_nil,or_false] at hk;rcases hk with rfl | rfl
  · exact wpOp_step ho (fun K' hK=>h K' (fun a w hS hW=>hK a w ⟨hS,hW hS⟩))
  · exact wpOp_step ho2 (fun K' hK=>h2 K' (fun a w hS hW=>hK a w ⟨hS,hW hS⟩))
theorem zn {fuel:Nat}{listed:Array Bool}{a:Act}{w:World}(h:Q .normal a w)(hr:Region.ready md ops listed=[]:=by kernel_rfl):Qi P md ops Q S z fuel listed a w:=by
  cases fuel with
  | zero=>exact⟨hr,h⟩
  | succ n=>exact⟨fun _=>h,by rw[hr];simp⟩
theorem zb (z:Nat)(S:World->Prop){id:Nat}{a:Act}{w:World}(hS:S w.drew)(h:S w.drew->Qi P .any ops Q S z ops.size (Array.replicate ops.size false) a w.drew)(hm:P.follows .mixedOrders=true:=by kernel_rfl):(Code.region id ops true).wp P Q a w :=
  wp_region_any hm (Ni _ _ _ _ (h hS))
end
theorem zh{p s q r:Prop}(k:(p->s)->((p->s)->q)->r)(a:s)(h:s->q)(d:p:=by decide):r:=k (fun _=>a) (fun z=>h (z d))
section
variable {P:Program} {ops:Array Oper} {Q:Exit->Act->World->Prop} {md:Region.Mode}
def Tf (md:Region.Mode)(ops:Array Oper):Bool:=(List.range ops.size).all fun i=>match ops[i]? with
 | some o=>o.after.toList.all fun e=>!Region.binds md e || decide (e.on<i)
 | none=>true
theorem Ug (hb:Tf md ops=true){listed:Array Bool}(hl:listed.size=ops.size)(hr:Region.ready md ops listed=[]):∀ i,i<ops.size->listed.getD i false=true:=by
 intro i;induction i using Nat.strongRecOn with
 | _ i ih =>
  intro hi;cases h:listed.getD i false with
  | true=>rfl
  | false =>
   have hi2:i<listed.size:=by omega
   have h2:listed.getD i true=false:=by simp[Array.getD,hi2] at h ⊢;exact h
   have hm:i ∈ Region.ready md ops listed:=mem_ready.2 ⟨h2,ops[i],Array.getElem?_eq_getElem hi,fun e he hbd=>by
    have hk:=List.all_eq_true.1 hb i (List.mem_range.2 hi);rw[Array.getElem?_eq_getElem hi] at hk;have:=List.all_eq_true.1 hk e (by simpa using he);rw[hbd] at this;simp at this
    exact ih e.on this (by omega)⟩
   rw[hr] at hm;cases hm
theorem Vk {I:(Nat->Bool)->Act->World->Prop}(hb:Tf md ops=true)(hs:∀ (i:Nat) (o:Oper),ops[i]? = some o->∀ (L:Nat->Bool) (a:Act) (w:World),I L a w->L i=false->(∀ e ∈ o.after,Region.binds md e=true->L e.on=true) ->
   ∀ K':Act->World->Prop,Shut (∀ a w,I (fun j=>L j || j == i) a w->K' a w)->if Region.wanted o (yielded ops a.tmps)=true then Oper.wp P o a w K' Q else K' (a.put o.dst undef) w)(he:∀ a w,I (fun j=>decide (j<ops.size)) a w->Q .normal a w) :
  ∀ (fuel:Nat) (listed:Array Bool) (a:Act) (w:World),listed.size=ops.size->listed.count false<=fuel->I (fun j=>listed.getD j false) a w->wpAny P md ops Q fuel listed a w:=by
 have fin:∀ (listed:Array Bool) (a:Act) (w:World),listed.size=ops.size->(∀ i,i<ops.size->listed.getD i false=true)->I (fun j=>listed.getD j false) a w->Q .normal a w:=fun listed a w hl hall hI=>he a w (by
  have e:(fun j=>listed.getD j false)=fun j=>decide (j<ops.size):=by
   funext j
   by_cases hj:j<ops.size
   ·rw[hall j hj,decide_eq_true hj]
   ·rw[decide_eq_false hj];simp[Array.getD,show ¬ j<listed.size by omega]
  rw[<- e];exact hI)
 intro fuel;induction fuel with
 | zero =>
  intro listed a w hl hc hI
  have h0:∀ x ∈ listed,x=true:=fun x hx=>by
   have:=Array.count_eq_zero.1 (show listed.count false=0 by omega);cases x with
   | true=>rfl
   | false=>exact absurd hx this
  have hall:∀ i,i<ops.size->listed.getD i false=true:=fun i hi=>by
   have hi2:i<listed.size:=by omega
   simp only[Array.getD,hi2,dite_true];exact h0 _ (Array.getElem_mem hi2)
  refine⟨?_,fin listed a w hl hall hI⟩;cases hr:Region.ready md ops listed with
  | nil=>rfl
  | cons i r =>
   have hi:i ∈ Region.ready md ops listed:=by rw[hr];exact List.mem_cons_self
   obtain⟨h1,o,ho,-⟩:=mem_ready.1 hi;have hi3:=(Array.getElem?_eq_some_iff.1 ho).1;have hi2:i<listed.size:=by omega
   have h2:=hall i hi3;simp[Array.getD,hi2] at h1 h2
   rw[h1] at h2;cases h2
 | succ fuel ih =>
  intro listed a w hl hc hI;refine⟨fun hr=>fin listed a w hl (Ug hb hl hr) hI,fun i hi=>?_⟩;obtain⟨h1,o,ho,hdep⟩:=mem_ready.1 hi;have hi3:=(Array.getElem?_eq_some_iff.1 ho).1;have hi2:i<listed.size:=by omega
  have h2:listed.getD i false=false:=by simp[Array.getD,hi2] at h1 ⊢;exact h1
  refine wpOp_step ho (fun K' hK=>hs i o ho _ a w hI h2 (fun e he hbd=>hdep e he hbd) K' (fun a' w' h'=>hK a' w' (ih _ a' w' (by simp;exact hl) ?_ ?_)))
  ·have h3:listed[i]'hi2=false:=by simpa[Array.getD,hi2] using h1
   have h4:listed.setIfInBounds i true=listed.set i true hi2:=by simp[Array.setIfInBounds,hi2]
   have h5:0<listed.count false:=Array.count_pos_iff.2 (by rw[<- h3];exact Array.getElem_mem hi2);rw[h4,Array.count_set,h3];simp
   omega
  ·have e:(fun j=>(listed.setIfInBounds i true).getD j false)=fun j=>listed.getD j false || j == i:=by
    funext j
    by_cases hj:j=i
    ·subst hj;simp[Array.getD,hi2]
    ·have:(j == i)=false:=by simp[hj]
     rw[this,Bool.or_false];by_cases hjl:j<listed.size
     ·simp[Array.getD,hjl,Ne.symm hj]
     ·simp[Array.getD,hjl]
   rw[e];exact h'
theorem Y0 {id:Nat}{a:Act}{w:World}(I:(Nat->Bool)->Act->World->Prop)(h0:I (fun _=>false) a w.drew)(hs:∀ (i:Nat) (o:Oper),ops[i]? = some o->∀ (L:Nat->Bool) (a:Act) (w:World),I L a w->L i=false->(∀ e ∈ o.after,Region.binds .any e=true->L e.on=true) ->
   ∀ K':Act->World->Prop,Shut (∀ a w,I (fun j=>L j || j == i) a w->K' a w)->if Region.wanted o (yielded ops a.tmps)=true then Oper.wp P o a w K' Q else K' (a.put o.dst undef) w)(he:∀ a w,I (fun j=>decide (j<ops.size)) a w->Q .normal a w)(hb:Tf .any ops=true:=by kernel_rfl)(hm:P.follows .mixedOrders=true:=by kernel_rfl):(Code.region id ops true).wp P Q a w :=
 wp_region_any hm (Vk hb hs he ops.size _ a _ (by simp) (by simp) (by
  have e:(fun j=>(Array.replicate ops.size false).getD j false)=fun _=>false:=by
   funext j
   by_cases hj:j<ops.size <;> simp[Array.getD,hj]
  rw[e];exact h0))
theorem YM {id:Nat}{a:Act}{w:World}(I:Act->(Nat->Bool)->Act->World->Prop)(h0:I a (fun _=>false) a w.drew)(hs:∀ (i:Nat) (o:Oper),ops[i]? = some o->∀ (L:Nat->Bool) (a':Act) (w:World),I a L a' w->L i=false->(∀ e ∈ o.after,Region.binds .any e=true->L e.on=true) ->
   ∀ K':Act->World->Prop,Shut (∀ a' w,I a (fun j=>L j || j == i) a' w->K' a' w)->if Region.wanted o (yielded ops a'.tmps)=true then Oper.wp P o a' w K' Q else K' (a'.put o.dst undef) w)(he:∀ a' w,I a (fun j=>decide (j<ops.size)) a' w->Q .normal a' w)(hb:Tf .any ops=true:=by kernel_rfl)(hm:P.follows .mixedOrders=true:=by kernel_rfl):(Code.region id ops true).wp P Q a w:=Y0 (I a) h0 hs he hb hm
end
end Go.Proofs.YthibllkleakiiaaGreatDoor
