/- Parts of one proof, joined. A lazy state of the call's own, with the list of what ran behind a pointer: laws, and more. Conditions: in the theorems. -/
import Derived.Test.YthibllkleakiiaaGreatDoorLazSmall
namespace Go.Proofs.YthibllkleakiiaaGreatDoor
open Go.RowKit
theorem Cy.put2 {w:World}{B c:Nat}{A:Option Addr}{ll:List (List Int)}{hs:List (Option Addr × Nat)}(k:Cy w B A c ll hs){i:Nat}(hi:i<ll.length)(l:List Int){A0:Option Addr}{c0:Nat}(own:AA w B 3 1 A0 l.length c0 (Ah l))(hd:∀ b,AD A0=some b->¬ FR A hs b){g:Nat}(hA:A=some ⟨g,0,none⟩):Cy (w.setCell ⟨g,i,none⟩ (.slice A0 l.length c0)) B A c (ll.set i l) (hs.set i (A0,c0)):=by
 subst hA;have hlen:hs.length=ll.length:=by have:=k.len;simpa using this
 have hits:AM (ll.set i l)=(AM ll).set i ⟨[],l.length,Ah l⟩:=by simp[AM,List.map_set]
 have hpre:∀ x ∈ AM ll,x.pre=[]:=by
  intro x hx;unfold AM at hx;rw[List.mem_map] at hx;obtain⟨y,_,rfl⟩:=hx;rfl
 have hother:∀ b,b≠g->(w.setCell ⟨g,i,none⟩ (.slice A0 l.length c0)).heap[b]? = w.heap[b]? := fun b hb=>Below.heap_setCell _ _ _ _ hb;have hg0:∀ b,AD A0=some b->b≠g:=fun b hb e=>hd b hb (.inl (by subst e;rfl));have hin0:∀ (j:Nat) (h:Option Addr × Nat),hs[j]? = some h->∀ b,AD A0=some b->AD h.1≠some b:=fun j h hh b hb e=>hd b hb (.inr ⟨h,List.mem_of_getElem? hh,e⟩);refine⟨by simp[hlen],?_,?_,?_,?_⟩
 ·have h1:=k.out.st i (.slice A0 l.length c0);rw[L0 (AM ll) hs i ⟨[],l.length,Ah l⟩ A0 c0 hpre rfl (by simpa using hlen) (by simpa using hi)] at h1;rw[hits];simpa using h1
 ·intro j it h hj hh;rw[hits] at hj;by_cases hij:j=i
  ·subst hij;rw[List.getElem?_set_self (by simpa using hi)] at hj;rw[List.getElem?_set_self (by omega)] at hh;injection hj with hj;injection hh with hh;subst hj;subst hh;exact own.keep fun b hb=>hother b (hg0 b hb)
  ·rw[List.getElem?_set_ne (fun e=>hij e.symm)] at hj hh;refine(k.inn j it h hj hh).keep fun b hb=>hother b (fun e2=>?_);subst e2;exact k.dio j h hh b rfl hb
 ·intro a b h h' hab hh hh' x hx hx';by_cases h1:a=i
  ·subst h1;rw[List.getElem?_set_self (by omega)] at hh;injection hh with hh;subst hh;rw[List.getElem?_set_ne (by omega)] at hh';exact hin0 b h' hh' x hx hx'
  ·rw[List.getElem?_set_ne (fun e=>h1 e.symm)] at hh;by_cases h2:b=i
   ·subst h2;rw[List.getElem?_set_self (by omega)] at hh';injection hh' with hh';subst hh';exact hin0 a h hh x hx' hx
   ·rw[List.getElem?_set_ne (fun e=>h2 e.symm)] at hh';exact k.dis a b h h' hab hh hh' x hx hx'
 ·intro a h hh b hb hb';by_cases h1:a=i
  ·subst h1;rw[List.getElem?_set_self (by omega)] at hh;injection hh with hh;subst hh;simp[AD] at hb
   exact hg0 b hb' hb.symm
  ·rw[List.getElem?_set_ne (fun e=>h1 e.symm)] at hh;exact k.dio a h hh b hb hb'
def NH (B L gv cv gr cr gq cq Br:Nat)(pre:List Value)(hs:List (Option Addr × Nat))(A:Option Addr)(c:Nat)(s:Sg.LR):List (Th B) :=
 [Th.own B 3 1 (some ⟨gv,0,none⟩) L cv (Ah s.st.vals),Th.ownL B (some ⟨gr,0,none⟩) cr s.st.reads hs,Th.own B 3 1 (some ⟨gq,0,none⟩) L cq (Ah s.st.cols),Th.box B Br (pre++[.slice A s.ran.length c]),Th.own B 3 1 A s.ran.length c (Ah s.ran)]
structure LS (w0:World) (L gv cv gr cr gq cq Br:Nat) (pre:List Value) (s:Sg.LR) (F:Nat->Prop) (W:World):Prop where
 old:Aa w0 W
 ex:∃ hs A c,Ai (NH w0.heap.size L gv cv gr cr gq cq Br pre hs A c s) W/\∀ b,F b↔∃ t ∈ NH w0.heap.size L gv cv gr cr gq cq Br pre hs A c s,t.fp b
 rl:s.st.reads.length=L
def LG (w0:World)(L gv cv gr cr gq cq Br:Nat)(pre:List Value)(s:Sg.LR)(F0:Nat->Prop)(W0 W:World):Prop :=
 ∃ F,LS w0 L gv cv gr cr gq cq Br pre s F W/\AH F0 W0 W/\∀ b,F b->F0 b\/W0.heap.size<=b
section
variable {w0:World} {L gv cv gr cr gq cq Br:Nat} {pre:List Value} {s t:Sg.LR} {F F0:Nat->Prop} {W W' W0:World}
theorem LS.start (h:LS w0 L gv cv gr cr gq cq Br pre s F W):LG w0 L gv cv gr cr gq cq Br pre s F W W:=⟨F,h,AH.rfl' _ _,fun _ e=>.inl e⟩
theorem LG.tr (h:LG w0 L gv cv gr cr gq cq Br pre s F0 W0 W)(k:∀ F,LS w0 L gv cv gr cr gq cq Br pre s F W->LG w0 L gv cv gr cr gq cq Br pre t F W W'):LG w0 L gv cv gr cr gq cq Br pre t F0 W0 W':=by
 obtain⟨F,h1,m,hF⟩:=h;obtain⟨F',h2,m2,hF2⟩:=k F h1;refine⟨F',h2,m.tr m2 hF,fun b hb=>?_⟩;rcases hF2 b hb with e | e
 ·exact hF b e
 ·have:=m.size;exact .inr (by omega)
theorem LS.lt (h:LS w0 L gv cv gr cr gq cq Br pre s F W){b:Nat}(hb:F b):w0.heap.size<=b/\b<W.heap.size:=by
 obtain⟨hs,A,c,hS,hF⟩:=h.ex;obtain⟨x,hx,hxb⟩:=(hF b).1 hb;exact hS.lt hx hxb
theorem LS.md {G:Nat->Prop}(h:LS w0 L gv cv gr cr gq cq Br pre s F W)(m:AH G W W')(h1:∀ b,F b->¬ G b)(h2:∀ b,b<w0.heap.size->¬ G b):LS w0 L gv cv gr cr gq cq Br pre s F W':=by
 obtain⟨hs,A,c,hS,hF⟩:=h.ex;refine⟨Aa.md h.old m (fun b e=>?_),⟨hs,A,c,hS.fr fun x hx b hb=>m.block b (hS.lt hx hb).2 (h1 b ((hF b).2 ⟨x,hx,hb⟩)),hF⟩,h.rl⟩;exact Nat.le_of_not_lt fun e2=>h2 b e2 e
theorem LS.ext (h:LS w0 L gv cv gr cr gq cq Br pre s F W)(e:Aa W W'):LS w0 L gv cv gr cr gq cq Br pre s F W':=h.md (G:=fun _=>False) (AH.of e) (fun _ _=>id) (fun _ _=>id)
theorem LG.ext (h:LG w0 L gv cv gr cr gq cq Br pre s F0 W0 W)(e:Aa W W'):LG w0 L gv cv gr cr gq cq Br pre s F0 W0 W':=h.tr fun F h=>⟨F,h.ext e,AH.of e,fun _ e=>.inl e⟩
theorem LS.v (h:LS w0 L gv cv gr cr gq cq Br pre s F W):AA W w0.heap.size 3 1 (some ⟨gv,0,none⟩) L cv (Ah s.st.vals):=by
 obtain⟨hs,A,c,hS,_⟩:=h.ex;exact Ai.get hS 0 rfl
theorem LS.q (h:LS w0 L gv cv gr cr gq cq Br pre s F W):AA W w0.heap.size 3 1 (some ⟨gq,0,none⟩) L cq (Ah s.st.cols):=by
 obtain⟨hs,A,c,hS,_⟩:=h.ex;exact Ai.get hS 2 rfl
theorem LS.r (h:LS w0 L gv cv gr cr gq cq Br pre s F W):∃ hs,Cy W w0.heap.size (some ⟨gr,0,none⟩) cr s.st.reads hs:=by
 obtain⟨hs,A,c,hS,_⟩:=h.ex;exact⟨hs,Ai.get hS 1 rfl⟩
theorem LS.vl (h:LS w0 L gv cv gr cr gq cq Br pre s F W):s.st.vals.length=L:=by have:=h.v.1;simpa using this
theorem LS.ql (h:LS w0 L gv cv gr cr gq cq Br pre s F W):s.st.cols.length=L:=by have:=h.q.1;simpa using this
theorem LS.Fv (h:LS w0 L gv cv gr cr gq cq Br pre s F W):F gv:=by
 obtain⟨hs,A,c,hS,hF⟩:=h.ex;exact(hF gv).2 ⟨_,List.mem_of_getElem? (i:=0) rfl,rfl⟩
theorem LS.Fr (h:LS w0 L gv cv gr cr gq cq Br pre s F W):F gr:=by
 obtain⟨hs,A,c,hS,hF⟩:=h.ex;exact(hF gr).2 ⟨_,List.mem_of_getElem? (i:=1) rfl,.inl rfl⟩
theorem LS.Fq (h:LS w0 L gv cv gr cr gq cq Br pre s F W):F gq:=by
 obtain⟨hs,A,c,hS,hF⟩:=h.ex;exact(hF gq).2 ⟨_,List.mem_of_getElem? (i:=2) rfl,rfl⟩
theorem LS.Fb (h:LS w0 L gv cv gr cr gq cq Br pre s F W):F Br:=by
 obtain⟨hs,A,c,hS,hF⟩:=h.ex;exact(hF Br).2 ⟨_,List.mem_of_getElem? (i:=3) rfl,rfl⟩
theorem LS.ne_vr (h:LS w0 L gv cv gr cr gq cq Br pre s F W):gv≠gr/\gv≠gq/\gv≠Br/\gr≠gq/\gr≠Br/\gq≠Br:=by
 obtain⟨hs,A,c,hS,hF⟩:=h.ex;have h1:=hS.2.1;have h2:=hS.2.2.2.1;have h3:=hS.2.2.2.2.2.1;refine⟨fun e=>?_,fun e=>?_,fun e=>?_,fun e=>?_,fun e=>?_,fun e=>?_⟩
 ·exact h1 (Th.ownL w0.heap.size (some ⟨gr,0,none⟩) cr s.st.reads hs) (by simp) gv rfl (.inl (by rw[e];rfl))
 ·exact h1 (Th.own w0.heap.size 3 1 (some ⟨gq,0,none⟩) L cq (Ah s.st.cols)) (by simp) gv rfl (show AD (some ⟨gq,0,none⟩)=some gv by rw[e];rfl)
 ·exact h1 (Th.box w0.heap.size Br (pre++[.slice A s.ran.length c])) (by simp) gv rfl e
 ·exact h2 (Th.own w0.heap.size 3 1 (some ⟨gq,0,none⟩) L cq (Ah s.st.cols)) (by simp) gr (.inl rfl) (show AD (some ⟨gq,0,none⟩)=some gr by rw[e];rfl)
 ·exact h2 (Th.box w0.heap.size Br (pre++[.slice A s.ran.length c])) (by simp) gr (.inl rfl) e
 ·exact h3 (Th.box w0.heap.size Br (pre++[.slice A s.ran.length c])) (by simp) gq rfl e
theorem LS.box (h:LS w0 L gv cv gr cr gq cq Br pre s F W):∃ A c,Bx W Br (pre++[.slice A s.ran.length c])/\AA W w0.heap.size 3 1 A s.ran.length c (Ah s.ran)/\AD A≠some Br/\(∀ b,AD A=some b->F b):=by
 obtain⟨hs,A,c,hS,hF⟩:=h.ex;have h1:=Ai.get hS 3 rfl;have h2:=Ai.get hS 4 rfl;refine⟨A,c,h1.1,h2,fun e=>?_,fun b hb=>(hF b).2 ⟨_,List.mem_of_getElem? (i:=4) rfl,hb⟩⟩;exact hS.2.2.2.2.2.2.2.1 (Th.own w0.heap.size 3 1 A s.ran.length c (Ah s.ran)) (by simp) Br rfl e
theorem LS.gen {G:Nat->Prop}{hs hs':List (Option Addr × Nat)}{A A':Option Addr}{c c':Nat}(h:LS w0 L gv cv gr cr gq cq Br pre s F W)(hS:Ai (NH w0.heap.size L gv cv gr cr gq cq Br pre hs A c s) W)(hF:∀ b,F b↔∃ t ∈ NH w0.heap.size L gv cv gr cr gq cq Br pre hs A c s,t.fp b)(i:Nat){x x':Th w0.heap.size}(hx:(NH w0.heap.size L gv cv gr cr gq cq Br pre hs A c s)[i]? = some x)(m:AH G W W')(hG:∀ b,G b->x.fp b\/W.heap.size<=b)(hok:x'.ok W')(hfp:∀ b,x'.fp b->x.fp b\/W.heap.size<=b)(he:(NH w0.heap.size L gv cv gr cr gq cq Br pre hs A c s).set i x'=NH w0.heap.size L gv cv gr cr gq cq Br pre hs' A' c' t)(hrl:t.st.reads.length=L):LG w0 L gv cv gr cr gq cq Br pre t F W W':=by
 have h1:=hS.set i hx m x' hG hok hfp;rw[he] at h1;have hxm:=List.mem_of_getElem? hx;have hsz:=h.old.size;refine⟨_,⟨Aa.md h.old m (fun b e=>?_),⟨hs',A',c',h1,fun b=>Iff.rfl⟩,hrl⟩,m.mono (fun b hb e=>?_),fun b hb=>?_⟩
 ·rcases hG b e with e2 | e2
  ·exact(hS.lt hxm e2).1
  ·omega
 ·rcases hG b e with e2 | e2
  ·exact(hF b).2 ⟨x,hxm,e2⟩
  ·omega
 ·obtain⟨y,hy,hyb⟩:=hb;rw[<- he] at hy;rcases List.mem_or_eq_of_mem_set hy with hy | rfl
  ·exact .inl ((hF b).2 ⟨y,hy,hyb⟩)
  ·rcases hfp b hyb with e2 | e2
   ·exact .inl ((hF b).2 ⟨x,hxm,e2⟩)
   ·exact .inr e2
theorem LS.setVal (h:LS w0 L gv cv gr cr gq cq Br pre s F W)(n:Nat)(x:Int):LG w0 L gv cv gr cr gq cq Br pre ⟨⟨s.st.vals.set n x,s.st.reads,s.st.cols⟩,s.ran⟩ F W (W.setCell ⟨gv,n,none⟩ (.int .i64 x)):=by
 obtain⟨hs,A,c,hS,hF⟩:=h.ex;have h1:AA (W.setCell ⟨gv,n,none⟩ (.int .i64 x)) w0.heap.size 3 1 (some ⟨gv,0,none⟩) L cv (Ah (s.st.vals.set n x)):=by have:=h.v.st n (.int .i64 x);rwa [Do] at this
 exact h.gen hS hF 0 (x':=Th.own w0.heap.size 3 1 (some ⟨gv,0,none⟩) L cv (Ah (s.st.vals.set n x))) rfl (AH.set (F:=fun b=>b=gv) (AH.rfl' _ W) (.inl rfl) _) (fun b e=>.inl (by rw[e];rfl)) h1 (fun b e=>.inl e) (hs':=hs) (A':=A) (c':=c) rfl h.rl
theorem LS.turnQ (h:LS w0 L gv cv gr cr gq cq Br pre s F W)(q:List Int)(m:AH (fun b=>b=gq) W W')(ho:AA W' w0.heap.size 3 1 (some ⟨gq,0,none⟩) L cq (Ah q)):LG w0 L gv cv gr cr gq cq Br pre ⟨⟨s.st.vals,s.st.reads,q⟩,s.ran⟩ F W W':=by
 obtain⟨hs,A,c,hS,hF⟩:=h.ex;exact h.gen hS hF 2 (x':=Th.own w0.heap.size 3 1 (some ⟨gq,0,none⟩) L cq (Ah q)) rfl m (fun b e=>.inl (by rw[e];rfl)) ho (fun b e=>.inl e) (hs':=hs) (A':=A) (c':=c) rfl h.rl
theorem LS.setCol (h:LS w0 L gv cv gr cr gq cq Br pre s F W)(n:Nat)(x:Int):LG w0 L gv cv gr cr gq cq Br pre ⟨⟨s.st.vals,s.st.reads,s.st.cols.set n x⟩,s.ran⟩ F W (W.setCell ⟨gq,n,none⟩ (.int .i64 x)) :=
 h.turnQ _ (AH.set (F:=fun b=>b=gq) (AH.rfl' _ W) (.inl rfl) _) (by have:=h.q.st n (.int .i64 x);rwa [Do] at this)
theorem LS.put (h:LS w0 L gv cv gr cr gq cq Br pre s F W){n:Nat}(hn:n<L)(l:List Int){A0:Option Addr}{c0:Nat}(own:AA W w0.heap.size 3 1 A0 l.length c0 (Ah l))(hd:Mj F A0) :
  ∃ F',LS w0 L gv cv gr cr gq cq Br pre ⟨⟨s.st.vals,s.st.reads.set n l,s.st.cols⟩,s.ran⟩ F' (W.setCell ⟨gr,n,none⟩ (.slice A0 l.length c0))/\AH (fun b=>b=gr) W (W.setCell ⟨gr,n,none⟩ (.slice A0 l.length c0))/\∀ b,F' b->F b\/AD A0=some b:=by
 obtain⟨hs,A,c,hS,hF⟩:=h.ex;have hr:Cy W w0.heap.size (some ⟨gr,0,none⟩) cr s.st.reads hs:=Ai.get hS 1 rfl;have hrF:∀ b,FR (some ⟨gr,0,none⟩) hs b->F b:=fun b hb=>(hF b).2 ⟨_,List.mem_of_getElem? (i:=1) rfl,hb⟩;have h2:=hr.put2 (by rw[h.rl];exact hn) l own (fun b hb e=>hd b hb (hrF b e)) rfl;have m:AH (fun b=>b=gr) W (W.setCell ⟨gr,n,none⟩ (.slice A0 l.length c0)):=AH.set (F:=fun b=>b=gr) (AH.rfl' _ W) (.inl rfl) _
 have hfp:∀ b,FR (some ⟨gr,0,none⟩) (hs.set n (A0,c0)) b->FR (some ⟨gr,0,none⟩) hs b\/AD A0=some b:=by
  rintro b (hb | ⟨x,hx,hb⟩)
  ·exact .inl (.inl hb)
  ·rcases List.mem_or_eq_of_mem_set hx with hx | rfl
   ·exact .inl (.inr ⟨x,hx,hb⟩)
   ·exact .inr hb
 have d1:=hS.2.1;have d2:=hS.2.2.2.1;have keep:∀ y ∈ NH w0.heap.size L gv cv gr cr gq cq Br pre hs A c s,¬ y.fp gr->∀ b,y.fp b->(W.setCell ⟨gr,n,none⟩ (.slice A0 l.length c0)).heap[b]? = W.heap[b]? := fun y hy hyr b hb=>m.block b (hS.lt hy hb).2 (fun e=>hyr (e ▸ hb));have nv:gv≠gr:=h.ne_vr.1;have nA:∀ y ∈ NH w0.heap.size L gv cv gr cr gq cq Br pre hs A c s,∀ b,y.fp b->AD A0≠some b:=fun y hy b hb e=>hd b e ((hF b).2 ⟨y,hy,hb⟩);refine⟨fun b=>∃ y ∈ NH w0.heap.size L gv cv gr cr gq cq Br pre (hs.set n (A0,c0)) A c ⟨⟨s.st.vals,s.st.reads.set n l,s.st.cols⟩,s.ran⟩,y.fp b,⟨Aa.md h.old m (fun b e=>by rw[e];exact(h.lt h.Fr).1),⟨hs.set n (A0,c0),A,c,?_,fun b=>Iff.rfl⟩,by simpa using h.rl⟩,m,?_⟩
 ·have hS1:=hS.2.2;refine⟨(Th.own w0.heap.size 3 1 (some ⟨gv,0,none⟩) L cv (Ah s.st.vals)).fr _ _ hS.1 (keep _ (by simp[NH]) (fun e=>nv (by injection e))),?_,h2,?_,?_⟩
  ·intro y hy b hb hb';simp only[List.mem_cons,List.not_mem_nil,or_false] at hy;rcases hy with rfl | hy
   ·rcases hfp b hb' with e | e
    ·exact d1 (Th.ownL w0.heap.size (some ⟨gr,0,none⟩) cr s.st.reads hs) (by simp) b hb e
    ·exact nA _ (List.mem_of_getElem? (i:=0) rfl) b hb e
   ·exact d1 y (by rcases hy with rfl | rfl | rfl <;> simp) b hb hb'
  ·intro y hy b hb hb';rcases hfp b hb with e | e
   ·exact d2 y hy b e hb'
   ·exact nA y (by simp only[NH,List.mem_cons,List.not_mem_nil,or_false] at hy ⊢;exact .inr (.inr hy)) b hb' e
  ·refine hS1.2.2.fr fun y hy b hb=>keep y (by simp only[NH,List.mem_cons,List.not_mem_nil,or_false] at hy ⊢;exact .inr (.inr hy)) (fun e=>d2 y hy gr (.inl rfl) e) b hb
 ·rintro b ⟨y,hy,hb⟩;simp only[NH,List.mem_cons,List.not_mem_nil,or_false] at hy;rcases hy with rfl | rfl | rfl | rfl | rfl
  ·exact .inl ((hF b).2 ⟨_,List.mem_of_getElem? (i:=0) rfl,hb⟩)
  ·rcases hfp b hb with e | e
   ·exact .inl (hrF b e)
   ·exact .inr e
  ·exact .inl ((hF b).2 ⟨_,List.mem_of_getElem? (i:=2) rfl,hb⟩)
  ·exact .inl ((hF b).2 ⟨_,List.mem_of_getElem? (i:=3) rfl,hb⟩)
  ·exact .inl ((hF b).2 ⟨_,List.mem_of_getElem? (i:=4) rfl,hb⟩)
theorem LS.addR (h:LS w0 L gv cv gr cr gq cq Br pre s F W)(n:Int){A A2:Option Addr}{c c2:Nat}(hb:Bx W Br (pre++[.slice A s.ran.length c]))(ho:AA W' w0.heap.size 3 1 A2 (s.ran.length+1) c2 (Ah s.ran++[.int .i64 n]))(hg:W.grownBy W' (AD A))(hat:AD A2=AD A\/∃ g,AD A2=some g/\W.heap.size<=g) :
  LG w0 L gv cv gr cr gq cq Br pre ⟨s.st,s.ran++[n]⟩ F W (W'.setCell ⟨Br,pre.length,none⟩ (.slice A2 (s.ran.length+1) c2)):=by
 obtain⟨hs,A1,c1,hS,hF⟩:=h.ex;have hb1:Bx W Br (pre++[.slice A1 s.ran.length c1]):=(Ai.get hS 3 rfl).1
 have he:A1=A/\c1=c:=by
  have e1:=hb1.cell (j:=pre.length) (u := .slice A1 s.ran.length c1) (by simp);have e2:=hb.cell (j:=pre.length) (u := .slice A s.ran.length c) (by simp);rw[e1] at e2;injection e2 with e2;injection e2 with e2 _ e3;exact⟨e2,e3⟩
 obtain⟨rfl,rfl⟩:=he;have h1:=hS.app 4 (A:=A1) (c:=c1) rfl ho hg hat;have hBr:=(Ai.get h1 3 rfl).1
 have h2:=h1.st 3 (t:=Th.box w0.heap.size Br (pre++[.slice A1 s.ran.length c1])) rfl ⟨Br,pre.length,none⟩ (.slice A2 (s.ran.length+1) c2) rfl (Th.box w0.heap.size Br (pre++[.slice A2 (s.ran.length+1) c2]))
  ⟨by have:=hBr.set pre.length (.slice A2 (s.ran.length+1) c2);simpa using this,(Ai.get hS 3 rfl).2⟩ (fun b e=>e)
 have he:((NH w0.heap.size L gv cv gr cr gq cq Br pre hs A1 c1 s).set 4 (Th.own w0.heap.size 3 1 A2 (s.ran.length+1) c2 (Ah s.ran++[.int .i64 n]))).set 3 (Th.box w0.heap.size Br (pre++[.slice A2 (s.ran.length+1) c2]))=NH w0.heap.size L gv cv gr cr gq cq Br pre hs A2 c2 ⟨s.st,s.ran++[n]⟩:=by
  simp[NH,Ah]
 rw[he] at h2;have m1:AH (fun b=>AD A1=some b) W W':=⟨hg.os,hg.tape,hg.output,hg.size,fun b hb hn=>hg.block b hb fun e=>hn e.symm⟩;have m2:AH (fun b=>AD A1=some b\/b=Br) W (W'.setCell ⟨Br,pre.length,none⟩ (.slice A2 (s.ran.length+1) c2)):=AH.set (m1.mono fun b _ e=>.inl e) (.inl (.inr rfl)) _;have hA1:∀ b,AD A1=some b->F b:=fun b hb=>(hF b).2 ⟨_,List.mem_of_getElem? (i:=4) rfl,hb⟩;have hsz:=h.old.size;refine⟨_,⟨Aa.md h.old m2 (fun b e=>?_),⟨hs,A2,c2,h2,fun b=>Iff.rfl⟩,h.rl⟩,m2.mono (fun b _ e=>?_),?_⟩
 ·rcases e with e | e
  ·exact(h.lt (hA1 b e)).1
  ·rw[e];exact(h.lt h.Fb).1
 ·rcases e with e | e
  ·exact hA1 b e
  ·rw[e];exact h.Fb
 ·rintro b ⟨y,hy,hb⟩;simp only[NH,List.mem_cons,List.not_mem_nil,or_false] at hy;rcases hy with rfl | rfl | rfl | rfl | rfl
  ·exact .inl ((hF b).2 ⟨_,List.mem_of_getElem? (i:=0) rfl,hb⟩)
  ·exact .inl ((hF b).2 ⟨_,List.mem_of_getElem? (i:=1) rfl,hb⟩)
  ·exact .inl ((hF b).2 ⟨_,List.mem_of_getElem? (i:=2) rfl,hb⟩)
  ·exact .inl ((hF b).2 ⟨_,List.mem_of_getElem? (i:=3) rfl,hb⟩)
  ·rcases hat with hat | ⟨g,hg1,hg2⟩
   ·exact .inl (hA1 b (by rw[<- hat];exact hb))
   ·have hb':AD A2=some b:=hb;rw[hg1] at hb';injection hb' with hb';exact .inr (by omega)
end
end Go.Proofs.YthibllkleakiiaaGreatDoor
namespace Sg
theorem Lm (c:Int->LR->LR)(n:Nat)(l:List Int)(x:Int)(s:LR):Cq c n (l++[x]) s=if AN (Cq c n l s) n=1 then c x (Cq c n l s) else Cq c n l s:=by
 unfold Cq;rw[List.foldl_append];rfl
theorem Ln (c:Int->LR->LR)(n:Nat)(l:List Int)(k:Nat)(s:LR)(h:AN (Cq c n (l.take k) s) n≠1):Cq c n l s=Cq c n (l.take k) s:=by
 conv=>lhs;rw[<- List.take_append_drop k l]
 have:Cq c n (l.take k++l.drop k) s=Cq c n (l.drop k) (Cq c n (l.take k) s):=by unfold Cq;rw[List.foldl_append]
 rw[this,Lo c n _ _ h]
theorem MG {r:List (List Int)}{n:Nat}{l:List Int}(h:Eu r)(hl:∀ x ∈ l,0<=x/\x<(n:Int)):Eu (r.set n l):=by
 intro k x hx;by_cases e:k=n
 ·subst e;by_cases hk:k<r.length
  ·rw[EM _ _ _ _ _ hk,if_pos rfl] at hx;exact hl x hx
  ·rw[List.getD_eq_getElem?_getD,List.getElem?_eq_none (by simp;omega)] at hx;cases hx
 ·rw[List.getD_eq_getElem?_getD,List.getElem?_set_ne (fun h=>e h.symm),<- List.getD_eq_getElem?_getD] at hx;exact h k x hx
noncomputable def GQ (s:LR)(n:Nat)(x:Int)(l:List Int):LR :=
 ⟨if x=Ba s n then ⟨s.st.vals,s.st.reads.set n l,s.st.cols.set n 0⟩ else ⟨s.st.vals.set n x,s.st.reads.set n l,Cs (s.st.reads.set n l) (s.st.cols.set n 0) n⟩,s.ran⟩
theorem Oa (s:LR)(n:Nat)(x:Int)(l:List Int):Ef s n x l=⟨(GQ s n x l).st,s.ran++[(n:Int)]⟩:=rfl
theorem Tt {g:Ae}{st:Bv}(h:AO g st=true)(k:Nat):0<=st.vals.getD k 0/\st.vals.getD k 0<=999:=by
 have hr:=B7 (AP h).2.2.2.2;rw[List.getD_eq_getElem?_getD];by_cases hk:k<st.vals.length
 ·rw[List.getElem?_eq_getElem hk];exact hr _ (List.getElem_mem hk)
 ·rw[List.getElem?_eq_none (by omega)];simp
theorem Ob {g:Ae}(hG:AG g=true){n:Nat}{nd:BQ}(hn:g[n]? = some nd)(h0:nd.kind≠0):WO nd.f (fun k=>0<=k/\k<(n:Int)):=by
 have hok:=Bj hG n hn h0;have hil:=(List.getElem?_eq_some_iff.1 hn).1;refine⟨hok.good,hok.len,hok.one,fun p hp h1=>?_⟩;have hgn:=C7 hG n hil
 have hV:AU nd.f=true:=by
  unfold Ce at hgn;rw[Bi hn] at hgn;dsimp only at hgn;rw[if_neg h0] at hgn;split at hgn
  ·simp only[Bool.and_eq_true] at hgn;exact hgn.1
  ·cases hgn
 exact Ju hG hn h0 (FB hV hp h1)
end Sg
namespace Go.Proofs.YthibllkleakiiaaGreatDoor
open Go.RowKit
section
variable {w0:World} {L gv cv gr cr gq cq Br:Nat} {pre:List Value} {s t:Sg.LR} {F F0:Nat->Prop} {W W' W0 W1:World}
theorem LG.m (h:LG w0 L gv cv gr cr gq cq Br pre s F0 W0 W):AH F0 W0 W:=by obtain⟨F,_,m,_⟩:=h;exact m
theorem LG.pr (h:LG w0 L gv cv gr cr gq cq Br pre s F0 W1 W')(e:Aa W W1):LG w0 L gv cv gr cr gq cq Br pre s F0 W W':=by
 obtain⟨F,h1,m,hF⟩:=h;have:=e.size;exact⟨F,h1,(AH.of e).tr' m,fun b hb=>(hF b hb).imp id (fun e=>by omega)⟩
theorem LG.tr1 (m:AH F0 W0 W)(hF:∀ b,F b->F0 b\/W0.heap.size<=b)(k:LG w0 L gv cv gr cr gq cq Br pre t F W W'):LG w0 L gv cv gr cr gq cq Br pre t F0 W0 W':=by
 obtain⟨F',h2,m2,hF2⟩:=k;refine⟨F',h2,m.tr m2 hF,fun b hb=>?_⟩;rcases hF2 b hb with e | e
 ·exact hF b e
 ·have:=m.size;exact .inr (by omega)
theorem LG.cong (h:LG w0 L gv cv gr cr gq cq Br pre s F0 W0 W)(e:s=t):LG w0 L gv cv gr cr gq cq Br pre t F0 W0 W:=e ▸ h
theorem LS.rdL (h:LS w0 L gv cv gr cr gq cq Br pre s F W)(hL:L<=1048576)(hl:∀ l ∈ s.st.reads,l.length<=1048576):∀ W',AH (fun b=>b=gq) W W'->KO W' (some ⟨gr,0,none⟩) s.st.reads:=by
 intro W' m;obtain⟨hs,A,c,hS,hF⟩:=h.ex;have hr:Cy W w0.heap.size (some ⟨gr,0,none⟩) cr s.st.reads hs:=Ai.get hS 1 rfl;have d2:=hS.2.2.2.1;exact Cy.rdL (Bn.mod hr m (fun b hb e=>d2 (Th.own w0.heap.size 3 1 (some ⟨gq,0,none⟩) L cq (Ah s.st.cols)) (by simp) b hb (show AD (some ⟨gq,0,none⟩)=some b by rw[e];rfl))) (by rw[h.rl];exact hL) hl
theorem LS.col (h:LS w0 L gv cv gr cr gq cq Br pre s F W){n:Nat}(hn:n<L):W.cell? ⟨gq,n,none⟩=some (.int .i64 (Sg.AN s n))/\W.frozen? ⟨gq,n,none⟩=false/\gq<W.heap.size:=by
 have hx:s.st.cols[n]? = some (Sg.AN s n):=by
  have hl:=h.ql;unfold Sg.AN;rw[List.getD_eq_getElem?_getD,List.getElem?_eq_getElem (by omega),Option.getD_some]
 have hc:=h.q.cell (j:=n) (u := .int .i64 (Sg.AN s n)) (by rw[Ct,hx];rfl);exact⟨hc,h.q.free n,Au hc⟩
theorem LS.val (h:LS w0 L gv cv gr cr gq cq Br pre s F W){n:Nat}(hn:n<L):W.cell? ⟨gv,n,none⟩=some (.int .i64 (Sg.Ba s n))/\W.frozen? ⟨gv,n,none⟩=false/\gv<W.heap.size:=by
 have hx:s.st.vals[n]? = some (Sg.Ba s n):=by
  have hl:=h.vl;unfold Sg.Ba;rw[List.getD_eq_getElem?_getD,List.getElem?_eq_getElem (by omega),Option.getD_some]
 have hc:=h.v.cell (j:=n) (u := .int .i64 (Sg.Ba s n)) (by rw[Ct,hx];rfl);exact⟨hc,h.v.free n,Au hc⟩
theorem LS.rds (h:LS w0 L gv cv gr cr gq cq Br pre s F W){n:Nat}(hn:n<L):∃ Al cl,W.cell? ⟨gr,n,none⟩=some (.slice Al (Sg.Ci s n).length cl)/\Rd W 1 Al (Sg.Ci s n).length (Ah (Sg.Ci s n))/\W.frozen? ⟨gr,n,none⟩=false/\gr<W.heap.size:=by
 obtain⟨hs,k⟩:=h.r
 have hx:s.st.reads[n]? = some (Sg.Ci s n):=by
  have hl:=h.rl;unfold Sg.Ci;rw[List.getD_eq_getElem?_getD,List.getElem?_eq_getElem (by omega),Option.getD_some]
 obtain⟨a,hh,ho⟩:=k.at_ (Dv hx)
 have hc:=k.out.cell (j:=n) (u := .slice a.1 (Sg.Ci s n).length a.2) (by
  have:=Gi (EJ s.st.reads) n 0 (by omega) (Dv hx) hh;rw[Nat.mul_one,Nat.add_zero] at this;rw[this];rfl)
 exact⟨a.1,a.2,hc,ho.rd,k.out.free n,Au hc⟩
end
end Go.Proofs.YthibllkleakiiaaGreatDoor
namespace Sg
noncomputable def DU (g:Ae)(st:Bv)(n:Int):LR:=AI g 10 n ⟨st,[]⟩
noncomputable def AS (g:Ae)(st:Bv)(n:Int):Bv × Int × List Int:=if (AO g st && BZ n 0 ((g.length:Int) - 1))=true then ((DU g st n).st,Ba (DU g st n) n.toNat,(DU g st n).ran) else (⟨[],[],[]⟩,0,[])
noncomputable def PR (g:Ae)(l:List Int)(s:LR):LR:=l.foldl (fun t k=>AI g 10 k t) s
def Uv (n:Nat):List Int:=Ch (fun _=>true) n
theorem Tu {g:Ae}{s t:LR}(hs:AO g s.st=true)(h:AX g (fun _=>True) s t){k:Int}(hk:BZ k 0 ((g.length:Int) - 1)=true):AX g (fun _=>True) s (AI g 10 k t):=by
 unfold BZ at hk;simp only[Bool.and_eq_true,decide_eq_true_eq] at hk;have hG:=(AP hs).1;have h10:=CM hG;have hcl:=EO hG 10 k.toNat t (by omega) (by omega) h.ok;rw[Int.toNat_of_nonneg hk.1] at hcl;exact AX.trans hs h (hcl.1.mono fun _ _=>trivial)
theorem Lp {g:Ae}{s:LR}(hs:AO g s.st=true)(l:List Int)(hl:∀ k ∈ l,BZ k 0 ((g.length:Int) - 1)=true):AX g (fun _=>True) s (PR g l s):=by
 have key:∀ (l:List Int) (t:LR),(∀ k ∈ l,BZ k 0 ((g.length:Int) - 1)=true)->AX g (fun _=>True) s t->AX g (fun _=>True) s (PR g l t):=by
  intro l;induction l with
  | nil=>intro t _ h;exact h
  | cons k l ih=>intro t hl h;exact ih (AI g 10 k t) (fun x hx=>hl x (by simp[hx])) (Tu hs h (hl k (by simp)))
 exact key l s hl (AX.refl hs)
theorem R6 (n:Nat):Uv (n+1)=Uv n++[(n:Int)]:=by unfold Uv;rw[Dr,if_pos rfl]
@[simp] theorem length_allL (n:Nat):(Uv n).length=n:=by
 induction n with
 | zero=>rfl
 | succ n ih=>rw[R6,List.length_append,ih];rfl
end Sg
namespace Go.Proofs.YthibllkleakiiaaGreatDoor
open Go.RowKit
theorem LS.of {w0 W:World}{L gv cv gr cr gq cq Bl c:Nat}{pre:List Value}{A:Option Addr}{hs:List (Option Addr × Nat)}{v q:List Int}{r:List (List Int)}(e:Aa w0 W)(Z:Dd W w0.heap.size (some ⟨gv,0,none⟩) cv (some ⟨gr,0,none⟩) cr (some ⟨gq,0,none⟩) cq hs ⟨v,r,q⟩)(lv:v.length=L)(lr:r.length=L)(lq:q.length=L)(hb:Bx W Bl (pre++[.slice A 0 c]))(o:AA W w0.heap.size 3 1 A 0 c [])(hB:w0.heap.size<=Bl)(d1:∀ b,M8 (some ⟨gv,0,none⟩) (some ⟨gr,0,none⟩) (some ⟨gq,0,none⟩) hs b->b≠Bl/\AD A≠some b)(d2:AD A≠some Bl) :
  ∃ F,LS w0 L gv cv gr cr gq cq Bl pre ⟨⟨v,r,q⟩,[]⟩ F W/\∀ b,F b->M8 (some ⟨gv,0,none⟩) (some ⟨gr,0,none⟩) (some ⟨gq,0,none⟩) hs b\/b=Bl\/AD A=some b:=by
 refine⟨_,⟨e,⟨hs,A,c,?_,fun b=>Iff.rfl⟩,lr⟩,fun b hb=>?_⟩;rotate_left
 ·obtain⟨y,hy,hyb⟩:=hb;simp only[NH,List.mem_cons,List.not_mem_nil,or_false] at hy;rcases hy with rfl | rfl | rfl | rfl | rfl
  ·exact .inl (.inl hyb)
  ·exact .inl (.inr (.inl hyb))
  ·exact .inl (.inr (.inr hyb))
  ·exact .inr (.inl hyb)
  ·exact .inr (.inr hyb)
 have zv:=Z.v;have zq:=Z.q;dsimp only at zv zq;rw[lv] at zv;rw[lq] at zq;refine⟨zv,?_,Z.r,?_,zq,?_,⟨hb,hB⟩,?_,o,?_,trivial⟩
 ·intro y hy b hb1 hb2;simp only[List.mem_cons,List.not_mem_nil,or_false] at hy;rcases hy with rfl | rfl | rfl | rfl
  ·exact(Z.d b hb1).1 hb2
  ·exact(Z.d b hb1).2 hb2
  ·exact(d1 b (.inl hb1)).1 hb2
  ·exact(d1 b (.inl hb1)).2 hb2
 ·intro y hy b hb1 hb2;simp only[List.mem_cons,List.not_mem_nil,or_false] at hy;rcases hy with rfl | rfl | rfl
  ·exact Z.e b hb2 hb1
  ·exact(d1 b (.inr (.inl hb1))).1 hb2
  ·exact(d1 b (.inr (.inl hb1))).2 hb2
 ·intro y hy b hb1 hb2;simp only[List.mem_cons,List.not_mem_nil,or_false] at hy;rcases hy with rfl | rfl
  ·exact(d1 b (.inr (.inr hb1))).1 hb2
  ·exact(d1 b (.inr (.inr hb1))).2 hb2
 ·intro y hy b hb1 hb2;simp only[List.mem_cons,List.not_mem_nil,or_false] at hy;subst hy;have hb1':b=Bl:=hb1;subst hb1';exact d2 hb2
 ·intro y hy;cases hy
theorem LS.back {w0 W:World}{L gv cv gr cr gq cq Bl:Nat}{pre:List Value}{s:Sg.LR}{F:Nat->Prop}(h:LS w0 L gv cv gr cr gq cq Bl pre s F W) :
  ∃ hs A c,Dd W w0.heap.size (some ⟨gv,0,none⟩) cv (some ⟨gr,0,none⟩) cr (some ⟨gq,0,none⟩) cq hs s.st/\Bx W Bl (pre++[.slice A s.ran.length c])/\AA W w0.heap.size 3 1 A s.ran.length c (Ah s.ran)/\(∀ b,M8 (some ⟨gv,0,none⟩) (some ⟨gr,0,none⟩) (some ⟨gq,0,none⟩) hs b->¬ AD A=some b)/\s.st.vals.length=L/\s.st.reads.length=L/\s.st.cols.length=L:=by
 obtain⟨hs,A,c,hS,hF⟩:=h.ex;have zv:=h.v;have zq:=h.q;have lv:=h.vl;have lq:=h.ql;rw[<- lv] at zv;rw[<- lq] at zq;refine⟨hs,A,c,⟨zv,Ai.get hS 1 rfl,zq,fun b hb=>⟨fun hf=>?_,fun hf=>?_⟩,fun b hb hf=>?_⟩,(Ai.get hS 3 rfl).1,Ai.get hS 4 rfl,fun b hb hf=>?_,lv,h.rl,lq⟩
 ·exact hS.2.1 (Th.ownL w0.heap.size (some ⟨gr,0,none⟩) cr s.st.reads hs) (by simp) b hb hf
 ·exact hS.2.1 (Th.own w0.heap.size 3 1 (some ⟨gq,0,none⟩) L cq (Ah s.st.cols)) (by simp) b hb hf
 ·exact hS.2.2.2.1 (Th.own w0.heap.size 3 1 (some ⟨gq,0,none⟩) L cq (Ah s.st.cols)) (by simp) b hf hb
 ·rcases hb with hb | hb | hb
  ·exact hS.2.1 (Th.own w0.heap.size 3 1 A s.ran.length c (Ah s.ran)) (by simp) b hb hf
  ·exact hS.2.2.2.1 (Th.own w0.heap.size 3 1 A s.ran.length c (Ah s.ran)) (by simp) b hb hf
  ·exact hS.2.2.2.2.2.1 (Th.own w0.heap.size 3 1 A s.ran.length c (Ah s.ran)) (by simp) b hb hf
theorem Dd.some3 {w:World}{B c1 c2 c3:Nat}{A1 A2 A3:Option Addr}{hs:List (Option Addr × Nat)}{v q:List Int}{r:List (List Int)}(h:Dd w B A1 c1 A2 c2 A3 c3 hs ⟨v,r,q⟩)(h1:0<v.length)(h2:0<r.length)(h3:0<q.length):∃ gv gr gq,A1=some ⟨gv,0,none⟩/\A2=some ⟨gr,0,none⟩/\A3=some ⟨gq,0,none⟩:=by
 obtain⟨gv,e1,_⟩:=h.v.at_ (by simpa using h1);obtain⟨gr,e2,_⟩:=h.r.out.at_ (by simpa using h2);obtain⟨gq,e3,_⟩:=h.q.at_ (by simpa using h3);exact⟨gv,gr,gq,e1,e2,e3⟩
def ZN (w:World)(s0:Sg.Bv)(s1:Int)(s2:List Int)(e:Ending)(w':World):Prop:=∃ R00 d00 R01 d01 R02 d02 z0 R20 d20,e= .returned (.tuple #[.agg #[.slice R00 s0.vals.length d00,.slice R01 s0.reads.length d01,.slice R02 s0.cols.length d02],.int .i64 s1,.slice R20 s2.length d20])/\Dd w' w.heap.size R00 d00 R01 d01 R02 d02 z0 s0/\AA w' w.heap.size 3 1 R20 s2.length d20 (Ah s2)/\(∀ b,(M8 R00 R01 R02 z0 b)->¬ (AD R20=some b))/\Aa w w'
theorem Bx.set3 {w:World}{b:Nat}{x0 x1 x2:Value}(h:Bx w b [x0,x1,x2])(u0 u1 u2:Value):Bx (((w.setCell ⟨b,0,none⟩ u0).setCell ⟨b,1,none⟩ u1).setCell ⟨b,2,none⟩ u2) b [u0,u1,u2]:=((h.set 0 u0).set 1 u1).set 2 u2
theorem AH.set3 (w:World)(b:Nat)(u0 u1 u2:Value):AH (fun x=>x=b) w (((w.setCell ⟨b,0,none⟩ u0).setCell ⟨b,1,none⟩ u1).setCell ⟨b,2,none⟩ u2):=AH.set (F:=fun x=>x=b) (AH.set (F:=fun x=>x=b) (AH.set (F:=fun x=>x=b) (AH.rfl' _ w) (.inl rfl) u0) (.inl rfl) u1) (.inl rfl) u2
structure ZS (B Bl L:Nat) (pre:List Value) (A1 A2 A3 A6:Option Addr) (c1 c2 c3 c6:Nat) (hs:List (Option Addr × Nat)) (u:Sg.LR) (W:World):Prop where
 z:Dd W B A1 c1 A2 c2 A3 c3 hs u.st
 o:AA W B 3 1 A6 u.ran.length c6 (Ah u.ran)
 d:∀ b,M8 A1 A2 A3 hs b->¬ AD A6=some b
 b:Bx W Bl (pre++[.slice A6 u.ran.length c6])
 nb:∀ b,M8 A1 A2 A3 hs b->b≠Bl
 na:AD A6≠some Bl
 hb:B<=Bl
 lv:u.st.vals.length=L
 lr:u.st.reads.length=L
 lq:u.st.cols.length=L
section
variable {B Bl L:Nat} {pre:List Value} {A1 A2 A3 A6:Option Addr} {c1 c2 c3 c6:Nat} {hs:List (Option Addr × Nat)} {u:Sg.LR} {W W':World}
theorem ZS.ext (h:ZS B Bl L pre A1 A2 A3 A6 c1 c2 c3 c6 hs u W)(e:Aa W W'):ZS B Bl L pre A1 A2 A3 A6 c1 c2 c3 c6 hs u W':=⟨h.z.ext e,h.o.ext e,h.d,h.b.ext e,h.nb,h.na,h.hb,h.lv,h.lr,h.lq⟩
theorem ZS.ls {w0:World}{v q:List Int}{r:List (List Int)}(h:ZS w0.heap.size Bl L pre A1 A2 A3 A6 c1 c2 c3 c6 hs ⟨⟨v,r,q⟩,[]⟩ W)(hL:0<L)(e:Aa w0 W) :
  ∃ gv gr gq,A1=some ⟨gv,0,none⟩/\A2=some ⟨gr,0,none⟩/\A3=some ⟨gq,0,none⟩/\∃ F,LS w0 L gv c1 gr c2 gq c3 Bl pre ⟨⟨v,r,q⟩,[]⟩ F W/\∀ b,F b->M8 A1 A2 A3 hs b\/b=Bl\/AD A6=some b:=by
 obtain⟨z,o,d,b,nb,na,hb,lv,lr,lq⟩:=h;dsimp only at lv lr lq;obtain⟨gv,gr,gq,rfl,rfl,rfl⟩:=z.some3 (by omega) (by omega) (by omega);obtain⟨F,hF,hF2⟩:=LS.of e z lv lr lq b o hb (fun b hb=>⟨nb b hb,d b hb⟩) na;exact⟨gv,gr,gq,rfl,rfl,rfl,F,hF,hF2⟩
end
theorem LS.zs {w0 W:World}{L gv cv gr cr gq cq Bl:Nat}{pre:List Value}{s:Sg.LR}{F:Nat->Prop}(h:LS w0 L gv cv gr cr gq cq Bl pre s F W) :
  ∃ hs A c,ZS w0.heap.size Bl L pre (some ⟨gv,0,none⟩) (some ⟨gr,0,none⟩) (some ⟨gq,0,none⟩) A cv cr cq c hs s W:=by
 obtain⟨hs,A,c,hS,hF⟩:=h.ex;obtain⟨hs2,A2,c2,hZ,hB,hO,hD,lv,lr,lq⟩:=h.back;have zv:=h.v;have zq:=h.q;rw[<- h.vl] at zv;rw[<- h.ql] at zq
 have hdd:∀ b,M8 (some ⟨gv,0,none⟩) (some ⟨gr,0,none⟩) (some ⟨gq,0,none⟩) hs b->¬ AD A=some b:=fun b hb hf=>by
  rcases hb with hb | hb | hb
  ·exact hS.2.1 (Th.own w0.heap.size 3 1 A s.ran.length c (Ah s.ran)) (by simp) b hb hf
  ·exact hS.2.2.2.1 (Th.own w0.heap.size 3 1 A s.ran.length c (Ah s.ran)) (by simp) b hb hf
  ·exact hS.2.2.2.2.2.1 (Th.own w0.heap.size 3 1 A s.ran.length c (Ah s.ran)) (by simp) b hb hf
 have hnb:∀ b,M8 (some ⟨gv,0,none⟩) (some ⟨gr,0,none⟩) (some ⟨gq,0,none⟩) hs b->b≠Bl:=fun b hb e=>by
  rcases hb with hb | hb | hb
  ·exact hS.2.1 (Th.box w0.heap.size Bl (pre++[.slice A s.ran.length c])) (by simp) b hb e
  ·exact hS.2.2.2.1 (Th.box w0.heap.size Bl (pre++[.slice A s.ran.length c])) (by simp) b hb e
  ·exact hS.2.2.2.2.2.1 (Th.box w0.heap.size Bl (pre++[.slice A s.ran.length c])) (by simp) b hb e
 refine⟨hs,A,c,⟨zv,Ai.get hS 1 rfl,zq,fun b hb=>⟨fun hf=>?_,fun hf=>?_⟩,fun b hb hf=>?_⟩,Ai.get hS 4 rfl,hdd,(Ai.get hS 3 rfl).1,hnb,fun e=>?_,(Ai.get hS 3 rfl).2,lv,lr,lq⟩
 ·exact hS.2.1 (Th.ownL w0.heap.size (some ⟨gr,0,none⟩) cr s.st.reads hs) (by simp) b hb hf
 ·exact hS.2.1 (Th.own w0.heap.size 3 1 (some ⟨gq,0,none⟩) L cq (Ah s.st.cols)) (by simp) b hb hf
 ·exact hS.2.2.2.1 (Th.own w0.heap.size 3 1 (some ⟨gq,0,none⟩) L cq (Ah s.st.cols)) (by simp) b hf hb
 ·exact hS.2.2.2.2.2.2.2.1 (Th.own w0.heap.size 3 1 A s.ran.length c (Ah s.ran)) (by simp) Bl rfl e
end Go.Proofs.YthibllkleakiiaaGreatDoor
