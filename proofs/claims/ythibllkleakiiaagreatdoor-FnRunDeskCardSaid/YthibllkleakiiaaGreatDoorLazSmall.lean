/- Parts of one proof, joined. The reference's startLazy: its contract. Conditions: bounds on lengths. -/
import Derived.Test.YthibllkleakiiaaGreatDoorLazTwo
import Derived.Test.YthibllkleakiiaaGreatDoorModelR
namespace Go.Proofs.YthibllkleakiiaaGreatDoor
open Go.RowKit
theorem Dr.nil (w:World)(B:Nat):Dr w B none 0 none 0 none 0 [] ⟨[],[],[]⟩ :=
 ⟨by simpa[Ah] using Au.nil w B 3 1,⟨by simp[AK],by simpa[A_,AK] using Au.nil w B 36 1,by simp[AK],by simp,by simp⟩,by simpa[Ah] using Au.nil w B 3 1,by simp[AE],by simp[AE]⟩
theorem Ex.l {w:World}{A:Option Addr}{ll:List (List Int)}(h:Ex w A ll):Lq w A ll :=
 ⟨h.1,fun i l hi=>let ⟨b,o,Al,cl,h1,h2,h3,h4,_⟩:=h.2 i l hi;⟨b,o,Al,cl,h1,h2,h3,h4⟩⟩
theorem Dr.turn {w w':World}{B gv gq c1 c2 c3:Nat}{A2:Option Addr}{hs:List (Option Addr × Nat)}{v q v' q':List Int}{r:List (List Int)}(h:Dr w B (some ⟨gv,0,none⟩) c1 A2 c2 (some ⟨gq,0,none⟩) c3 hs ⟨v,r,q⟩)(hv:Au w' B 3 1 (some ⟨gv,0,none⟩) v.length c1 (Ah v'))(hq:Au w' B 3 1 (some ⟨gq,0,none⟩) q.length c3 (Ah q'))(m:AF (fun b=>b=gv\/b=gq) w w')(lv:v'.length=v.length)(lq:q'.length=q.length) :
  Dr w' B (some ⟨gv,0,none⟩) c1 A2 c2 (some ⟨gq,0,none⟩) c3 hs ⟨v',r,q'⟩ :=
 ⟨by show Au _ _ _ _ _ v'.length _ _;rw[lv];exact hv,Bj.mod h.r m (fun b hb e=>by
  rcases e with rfl | rfl
  ·exact(h.d b rfl).1 hb
  ·exact h.e b rfl hb),by show Au _ _ _ _ _ q'.length _ _;rw[lq];exact hq,h.d,h.e⟩
theorem ES {g:Sg.Ae}{st:Sg.BC}(h:Sg.AM g st=true):∀ l ∈ st.reads,l.length<=10:=by
 intro l hl;obtain⟨hs,hC⟩:=Sg.BT.1 h;obtain⟨i,hi⟩:=List.getElem?_of_mem hl;have hil:=(ge_.1 hi).1;have hn:g[i]? = some g[i]:=gg (by omega);have hd:st.reads.getD i []=l:=by simp[hi]
 have hA:=Sg.C7 h i;rw[hd] at hA;have h10:=Sg.CW hs.1;have hk:=hC i _ hn;by_cases h0:g[i].kind=0
 ·rw[<- hd,(hk.cell h0).2];simp
 ·have hm:=(hk.may hs.1 hn h0).2;rw[hd] at hm;exact Nat.le_trans (GJ 10 l hm (fun x hx=>by have:=hA x hx;omega)) (by omega)
end Go.Proofs.YthibllkleakiiaaGreatDoor
namespace Sg
end Sg
namespace Go.Proofs.YthibllkleakiiaaGreatDoor
open Go.RowKit
open Go.RowKit
theorem CG.put2 {w:World}{B c:Nat}{A:Option Addr}{ll:List (List Int)}{hs:List (Option Addr × Nat)}(k:CG w B A c ll hs){i:Nat}(hi:i<ll.length)(l:List Int){A0:Option Addr}{c0:Nat}(own:Au w B 3 1 A0 l.length c0 (Ah l))(hd:∀ b,AE A0=some b->¬ Gi A hs b){g:Nat}(hA:A=some ⟨g,0,none⟩):CG (w.setCell ⟨g,i,none⟩ (.slice A0 l.length c0)) B A c (ll.set i l) (hs.set i (A0,c0)):=by
 subst hA;have hlen:hs.length=ll.length:=by have:=k.len;simpa using this
 have hits:AK (ll.set i l)=(AK ll).set i ⟨[],l.length,Ah l⟩:=by simp[AK,List.map_set]
 have hpre:∀ x ∈ AK ll,x.pre=[]:=by
  intro x hx;unfold AK at hx;rw[List.mem_map] at hx;obtain⟨y,_,rfl⟩:=hx;rfl
 have hother:∀ b,b≠g->(w.setCell ⟨g,i,none⟩ (.slice A0 l.length c0)).heap[b]? = w.heap[b]? := fun b hb=>Below.heap_setCell _ _ _ _ hb;have hg0:∀ b,AE A0=some b->b≠g:=fun b hb e=>hd b hb (.inl (by subst e;rfl));have hin0:∀ (j:Nat) (h:Option Addr × Nat),hs[j]? = some h->∀ b,AE A0=some b->AE h.1≠some b:=fun j h hh b hb e=>hd b hb (.inr ⟨h,List.mem_of_getElem? hh,e⟩);refine⟨by simp[hlen],?_,?_,?_,?_⟩
 ·have h1:=k.out.st i (.slice A0 l.length c0);rw[MJ (AK ll) hs i ⟨[],l.length,Ah l⟩ A0 c0 hpre rfl (by simpa using hlen) (by simpa using hi)] at h1;rw[hits];simpa using h1
 ·intro j it h hj hh;rw[hits] at hj;by_cases hij:j=i
  ·subst hij;rw[List.getElem?_set_self (by simpa using hi)] at hj;rw[List.getElem?_set_self (by omega)] at hh;injection hj with hj;injection hh with hh;subst hj;subst hh;exact own.keep fun b hb=>hother b (hg0 b hb)
  ·rw[List.getElem?_set_ne (fun e=>hij e.symm)] at hj hh;refine(k.inn j it h hj hh).keep fun b hb=>hother b (fun e2=>?_);subst e2;exact k.dio j h hh b rfl hb
 ·intro a b h h' hab hh hh' x hx hx';by_cases h1:a=i
  ·subst h1;rw[List.getElem?_set_self (by omega)] at hh;injection hh with hh;subst hh;rw[List.getElem?_set_ne (by omega)] at hh';exact hin0 b h' hh' x hx hx'
  ·rw[List.getElem?_set_ne (fun e=>h1 e.symm)] at hh;by_cases h2:b=i
   ·subst h2;rw[List.getElem?_set_self (by omega)] at hh';injection hh' with hh';subst hh';exact hin0 a h hh x hx' hx
   ·rw[List.getElem?_set_ne (fun e=>h2 e.symm)] at hh';exact k.dis a b h h' hab hh hh' x hx hx'
 ·intro a h hh b hb hb';by_cases h1:a=i
  ·subst h1;rw[List.getElem?_set_self (by omega)] at hh;injection hh with hh;subst hh;simp[AE] at hb
   exact hg0 b hb' hb.symm
  ·rw[List.getElem?_set_ne (fun e=>h1 e.symm)] at hh;exact k.dio a h hh b hb hb'
def OU (B L gv cv gr cr gq cq Br:Nat)(pre:List Value)(hs:List (Option Addr × Nat))(A:Option Addr)(c:Nat)(s:Sg.LR):List (Th B) :=
 [Th.own B 3 1 (some ⟨gv,0,none⟩) L cv (Ah s.st.vals),Th.ownL B (some ⟨gr,0,none⟩) cr s.st.reads hs,Th.own B 3 1 (some ⟨gq,0,none⟩) L cq (Ah s.st.cols),Th.box B Br (pre++[.slice A s.ran.length c]),Th.own B 3 1 A s.ran.length c (Ah s.ran)]
structure LS (w0:World) (L gv cv gr cr gq cq Br:Nat) (pre:List Value) (s:Sg.LR) (F:Nat->Prop) (W:World):Prop where
 old:Aa w0 W
 ex:∃ hs A c,Ai (OU w0.heap.size L gv cv gr cr gq cq Br pre hs A c s) W/\∀ b,F b↔∃ t ∈ OU w0.heap.size L gv cv gr cr gq cq Br pre hs A c s,t.fp b
 rl:s.st.reads.length=L
def LG (w0:World)(L gv cv gr cr gq cq Br:Nat)(pre:List Value)(s:Sg.LR)(F0:Nat->Prop)(W0 W:World):Prop :=
 ∃ F,LS w0 L gv cv gr cr gq cq Br pre s F W/\AF F0 W0 W/\∀ b,F b->F0 b\/W0.heap.size<=b
section
variable {w0:World} {L gv cv gr cr gq cq Br:Nat} {pre:List Value} {s t:Sg.LR} {F F0:Nat->Prop} {W W' W0:World}
theorem LS.start (h:LS w0 L gv cv gr cr gq cq Br pre s F W):LG w0 L gv cv gr cr gq cq Br pre s F W W:=⟨F,h,AF.rfl' _ _,fun _ e=>.inl e⟩
theorem LG.tr (h:LG w0 L gv cv gr cr gq cq Br pre s F0 W0 W)(k:∀ F,LS w0 L gv cv gr cr gq cq Br pre s F W->LG w0 L gv cv gr cr gq cq Br pre t F W W'):LG w0 L gv cv gr cr gq cq Br pre t F0 W0 W':=by
 obtain⟨F,h1,m,hF⟩:=h;obtain⟨F',h2,m2,hF2⟩:=k F h1;refine⟨F',h2,m.tr m2 hF,fun b hb=>?_⟩;rcases hF2 b hb with e | e
 ·exact hF b e
 ·have:=m.size;exact .inr (by omega)
theorem LS.lt (h:LS w0 L gv cv gr cr gq cq Br pre s F W){b:Nat}(hb:F b):w0.heap.size<=b/\b<W.heap.size:=by
 obtain⟨hs,A,c,hS,hF⟩:=h.ex;obtain⟨x,hx,hxb⟩:=(hF b).1 hb;exact hS.lt hx hxb
theorem LS.md {G:Nat->Prop}(h:LS w0 L gv cv gr cr gq cq Br pre s F W)(m:AF G W W')(h1:∀ b,F b->¬ G b)(h2:∀ b,b<w0.heap.size->¬ G b):LS w0 L gv cv gr cr gq cq Br pre s F W':=by
 obtain⟨hs,A,c,hS,hF⟩:=h.ex;refine⟨Aa.md h.old m (fun b e=>?_),⟨hs,A,c,hS.fr fun x hx b hb=>m.block b (hS.lt hx hb).2 (h1 b ((hF b).2 ⟨x,hx,hb⟩)),hF⟩,h.rl⟩;exact Nat.le_of_not_lt fun e2=>h2 b e2 e
theorem LS.ext (h:LS w0 L gv cv gr cr gq cq Br pre s F W)(e:Aa W W'):LS w0 L gv cv gr cr gq cq Br pre s F W':=h.md (G:=fun _=>False) (AF.of e) (fun _ _=>id) (fun _ _=>id)
theorem LG.ext (h:LG w0 L gv cv gr cr gq cq Br pre s F0 W0 W)(e:Aa W W'):LG w0 L gv cv gr cr gq cq Br pre s F0 W0 W':=h.tr fun F h=>⟨F,h.ext e,AF.of e,fun _ e=>.inl e⟩
theorem LS.v (h:LS w0 L gv cv gr cr gq cq Br pre s F W):Au W w0.heap.size 3 1 (some ⟨gv,0,none⟩) L cv (Ah s.st.vals):=by
 obtain⟨hs,A,c,hS,_⟩:=h.ex;exact Ai.get hS 0 rfl
theorem LS.q (h:LS w0 L gv cv gr cr gq cq Br pre s F W):Au W w0.heap.size 3 1 (some ⟨gq,0,none⟩) L cq (Ah s.st.cols):=by
 obtain⟨hs,A,c,hS,_⟩:=h.ex;exact Ai.get hS 2 rfl
theorem LS.r (h:LS w0 L gv cv gr cr gq cq Br pre s F W):∃ hs,CG W w0.heap.size (some ⟨gr,0,none⟩) cr s.st.reads hs:=by
 obtain⟨hs,A,c,hS,_⟩:=h.ex;exact⟨hs,Ai.get hS 1 rfl⟩
theorem LS.vl (h:LS w0 L gv cv gr cr gq cq Br pre s F W):s.st.vals.length=L:=by have:=h.v.1;simpa using this
theorem LS.ql (h:LS w0 L gv cv gr cr gq cq Br pre s F W):s.st.cols.length=L:=by have:=h.q.1;simpa using this
theorem LS.Fv (h:LS w0 L gv cv gr cr gq cq Br pre s F W):F gv:=by
 obtain⟨hs,A,c,hS,hF⟩:=h.ex;exact(hF gv).2 ⟨_,List.mem_of_getElem? (i:=0) rfl,rfl⟩
theorem LS.Fr (h:LS w0 L gv cv gr cr gq cq Br pre s F W):F gr:=by
 obtain⟨hs,A,c,hS,hF⟩:=h.ex;exact(hF gr).2 ⟨_,List.mem_of_getElem? (i:=1) rfl,.inl rfl⟩
theorem LS.Fq (h:LS w0 L gv cv gr cr gq cq Br pre s F W):F gq:=by
 obtain⟨hs,A,c,hS,hF⟩:=h.ex;exact(hF gq).2 ⟨_,List.mem_of_getElem? (i:=2) rfl,rfl⟩
theorem LS.Fb (h:LS w0 L gv cv gr cr gq cq Br pre s F W):F Br:=by
 obtain⟨hs,A,c,hS,hF⟩:=h.ex;exact(hF Br).2 ⟨_,List.mem_of_getElem? (i:=3) rfl,rfl⟩
theorem LS.ne_vr (h:LS w0 L gv cv gr cr gq cq Br pre s F W):gv≠gr/\gv≠gq/\gv≠Br/\gr≠gq/\gr≠Br/\gq≠Br:=by
 obtain⟨hs,A,c,hS,hF⟩:=h.ex;have h1:=hS.2.1;have h2:=hS.2.2.2.1;have h3:=hS.2.2.2.2.2.1;refine⟨fun e=>?_,fun e=>?_,fun e=>?_,fun e=>?_,fun e=>?_,fun e=>?_⟩
 ·exact h1 (Th.ownL w0.heap.size (some ⟨gr,0,none⟩) cr s.st.reads hs) (by simp) gv rfl (.inl (by rw[e];rfl))
 ·exact h1 (Th.own w0.heap.size 3 1 (some ⟨gq,0,none⟩) L cq (Ah s.st.cols)) (by simp) gv rfl (show AE (some ⟨gq,0,none⟩)=some gv by rw[e];rfl)
 ·exact h1 (Th.box w0.heap.size Br (pre++[.slice A s.ran.length c])) (by simp) gv rfl e
 ·exact h2 (Th.own w0.heap.size 3 1 (some ⟨gq,0,none⟩) L cq (Ah s.st.cols)) (by simp) gr (.inl rfl) (show AE (some ⟨gq,0,none⟩)=some gr by rw[e];rfl)
 ·exact h2 (Th.box w0.heap.size Br (pre++[.slice A s.ran.length c])) (by simp) gr (.inl rfl) e
 ·exact h3 (Th.box w0.heap.size Br (pre++[.slice A s.ran.length c])) (by simp) gq rfl e
theorem LS.box (h:LS w0 L gv cv gr cr gq cq Br pre s F W):∃ A c,Bx W Br (pre++[.slice A s.ran.length c])/\Au W w0.heap.size 3 1 A s.ran.length c (Ah s.ran)/\AE A≠some Br/\(∀ b,AE A=some b->F b):=by
 obtain⟨hs,A,c,hS,hF⟩:=h.ex;have h1:=Ai.get hS 3 rfl;have h2:=Ai.get hS 4 rfl;refine⟨A,c,h1.1,h2,fun e=>?_,fun b hb=>(hF b).2 ⟨_,List.mem_of_getElem? (i:=4) rfl,hb⟩⟩;exact hS.2.2.2.2.2.2.2.1 (Th.own w0.heap.size 3 1 A s.ran.length c (Ah s.ran)) (by simp) Br rfl e
theorem LS.gen {G:Nat->Prop}{hs hs':List (Option Addr × Nat)}{A A':Option Addr}{c c':Nat}(h:LS w0 L gv cv gr cr gq cq Br pre s F W)(hS:Ai (OU w0.heap.size L gv cv gr cr gq cq Br pre hs A c s) W)(hF:∀ b,F b↔∃ t ∈ OU w0.heap.size L gv cv gr cr gq cq Br pre hs A c s,t.fp b)(i:Nat){x x':Th w0.heap.size}(hx:(OU w0.heap.size L gv cv gr cr gq cq Br pre hs A c s)[i]? = some x)(m:AF G W W')(hG:∀ b,G b->x.fp b\/W.heap.size<=b)(hok:x'.ok W')(hfp:∀ b,x'.fp b->x.fp b\/W.heap.size<=b)(he:(OU w0.heap.size L gv cv gr cr gq cq Br pre hs A c s).set i x'=OU w0.heap.size L gv cv gr cr gq cq Br pre hs' A' c' t)(hrl:t.st.reads.length=L):LG w0 L gv cv gr cr gq cq Br pre t F W W':=by
 have h1:=hS.set i hx m x' hG hok hfp;rw[he] at h1;have hxm:=List.mem_of_getElem? hx;have hsz:=h.old.size;refine⟨_,⟨Aa.md h.old m (fun b e=>?_),⟨hs',A',c',h1,fun b=>Iff.rfl⟩,hrl⟩,m.mono (fun b hb e=>?_),fun b hb=>?_⟩
 ·rcases hG b e with e2 | e2
  ·exact(hS.lt hxm e2).1
  ·omega
 ·rcases hG b e with e2 | e2
  ·exact(hF b).2 ⟨x,hxm,e2⟩
  ·omega
 ·obtain⟨y,hy,hyb⟩:=hb;rw[<- he] at hy;rcases List.mem_or_eq_of_mem_set hy with hy | rfl
  ·exact .inl ((hF b).2 ⟨y,hy,hyb⟩)
  ·rcases hfp b hyb with e2 | e2
   ·exact .inl ((hF b).2 ⟨x,hxm,e2⟩)
   ·exact .inr e2
theorem LS.setVal (h:LS w0 L gv cv gr cr gq cq Br pre s F W)(n:Nat)(x:Int):LG w0 L gv cv gr cr gq cq Br pre ⟨⟨s.st.vals.set n x,s.st.reads,s.st.cols⟩,s.ran⟩ F W (W.setCell ⟨gv,n,none⟩ (.int .i64 x)):=by
 obtain⟨hs,A,c,hS,hF⟩:=h.ex;have h1:Au (W.setCell ⟨gv,n,none⟩ (.int .i64 x)) w0.heap.size 3 1 (some ⟨gv,0,none⟩) L cv (Ah (s.st.vals.set n x)):=by have:=h.v.st n (.int .i64 x);rwa [Dz] at this
 exact h.gen hS hF 0 (x':=Th.own w0.heap.size 3 1 (some ⟨gv,0,none⟩) L cv (Ah (s.st.vals.set n x))) rfl (AF.set (F:=fun b=>b=gv) (AF.rfl' _ W) (.inl rfl) _) (fun b e=>.inl (by rw[e];rfl)) h1 (fun b e=>.inl e) (hs':=hs) (A':=A) (c':=c) rfl h.rl
theorem LS.turnQ (h:LS w0 L gv cv gr cr gq cq Br pre s F W)(q:List Int)(m:AF (fun b=>b=gq) W W')(ho:Au W' w0.heap.size 3 1 (some ⟨gq,0,none⟩) L cq (Ah q)):LG w0 L gv cv gr cr gq cq Br pre ⟨⟨s.st.vals,s.st.reads,q⟩,s.ran⟩ F W W':=by
 obtain⟨hs,A,c,hS,hF⟩:=h.ex;exact h.gen hS hF 2 (x':=Th.own w0.heap.size 3 1 (some ⟨gq,0,none⟩) L cq (Ah q)) rfl m (fun b e=>.inl (by rw[e];rfl)) ho (fun b e=>.inl e) (hs':=hs) (A':=A) (c':=c) rfl h.rl
theorem LS.setCol (h:LS w0 L gv cv gr cr gq cq Br pre s F W)(n:Nat)(x:Int):LG w0 L gv cv gr cr gq cq Br pre ⟨⟨s.st.vals,s.st.reads,s.st.cols.set n x⟩,s.ran⟩ F W (W.setCell ⟨gq,n,none⟩ (.int .i64 x)) :=
 h.turnQ _ (AF.set (F:=fun b=>b=gq) (AF.rfl' _ W) (.inl rfl) _) (by have:=h.q.st n (.int .i64 x);rwa [Dz] at this)
theorem LS.put (h:LS w0 L gv cv gr cr gq cq Br pre s F W){n:Nat}(hn:n<L)(l:List Int){A0:Option Addr}{c0:Nat}(own:Au W w0.heap.size 3 1 A0 l.length c0 (Ah l))(hd:Nk F A0) :
  ∃ F',LS w0 L gv cv gr cr gq cq Br pre ⟨⟨s.st.vals,s.st.reads.set n l,s.st.cols⟩,s.ran⟩ F' (W.setCell ⟨gr,n,none⟩ (.slice A0 l.length c0))/\AF (fun b=>b=gr) W (W.setCell ⟨gr,n,none⟩ (.slice A0 l.length c0))/\∀ b,F' b->F b\/AE A0=some b:=by
 obtain⟨hs,A,c,hS,hF⟩:=h.ex;have hr:CG W w0.heap.size (some ⟨gr,0,none⟩) cr s.st.reads hs:=Ai.get hS 1 rfl;have hrF:∀ b,Gi (some ⟨gr,0,none⟩) hs b->F b:=fun b hb=>(hF b).2 ⟨_,List.mem_of_getElem? (i:=1) rfl,hb⟩;have h2:=hr.put2 (by rw[h.rl];exact hn) l own (fun b hb e=>hd b hb (hrF b e)) rfl;have m:AF (fun b=>b=gr) W (W.setCell ⟨gr,n,none⟩ (.slice A0 l.length c0)):=AF.set (F:=fun b=>b=gr) (AF.rfl' _ W) (.inl rfl) _
 have hfp:∀ b,Gi (some ⟨gr,0,none⟩) (hs.set n (A0,c0)) b->Gi (some ⟨gr,0,none⟩) hs b\/AE A0=some b:=by
  rintro b (hb | ⟨x,hx,hb⟩)
  ·exact .inl (.inl hb)
  ·rcases List.mem_or_eq_of_mem_set hx with hx | rfl
   ·exact .inl (.inr ⟨x,hx,hb⟩)
   ·exact .inr hb
 have d1:=hS.2.1;have d2:=hS.2.2.2.1;have keep:∀ y ∈ OU w0.heap.size L gv cv gr cr gq cq Br pre hs A c s,¬ y.fp gr->∀ b,y.fp b->(W.setCell ⟨gr,n,none⟩ (.slice A0 l.length c0)).heap[b]? = W.heap[b]? := fun y hy hyr b hb=>m.block b (hS.lt hy hb).2 (fun e=>hyr (e ▸ hb));have nv:gv≠gr:=h.ne_vr.1;have nA:∀ y ∈ OU w0.heap.size L gv cv gr cr gq cq Br pre hs A c s,∀ b,y.fp b->AE A0≠some b:=fun y hy b hb e=>hd b e ((hF b).2 ⟨y,hy,hb⟩);refine⟨fun b=>∃ y ∈ OU w0.heap.size L gv cv gr cr gq cq Br pre (hs.set n (A0,c0)) A c ⟨⟨s.st.vals,s.st.reads.set n l,s.st.cols⟩,s.ran⟩,y.fp b,⟨Aa.md h.old m (fun b e=>by rw[e];exact(h.lt h.Fr).1),⟨hs.set n (A0,c0),A,c,?_,fun b=>Iff.rfl⟩,by simpa using h.rl⟩,m,?_⟩
 ·have hS1:=hS.2.2;refine⟨(Th.own w0.heap.size 3 1 (some ⟨gv,0,none⟩) L cv (Ah s.st.vals)).fr _ _ hS.1 (keep _ (by simp[OU]) (fun e=>nv (by injection e))),?_,h2,?_,?_⟩
  ·intro y hy b hb hb';simp only[List.mem_cons,List.not_mem_nil,or_false] at hy;rcases hy with rfl | hy
   ·rcases hfp b hb' with e | e
    ·exact d1 (Th.ownL w0.heap.size (some ⟨gr,0,none⟩) cr s.st.reads hs) (by simp) b hb e
    ·exact nA _ (List.mem_of_getElem? (i:=0) rfl) b hb e
   ·exact d1 y (by rcases hy with rfl | rfl | rfl <;> simp) b hb hb'
  ·intro y hy b hb hb';rcases hfp b hb with e | e
   ·exact d2 y hy b e hb'
   ·exact nA y (by simp only[OU,List.mem_cons,List.not_mem_nil,or_false] at hy ⊢;exact .inr (.inr hy)) b hb' e
  ·refine hS1.2.2.fr fun y hy b hb=>keep y (by simp only[OU,List.mem_cons,List.not_mem_nil,or_false] at hy ⊢;exact .inr (.inr hy)) (fun e=>d2 y hy gr (.inl rfl) e) b hb
 ·rintro b ⟨y,hy,hb⟩;simp only[OU,List.mem_cons,List.not_mem_nil,or_false] at hy;rcases hy with rfl | rfl | rfl | rfl | rfl
  ·exact .inl ((hF b).2 ⟨_,List.mem_of_getElem? (i:=0) rfl,hb⟩)
  ·rcases hfp b hb with e | e
   ·exact .inl (hrF b e)
   ·exact .inr e
  ·exact .inl ((hF b).2 ⟨_,List.mem_of_getElem? (i:=2) rfl,hb⟩)
  ·exact .inl ((hF b).2 ⟨_,List.mem_of_getElem? (i:=3) rfl,hb⟩)
  ·exact .inl ((hF b).2 ⟨_,List.mem_of_getElem? (i:=4) rfl,hb⟩)
theorem LS.addR (h:LS w0 L gv cv gr cr gq cq Br pre s F W)(n:Int){A A2:Option Addr}{c c2:Nat}(hb:Bx W Br (pre++[.slice A s.ran.length c]))(ho:Au W' w0.heap.size 3 1 A2 (s.ran.length+1) c2 (Ah s.ran++[.int .i64 n]))(hg:W.grownBy W' (AE A))(hat:AE A2=AE A\/∃ g,AE A2=some g/\W.heap.size<=g) :
  LG w0 L gv cv gr cr gq cq Br pre ⟨s.st,s.ran++[n]⟩ F W (W'.setCell ⟨Br,pre.length,none⟩ (.slice A2 (s.ran.length+1) c2)):=by
 obtain⟨hs,A1,c1,hS,hF⟩:=h.ex;have hb1:Bx W Br (pre++[.slice A1 s.ran.length c1]):=(Ai.get hS 3 rfl).1
 have he:A1=A/\c1=c:=by
  have e1:=hb1.cell (j:=pre.length) (u := .slice A1 s.ran.length c1) (by simp);have e2:=hb.cell (j:=pre.length) (u := .slice A s.ran.length c) (by simp);rw[e1] at e2;injection e2 with e2;injection e2 with e2 _ e3;exact⟨e2,e3⟩
 obtain⟨rfl,rfl⟩:=he;have h1:=hS.app 4 (A:=A1) (c:=c1) rfl ho hg hat;have hBr:=(Ai.get h1 3 rfl).1
 have h2:=h1.st 3 (t:=Th.box w0.heap.size Br (pre++[.slice A1 s.ran.length c1])) rfl ⟨Br,pre.length,none⟩ (.slice A2 (s.ran.length+1) c2) rfl (Th.box w0.heap.size Br (pre++[.slice A2 (s.ran.length+1) c2]))
  ⟨by have:=hBr.set pre.length (.slice A2 (s.ran.length+1) c2);simpa using this,(Ai.get hS 3 rfl).2⟩ (fun b e=>e)
 have he:((OU w0.heap.size L gv cv gr cr gq cq Br pre hs A1 c1 s).set 4 (Th.own w0.heap.size 3 1 A2 (s.ran.length+1) c2 (Ah s.ran++[.int .i64 n]))).set 3 (Th.box w0.heap.size Br (pre++[.slice A2 (s.ran.length+1) c2]))=OU w0.heap.size L gv cv gr cr gq cq Br pre hs A2 c2 ⟨s.st,s.ran++[n]⟩:=by
  simp[OU,Ah]
 rw[he] at h2;have m1:AF (fun b=>AE A1=some b) W W':=⟨hg.os,hg.tape,hg.output,hg.size,fun b hb hn=>hg.block b hb fun e=>hn e.symm⟩;have m2:AF (fun b=>AE A1=some b\/b=Br) W (W'.setCell ⟨Br,pre.length,none⟩ (.slice A2 (s.ran.length+1) c2)):=AF.set (m1.mono fun b _ e=>.inl e) (.inl (.inr rfl)) _;have hA1:∀ b,AE A1=some b->F b:=fun b hb=>(hF b).2 ⟨_,List.mem_of_getElem? (i:=4) rfl,hb⟩;have hsz:=h.old.size;refine⟨_,⟨Aa.md h.old m2 (fun b e=>?_),⟨hs,A2,c2,h2,fun b=>Iff.rfl⟩,h.rl⟩,m2.mono (fun b _ e=>?_),?_⟩
 ·rcases e with e | e
  ·exact(h.lt (hA1 b e)).1
  ·rw[e];exact(h.lt h.Fb).1
 ·rcases e with e | e
  ·exact hA1 b e
  ·rw[e];exact h.Fb
 ·rintro b ⟨y,hy,hb⟩;simp only[OU,List.mem_cons,List.not_mem_nil,or_false] at hy;rcases hy with rfl | rfl | rfl | rfl | rfl
  ·exact .inl ((hF b).2 ⟨_,List.mem_of_getElem? (i:=0) rfl,hb⟩)
  ·exact .inl ((hF b).2 ⟨_,List.mem_of_getElem? (i:=1) rfl,hb⟩)
  ·exact .inl ((hF b).2 ⟨_,List.mem_of_getElem? (i:=2) rfl,hb⟩)
  ·exact .inl ((hF b).2 ⟨_,List.mem_of_getElem? (i:=3) rfl,hb⟩)
  ·rcases hat with hat | ⟨g,hg1,hg2⟩
   ·exact .inl (hA1 b (by rw[<- hat];exact hb))
   ·have hb':AE A2=some b:=hb;rw[hg1] at hb';injection hb' with hb';exact .inr (by omega)
end
end Go.Proofs.YthibllkleakiiaaGreatDoor
namespace Sg
theorem L4 (c:Int->LR->LR)(n:Nat)(l:List Int)(x:Int)(s:LR):Cy c n (l++[x]) s=if AL (Cy c n l s) n=1 then c x (Cy c n l s) else Cy c n l s:=by
 unfold Cy;rw[List.foldl_append];rfl
theorem L5 (c:Int->LR->LR)(n:Nat)(l:List Int)(k:Nat)(s:LR)(h:AL (Cy c n (l.take k) s) n≠1):Cy c n l s=Cy c n (l.take k) s:=by
 conv=>lhs;rw[<- List.take_append_drop k l]
 have:Cy c n (l.take k++l.drop k) s=Cy c n (l.drop k) (Cy c n (l.take k) s):=by unfold Cy;rw[List.foldl_append]
 rw[this,L6 c n _ _ h]
theorem NN {r:List (List Int)}{n:Nat}{l:List Int}(h:EH r)(hl:∀ x ∈ l,0<=x/\x<(n:Int)):EH (r.set n l):=by
 intro k x hx;by_cases e:k=n
 ·subst e;by_cases hk:k<r.length
  ·rw[Fc _ _ _ _ _ hk,if_pos rfl] at hx;exact hl x hx
  ·rw[List.getD_eq_getElem?_getD,List.getElem?_eq_none (by simp;omega)] at hx;cases hx
 ·rw[List.getD_eq_getElem?_getD,List.getElem?_set_ne (fun h=>e h.symm),<- List.getD_eq_getElem?_getD] at hx;exact h k x hx
noncomputable def Ia (s:LR)(n:Nat)(x:Int)(l:List Int):LR :=
 ⟨if x=Ba s n then ⟨s.st.vals,s.st.reads.set n l,s.st.cols.set n 0⟩ else ⟨s.st.vals.set n x,s.st.reads.set n l,CA (s.st.reads.set n l) (s.st.cols.set n 0) n⟩,s.ran⟩
theorem PA (s:LR)(n:Nat)(x:Int)(l:List Int):Eo s n x l=⟨(Ia s n x l).st,s.ran++[(n:Int)]⟩:=rfl
theorem UI {g:Ae}{st:BC}(h:AM g st=true)(k:Nat):0<=st.vals.getD k 0/\st.vals.getD k 0<=999:=by
 have hr:=Cc (AN h).2.2.2.2;rw[List.getD_eq_getElem?_getD];by_cases hk:k<st.vals.length
 ·rw[List.getElem?_eq_getElem hk];exact hr _ (List.getElem_mem hk)
 ·rw[List.getElem?_eq_none (by omega)];simp
theorem PB {g:Ae}(hG:AG g=true){n:Nat}{nd:BV}(hn:g[n]? = some nd)(h0:nd.kind≠0):Yv nd.f (fun k=>0<=k/\k<(n:Int)):=by
 have hok:=Bo hG n hn h0;have hil:=(List.getElem?_eq_some_iff.1 hn).1;refine⟨hok.good,hok.len,hok.one,fun p hp h1=>?_⟩;have hgn:=Dh hG n hil
 have hV:AR nd.f=true:=by
  unfold Ck at hgn;rw[Bk hn] at hgn;dsimp only at hgn;rw[if_neg h0] at hgn;split at hgn
  ·simp only[Bool.and_eq_true] at hgn;exact hgn.1
  ·cases hgn
 exact J0 hG hn h0 (FX hV hp h1)
end Sg
namespace Go.Proofs.YthibllkleakiiaaGreatDoor
open Go.RowKit
section
variable {w0:World} {L gv cv gr cr gq cq Br:Nat} {pre:List Value} {s t:Sg.LR} {F F0:Nat->Prop} {W W' W0 W1:World}
theorem LG.m (h:LG w0 L gv cv gr cr gq cq Br pre s F0 W0 W):AF F0 W0 W:=by obtain⟨F,_,m,_⟩:=h;exact m
theorem LG.pr (h:LG w0 L gv cv gr cr gq cq Br pre s F0 W1 W')(e:Aa W W1):LG w0 L gv cv gr cr gq cq Br pre s F0 W W':=by
 obtain⟨F,h1,m,hF⟩:=h;have:=e.size;exact⟨F,h1,(AF.of e).tr' m,fun b hb=>(hF b hb).imp id (fun e=>by omega)⟩
theorem LG.tr1 (m:AF F0 W0 W)(hF:∀ b,F b->F0 b\/W0.heap.size<=b)(k:LG w0 L gv cv gr cr gq cq Br pre t F W W'):LG w0 L gv cv gr cr gq cq Br pre t F0 W0 W':=by
 obtain⟨F',h2,m2,hF2⟩:=k;refine⟨F',h2,m.tr m2 hF,fun b hb=>?_⟩;rcases hF2 b hb with e | e
 ·exact hF b e
 ·have:=m.size;exact .inr (by omega)
theorem LG.cong (h:LG w0 L gv cv gr cr gq cq Br pre s F0 W0 W)(e:s=t):LG w0 L gv cv gr cr gq cq Br pre t F0 W0 W:=e ▸ h
theorem LS.rdL (h:LS w0 L gv cv gr cr gq cq Br pre s F W)(hL:L<=1048576)(hl:∀ l ∈ s.st.reads,l.length<=1048576):∀ W',AF (fun b=>b=gq) W W'->Lq W' (some ⟨gr,0,none⟩) s.st.reads:=by
 intro W' m;obtain⟨hs,A,c,hS,hF⟩:=h.ex;have hr:CG W w0.heap.size (some ⟨gr,0,none⟩) cr s.st.reads hs:=Ai.get hS 1 rfl;have d2:=hS.2.2.2.1;exact CG.rdL (Bj.mod hr m (fun b hb e=>d2 (Th.own w0.heap.size 3 1 (some ⟨gq,0,none⟩) L cq (Ah s.st.cols)) (by simp) b hb (show AE (some ⟨gq,0,none⟩)=some b by rw[e];rfl))) (by rw[h.rl];exact hL) hl
theorem LS.col (h:LS w0 L gv cv gr cr gq cq Br pre s F W){n:Nat}(hn:n<L):W.cell? ⟨gq,n,none⟩=some (.int .i64 (Sg.AL s n))/\W.frozen? ⟨gq,n,none⟩=false/\gq<W.heap.size:=by
 have hx:s.st.cols[n]? = some (Sg.AL s n):=by
  have hl:=h.ql;unfold Sg.AL;rw[g_d,gg (by omega),Option.getD_some]
 have hc:=h.q.cell (j:=n) (u := .int .i64 (Sg.AL s n)) (by rw[CB,hx];rfl);exact⟨hc,h.q.free n,AA hc⟩
theorem LS.val (h:LS w0 L gv cv gr cr gq cq Br pre s F W){n:Nat}(hn:n<L):W.cell? ⟨gv,n,none⟩=some (.int .i64 (Sg.Ba s n))/\W.frozen? ⟨gv,n,none⟩=false/\gv<W.heap.size:=by
 have hx:s.st.vals[n]? = some (Sg.Ba s n):=by
  have hl:=h.vl;unfold Sg.Ba;rw[g_d,gg (by omega),Option.getD_some]
 have hc:=h.v.cell (j:=n) (u := .int .i64 (Sg.Ba s n)) (by rw[CB,hx];rfl);exact⟨hc,h.v.free n,AA hc⟩
theorem LS.rds (h:LS w0 L gv cv gr cr gq cq Br pre s F W){n:Nat}(hn:n<L):∃ Al cl,W.cell? ⟨gr,n,none⟩=some (.slice Al (Sg.Co s n).length cl)/\Rd W 1 Al (Sg.Co s n).length (Ah (Sg.Co s n))/\W.frozen? ⟨gr,n,none⟩=false/\gr<W.heap.size:=by
 obtain⟨hs,k⟩:=h.r
 have hx:s.st.reads[n]? = some (Sg.Co s n):=by
  have hl:=h.rl;unfold Sg.Co;rw[g_d,gg (by omega),Option.getD_some]
 obtain⟨a,hh,ho⟩:=k.at_ (DJ hx)
 have hc:=k.out.cell (j:=n) (u := .slice a.1 (Sg.Co s n).length a.2) (by
  have:=GH (ET s.st.reads) n 0 (by omega) (DJ hx) hh;rw[Nat.mul_one,Nat.add_zero] at this;rw[this];rfl)
 exact⟨a.1,a.2,hc,ho.rd,k.out.free n,AA hc⟩
end
end Go.Proofs.YthibllkleakiiaaGreatDoor
namespace Sg
noncomputable def Eb (g:Ae)(st:BC)(n:Int):LR:=AI g 10 n ⟨st,[]⟩
noncomputable def AS (g:Ae)(st:BC)(n:Int):BC × Int × List Int:=if (AM g st && Cb n 0 ((g.length:Int) - 1))=true then ((Eb g st n).st,Ba (Eb g st n) n.toNat,(Eb g st n).ran) else (⟨[],[],[]⟩,0,[])
noncomputable def Ra (g:Ae)(l:List Int)(s:LR):LR:=l.foldl (fun t k=>AI g 10 k t) s
def VS (n:Nat):List Int:=Cm (fun _=>true) n
theorem UJ {g:Ae}{s t:LR}(hs:AM g s.st=true)(h:AW g (fun _=>True) s t){k:Int}(hk:Cb k 0 ((g.length:Int) - 1)=true):AW g (fun _=>True) s (AI g 10 k t):=by
 unfold Cb at hk;simp only[Bool.and_eq_true,decide_eq_true_eq] at hk;have hG:=(AN hs).1;have h10:=CW hG;have hcl:=Fd hG 10 k.toNat t (by omega) (by omega) h.ok;rw[Int.toNat_of_nonneg hk.1] at hcl;exact AW.trans hs h (hcl.1.mono fun _ _=>trivial)
theorem L7 {g:Ae}{s:LR}(hs:AM g s.st=true)(l:List Int)(hl:∀ k ∈ l,Cb k 0 ((g.length:Int) - 1)=true):AW g (fun _=>True) s (Ra g l s):=by
 have key:∀ (l:List Int) (t:LR),(∀ k ∈ l,Cb k 0 ((g.length:Int) - 1)=true)->AW g (fun _=>True) s t->AW g (fun _=>True) s (Ra g l t):=by
  intro l;induction l with
  | nil=>intro t _ h;exact h
  | cons k l ih=>intro t hl h;exact ih (AI g 10 k t) (fun x hx=>hl x (by simp[hx])) (UJ hs h (hl k (by simp)))
 exact key l s hl (AW.refl hs)
theorem TB (n:Nat):VS (n+1)=VS n++[(n:Int)]:=by unfold VS;rw[DC,if_pos rfl]
@[simp] theorem length_allL (n:Nat):(VS n).length=n:=by
 induction n with
 | zero=>rfl
 | succ n ih=>rw[TB,List.length_append,ih];rfl
end Sg
namespace Go.Proofs.YthibllkleakiiaaGreatDoor
open Go.RowKit
theorem LS.of {w0 W:World}{L gv cv gr cr gq cq Bl c:Nat}{pre:List Value}{A:Option Addr}{hs:List (Option Addr × Nat)}{v q:List Int}{r:List (List Int)}(e:Aa w0 W)(Z:Dr W w0.heap.size (some ⟨gv,0,none⟩) cv (some ⟨gr,0,none⟩) cr (some ⟨gq,0,none⟩) cq hs ⟨v,r,q⟩)(lv:v.length=L)(lr:r.length=L)(lq:q.length=L)(hb:Bx W Bl (pre++[.slice A 0 c]))(o:Au W w0.heap.size 3 1 A 0 c [])(hB:w0.heap.size<=Bl)(d1:∀ b,Oc (some ⟨gv,0,none⟩) (some ⟨gr,0,none⟩) (some ⟨gq,0,none⟩) hs b->b≠Bl/\AE A≠some b)(d2:AE A≠some Bl) :
  ∃ F,LS w0 L gv cv gr cr gq cq Bl pre ⟨⟨v,r,q⟩,[]⟩ F W/\∀ b,F b->Oc (some ⟨gv,0,none⟩) (some ⟨gr,0,none⟩) (some ⟨gq,0,none⟩) hs b\/b=Bl\/AE A=some b:=by
 refine⟨_,⟨e,⟨hs,A,c,?_,fun b=>Iff.rfl⟩,lr⟩,fun b hb=>?_⟩;rotate_left
 ·obtain⟨y,hy,hyb⟩:=hb;simp only[OU,List.mem_cons,List.not_mem_nil,or_false] at hy;rcases hy with rfl | rfl | rfl | rfl | rfl
  ·exact .inl (.inl hyb)
  ·exact .inl (.inr (.inl hyb))
  ·exact .inl (.inr (.inr hyb))
  ·exact .inr (.inl hyb)
  ·exact .inr (.inr hyb)
 have zv:=Z.v;have zq:=Z.q;dsimp only at zv zq;rw[lv] at zv;rw[lq] at zq;refine⟨zv,?_,Z.r,?_,zq,?_,⟨hb,hB⟩,?_,o,?_,trivial⟩
 ·intro y hy b hb1 hb2;simp only[List.mem_cons,List.not_mem_nil,or_false] at hy;rcases hy with rfl | rfl | rfl | rfl
  ·exact(Z.d b hb1).1 hb2
  ·exact(Z.d b hb1).2 hb2
  ·exact(d1 b (.inl hb1)).1 hb2
  ·exact(d1 b (.inl hb1)).2 hb2
 ·intro y hy b hb1 hb2;simp only[List.mem_cons,List.not_mem_nil,or_false] at hy;rcases hy with rfl | rfl | rfl
  ·exact Z.e b hb2 hb1
  ·exact(d1 b (.inr (.inl hb1))).1 hb2
  ·exact(d1 b (.inr (.inl hb1))).2 hb2
 ·intro y hy b hb1 hb2;simp only[List.mem_cons,List.not_mem_nil,or_false] at hy;rcases hy with rfl | rfl
  ·exact(d1 b (.inr (.inr hb1))).1 hb2
  ·exact(d1 b (.inr (.inr hb1))).2 hb2
 ·intro y hy b hb1 hb2;simp only[List.mem_cons,List.not_mem_nil,or_false] at hy;subst hy;have hb1':b=Bl:=hb1;subst hb1';exact d2 hb2
 ·intro y hy;cases hy
theorem zq0{p:Prop}(h:p:=by
 rcases hb with hb | hb | hb
 ·exact hS.2.1 (Th.own w0.heap.size 3 1 A s.ran.length c (Ah s.ran)) (by simp) b hb hf
 ·exact hS.2.2.2.1 (Th.own w0.heap.size 3 1 A s.ran.length c (Ah s.ran)) (by simp) b hb hf
 ·exact hS.2.2.2.2.2.1 (Th.own w0.heap.size 3 1 A s.ran.length c (Ah s.ran)) (by simp) b hb hf):p:=h
theorem LS.back {w0 W:World}{L gv cv gr cr gq cq Bl:Nat}{pre:List Value}{s:Sg.LR}{F:Nat->Prop}(h:LS w0 L gv cv gr cr gq cq Bl pre s F W) :
  ∃ hs A c,Dr W w0.heap.size (some ⟨gv,0,none⟩) cv (some ⟨gr,0,none⟩) cr (some ⟨gq,0,none⟩) cq hs s.st/\Bx W Bl (pre++[.slice A s.ran.length c])/\Au W w0.heap.size 3 1 A s.ran.length c (Ah s.ran)/\(∀ b,Oc (some ⟨gv,0,none⟩) (some ⟨gr,0,none⟩) (some ⟨gq,0,none⟩) hs b->¬ AE A=some b)/\s.st.vals.length=L/\s.st.reads.length=L/\s.st.cols.length=L:=by
 obtain⟨hs,A,c,hS,hF⟩:=h.ex;have zv:=h.v;have zq:=h.q;have lv:=h.vl;have lq:=h.ql;rw[<- lv] at zv;rw[<- lq] at zq;refine⟨hs,A,c,⟨zv,Ai.get hS 1 rfl,zq,fun b hb=>⟨fun hf=>?_,fun hf=>?_⟩,fun b hb hf=>?_⟩,(Ai.get hS 3 rfl).1,Ai.get hS 4 rfl,fun b hb hf=>?_,lv,h.rl,lq⟩
 ·exact hS.2.1 (Th.ownL w0.heap.size (some ⟨gr,0,none⟩) cr s.st.reads hs) (by simp) b hb hf
 ·exact hS.2.1 (Th.own w0.heap.size 3 1 (some ⟨gq,0,none⟩) L cq (Ah s.st.cols)) (by simp) b hb hf
 ·exact hS.2.2.2.1 (Th.own w0.heap.size 3 1 (some ⟨gq,0,none⟩) L cq (Ah s.st.cols)) (by simp) b hf hb
 ·exact zq0
theorem Dr.some3 {w:World}{B c1 c2 c3:Nat}{A1 A2 A3:Option Addr}{hs:List (Option Addr × Nat)}{v q:List Int}{r:List (List Int)}(h:Dr w B A1 c1 A2 c2 A3 c3 hs ⟨v,r,q⟩)(h1:0<v.length)(h2:0<r.length)(h3:0<q.length):∃ gv gr gq,A1=some ⟨gv,0,none⟩/\A2=some ⟨gr,0,none⟩/\A3=some ⟨gq,0,none⟩:=by
 obtain⟨gv,e1,_⟩:=h.v.at_ (by simpa using h1);obtain⟨gr,e2,_⟩:=h.r.out.at_ (by simpa using h2);obtain⟨gq,e3,_⟩:=h.q.at_ (by simpa using h3);exact⟨gv,gr,gq,e1,e2,e3⟩
def ZN (w:World)(s0:Sg.BC)(s1:Int)(s2:List Int)(e:Ending)(w':World):Prop:=∃ R00 d00 R01 d01 R02 d02 z0 R20 d20,e= .returned (.tuple #[.agg #[.slice R00 s0.vals.length d00,.slice R01 s0.reads.length d01,.slice R02 s0.cols.length d02],.int .i64 s1,.slice R20 s2.length d20])/\Dr w' w.heap.size R00 d00 R01 d01 R02 d02 z0 s0/\Au w' w.heap.size 3 1 R20 s2.length d20 (Ah s2)/\(∀ b,(Oc R00 R01 R02 z0 b)->¬ (AE R20=some b))/\Aa w w'
theorem Bx.set3 {w:World}{b:Nat}{x0 x1 x2:Value}(h:Bx w b [x0,x1,x2])(u0 u1 u2:Value):Bx (((w.setCell ⟨b,0,none⟩ u0).setCell ⟨b,1,none⟩ u1).setCell ⟨b,2,none⟩ u2) b [u0,u1,u2]:=((h.set 0 u0).set 1 u1).set 2 u2
theorem AF.set3 (w:World)(b:Nat)(u0 u1 u2:Value):AF (fun x=>x=b) w (((w.setCell ⟨b,0,none⟩ u0).setCell ⟨b,1,none⟩ u1).setCell ⟨b,2,none⟩ u2):=AF.set (F:=fun x=>x=b) (AF.set (F:=fun x=>x=b) (AF.set (F:=fun x=>x=b) (AF.rfl' _ w) (.inl rfl) u0) (.inl rfl) u1) (.inl rfl) u2
structure ZS (B Bl L:Nat) (pre:List Value) (A1 A2 A3 A6:Option Addr) (c1 c2 c3 c6:Nat) (hs:List (Option Addr × Nat)) (u:Sg.LR) (W:World):Prop where
 z:Dr W B A1 c1 A2 c2 A3 c3 hs u.st
 o:Au W B 3 1 A6 u.ran.length c6 (Ah u.ran)
 d:∀ b,Oc A1 A2 A3 hs b->¬ AE A6=some b
 b:Bx W Bl (pre++[.slice A6 u.ran.length c6])
 nb:∀ b,Oc A1 A2 A3 hs b->b≠Bl
 na:AE A6≠some Bl
 hb:B<=Bl
 lv:u.st.vals.length=L
 lr:u.st.reads.length=L
 lq:u.st.cols.length=L
section
variable {B Bl L:Nat} {pre:List Value} {A1 A2 A3 A6:Option Addr} {c1 c2 c3 c6:Nat} {hs:List (Option Addr × Nat)} {u:Sg.LR} {W W':World}
theorem ZS.ext (h:ZS B Bl L pre A1 A2 A3 A6 c1 c2 c3 c6 hs u W)(e:Aa W W'):ZS B Bl L pre A1 A2 A3 A6 c1 c2 c3 c6 hs u W':=⟨h.z.ext e,h.o.ext e,h.d,h.b.ext e,h.nb,h.na,h.hb,h.lv,h.lr,h.lq⟩
theorem ZS.ls {w0:World}{v q:List Int}{r:List (List Int)}(h:ZS w0.heap.size Bl L pre A1 A2 A3 A6 c1 c2 c3 c6 hs ⟨⟨v,r,q⟩,[]⟩ W)(hL:0<L)(e:Aa w0 W) :
  ∃ gv gr gq,A1=some ⟨gv,0,none⟩/\A2=some ⟨gr,0,none⟩/\A3=some ⟨gq,0,none⟩/\∃ F,LS w0 L gv c1 gr c2 gq c3 Bl pre ⟨⟨v,r,q⟩,[]⟩ F W/\∀ b,F b->Oc A1 A2 A3 hs b\/b=Bl\/AE A6=some b:=by
 obtain⟨z,o,d,b,nb,na,hb,lv,lr,lq⟩:=h;dsimp only at lv lr lq;obtain⟨gv,gr,gq,rfl,rfl,rfl⟩:=z.some3 (by omega) (by omega) (by omega);obtain⟨F,hF,hF2⟩:=LS.of e z lv lr lq b o hb (fun b hb=>⟨nb b hb,d b hb⟩) na;exact⟨gv,gr,gq,rfl,rfl,rfl,F,hF,hF2⟩
end
theorem LS.zs {w0 W:World}{L gv cv gr cr gq cq Bl:Nat}{pre:List Value}{s:Sg.LR}{F:Nat->Prop}(h:LS w0 L gv cv gr cr gq cq Bl pre s F W) :
  ∃ hs A c,ZS w0.heap.size Bl L pre (some ⟨gv,0,none⟩) (some ⟨gr,0,none⟩) (some ⟨gq,0,none⟩) A cv cr cq c hs s W:=by
 obtain⟨hs,A,c,hS,hF⟩:=h.ex;obtain⟨hs2,A2,c2,hZ,hB,hO,hD,lv,lr,lq⟩:=h.back;have zv:=h.v;have zq:=h.q;rw[<- h.vl] at zv;rw[<- h.ql] at zq
 have hdd:∀ b,Oc (some ⟨gv,0,none⟩) (some ⟨gr,0,none⟩) (some ⟨gq,0,none⟩) hs b->¬ AE A=some b:=fun b hb hf=>by
  exact zq0
 have hnb:∀ b,Oc (some ⟨gv,0,none⟩) (some ⟨gr,0,none⟩) (some ⟨gq,0,none⟩) hs b->b≠Bl:=fun b hb e=>by
  rcases hb with hb | hb | hb
  ·exact hS.2.1 (Th.box w0.heap.size Bl (pre++[.slice A s.ran.length c])) (by simp) b hb e
  ·exact hS.2.2.2.1 (Th.box w0.heap.size Bl (pre++[.slice A s.ran.length c])) (by simp) b hb e
  ·exact hS.2.2.2.2.2.1 (Th.box w0.heap.size Bl (pre++[.slice A s.ran.length c])) (by simp) b hb e
 refine⟨hs,A,c,⟨zv,Ai.get hS 1 rfl,zq,fun b hb=>⟨fun hf=>?_,fun hf=>?_⟩,fun b hb hf=>?_⟩,Ai.get hS 4 rfl,hdd,(Ai.get hS 3 rfl).1,hnb,fun e=>?_,(Ai.get hS 3 rfl).2,lv,lr,lq⟩
 ·exact hS.2.1 (Th.ownL w0.heap.size (some ⟨gr,0,none⟩) cr s.st.reads hs) (by simp) b hb hf
 ·exact hS.2.1 (Th.own w0.heap.size 3 1 (some ⟨gq,0,none⟩) L cq (Ah s.st.cols)) (by simp) b hb hf
 ·exact hS.2.2.2.1 (Th.own w0.heap.size 3 1 (some ⟨gq,0,none⟩) L cq (Ah s.st.cols)) (by simp) b hf hb
 ·exact hS.2.2.2.2.2.2.2.1 (Th.own w0.heap.size 3 1 A s.ran.length c (Ah s.ran)) (by simp) Bl rfl e
open Go.RowKit
end Go.Proofs.YthibllkleakiiaaGreatDoor
namespace Sg
theorem Rl {g:Ae}{st:BC}(h:AM g st=true):∀ (m j:Nat),j<m->j<g.length->st.cols.getD j 0=0->(BF g (Cd g st.vals)).getD j 0=st.vals.getD j 0:=by
 obtain⟨hs,hC⟩:=BT.1 h;have hA:=C7 h;intro m;induction m with
 | zero=>intro j hj;omega
 | succ m ih =>
  intro j hjm hj hc;have hn:g[j]? = some g[j]:=List.getElem?_eq_getElem hj;have hk:=hC j _ hn;rw[Me _ hn];by_cases h0:g[j].kind=0
  ·rw[if_pos h0,Et _ _ _ (by omega),Bk hn,if_neg (fun e=>e h0)]
  ·rw[if_neg h0];rcases hk.form h0 with ⟨h2,_⟩ | ⟨h2,_⟩ | ⟨_,hR,hr⟩
   ·omega
   ·omega
   ·have:AJ g[j].f st.vals=AJ g[j].f (AY g (Cd g st.vals) j):=by
     refine Iv fun x hx=>?_;rw[hR] at hx;have hxa:=hA j x hx;unfold rd;rw[<- Ib g _ j g.length x.toNat (by omega) (by omega)];exact(ih x.toNat (by omega) (by omega) (hr x hx)).symm
    rw[<- this,hR]
theorem TE {g:Ae}{st:BC}(h:AM g st=true){n:Int}:n ∈ BP g st↔∃ i:Nat,n=i/\i<g.length/\st.cols.getD i 0≠0:=by
 unfold BP Im;rw[if_pos h,Fy];constructor
 ·rintro ⟨i,e,hi,hp⟩;exact⟨i,e,hi,by unfold rd at hp;simpa using hp⟩
 ·rintro ⟨i,e,hi,hp⟩;exact⟨i,e,hi,by unfold rd;simpa using hp⟩
theorem Mf {g:Ae}{a b:List Int}(ha:a.length=g.length)(hb:b.length=g.length)(h:∀ i n,g[i]? = some n->n.kind=0->a.getD i 0=b.getD i 0):Cd g a=Cd g b:=by
 refine Xe (by rw[length_cellsOf,length_cellsOf];omega) fun i hi=>?_;rw[length_cellsOf] at hi;have hn:g[i]? = some g[i]:=List.getElem?_eq_getElem (by omega);rw[Et _ _ _ hi,Et _ _ _ (by omega),Bk hn];by_cases h0:g[i].kind=0
 ·rw[if_neg (fun e=>e h0),if_neg (fun e=>e h0)];exact h i _ hn h0
 ·rw[if_pos h0,if_pos h0]
theorem Np {g:Ae}{N:Nat->Prop}{s s':LR}(hs:AM g s.st=true)(h:AW g N s s'):Cd g s'.st.vals=Cd g s.st.vals:=by
 have h1:=(AN hs).2.1;have h2:=(AN h.ok).2.1;refine Mf h2 h1 fun i n hn h0=>?_;have hi:=(List.getElem?_eq_some_iff.1 hn).1;exact(h.keep i hi (((BT.1 hs).2 i n hn).cell h0).1).2.1
theorem Ei {g:Ae}{st:BC}(h:AM g st=true){k:Nat}(hk:k<g.length):AW g (Ik g k) ⟨st,[]⟩ (Eb g st (k:Int))/\AL (Eb g st (k:Int)) k=0:=by
 have hs:=AN h;have h10:=CW hs.1;exact Fd hs.1 10 k ⟨st,[]⟩ (by omega) hk h
theorem SP {n:Int}{L:Nat}:Cb n 0 ((L:Int) - 1)=true↔∃ k:Nat,n=k/\k<L:=by
 unfold Cb;simp only[Bool.and_eq_true,decide_eq_true_eq];constructor
 ·rintro ⟨h1,h2⟩;obtain⟨k,rfl⟩:=Int.eq_ofNat_of_zero_le h1;exact⟨k,rfl,by omega⟩
 ·rintro ⟨k,rfl,hk⟩;omega
theorem Ir {g:Ae}{st:BC}(h:AM g st=true){k:Nat}(hk:k<g.length):AS g st (k:Int)=((Eb g st (k:Int)).st,Ba (Eb g st (k:Int)) k,(Eb g st (k:Int)).ran):=by
 unfold AS;rw[h,SP.2 ⟨k,rfl,hk⟩,Int.toNat_natCast];rfl
theorem UN {g:Ae}{st:BC}(h:AM g st=true){k:Nat}(hk:k<g.length):(AS g st k).2.2.Nodup/\∀ x ∈ (AS g st k).2.2,∃ j:Nat,x=j/\j<g.length/\Ik g k j/\x ∈ BP g st/\(st.cols.getD j 0=2\/∃ y ∈ st.reads.getD j [],(AS g st k).1.vals.getD y.toNat 0≠st.vals.getD y.toNat 0):=by
 obtain⟨h1,_⟩:=Ei h hk;rw[Ir h hk];obtain⟨l,e,hn,hr⟩:=h1.ran;have e:(Eb g st (k:Int)).ran=l:=by simpa using e
 refine⟨by rw[e];exact hn,fun x hx=>?_⟩;dsimp only at hx;rw[e] at hx;obtain⟨j,e,hj,hN,hc,_,hw⟩:=hr x hx;exact⟨j,e,hj,hN,(TE h).2 ⟨j,e,hj,hc⟩,hw⟩
theorem PH {g:Ae}{st:BC}(_h:AM g st=true){k:Nat}(hk:k<st.vals.length)(x:Int):(Ca st k x).vals=st.vals.set k x:=by
 unfold Ca;split
 ·rename_i e
  refine(List.ext_getElem? fun j=>?_).symm;rw[List.getElem?_set];split
  ·rename_i e2
   subst e2;try rw[if_pos hk]
   rw[<- e,List.getD_eq_getElem?_getD,List.getElem?_eq_getElem hk];rfl
  ·rfl
 ·rfl
end Sg
namespace Go.Proofs.YthibllkleakiiaaGreatDoor
open Go.RowKit
end Go.Proofs.YthibllkleakiiaaGreatDoor
namespace Sg
structure Xh where
 kind:Int
 node:Int
 val:Int
structure Xi where
 node:Int
 val:Int
def WW (g:Ae)(a:Xh):Bool :=
 if a.kind=0 then BA g a.node && Cb a.val 0 999
 else if a.kind=1 then Cb a.node 0 ((g.length:Int) - 1) && decide (CU g a.node=2) && decide (a.val=0)
 else if a.kind=2\/a.kind=3 then decide (a.node=0) && decide (a.val=0) else false
structure Yk where
 opn:Nat
 pend:List Int
 stop:List Bool
def WX (x:Yk)(a:Xh):Yk × Bool :=
 if a.kind=0 then (⟨x.opn,x.pend.set a.node.toNat a.val,x.stop⟩,decide (x.opn=0))
 else if a.kind=1 then (⟨x.opn,x.pend,x.stop.set a.node.toNat true⟩,false)
 else if a.kind=2 then (⟨x.opn+1,x.pend,x.stop⟩,false)
 else (⟨x.opn - 1,x.pend,x.stop⟩,decide (x.opn=1))
structure U6 (g:Ae) (x:Yk) (k:Nat):Prop where
 c:AT g x.pend=true
 s:x.stop.length=g.length
 o:x.opn<=k
theorem FP {g:Ae}{l:List Int}(h:AT g l=true):l.length=g.length:=by
 unfold AT at h;simp only[Bool.and_eq_true,decide_eq_true_eq] at h;exact h.1
theorem R_ {g:Ae}{l:List Int}(h:AT g l=true){n v:Int}(hn:BA g n=true)(hv:Cb v 0 999=true):AT g (l.set n.toNat v)=true:=by
 have hl:=FP h;unfold AT at h ⊢;simp only[Bool.and_eq_true,decide_eq_true_eq,List.length_set,List.all_eq_true,List.mem_range] at h ⊢;refine⟨hl,fun i hi=>?_⟩;have h1:=h.2 i hi;unfold BA at hn;simp only[Bool.and_eq_true,decide_eq_true_eq,Cb] at hn;unfold Gg at h1 ⊢;by_cases e:n.toNat=i
 ·subst e;have hk:CU g ((n.toNat:Nat):Int)=0:=by rw[Int.toNat_of_nonneg hn.1.1];exact hn.2
  simp only[List.getD_eq_getElem?_getD,List.getElem?_set_self hi,Option.getD_some,hk];simpa using hv
 ·simp only[List.getD_eq_getElem?_getD,List.getElem?_set_ne e] at h1 ⊢;exact h1
theorem U6.step {g:Ae}{x:Yk}{k:Nat}(h:U6 g x k){a:Xh}(ha:WW g a=true):U6 g (WX x a).1 (k+1):=by
 unfold WX;unfold WW at ha;split
 ·rename_i h0
  rw[if_pos h0,Bool.and_eq_true] at ha;exact⟨R_ h.c ha.1 ha.2,h.s,by have:=h.o;show x.opn<=k+1;omega⟩
 ·split
  ·exact⟨h.c,by show (x.stop.set _ _).length=_;rw[List.length_set];exact h.s,by have:=h.o;show x.opn<=k+1;omega⟩
  ·split
   ·exact⟨h.c,h.s,by have:=h.o;show x.opn+1<=k+1;omega⟩
   ·exact⟨h.c,h.s,by have:=h.o;show x.opn - 1<=k+1;omega⟩
def CN (g:Ae):List Int:=Cm (fun i=>decide (CU g (i:Int)=0)) g.length
theorem Jo {g:Ae}{n:Int}:n ∈ CN g↔∃ i:Nat,n=i/\i<g.length/\CU g (i:Int)=0:=by
 unfold CN;rw[Fy];simp
theorem N_ {g:Ae}{i:Nat}{n:BV}(h:g[i]? = some n):CU g (i:Int)=n.kind:=by
 unfold CU;simp[h]
theorem Nu (g:Ae):B_ g (CN g)=true:=by
 unfold B_;rw[List.all_eq_true];intro k hk;rw[List.mem_range] at hk;obtain⟨x,hx⟩:∃ x,(CN g)[k]? = some x:=⟨_,List.getElem?_eq_getElem hk⟩;have hd:(CN g).getD k 0=x:=by rw[List.getD_eq_getElem?_getD,hx];rfl
 rw[hd,Bool.and_eq_true,decide_eq_true_eq];constructor
 ·obtain⟨i,rfl,hi,hk0⟩:=Jo.1 (List.mem_of_getElem? hx);unfold BA Cb;simp only[Bool.and_eq_true,decide_eq_true_eq];exact⟨by omega,hk0⟩
 ·intro hm;obtain⟨j,hj⟩:=List.getElem?_of_mem hm;rw[List.getElem?_take] at hj;split at hj
  ·rename_i hjk
   have hp:(CN g).Pairwise (·<·):=Nt _ _;obtain⟨h1,e1⟩:=List.getElem?_eq_some_iff.1 hj;obtain⟨h2,e2⟩:=List.getElem?_eq_some_iff.1 hx;have:=List.pairwise_iff_getElem.1 hp j k h1 h2 hjk;omega
  ·cases hj
theorem Xk (l:List Int)(i:Nat):rd l (i:Int)=l.getD i 0:=by unfold rd;simp
theorem T5 {g:Ae}{p:List Int}(h:AT g p=true)(i:Nat)(hi:i<g.length):0<=p.getD i 0/\p.getD i 0<=999:=by
 have hl:=Cu h;refine CX h _ ?_;rw[List.getD_eq_getElem?_getD,List.getElem?_eq_getElem (by omega)];exact List.getElem_mem _
def Pt (g:Ae)(chg:List Int)(ck:List Bool):Prop:=∀ i,i<g.length->ck.getD i false=decide ((i:Int) ∈ chg)
theorem Pt.start (g:Ae):Pt g [] (List.replicate g.length false):=by
 intro i hi;simp[hi]
theorem Pt.keep {g:Ae}{chg:List Int}{ck:List Bool}(h:Pt g chg ck){j:Nat}(hj:(j:Int) ∉ chg):Pt g chg (ck.set j false):=by
 intro i hi;by_cases e:i=j
 ·subst e;rw[List.getD_eq_getElem?_getD];by_cases hl:i<ck.length
  ·rw[List.getElem?_set_self hl];simpa using hj
  ·rw[List.getElem?_eq_none (by simp;omega)];simpa using hj
 ·rw[List.getD_eq_getElem?_getD,List.getElem?_set_ne (fun h=>e h.symm),<- List.getD_eq_getElem?_getD];exact h i hi
theorem Pt.add {g:Ae}{chg:List Int}{ck:List Bool}(h:Pt g chg ck){j:Nat}(hl:j<ck.length):Pt g (chg++[(j:Int)]) (ck.set j true):=by
 intro i hi;by_cases e:i=j
 ·subst e;rw[List.getD_eq_getElem?_getD,List.getElem?_set_self hl];simp
 ·rw[List.getD_eq_getElem?_getD,List.getElem?_set_ne (fun h=>e h.symm),<- List.getD_eq_getElem?_getD,h i hi];have h1:(i:Int)≠(j:Int):=by omega
  simp[h1]
theorem Qd {l:List Int}{j:Nat}{x:Int}(h:l[j]? = some x):l.set j x=l:=by
 apply List.ext_getElem?;intro i;by_cases e:j=i
 ·subst e;rw[List.getElem?_set_self (List.getElem?_eq_some_iff.1 h).1,h]
 ·rw[List.getElem?_set_ne e]
theorem T6 {g:Ae}{chg:List Int}{s:Nn}(h:Pt g chg s.ch){l:List Int}(hl:∀ x ∈ l,0<=x/\x<(g.length:Int)):UA s l=Lk l chg:=by
 unfold UA Lk;rw[Bool.eq_iff_iff,List.any_eq_true,List.any_eq_true];constructor
 ·rintro ⟨x,hx,hb⟩;refine⟨x,hx,?_⟩;have h1:=hl x hx;rw[h x.toNat (by omega)] at hb;rwa [show ((x.toNat:Nat):Int)=x from by omega] at hb
 ·rintro ⟨x,hx,hb⟩;refine⟨x,hx,?_⟩;have h1:=hl x hx;rw[h x.toNat (by omega)];rwa [show ((x.toNat:Nat):Int)=x from by omega]
def Oa (g:Ae)(s s':LR):Prop:=∃ l:List Int,s'.ran=s.ran++l/\∀ j,j<g.length->(j:Int) ∉ l ->
 Ba s' j=Ba s j/\Co s' j=Co s j/\(AL s j=2->AL s' j=2)/\((∃ y ∈ Co s j,Ba s' y.toNat≠Ba s y.toNat)->AL s' j=2)
theorem Oa.refl (g:Ae)(s:LR):Oa g s s:=⟨[],by simp,fun j _ _=>⟨rfl,rfl,id,fun ⟨_,_,h⟩=>absurd rfl h⟩⟩
theorem Oa.trans {g:Ae}{s t u:LR}(h:Oa g s t)(k:Oa g t u):Oa g s u:=by
 obtain⟨l1,e1,f1⟩:=h;obtain⟨l2,e2,f2⟩:=k;refine⟨l1++l2,by rw[e2,e1,List.append_assoc],fun j hj hn=>?_⟩;rw[List.mem_append,not_or] at hn;obtain⟨a1,a2,a3,a4⟩:=f1 j hj hn.1;obtain⟨b1,b2,b3,b4⟩:=f2 j hj hn.2;refine⟨b1.trans a1,b2.trans a2,fun h2=>b3 (a3 h2),?_⟩;rintro ⟨y,hy,hne⟩;by_cases e:Ba t y.toNat=Ba s y.toNat
 ·exact b4 ⟨y,by rw[a2];exact hy,by rw[e];exact hne⟩
 ·exact b3 (a4 ⟨y,hy,e⟩)
noncomputable def IW (nodes:List Int)(p:List Int)(st:BC):BC:=nodes.foldl (fun t n=>Ca t n.toNat (rd p n)) st
theorem OO (nodes:List Int)(n:Int)(p:List Int)(st:BC):IW (nodes++[n]) p st=Ca (IW nodes p st) n.toNat (rd p n):=by simp[IW]
structure Wl (g:Ae) (p:List Int) (st0 st:BC) (nodes:List Int):Prop where
 ok:AM g st=true
 rds:st.reads=st0.reads
 cell:∀ i:Nat,(i:Int) ∈ nodes->st.vals.getD i 0=p.getD i 0
 oth:∀ i:Nat,(i:Int) ∉ nodes->st.vals.getD i 0=st0.vals.getD i 0
 two:∀ j,j<g.length->st0.cols.getD j 0=2->st.cols.getD j 0=2
 told:∀ j,j<g.length->(∃ y ∈ st0.reads.getD j [],st.vals.getD y.toNat 0≠st0.vals.getD y.toNat 0)->st.cols.getD j 0=2
 dirt:∀ j,j<g.length->st.cols.getD j 0=2->st0.cols.getD j 0=2\/∃ y ∈ st0.reads.getD j [],st.vals.getD y.toNat 0≠st0.vals.getD y.toNat 0
theorem Xl {g:Ae}{p:List Int}{st0:BC}(h:AM g st0=true)(hp:AT g p=true)(k:Nat)(hk:k<=(CN g).length):Wl g p st0 (IW ((CN g).take k) p st0) ((CN g).take k):=by
 induction k with
 | zero=>exact⟨h,rfl,fun i hi=>by simp at hi,fun i _=>rfl,fun j _ h=>h,fun j _ h=>by obtain⟨y,_,hy⟩:=h;exact absurd rfl hy,fun j _ h=>.inl h⟩
 | succ k ih =>
  obtain⟨ok,rds,cell,oth,two,told,dirt⟩:=ih (by omega);have hkl:k<(CN g).length:=by omega
  have e2:(CN g).take (k+1)=(CN g).take k++[(CN g)[k]]:=List.take_succ_eq_append_getElem hkl;obtain⟨n,en,hn,hk0⟩:=Jo.1 (List.getElem_mem hkl)
  have hnew:(n:Int) ∉ (CN g).take k:=by
   have hd:=CH (Nu g) (List.getElem?_eq_getElem hkl);have:=hd.2;rw[en] at this;exact this
  rw[en] at e2;rw[e2,OO];generalize IW ((CN g).take k) p st0=st at *;generalize (CN g).take k=nodes at *;have hs:=AN ok;have hpn:=T5 hp n hn
  have hcell:BA g (n:Int)=true:=by
   unfold BA Cb;simp only[Bool.and_eq_true,decide_eq_true_eq];exact⟨by omega,hk0⟩
  rw[Int.toNat_natCast,Xk];have hv:=Ki ok hcell hpn;have hvals:=PH ok (show n<st.vals.length by omega) (p.getD n 0)
  have hgv:∀ i:Nat,(Ca st n (p.getD n 0)).vals.getD i 0=if i=n then p.getD n 0 else st.vals.getD i 0:=fun i=>by
   rw[hvals,Fc _ _ _ _ _ (by omega)]
  have hrd2:(Ca st n (p.getD n 0)).reads=st.reads:=by unfold Ca;split <;> rfl
  have hA:=C7 ok
  have hcols:∀ j,j<g.length->(st.cols.getD j 0=2->(Ca st n (p.getD n 0)).cols.getD j 0=2)/\((n:Int) ∈ st.reads.getD j []->st.vals.getD n 0≠p.getD n 0->(Ca st n (p.getD n 0)).cols.getD j 0=2) /\
    ((Ca st n (p.getD n 0)).cols.getD j 0=2->st.cols.getD j 0=2\/((n:Int) ∈ st.reads.getD j []/\st.vals.getD n 0≠p.getD n 0)):=by
   intro j hj;unfold Ca;by_cases e:st.vals.getD n 0=p.getD n 0
   ·rw[if_pos e];exact⟨id,fun _ h=>absurd e h,.inl⟩
   ·rw[if_neg e];have hsp:=Id st.reads st.cols n j (by omega);dsimp only;rw[hsp];refine⟨fun h2=>?_,fun hm _=>?_,fun h2=>?_⟩
    ·rw[h2];split;split <;> simp;rfl
    ·rw[if_pos (Fp.one hm),if_pos hm]
    ·split at h2
     ·split at h2
      ·rename_i hm;exact .inr ⟨hm,e⟩
      ·split at h2
       ·omega
       ·exact .inl h2
     ·exact .inl h2
  refine⟨hv,hrd2.trans rds,fun i hi=>?_,fun i hi=>?_,fun j hj h2=>(hcols j hj).1 (two j hj h2),fun j hj h2=>?_,fun j hj h2=>?_⟩
  ·rw[hgv];split
   ·rename_i e;rw[e]
   ·rename_i e
    rcases List.mem_append.1 hi with hi | hi
    ·exact cell i hi
    ·rw[List.mem_singleton] at hi;omega
  ·rw[List.mem_append,not_or,List.mem_singleton] at hi;rw[hgv,if_neg (by omega)];exact oth i hi.1
  ·obtain⟨y,hy,hne⟩:=h2;rw[hgv] at hne;split at hne
   ·rename_i e
    have hy0:=hA j y (by rw[rds];exact hy);have:y=(n:Int):=by omega
    subst this;rw[Int.toNat_natCast] at hne;rw[<- oth n hnew] at hne;exact(hcols j hj).2.1 (by rw[rds];exact hy) (fun h=>hne h.symm)
   ·exact(hcols j hj).1 (told j hj ⟨y,hy,hne⟩)
  ·rcases (hcols j hj).2.2 h2 with h3 | ⟨hm,hne⟩
   ·rcases dirt j hj h3 with h4 | ⟨y,hy,hne⟩
    ·exact .inl h4
    ·refine .inr ⟨y,hy,?_⟩;rw[hgv];split
     ·rename_i e
      exfalso
      have hy0:=hA j y (by rw[rds];exact hy);have:y=(n:Int):=by omega
      subst this;rw[Int.toNat_natCast] at hne;exact hne (oth n hnew)
     ·exact hne
   ·refine .inr ⟨n,by rw[<- rds];exact hm,?_⟩;rw[Int.toNat_natCast,hgv,if_pos rfl,<- oth n hnew];exact fun h=>hne h.symm
structure UB (g:Ae) (a:List Int) (st:BC):Prop where
 ok:AM g st=true
 cells:Cd g st.vals=a
theorem UB.mean {g:Ae}{a:List Int}{st:BC}(h:UB g a st){j:Nat}(hj:j<g.length)(hc:st.cols.getD j 0=0):st.vals.getD j 0=(BF g a).getD j 0:=by
 have:=Rl h.ok (j+1) j (by omega) hj hc;rw[h.cells] at this;exact this.symm
theorem UB.rds {g:Ae}{a:List Int}{st:BC}(h:UB g a st){j:Nat}(hj:j<g.length)(hc:st.cols.getD j 0=0):st.reads.getD j []=Cf g (Sg.BF g a) j/\∀ x ∈ st.reads.getD j [],st.cols.getD x.toNat 0=0:=by
 have hn:g[j]? = some g[j]:=List.getElem?_eq_getElem hj;generalize g[j]=nd at hn;have hk:=(BT.1 h.ok).2 j nd hn;unfold Cf;rw[Bk hn];by_cases h0:nd.kind=0
 ·rw[if_pos h0,(hk.cell h0).2];exact⟨rfl,fun x hx=>by cases hx⟩
 ·rw[if_neg h0];rcases hk.form h0 with ⟨h2,_⟩ | ⟨h2,_⟩ | ⟨_,hR,hx⟩
  ·omega
  ·omega
  ·refine⟨?_,hx⟩;have hA:=C7 h.ok
   have:AJ nd.f st.vals=AJ nd.f (Sg.BF g a):=by
    refine Iv fun x hm=>?_;rw[hR] at hm;have hx0:=hA j x hm;have:=h.mean (j:=x.toNat) (by omega) (hx x hm);unfold rd;exact this
   rw[<- this,hR]
theorem UB.cell {g:Ae}{a:List Int}{st:BC}(h:UB g a st){j:Nat}(hj:j<g.length)(hk:CU g (j:Int)=0):st.vals.getD j 0=(Sg.BF g a).getD j 0/\st.cols.getD j 0=0:=by
 have hn:g[j]? = some g[j]:=List.getElem?_eq_getElem hj;generalize g[j]=nd at hn;rw[N_ hn] at hk;have hc:=(((BT.1 h.ok).2 j nd hn).cell hk).1;exact⟨h.mean hj hc,hc⟩
theorem UB.wr {g:Ae}{a p:List Int}{st:BC}(h:UB g a st)(hp:AT g p=true):Wl g p st (IW (CN g) p st) (CN g)/\UB g p (IW (CN g) p st):=by
 have hw:=Xl h.ok hp (CN g).length (Nat.le_refl _);rw[List.take_length] at hw;refine⟨hw,hw.ok,?_⟩;have hs:=AN hw.ok;have hpl:=Cu hp;refine(Mf (by omega) hpl fun i n hn h0=>?_).trans ?_
 ·exact hw.cell i (Jo.2 ⟨i,rfl,(List.getElem?_eq_some_iff.1 hn).1,by rw[N_ hn];exact h0⟩)
 ·refine Xe (by unfold Cd;simp) fun i hi=>?_;rw[show (Cd g p).length=p.length by unfold Cd;simp] at hi;rw[Et g p i hi];split
  ·rename_i h0
   obtain⟨n,hn⟩:∃ n,g[i]? = some n:=⟨_,List.getElem?_eq_getElem (by omega)⟩;rw[Bk hn] at h0;rw[Lg hp hn h0]
  ·rfl
theorem UB.rd {g:Ae}{a:List Int}{st:BC}(h:UB g a st)(l:List Int)(hl:∀ x ∈ l,∃ k:Nat,x=k/\k<g.length):UB g a (Ra g l ⟨st,[]⟩).st:=by
 have hc:=L7 (g:=g) (s:=⟨st,[]⟩) h.ok l (fun k hk=>SP.2 (hl k hk));exact⟨hc.ok,(Np (s:=⟨st,[]⟩) h.ok hc).trans h.cells⟩
def ZF (g:Ae):Nat:=(Cm (fun j=>decide (CU g (j:Int)≠0)) g.length).length
end Sg
namespace Go.Proofs.YthibllkleakiiaaGreatDoor
open Go.RowKit
theorem AF.grown {F:Nat->Prop}{w w':World}{row:Option Nat}(hg:w.grownBy w' row)(h:∀ b,row=some b->F b):AF F w w' :=
 ⟨hg.os,hg.tape,hg.output,hg.size,fun b hb hn=>hg.block b hb fun e=>hn (h b e.symm)⟩
theorem Bx.set3z {w:World}{b:Nat}{x0 x1 x2:Value}(h:Bx w b [x0,x1,x2])(u0 u1 u2:Value):Bx (((w.setCell ⟨b,0,none⟩ u0).setCell ⟨b,1,none⟩ u1).setCell ⟨b,2,none⟩ u2) b [u0,u1,u2]:=((h.set 0 u0).set 1 u1).set 2 u2
theorem AF.set3z (w:World)(b:Nat)(u0 u1 u2:Value):AF (fun x=>x=b) w (((w.setCell ⟨b,0,none⟩ u0).setCell ⟨b,1,none⟩ u1).setCell ⟨b,2,none⟩ u2):=AF.set (F:=fun x=>x=b) (AF.set (F:=fun x=>x=b) (AF.set (F:=fun x=>x=b) (AF.rfl' _ w) (.inl rfl) u0) (.inl rfl) u1) (.inl rfl) u2
section
variable {wr w1 w9:World} {B c1 c2 c3 c9:Nat} {A1 A2 A3 A9:Option Addr} {hs:List (Option Addr × Nat)} {v q:List Int} {r:List (List Int)}
theorem Dr.appR (h:Dr wr B A1 c1 A2 c2 A3 c3 hs ⟨v,r,q⟩)(e:Aa wr w1)(hB:B<=wr.heap.size){l0:List Int}{A0:Option Addr}{c0:Nat}(own:Au w1 wr.heap.size 3 1 A0 l0.length c0 (Ah l0))(out:Au w9 B 36 1 A9 (r.length+1) c9 (A_ (AK r) hs++[.slice A0 l0.length c0]))(hg:w1.grownBy w9 (AE A2))(hat:AE A9=AE A2\/∃ g,AE A9=some g/\w1.heap.size<=g) :
  Dr w9 B A1 c1 A9 c9 A3 c3 (hs++[(A0,c0)]) ⟨v,r++[l0],q⟩/\∀ b,Oc A1 A9 A3 (hs++[(A0,c0)]) b->Oc A1 A2 A3 hs b\/wr.heap.size<=b:=by
 have hsz:=e.size
 have key:∀ b,Gi A9 (hs++[(A0,c0)]) b->Gi A2 hs b\/wr.heap.size<=b:=by
  rintro b (hb | ⟨x,hx,hb⟩)
  ·rcases hat with ha | ⟨g,ha,hle⟩
   ·exact .inl (.inl (by rw[<- ha];exact hb))
   ·rw[ha] at hb;injection hb with hb;exact .inr (by omega)
  ·rcases List.mem_append.1 hx with hx | hx
   ·exact .inl (.inr ⟨x,hx,hb⟩)
   ·rw[List.mem_singleton.1 hx] at hb;exact .inr (own.lt hb).1
 have hits:AK (r++[l0])=AK r++[⟨[],l0.length,Ah l0⟩]:=by simp[AK]
 have hlen:(AK r).length=r.length:=by simp[AK]
 refine⟨⟨(h.v.ext e).keep fun b hb=>hg.block b ((h.v.ext e).lt hb).2 (fun k=>(h.d b hb).1 (.inl k.symm)),?_,(h.q.ext e).keep fun b hb=>hg.block b ((h.q.ext e).lt hb).2 (fun k=>h.e b hb (.inl k.symm)),fun b hb=>⟨fun k=>?_,(h.d b hb).2⟩,fun b hb k=>?_⟩,?_⟩
 ·show CG w9 B A9 c9 (r++[l0]) (hs++[(A0,c0)]);unfold CG;rw[hits];exact Bj.snoc h.r e hB (it:=⟨[],l0.length,Ah l0⟩) own (by rw[hlen];exact out) hg hat
 ·rcases key b k with k | k
  ·exact(h.d b hb).1 k
  ·have:=(h.v.lt hb).2;omega
 ·rcases key b k with k | k
  ·exact h.e b hb k
  ·have:=(h.q.lt hb).2;omega
 ·rintro b (hb | hb | hb)
  ·exact .inl (.inl hb)
  ·rcases key b hb with hb | hb
   ·exact .inl (.inr (.inl hb))
   ·exact .inr hb
  ·exact .inl (.inr (.inr hb))
theorem Dr.appQ (h:Dr wr B A1 c1 A2 c2 A3 c3 hs ⟨v,r,q⟩)(e:Aa wr w1){x:Int}(out:Au w9 B 3 1 A9 (q.length+1) c9 (Ah (q++[x])))(hg:w1.grownBy w9 (AE A3))(hat:AE A9=AE A3\/∃ g,AE A9=some g/\w1.heap.size<=g) :
  Dr w9 B A1 c1 A2 c2 A9 c9 hs ⟨v,r,q++[x]⟩/\∀ b,Oc A1 A2 A9 hs b->Oc A1 A2 A3 hs b\/wr.heap.size<=b:=by
 have hsz:=e.size
 have key:∀ b,AE A9=some b->AE A3=some b\/wr.heap.size<=b:=by
  intro b hb;rcases hat with ha | ⟨g,ha,hle⟩
  ·exact .inl (by rw[<- ha];exact hb)
  ·rw[ha] at hb;injection hb with hb;exact .inr (by omega)
 have hm:AF (fun b=>AE A3=some b) w1 w9:=AF.grown hg fun b hb=>hb;refine⟨⟨(h.v.ext e).keep fun b hb=>hg.block b ((h.v.ext e).lt hb).2 (fun k=>(h.d b hb).2 k.symm),Bj.mod (Bj.ext h.r e) hm (fun b hb k=>h.e b k hb),by simpa using out,fun b hb=>⟨(h.d b hb).1,fun k=>?_⟩,fun b hb k=>?_⟩,?_⟩
 ·rcases key b k with k | k
  ·exact(h.d b hb).2 k
  ·have:=(h.v.lt hb).2;omega
 ·rcases key b hb with hb | hb
  ·exact h.e b hb k
  ·have:=(Bj.lt h.r k).2;omega
 ·rintro b (hb | hb | hb)
  ·exact .inl (.inl hb)
  ·exact .inl (.inr (.inl hb))
  ·rcases key b hb with hb | hb
   ·exact .inl (.inr (.inr hb))
   ·exact .inr hb
end
theorem zp0{p:Prop}(h:p:=by
 have hN2:∀ b,Oc A1 A9 A8 (hs++[(some ⟨wr.heap.size,0,none⟩,0)]) b->b≠P:=fun b hb e=>by
  rcases hF b hb with h1 | h1
  ·rcases FF.out b h1 with h2 | h2
   ·exact hN.out b h2 e
   ·omega
  ·omega
 have hsz11:w10.heap.size<=w11.heap.size:=Hg8.out.size;refine⟨k+1,A9,c9,A8,c8,_,by omega,by go_num,by simp;omega,lh ((PP.out.gr Hg8.out hP3).set 2 _),lh ?_,lh hN2,lh ((GG.out.gr Hg8.out (fun e=>by have:=hlo _ e;omega)).mod hS (by omega)),lh ((DD.out.gr Hg8.out (fun e=>by have:=hlo _ e;omega)).mod hS (by omega)),lh ((EE.out.gr Hg8.out (fun b e=>by have:=hlo b e;omega)).set (p:=⟨P,2,none⟩) (by dsimp only;omega) _)⟩;rw[HQ.out,HX.out,List.replicate_succ'];exact hZ.mod hS (fun b hb e=>hN2 b hb e)):p:=h
set_option maxRecDepth 100000 in
set_option maxHeartbeats 4000000 in
theorem QA (A Ac:Option Addr)(c cc:Nat)(g:Sg.Ae)(l:List Int)(w:World)(h:Eg w A g)(hc:Rd w 1 Ac l.length (Ah l))(hl:l.length<=1048576) :
  Calls Tryz.prog 14 #[.agg #[.slice A g.length c],.slice Ac l.length cc] w fun e w'=>∃ A1 c1 A2 c2 A3 c3 hs,e= .returned (.agg #[.slice A1 l.length c1,.slice A2 g.length c2,.slice A3 g.length c3]) /\
   Dr w' w.heap.size A1 c1 A2 c2 A3 c3 hs (Sg.Cs g l)/\Aa w w':=by
 have hgl:=h.1;have e0:Aa w (World.alloc (World.alloc w (.cells #[.slice A g.length c] 35)) (.cells #[.slice none 0 0,.slice none 0 0,.slice none 0 0] 44)):=((Aa.rfl' w).al _).al _;have G0:=lh ((Bx.new w #[.slice A g.length c] 35).al (.cells #[.slice none 0 0,.slice none 0 0,.slice none 0 0] 44));have d0:=Bx.new (World.alloc w (.cells #[.slice A g.length c] 35)) #[.slice none 0 0,.slice none 0 0,.slice none 0 0] 44;simp only[World.size_alloc] at d0;have D0:=lh d0;have E0:=lh e0;have H:=lh h;have HC:=lh (DZ Ac l.length cc l _ (hc.ext e0) (by omega));clear h hc e0 d0;go_enter Tryz.func14,Tryz.ntmps14;go_wp2_with fail
 refine HC.out.mono ?_;rintro e w1 ⟨A1,c1,rfl,ho1,he1⟩;have hw1:=he1.size;simp only[World.size_alloc] at hw1 ho1;have G1:=lh ((G0.out.ext he1).al (.cells #[.slice A1 l.length c1,.slice none 0 0,.slice none 0 0] 44));have D1:=lh ((D0.out.ext he1).al (.cells #[.slice A1 l.length c1,.slice none 0 0,.slice none 0 0] 44));have P1:=lh (Bx.new w1 #[.slice A1 l.length c1,.slice none 0 0,.slice none 0 0] 44);have E1:=lh ((E0.out.tr he1).al (.cells #[.slice A1 l.length c1,.slice none 0 0,.slice none 0 0] 44));have hbn:∀ b:Nat,AE none≠some b:=fun b k=>by cases k
 have hdn:∀ b:Nat,¬ Gi none [] b:=by
  rintro b (k | ⟨x,hx,_⟩)
  ·cases k
  ·cases hx
 have O1:=lh (show Dr (w1.alloc (.cells #[.slice A1 l.length c1,.slice none 0 0,.slice none 0 0] 44)) (w.heap.size+1+1) A1 c1 none 0 none 0 [] ⟨l,List.replicate 0 [],(g.map fun n=>if n.kind=0 then (0:Int) else 2).take 0⟩ from
  ⟨ho1.al _,(Dr.nil _ _).r,Au.nil _ _ _ _,fun b _=>⟨hdn b,hbn b⟩,fun b k=>absurd k (hbn b)⟩)
 have N1:=lh (show ∀ b,Oc A1 none none [] b->b≠w1.heap.size from by
  rintro b (k | k | k)
  ·have:=(ho1.lt k).2;omega
  ·exact absurd k (hdn b)
  ·exact absurd k (hbn b))
 clear ho1 he1 G0 D0 HC hbn hdn;go_wp2_with fail
 have hwp:w1.heap.size<(w1.alloc (.cells #[.slice A1 l.length c1,.slice none 0 0,.slice none 0 0] 44)).heap.size:=by simp
 generalize w1.alloc (.cells #[.slice A1 l.length c1,.slice none 0 0,.slice none 0 0] 44)=w2 at *;generalize w1.heap.size=P at *
 go_loopw [6] (fun i wr=>∃ (k:Nat) (A2:Option Addr) (c2:Nat) (A3:Option Addr) (c3:Nat) (hs:List (Option Addr × Nat)),k<=g.length/\i= .int .i64 k/\P<wr.heap.size /\
  Hid (Bx wr P [.slice A1 l.length c1,.slice A2 k c2,.slice A3 k c3])/\Hid (Dr wr (w.heap.size+1+1) A1 c1 A2 c2 A3 c3 hs ⟨l,List.replicate k [],(g.map fun n=>if n.kind=0 then (0:Int) else 2).take k⟩)/\Hid (∀ b,Oc A1 A2 A3 hs b->b≠P) /\
  Hid (Bx wr w.heap.size [.slice A g.length c])/\Hid (Bx wr (w.heap.size+1) [.slice none 0 0,.slice none 0 0,.slice none 0 0])/\Hid (Aa w wr)) (fun i _=>g.length - (intOf i).toNat)
 case atStart=>exact⟨0,none,0,none,0,[],Nat.zero_le _,rfl,hwp,P1,O1,N1,G1,D1,E1⟩
 case round =>
  clear P1 O1 N1 G1 D1 E1 hwp;obtain⟨k,A2,c2,A3,c3,hs,hk,rfl,hPw,hP,hO,hN,hG,hD,hE⟩:=hrel;have gq:=hG.out.cell (j:=0) rfl;have bgq:=AA gq;by_cases hlt:k<g.length
  ·obtain⟨⟨nk,nf⟩,b,o,Ap,cp,hn,rfl,hkc,hsc,hf,hfl⟩:=(H.out.ext hE.out).at_ hlt;dsimp only at *;have bkc:=AA hkc;have x1:=hP.out.cell (j:=1) rfl;have x2:=hP.out.cell (j:=2) rfl;have f1:=hP.out.free 1;have f2:=hP.out.free 2
   have HQ:=lh (show (g.map fun n=>if n.kind=0 then (0:Int) else 2).take (k+1)=(g.map fun n=>if n.kind=0 then (0:Int) else 2).take k++[if nk=0 then (0:Int) else 2] by
    have hm:(g.map fun n=>if n.kind=0 then (0:Int) else 2)[k]? = some (if nk=0 then (0:Int) else 2):=by rw[List.getElem?_map,hn];rfl
    obtain⟨h1,h2⟩:=ge_.1 hm;rw[List.take_succ_eq_append_getElem h1,h2])
   have HTL:=lh (show ((g.map fun n=>if n.kind=0 then (0:Int) else 2).take k).length=k by simp;omega);have Ea:=lh ((Aa.rfl' wr).al (.cells #[] 3));have oR:=lh (show Au (wr.alloc (.cells #[] 3)) (w.heap.size+1+1) 36 1 A2 k c2 (A_ (AK (List.replicate k [])) hs) from by have:=hO.out.r.out.ext Ea.out;simpa[AK] using this);have oN:=lh (Au.new wr (B:=wr.heap.size) 3 1 #[] 0 (Nat.le_refl _) (by unfold maxLen;omega) rfl);generalize (g.map fun n=>if n.kind=0 then (0:Int) else 2).take k=Q at *;clear hn hf hsc;have step:∀ x:Int,x=(if nk=0 then (0:Int) else 2)->True:=fun _ _=>trivial;by_cases hz:nk=0
   ·have z1:(nk == 0)=true:=by simp[hz]
    have HX:=lh (show (if nk=0 then (0:Int) else 2)=0 by rw[if_pos hz]);clear hz;go_upto_region 9 with (at_builtin;refine AB rfl rfl Da rfl oR.out (by simp only[World.size_alloc];rfl) rfl (GI _ _ _) (by omega) (by omega) (by simp;omega) ?_;intro A9 c9 w9 ho9 hg9 hat9;have Ho9:=lh ho9;have Hg9:=lh hg9;have Ha9:=lh hat9;clear ho9 hg9 hat9;have y1:=((hP.out.ext Ea.out).gr Hg9.out (fun e=>hN.out P (.inr (.inl (.inl e))) rfl)).cell (j:=1) rfl;have g1:=((hP.out.ext Ea.out).gr Hg9.out (fun e=>hN.out P (.inr (.inl (.inl e))) rfl)).free 1)
    have hBw:w.heap.size+1+1<=wr.heap.size:=by omega
    obtain⟨hZ,hF⟩:=Dr.appR hO.out Ea.out hBw (l0:=[]) oN.out (by simpa using Ho9.out) Hg9.out Ha9.out;have hS:=lh (AF.set (F:=fun b=>b=P) (AF.rfl' (fun b=>b=P) w9) (p:=⟨P,1,none⟩) (.inl rfl) (.slice A9 (k+1) c9));have hlo:∀ b,AE A2=some b->w.heap.size+1+1<=b:=fun b hb=>(hO.out.lt (.inr (.inl (.inl hb)))).1;have ZZ:=lh (hZ.mod hS.out (fun b hb e=>by rcases hF b hb with h1 | h1;exact hN.out b h1 e;omega));have FF:=lh hF;have PP:=lh (((hP.out.ext Ea.out).gr Hg9.out (fun e=>hN.out P (.inr (.inl (.inl e))) rfl)).set 1 (.slice A9 (k+1) c9));have GG:=lh (((hG.out.ext Ea.out).gr Hg9.out (fun e=>by have:=hlo _ e;omega)).mod hS.out (by omega));have DD:=lh (((hD.out.ext Ea.out).gr Hg9.out (fun e=>by have:=hlo _ e;omega)).mod hS.out (by omega));have EE:=lh (((hE.out.tr Ea.out).gr Hg9.out (fun b e=>by have:=hlo b e;omega)).set (p:=⟨P,1,none⟩) (by dsimp only;omega) (.slice A9 (k+1) c9));have hsz9:wr.heap.size<=w9.heap.size:=by have:=Hg9.out.size;simp at this;omega
    have hsz10:w9.heap.size<=(w9.setCell ⟨P,1,none⟩ (.slice A9 (k+1) c9)).heap.size:=by simp
    clear hZ hF hlo hS hP hO hG hD hE oR oN Ho9 Hg9 Ha9 Ea x1 x2 f1 f2 y1 g1;generalize w9.setCell ⟨P,1,none⟩ (.slice A9 (k+1) c9)=w10 at *;simp only[List.set_cons_succ,List.set_cons_zero] at PP;have x2:=PP.out.cell (j:=2) rfl;have f2:=PP.out.free 2;have oQ:=lh (show Au w10 (w.heap.size+1+1) 3 1 A3 k c3 (Ah Q) from by have:=ZZ.out.q;rw[show (Sg.BC.mk l (List.replicate k []++[[]]) Q).cols.length=k from HTL.out] at this;exact this);go_wp2_with (at_builtin;refine AB rfl rfl Bc rfl oQ.out rfl rfl (Bn _ _) (by omega) (by omega) (by omega) ?_;intro A8 c8 w11 ho8 hg8 hat8;have Ho8:=lh ho8;have Hg8:=lh hg8;have Ha8:=lh hat8;clear ho8 hg8 hat8;have hP3:AE A3≠some P:=fun e=>hN.out P (.inr (.inr e)) rfl;have y2:=(PP.out.gr Hg8.out hP3).cell (j:=2) rfl;have g2:=(PP.out.gr Hg8.out hP3).free 2)
    go_roundw
    case rel =>
     have hlo:∀ b,AE A3=some b->w.heap.size+1+1<=b:=fun b hb=>(ZZ.out.lt (.inr (.inr hb))).1;obtain⟨hZ,hF⟩:=Dr.appQ ZZ.out (Aa.rfl' w10) (x:=0) (by rw[HTL.out];simpa[Ah] using Ho8.out) Hg8.out Ha8.out;have hS:=AF.set (F:=fun b=>b=P) (AF.rfl' (fun b=>b=P) w11) (p:=⟨P,2,none⟩) (.inl rfl) (.slice A8 (k+1) c8)
     exact zp0
    case measure=>simp[intOf];omega
   ·have z1:(nk == 0)=false:=by simp[hz]
    have HX:=lh (show (if nk=0 then (0:Int) else 2)=2 by rw[if_neg hz]);clear hz;go_upto_region 9 with (at_builtin;refine AB rfl rfl Da rfl oR.out (by simp only[World.size_alloc];rfl) rfl (GI _ _ _) (by omega) (by omega) (by simp;omega) ?_;intro A9 c9 w9 ho9 hg9 hat9;have Ho9:=lh ho9;have Hg9:=lh hg9;have Ha9:=lh hat9;clear ho9 hg9 hat9;have y1:=((hP.out.ext Ea.out).gr Hg9.out (fun e=>hN.out P (.inr (.inl (.inl e))) rfl)).cell (j:=1) rfl;have g1:=((hP.out.ext Ea.out).gr Hg9.out (fun e=>hN.out P (.inr (.inl (.inl e))) rfl)).free 1)
    have hBw:w.heap.size+1+1<=wr.heap.size:=by omega
    obtain⟨hZ,hF⟩:=Dr.appR hO.out Ea.out hBw (l0:=[]) oN.out (by simpa using Ho9.out) Hg9.out Ha9.out;have hS:=lh (AF.set (F:=fun b=>b=P) (AF.rfl' (fun b=>b=P) w9) (p:=⟨P,1,none⟩) (.inl rfl) (.slice A9 (k+1) c9));have hlo:∀ b,AE A2=some b->w.heap.size+1+1<=b:=fun b hb=>(hO.out.lt (.inr (.inl (.inl hb)))).1;have ZZ:=lh (hZ.mod hS.out (fun b hb e=>by rcases hF b hb with h1 | h1;exact hN.out b h1 e;omega));have FF:=lh hF;have PP:=lh (((hP.out.ext Ea.out).gr Hg9.out (fun e=>hN.out P (.inr (.inl (.inl e))) rfl)).set 1 (.slice A9 (k+1) c9));have GG:=lh (((hG.out.ext Ea.out).gr Hg9.out (fun e=>by have:=hlo _ e;omega)).mod hS.out (by omega));have DD:=lh (((hD.out.ext Ea.out).gr Hg9.out (fun e=>by have:=hlo _ e;omega)).mod hS.out (by omega));have EE:=lh (((hE.out.tr Ea.out).gr Hg9.out (fun b e=>by have:=hlo b e;omega)).set (p:=⟨P,1,none⟩) (by dsimp only;omega) (.slice A9 (k+1) c9));have hsz9:wr.heap.size<=w9.heap.size:=by have:=Hg9.out.size;simp at this;omega
    have hsz10:w9.heap.size<=(w9.setCell ⟨P,1,none⟩ (.slice A9 (k+1) c9)).heap.size:=by simp
    clear hZ hF hlo hS hP hO hG hD hE oR oN Ho9 Hg9 Ha9 Ea x1 x2 f1 f2 y1 g1;generalize w9.setCell ⟨P,1,none⟩ (.slice A9 (k+1) c9)=w10 at *;simp only[List.set_cons_succ,List.set_cons_zero] at PP;have x2:=PP.out.cell (j:=2) rfl;have f2:=PP.out.free 2;have oQ:=lh (show Au w10 (w.heap.size+1+1) 3 1 A3 k c3 (Ah Q) from by have:=ZZ.out.q;rw[show (Sg.BC.mk l (List.replicate k []++[[]]) Q).cols.length=k from HTL.out] at this;exact this);go_wp2_with (at_builtin;refine AB rfl rfl Bc rfl oQ.out rfl rfl (Bn _ _) (by omega) (by omega) (by omega) ?_;intro A8 c8 w11 ho8 hg8 hat8;have Ho8:=lh ho8;have Hg8:=lh hg8;have Ha8:=lh hat8;clear ho8 hg8 hat8;have hP3:AE A3≠some P:=fun e=>hN.out P (.inr (.inr e)) rfl;have y2:=(PP.out.gr Hg8.out hP3).cell (j:=2) rfl;have g2:=(PP.out.gr Hg8.out hP3).free 2)
    go_roundw
    case rel =>
     have hlo:∀ b,AE A3=some b->w.heap.size+1+1<=b:=fun b hb=>(ZZ.out.lt (.inr (.inr hb))).1;obtain⟨hZ,hF⟩:=Dr.appQ ZZ.out (Aa.rfl' w10) (x:=2) (by rw[HTL.out];simpa[Ah] using Ho8.out) Hg8.out Ha8.out;have hS:=AF.set (F:=fun b=>b=P) (AF.rfl' (fun b=>b=P) w11) (p:=⟨P,2,none⟩) (.inl rfl) (.slice A8 (k+1) c8)
     exact zp0
    case measure=>simp[intOf];omega
  ·obtain rfl:k=g.length:=by omega
   have hfin:=hO.out;rw[show (g.map fun n=>if n.kind=0 then (0:Int) else 2).take g.length=g.map fun n=>if n.kind=0 then (0:Int) else 2 by rw[List.take_of_length_le (by simp)]] at hfin;have HZ:=lh hfin;clear hfin hO;have p0:=hP.out.cell (j:=0) rfl;have p1:=hP.out.cell (j:=1) rfl;have p2:=hP.out.cell (j:=2) rfl;have d0:=hD.out.cell (j:=0) rfl;have d1:=hD.out.cell (j:=1) rfl;have d2:=hD.out.cell (j:=2) rfl;have f0:=hD.out.free 0;have f1:=hD.out.free 1;have f2:=hD.out.free 2;have bl:=hD.out.lt;go_wp2;have bx:=Bx.set3z hD.out (.slice A1 l.length c1) (.slice A2 g.length c2) (.slice A3 g.length c3);have s0:=bx.cell (j:=0) rfl;have s1:=bx.cell (j:=1) rfl;have s2:=bx.cell (j:=2) rfl;have hm:=AF.set3z wr (w.heap.size+1) (.slice A1 l.length c1) (.slice A2 g.length c2) (.slice A3 g.length c3);refine bodyPost_ret (v := .agg #[.slice A1 l.length c1,.slice A2 g.length c2,.slice A3 g.length c3]) (by simp[results,Tryz.results14,go_sem,s0,s1,s2];try rfl) rfl ?_;refine⟨A1,c1,A2,c2,A3,c3,hs,rfl,(HZ.out.mod hm (fun b hb e=>by have:=(HZ.out.lt hb).1;omega)).mono (by omega),?_⟩;exact(((hE.out.set (p:=⟨w.heap.size+1,0,none⟩) (by dsimp only;omega) _).set (p:=⟨w.heap.size+1,1,none⟩) (by dsimp only;omega) _).set (p:=⟨w.heap.size+1,2,none⟩) (by dsimp only;omega) _)
end Go.Proofs.YthibllkleakiiaaGreatDoor
