/- Parts of one proof, joined. The plain model of making lazy nodes clean: what it does, and what it keeps, and more. Conditions: in the theorems. -/
import Derived.Test.YthibllkleakiiaaGreatDoorFactsAll
namespace Sg
structure LR where
 st:BC
 ran:List Int
def AL (s:LR)(n:Nat):Int:=s.st.cols.getD n 0
def Ba (s:LR)(n:Nat):Int:=s.st.vals.getD n 0
def Co (s:LR)(n:Nat):List Int:=s.st.reads.getD n []
def KM (s:LR)(n:Nat)(x:Int):LR:=⟨⟨s.st.vals,s.st.reads,s.st.cols.set n x⟩,s.ran⟩
noncomputable def Eo (s:LR)(n:Nat)(x:Int)(l:List Int):LR :=
 ⟨if x=Ba s n then ⟨s.st.vals,s.st.reads.set n l,s.st.cols.set n 0⟩ else ⟨s.st.vals.set n x,s.st.reads.set n l,CA (s.st.reads.set n l) (s.st.cols.set n 0) n⟩,s.ran++[(n:Int)]⟩
def Cy (c:Int->LR->LR)(n:Nat)(l:List Int)(s:LR):LR:=l.foldl (fun t k=>if AL t n=1 then c k t else t) s
def Cr (c:Int->LR->LR)(n:Nat)(s:LR):LR :=
 if AL s n=1 then (if AL (Cy c n (Co s n) s) n=1 then KM (Cy c n (Co s n) s) n 0 else Cy c n (Co s n) s) else s
def GM (g:Ae)(c:Int->LR->LR)(n:Nat)(s:LR):Int × (List Int × LR):=Je (g.getD n default).f (fun t k=>Ba (c k t) k.toNat) (fun t k=>c k t) s
noncomputable def AI (g:Ae):Nat->Int->LR->LR
 | 0,_,s=>s
 | f+1,n,s =>
  if AL (Cr (AI g f) n.toNat s) n.toNat=2 then
   Eo (GM g (AI g f) n.toNat (Cr (AI g f) n.toNat s)).2.2 n.toNat (GM g (AI g f) n.toNat (Cr (AI g f) n.toNat s)).1 (GM g (AI g f) n.toNat (Cr (AI g f) n.toNat s)).2.1
  else Cr (AI g f) n.toNat s
theorem Jf (r:List Int):FZ r=true↔r.Nodup:=by
 unfold FZ;rw[List.all_eq_true,List.nodup_iff_pairwise_ne,List.pairwise_iff_getElem];constructor
 ·intro h i j hi hj hij e;have:=h j (List.mem_range.2 hj);rw[decide_eq_true_eq,List.getD_eq_getElem?_getD,List.getElem?_eq_getElem hj] at this;refine this ?_;rw[List.mem_take_iff_getElem];exact⟨i,by omega,e⟩
 ·intro h k hk;have hk:=List.mem_range.1 hk;rw[decide_eq_true_eq,List.getD_eq_getElem?_getD,List.getElem?_eq_getElem hk];intro hm;rw[List.mem_take_iff_getElem] at hm;obtain⟨i,hi,e⟩:=hm;exact h i k (by omega) hk (by omega) e
theorem Rg {l:List Int}(x:Int)(h:l.Nodup):(C5 l x).Nodup:=by
 unfold C5;split
 ·exact h
 ·rename_i hx
  rw[List.nodup_append];refine⟨h,by simp,fun a ha b hb=>?_⟩;simp only[List.mem_singleton] at hb;subst hb;exact fun e=>hx (e ▸ ha)
theorem KN (l out:List Int)(h:out.Nodup):(l.foldl C5 out).Nodup:=by
 induction l generalizing out with
 | nil=>exact h
 | cons x l ih=>rw[List.foldl_cons];exact ih _ (Rg x h)
theorem LH (l:List Int):(AU l).Nodup:=KN l [] List.nodup_nil
structure SM (g:Ae) (st:BC) (i:Nat) (n:BV):Prop where
 cell:n.kind=0->st.cols.getD i 0=0/\st.reads.getD i []=[]
 form:n.kind≠0->(st.cols.getD i 0=2/\(∀ x ∈ st.reads.getD i [],x ∈ AX n.f)/\(st.reads.getD i []).Nodup) \/
  (st.cols.getD i 0=1/\AJ n.f st.vals=(st.vals.getD i 0,st.reads.getD i [])) \/
  (st.cols.getD i 0=0/\AJ n.f st.vals=(st.vals.getD i 0,st.reads.getD i [])/\∀ x ∈ st.reads.getD i [],st.cols.getD x.toNat 0=0)
theorem PE {g:Ae}{st:BC}{i:Nat}{n:BV}(hn:g[i]? = some n):Df g st i=true↔SM g st i n:=by
 have hd:=Bk hn default
 have hr:CL g st.vals st.reads i=true↔(n.kind≠0->AJ n.f st.vals=(st.vals.getD i 0,st.reads.getD i []))/\(n.kind=0->st.reads.getD i []=[]):=by
  constructor
  ·intro h;exact⟨fun h0=>Ic hn h0 h,fun h0=>IK hn h0 h⟩
  ·rintro ⟨h1,h2⟩;exact Mc hn h2 h1
 unfold Df;rw[hd];dsimp only;by_cases h0:n.kind=0
 ·rw[if_pos h0];simp only[Bool.and_eq_true,decide_eq_true_eq,List.isEmpty_iff];exact⟨fun h=>⟨fun _=>h,fun h1=>absurd h0 h1⟩,fun h=>h.cell h0⟩
 ·rw[if_neg h0];constructor
  ·intro h;refine⟨fun h1=>absurd h1 h0,fun _=>?_⟩;split at h
   ·rename_i h2
    simp only[Bool.and_eq_true,List.all_eq_true,decide_eq_true_eq] at h;exact .inl ⟨h2,h.1,(Jf _).1 h.2⟩
   ·split at h
    ·rename_i h1
     exact .inr (.inl ⟨h1,(hr.1 h).1 h0⟩)
    ·split at h
     ·rename_i h1
      simp only[Bool.and_eq_true,List.all_eq_true] at h;exact .inr (.inr ⟨h1,(hr.1 h.1).1 h0,fun x hx=>by have:=h.2 x hx;unfold rd at this;simpa using this⟩)
     ·cases h
  ·intro h;rcases h.form h0 with ⟨h2,hm,hd⟩ | ⟨h1,hR⟩ | ⟨h1,hR,hc⟩
   ·rw[if_pos h2];simp only[Bool.and_eq_true,List.all_eq_true,decide_eq_true_eq];exact⟨hm,(Jf _).2 hd⟩
   ·rw[if_neg (by omega),if_pos h1];exact hr.2 ⟨fun _=>hR,fun h=>absurd h h0⟩
   ·rw[if_neg (by omega),if_neg (by omega),if_pos h1];simp only[Bool.and_eq_true,List.all_eq_true];exact⟨hr.2 ⟨fun _=>hR,fun h=>absurd h h0⟩,fun x hx=>by have:=hc x hx;unfold rd;simpa using this⟩
theorem BT {g:Ae}{st:BC}:AM g st=true↔(AG g=true/\st.vals.length=g.length/\st.reads.length=g.length/\st.cols.length=g.length/\C8 st.vals=true)/\∀ i n,g[i]? = some n->SM g st i n:=by
 constructor
 ·intro h;refine⟨AN h,fun i n hn=>(PE hn).1 ?_⟩;unfold AM at h;simp only[Bool.and_eq_true,List.all_eq_true,List.mem_range] at h;exact h.2 i (List.getElem?_eq_some_iff.1 hn).1
 ·rintro ⟨⟨h1,h2,h3,h4,h5⟩,h⟩;unfold AM Dq;simp only[Bool.and_eq_true,decide_eq_true_eq,List.all_eq_true,List.mem_range];exact⟨⟨⟨⟨⟨h1,h2⟩,h3⟩,h4⟩,h5⟩,fun i hi=>(PE (List.getElem?_eq_getElem hi)).2 (h i _ (List.getElem?_eq_getElem hi))⟩
theorem Jz {g:Ae}(hG:AG g=true){i:Nat}{n:BV}(hn:g[i]? = some n)(h0:n.kind≠0)(v:List Int):(∀ x ∈ (AJ n.f v).2,x ∈ AX n.f)/\(AJ n.f v).2.Nodup:=by
 refine⟨fun x hx=>?_,LH _⟩;unfold AJ at hx;obtain⟨p,hp,h1,rfl⟩:=Md _ _ _ _ _ ((FN _ _).1 hx);have hi:=(List.getElem?_eq_some_iff.1 hn).1;have hg:=Dh hG i hi;unfold Ck at hg;rw[Bk hn] at hg;dsimp only at hg;rw[if_neg h0] at hg;split at hg
 ·simp only[Bool.and_eq_true] at hg;exact FX hg.1 hp h1
 ·cases hg
theorem J0 {g:Ae}(hG:AG g=true){i:Nat}{n:BV}(hn:g[i]? = some n)(h0:n.kind≠0){x:Int}(hx:x ∈ AX n.f):0<=x/\x<(i:Int):=by
 have hi:=(List.getElem?_eq_some_iff.1 hn).1;refine⟨(Ek hx).1,?_⟩;have hg:=Dh hG i hi;unfold Ck at hg;rw[Bk hn] at hg;dsimp only at hg;rw[if_neg h0] at hg;split at hg
 ·simp only[Bool.and_eq_true] at hg;have hgr:=hg.2;unfold Du at hgr;rw[Bk hn,List.all_eq_true] at hgr;have:=hgr x hx;unfold Ci at this;simp only[Bool.and_eq_true,decide_eq_true_eq] at this;exact this.1
 ·cases hg
theorem SM.may {g:Ae}{st:BC}{i:Nat}{n:BV}(hG:AG g=true)(hn:g[i]? = some n)(h:SM g st i n)(h0:n.kind≠0):(∀ x ∈ st.reads.getD i [],x ∈ AX n.f)/\(st.reads.getD i []).Nodup:=by
 rcases h.form h0 with ⟨_,h1,h2⟩ | ⟨_,hR⟩ | ⟨_,hR,_⟩
 ·exact⟨h1,h2⟩
 ·have:=Jz hG hn h0 st.vals;rw[hR] at this;exact this
 ·have:=Jz hG hn h0 st.vals;rw[hR] at this;exact this
theorem TD {g:Ae}{st:BC}(h:AM g st=true){m i:Nat}(w:Fp st.reads m i)(hc:st.cols.getD i 0=0):st.cols.getD m 0=0:=by
 have hA:=C7 h;obtain⟨hs,hC⟩:=BT.1 h
 have key:∀ (i:Nat) (x:Int),st.cols.getD i 0=0->x ∈ st.reads.getD i []->st.cols.getD x.toNat 0=0:=by
  intro i x hc hx;have hi:i<g.length:=by have:=DE hx;omega
  have hn:g[i]? = some g[i]:=List.getElem?_eq_getElem hi;have hk:=hC i _ hn;by_cases h0:g[i].kind=0
  ·rw[(hk.cell h0).2] at hx;cases hx
  ·rcases hk.form h0 with ⟨h2,_⟩ | ⟨h2,_⟩ | ⟨_,_,h2⟩
   ·omega
   ·omega
   ·exact h2 x hx
 induction w with
 | one hx=>exact key _ _ hc hx
 | more _ hx ih=>exact ih (key _ _ hc hx)
theorem Fc {α:Type}(l:List α)(i j:Nat)(x d:α)(h:i<l.length):(l.set i x).getD j d=if j=i then x else l.getD j d:=by
 by_cases e:j=i
 ·subst e;rw[if_pos rfl,List.getD_eq_getElem?_getD,List.getElem?_set_self h];rfl
 ·rw[if_neg e,List.getD_eq_getElem?_getD,List.getElem?_set_ne (fun h=>e h.symm),<- List.getD_eq_getElem?_getD]
open Classical in
theorem Id (r:List (List Int))(c:List Int)(n i:Nat)(hi:i<c.length):(CA r c n).getD i 0=if Fp r n i then (if (n:Int) ∈ r.getD i [] then 2 else if c.getD i 0=0 then 1 else c.getD i 0) else c.getD i 0:=by
 have e:c.getD i 0=c[i]:=by rw[List.getD_eq_getElem?_getD,List.getElem?_eq_getElem hi];rfl
 rw[e,List.getD_eq_getElem?_getD,CA,DG,List.getElem?_eq_getElem hi];simp[hi]
theorem VT {r:List (List Int)}{n i:Nat}{l:List Int}(hA:EH (r.set n l))(hB:EH r):Fp (r.set n l) n i↔Fp r n i:=by
 have e:∀ j,n<j->(r.set n l).getD j []=r.getD j []:=fun j hj=>by
  rw[List.getD_eq_getElem?_getD,List.getElem?_set_ne (by omega),<- List.getD_eq_getElem?_getD]
 constructor
 ·intro h;induction h with
  | one hx=>rw[e _ (by have:=(hA _ _ hx).2;omega)] at hx;exact .one hx
  | more w hx ih=>rw[e _ (by have:=w.lt hA;have:=(hA _ _ hx).2;omega)] at hx;exact .more ih hx
 ·intro h;induction h with
  | one hx=>rw[<- e _ (by have:=(hB _ _ hx).2;omega)] at hx;exact .one hx
  | more w hx ih=>rw[<- e _ (by have:=w.lt hB;have:=(hB _ _ hx).2;omega)] at hx;exact .more ih hx
structure AW (g:Ae) (N:Nat->Prop) (s s':LR):Prop where
 ok:AM g s'.st=true
 keep:∀ j,j<g.length->AL s j=0->AL s' j=0/\Ba s' j=Ba s j/\Co s' j=Co s j
 stay:∀ j,j<g.length->AL s' j≠0->Ba s' j=Ba s j/\Co s' j=Co s j
 two:∀ j,j<g.length->AL s j=2->AL s' j=2\/AL s' j=0
 fin:∀ j,j<g.length->AL s j≠0->AL s' j=0->N j
 dirt:∀ j,j<g.length->AL s' j=2->AL s j=2\/∃ y ∈ Co s j,Ba s' y.toNat≠Ba s y.toNat
 ran:∃ l:List Int,s'.ran=s.ran++l/\l.Nodup/\∀ x ∈ l,∃ j:Nat,x=j/\j<g.length/\N j/\AL s j≠0/\AL s' j=0/\(AL s j=2\/∃ y ∈ Co s j,Ba s' y.toNat≠Ba s y.toNat)
theorem AW.refl {g:Ae}{N:Nat->Prop}{s:LR}(h:AM g s.st=true):AW g N s s :=
 ⟨h,fun _ _ h=>⟨h,rfl,rfl⟩,fun _ _ _=>⟨rfl,rfl⟩,fun _ _ h=>.inl h,fun _ _ h k=>absurd k h,fun _ _ h=>.inl h,[],by simp,List.nodup_nil,by simp⟩
theorem AW.mono {g:Ae}{N N':Nat->Prop}{s s':LR}(h:AW g N s s')(hN:∀ j,N j->N' j):AW g N' s s' :=
 ⟨h.ok,h.keep,h.stay,h.two,fun j hj a b=>hN _ (h.fin j hj a b),h.dirt,by
  obtain⟨l,h1,h2,h3⟩:=h.ran;exact⟨l,h1,h2,fun x hx=>by obtain⟨j,e,a,b,c⟩:=h3 x hx;exact⟨j,e,a,hN _ b,c⟩⟩⟩
theorem Rh {g:Ae}{s:LR}(h:AM g s.st=true){j:Nat}{y:Int}(hy:y ∈ Co s j):y.toNat<g.length/\0<=y/\y<(j:Int):=by
 have hA:=C7 h j y hy;have hs:=AN h;have:=DE hy;omega
theorem AW.trans {g:Ae}{N:Nat->Prop}{s t u:LR}(hs:AM g s.st=true)(h:AW g N s t)(k:AW g N t u):AW g N s u:=by
 have held:∀ y,y<g.length->Ba t y≠Ba s y->Ba u y≠Ba s y:=by
  intro y hy hne;have hc:AL t y=0:=Decidable.byContradiction fun hc=>hne (h.stay y hy hc).1;rw[(k.keep y hy hc).2.1];exact hne
 have later:∀ y,y<g.length->Ba u y≠Ba t y->Ba u y≠Ba s y:=by
  intro y hy hne;have hc:AL t y≠0:=fun hc=>hne (k.keep y hy hc).2.1;rw[<- (h.stay y hy hc).1];exact hne
 have why:∀ j,j<g.length->AL t j≠0->(AL t j=2\/∃ y ∈ Co t j,Ba u y.toNat≠Ba t y.toNat)->AL s j=2\/∃ y ∈ Co s j,Ba u y.toNat≠Ba s y.toNat:=by
  intro j hj hc hw;rcases hw with h2 | ⟨y,hy,hne⟩
  ·rcases h.dirt j hj h2 with h3 | ⟨y,hy,hne⟩
   ·exact .inl h3
   ·exact .inr ⟨y,hy,held _ (Rh hs hy).1 hne⟩
  ·rw[(h.stay j hj hc).2] at hy;exact .inr ⟨y,hy,later _ (Rh hs hy).1 hne⟩
 refine⟨k.ok,fun j hj hc=>?_,fun j hj hc=>?_,fun j hj h2=>?_,fun j hj h1 h2=>?_,fun j hj h2=>?_,?_⟩
 ·obtain⟨a1,a2,a3⟩:=h.keep j hj hc;obtain⟨b1,b2,b3⟩:=k.keep j hj a1;exact⟨b1,b2.trans a2,b3.trans a3⟩
 ·have hct:AL t j≠0:=fun e=>hc (k.keep j hj e).1;obtain⟨a1,a2⟩:=h.stay j hj hct;obtain⟨b1,b2⟩:=k.stay j hj hc;exact⟨b1.trans a1,b2.trans a2⟩
 ·rcases h.two j hj h2 with h3 | h3
  ·exact k.two j hj h3
  ·exact .inr (k.keep j hj h3).1
 ·by_cases hc:AL t j=0
  ·exact h.fin j hj h1 hc
  ·exact k.fin j hj hc h2
 ·rcases k.dirt j hj h2 with h3 | h3
  ·exact why j hj (by omega) (.inl h3)
  ·have hct:AL t j≠0:=fun e=>by have:=(k.keep j hj e).1;omega
   exact why j hj hct (.inr h3)
 ·obtain⟨l1,e1,n1,f1⟩:=h.ran;obtain⟨l2,e2,n2,f2⟩:=k.ran;refine⟨l1++l2,by rw[e2,e1,List.append_assoc],?_,fun x hx=>?_⟩
  ·rw[List.nodup_append];refine⟨n1,n2,fun a ha b hb e=>?_⟩;subst e;obtain⟨j,hj,hjl,_,_,hc,_⟩:=f1 a ha;obtain⟨j',hj',_,_,hc',_⟩:=f2 a hb;have:j=j':=by omega
   subst this;exact hc' hc
  ·rcases List.mem_append.1 hx with hx | hx
   ·obtain⟨j,e,hj,hN,hc,hc',hw⟩:=f1 x hx;refine⟨j,e,hj,hN,hc,(k.keep j hj hc').1,hw.imp id ?_⟩;rintro ⟨y,hy,hne⟩;exact⟨y,hy,held _ (Rh hs hy).1 hne⟩
   ·obtain⟨j,e,hj,hN,hc,hc',hw⟩:=f2 x hx;exact⟨j,e,hj,hN,fun e0=>hc (h.keep j hj e0).1,hc',why j hj hc hw⟩
inductive Ik (g:Ae) (n:Nat):Nat->Prop
 | self:Ik g n n
 | more {m k:Nat}:Ik g n m->(k:Int) ∈ AX (g.getD m default).f->Ik g n k
theorem Ik.trans {g:Ae}{a b c:Nat}(h:Ik g a b)(k:Ik g b c):Ik g a c:=by
 induction k with
 | self=>exact h
 | more _ hx ih=>exact .more ih hx
theorem UM {g:Ae}(hG:AG g=true){i:Nat}{x:Int}(hi:i<g.length)(hx:x ∈ AX (g.getD i default).f):0<=x/\x<(i:Int):=by
 have hn:g[i]? = some g[i]:=List.getElem?_eq_getElem hi;rw[Bk hn] at hx;by_cases h0:g[i].kind=0
 ·have hg:=Dh hG i hi;unfold Ck at hg;rw[Bk hn] at hg;dsimp only at hg;rw[if_pos h0] at hg;have hf:g[i].f=[]:=by simpa using hg
  rw[hf] at hx;simp[AX,Dj] at hx
 ·exact J0 hG hn h0 hx
theorem Ik.le {g:Ae}(hG:AG g=true){n i:Nat}(hn:n<g.length)(h:Ik g n i):i<=n:=by
 induction h with
 | self=>exact Nat.le_refl _
 | @more m k h hx ih=>have:=UM hG (by omega:m<g.length) hx;omega
theorem PF {g:Ae}{s:LR}{n:Nat}{nd:BV}(h:AM g s.st=true)(hn:g[n]? = some nd)(h1:AL s n=1)(hr:∀ x ∈ Co s n,AL s x.toNat=0):AW g (fun j=>j=n) s (KM s n 0):=by
 obtain⟨hs,hC⟩:=BT.1 h;have hil:=(List.getElem?_eq_some_iff.1 hn).1;have hcl:n<s.st.cols.length:=by omega
 have hcol:∀ j,(s.st.cols.set n 0).getD j 0=if j=n then 0 else s.st.cols.getD j 0:=fun j=>Fc _ _ _ _ _ hcl
 have hc0:∀ j,s.st.cols.getD j 0=0->(s.st.cols.set n 0).getD j 0=0:=fun j e=>by rw[hcol];split;rfl;exact e
 unfold AL at h1 hr;unfold Co at hr;refine⟨BT.2 ⟨⟨hs.1,hs.2.1,hs.2.2.1,by simp[KM,hs.2.2.2.1],hs.2.2.2.2⟩,fun i m hm=>?_⟩,fun j hj hc=>⟨hc0 j hc,rfl,rfl⟩,fun j hj hc=>⟨rfl,rfl⟩,fun j hj h2=>?_,fun j hj h2 h3=>?_,fun j hj h2=>.inl ?_,[],by simp[KM],List.nodup_nil,by simp⟩
 ·have hk:=hC i m hm;refine⟨fun h0=>⟨hc0 _ (hk.cell h0).1,(hk.cell h0).2⟩,fun h0=>?_⟩;show ((s.st.cols.set n 0).getD i 0=2/\_)\/((s.st.cols.set n 0).getD i 0=1/\_)\/((s.st.cols.set n 0).getD i 0=0/\AJ m.f s.st.vals=(s.st.vals.getD i 0,s.st.reads.getD i [])/\∀ x ∈ s.st.reads.getD i [],(s.st.cols.set n 0).getD x.toNat 0=0);by_cases e:i=n
  ·subst e;rw[hn] at hm;injection hm with hm;subst hm;rcases hk.form h0 with ⟨h2,_⟩ | ⟨_,hR⟩ | ⟨h2,_⟩
   ·omega
   ·exact .inr (.inr ⟨by rw[hcol,if_pos rfl],hR,fun x hx=>hc0 _ (hr x hx)⟩)
   ·omega
  ·rw[hcol,if_neg e];rcases hk.form h0 with h2 | h2 | ⟨h2,hR,hx⟩
   ·exact .inl h2
   ·exact .inr (.inl h2)
   ·exact .inr (.inr ⟨h2,hR,fun x hx'=>hc0 _ (hx x hx')⟩)
 ·show (s.st.cols.set n 0).getD j 0=2\/(s.st.cols.set n 0).getD j 0=0;rw[hcol];split
  ·exact .inr rfl
  ·exact .inl h2
 ·have h4:(s.st.cols.set n 0).getD j 0=0:=h3;rw[hcol] at h4;split at h4
  ·assumption
  ·exact absurd h4 h2
 ·have h4:(s.st.cols.set n 0).getD j 0=2:=h2;rw[hcol] at h4;split at h4
  ·omega
  ·exact h4
theorem PG {g:Ae}{s:LR}{n:Nat}{nd:BV}(h:AM g s.st=true)(hn:g[n]? = some nd)(h2:AL s n=2)(hr:∀ x ∈ (AJ nd.f s.st.vals).2,AL s x.toNat=0) :
  AW g (fun j=>j=n) s (Eo s n (AJ nd.f s.st.vals).1 (AJ nd.f s.st.vals).2)/\AL (Eo s n (AJ nd.f s.st.vals).1 (AJ nd.f s.st.vals).2) n=0:=by
 obtain⟨hs,hC⟩:=BT.1 h;have hA:=C7 h;have hil:=(List.getElem?_eq_some_iff.1 hn).1;have hk0:nd.kind≠0:=fun h0=>by have:=((hC n nd hn).cell h0).1;unfold AL at h2;omega
 have hok:=Bo hs.1 n hn hk0;have hmay:=Jz hs.1 hn hk0 s.st.vals;have hx0:=J1 hok (Cc hs.2.2.2.2);unfold AL at h2 hr;generalize hX:(AJ nd.f s.st.vals).1=x at *;generalize hL:(AJ nd.f s.st.vals).2=l at *;have hrun:AJ nd.f s.st.vals=(x,l):=Prod.ext hX hL;have hlt:∀ y ∈ l,0<=y/\y<(n:Int):=fun y hy=>J0 hs.1 hn hk0 (hmay.1 y hy);have hrl:n<s.st.reads.length:=by omega
 have hcl:n<s.st.cols.length:=by omega
 have hvl:n<s.st.vals.length:=by omega
 have hcol:∀ j,(s.st.cols.set n 0).getD j 0=if j=n then 0 else s.st.cols.getD j 0:=fun j=>Fc _ _ _ _ _ hcl
 have hrd:∀ j,(s.st.reads.set n l).getD j []=if j=n then l else s.st.reads.getD j []:=fun j=>Fc _ _ _ _ _ hrl
 have hA':EH (s.st.reads.set n l):=by
  intro k y hy;rw[hrd] at hy;split at hy
  ·rename_i e;subst e;exact hlt y hy
  ·exact hA k y hy
 have hself:¬ Fp (s.st.reads.set n l) n n:=fun w=>by have:=w.lt hA';omega
 by_cases hxv:x=Ba s n
 ·have hst:Eo s n x l=⟨⟨s.st.vals,s.st.reads.set n l,s.st.cols.set n 0⟩,s.ran++[(n:Int)]⟩:=by unfold Eo;rw[if_pos hxv]
  rw[hst];have hc0:∀ j,s.st.cols.getD j 0=0->(s.st.cols.set n 0).getD j 0=0:=fun j e=>by rw[hcol];split;rfl;exact e
  refine⟨⟨BT.2 ⟨⟨hs.1,hs.2.1,by simp[hs.2.2.1],by simp[hs.2.2.2.1],hs.2.2.2.2⟩,fun i m hm=>?_⟩,fun j hj hc=>?_,fun j hj hc=>?_,fun j hj h3=>?_,fun j hj h3 h4=>?_,fun j hj h3=>.inl ?_,[(n:Int)],rfl,by simp,fun y hy=>?_⟩,?_⟩
  ·have hk:=hC i m hm;refine⟨fun h0=>⟨hc0 _ (hk.cell h0).1,?_⟩,fun h0=>?_⟩
   ·show (s.st.reads.set n l).getD i []=[];rw[hrd,if_neg (fun e=>by subst e;rw[hn] at hm;injection hm with hm;subst hm;exact hk0 h0)];exact(hk.cell h0).2
   ·show ((s.st.cols.set n 0).getD i 0=2/\(∀ x ∈ (s.st.reads.set n l).getD i [],x ∈ AX m.f)/\((s.st.reads.set n l).getD i []).Nodup)\/((s.st.cols.set n 0).getD i 0=1/\AJ m.f s.st.vals=(s.st.vals.getD i 0,(s.st.reads.set n l).getD i [])) \/
     ((s.st.cols.set n 0).getD i 0=0/\AJ m.f s.st.vals=(s.st.vals.getD i 0,(s.st.reads.set n l).getD i [])/\∀ x ∈ (s.st.reads.set n l).getD i [],(s.st.cols.set n 0).getD x.toNat 0=0)
    rw[hcol,hrd];by_cases e:i=n
    ·subst e;rw[hn] at hm;injection hm with hm;subst hm;rw[if_pos rfl,if_pos rfl];exact .inr (.inr ⟨rfl,by rw[hrun,hxv];rfl,fun y hy=>hc0 _ (hr y hy)⟩)
    ·rw[if_neg e,if_neg e];rcases hk.form h0 with h3 | h3 | ⟨h3,hR,hx⟩
     ·exact .inl h3
     ·exact .inr (.inl h3)
     ·exact .inr (.inr ⟨h3,hR,fun y hy=>hc0 _ (hx y hy)⟩)
  ·unfold AL at hc;have e:j≠n:=fun e=>by subst e;omega
   exact⟨hc0 j hc,rfl,by show (s.st.reads.set n l).getD j []=s.st.reads.getD j [];rw[hrd,if_neg e]⟩
  ·have e:j≠n:=fun e=>by subst e;exact hc (by show (s.st.cols.set j 0).getD j 0=0;rw[hcol,if_pos rfl])
   exact⟨rfl,by show (s.st.reads.set n l).getD j []=s.st.reads.getD j [];rw[hrd,if_neg e]⟩
  ·show (s.st.cols.set n 0).getD j 0=2\/(s.st.cols.set n 0).getD j 0=0;rw[hcol];split
   ·exact .inr rfl
   ·exact .inl h3
  ·have h5:(s.st.cols.set n 0).getD j 0=0:=h4;rw[hcol] at h5;split at h5
   ·assumption
   ·exact absurd h5 h3
  ·have h5:(s.st.cols.set n 0).getD j 0=2:=h3;rw[hcol] at h5;split at h5
   ·omega
   ·exact h5
  ·simp only[List.mem_singleton] at hy;subst hy;refine⟨n,rfl,hil,rfl,by unfold AL;omega,?_,.inl h2⟩;show (s.st.cols.set n 0).getD n 0=0;rw[hcol,if_pos rfl]
  ·show (s.st.cols.set n 0).getD n 0=0;rw[hcol,if_pos rfl]
 ·have hst:Eo s n x l=⟨⟨s.st.vals.set n x,s.st.reads.set n l,CA (s.st.reads.set n l) (s.st.cols.set n 0) n⟩,s.ran++[(n:Int)]⟩:=by unfold Eo;rw[if_neg hxv]
  rw[hst];have hval:∀ j,(s.st.vals.set n x).getD j 0=if j=n then x else s.st.vals.getD j 0:=fun j=>Fc _ _ _ _ _ hvl
  have hsp:∀ j,j<g.length->(CA (s.st.reads.set n l) (s.st.cols.set n 0) n).getD j 0=open Classical in if Fp s.st.reads n j then (if (n:Int) ∈ s.st.reads.getD j [] then 2 else if s.st.cols.getD j 0=0 then 1 else s.st.cols.getD j 0) else if j=n then 0 else s.st.cols.getD j 0:=by
   intro j hj;rw[Id _ _ _ _ (by simp;omega)];have hw:=VT (n:=n) (i:=j) hA' hA;by_cases w:Fp s.st.reads n j
   ·have e:j≠n:=fun e=>by have:=w.lt hA;omega
    rw[if_pos (hw.2 w),if_pos w,hrd,if_neg e,hcol,if_neg e]
   ·rw[if_neg (fun h=>w (hw.1 h)),if_neg w,hcol]
  have hnn:¬ Fp s.st.reads n n:=fun w=>by have:=w.lt hA;omega
  have hclean:∀ j,s.st.cols.getD j 0=0->¬ Fp s.st.reads n j:=fun j hc w=>by have:=TD h w hc;omega
  have hkeepV:∀ (m:BV) (i:Nat),g[i]? = some m->m.kind≠0->(n:Int) ∉ (AJ m.f s.st.vals).2->AJ m.f (s.st.vals.set n x)=AJ m.f s.st.vals:=by
   intro m i hm h0 hni;symm
   refine Iv fun y hy=>?_;have hy2:=J0 hs.1 hm h0 ((Jz hs.1 hm h0 s.st.vals).1 y hy);unfold rd;rw[hval,if_neg (fun e=>hni (by rw[<- e,Int.toNat_of_nonneg hy2.1];exact hy))]
  refine⟨⟨BT.2 ⟨⟨hs.1,by simp[hs.2.1],by simp[hs.2.2.1],by simp[hs.2.2.2.1],?_⟩,fun i m hm=>?_⟩,fun j hj hc=>?_,fun j hj hc=>?_,fun j hj h3=>?_,fun j hj h3 h4=>?_,fun j hj h3=>?_,[(n:Int)],rfl,by simp,fun y hy=>?_⟩,?_⟩
  ·refine JA fun y hy=>?_;rcases List.mem_or_eq_of_mem_set hy with hy | rfl
   ·exact Cc hs.2.2.2.2 y hy
   ·exact hx0
  ·have hk:=hC i m hm;have hig:=(List.getElem?_eq_some_iff.1 hm).1;refine⟨fun h0=>?_,fun h0=>?_⟩
   ·have e:i≠n:=fun e=>by subst e;rw[hn] at hm;injection hm with hm;subst hm;exact hk0 h0
    have hc:=hk.cell h0;refine⟨?_,?_⟩
    ·show (CA (s.st.reads.set n l) (s.st.cols.set n 0) n).getD i 0=0;rw[hsp i hig,if_neg (hclean i hc.1),if_neg e];exact hc.1
    ·show (s.st.reads.set n l).getD i []=[];rw[hrd,if_neg e];exact hc.2
   ·show ((CA (s.st.reads.set n l) (s.st.cols.set n 0) n).getD i 0=2/\(∀ x ∈ (s.st.reads.set n l).getD i [],x ∈ AX m.f)/\((s.st.reads.set n l).getD i []).Nodup) \/
     ((CA (s.st.reads.set n l) (s.st.cols.set n 0) n).getD i 0=1/\AJ m.f (s.st.vals.set n x)=((s.st.vals.set n x).getD i 0,(s.st.reads.set n l).getD i [])) \/
     ((CA (s.st.reads.set n l) (s.st.cols.set n 0) n).getD i 0=0/\AJ m.f (s.st.vals.set n x)=((s.st.vals.set n x).getD i 0,(s.st.reads.set n l).getD i [])/\∀ y ∈ (s.st.reads.set n l).getD i [],(CA (s.st.reads.set n l) (s.st.cols.set n 0) n).getD y.toNat 0=0)
    rw[hsp i hig,hrd,hval];by_cases e:i=n
    ·subst e;rw[hn] at hm;injection hm with hm;subst hm;rw[if_neg hnn,if_pos rfl,if_pos rfl,if_pos rfl];refine .inr (.inr ⟨rfl,?_,fun y hy=>?_⟩)
     ·rw[GL hok (b:=s.st.vals) (fun j hj=>by rw[hval,if_neg (by omega)]),hrun]
     ·have hy2:=hlt y hy;have hyg:y.toNat<g.length:=by omega
      rw[hsp _ hyg,if_neg (fun w=>by have:=w.lt hA;omega),if_neg (by omega)];exact hr y hy
    ·simp only[if_neg e];by_cases hin:(n:Int) ∈ s.st.reads.getD i []
     ·rw[if_pos (.one hin),if_pos hin];exact .inl ⟨rfl,hk.may hs.1 hm h0⟩
     ·have hR2:AJ m.f s.st.vals=(s.st.vals.getD i 0,s.st.reads.getD i [])->AJ m.f (s.st.vals.set n x)=(s.st.vals.getD i 0,s.st.reads.getD i []):=fun hR=>by
       rw[hkeepV m i hm h0 (by rw[hR];exact hin),hR]
      by_cases w:Fp s.st.reads n i
      ·rw[if_pos w,if_neg hin];rcases hk.form h0 with ⟨h3,h4⟩ | ⟨h3,hR⟩ | ⟨h3,hR,_⟩
       ·rw[if_neg (by omega)];exact .inl ⟨h3,h4⟩
       ·rw[if_neg (by omega)];exact .inr (.inl ⟨h3,hR2 hR⟩)
       ·rw[if_pos h3];exact .inr (.inl ⟨rfl,hR2 hR⟩)
      ·rw[if_neg w];rcases hk.form h0 with h3 | ⟨h3,hR⟩ | ⟨h3,hR,hx⟩
       ·exact .inl h3
       ·exact .inr (.inl ⟨h3,hR2 hR⟩)
       ·refine .inr (.inr ⟨h3,hR2 hR,fun y hy=>?_⟩);have hy2:=hA i y hy;have hyn:y.toNat≠n:=fun e2=>hin (by rw[<- e2,Int.toNat_of_nonneg hy2.1];exact hy);rw[hsp _ (by omega),if_neg (fun w2=>w (.more w2 (by rw[Int.toNat_of_nonneg hy2.1];exact hy))),if_neg hyn];exact hx y hy
  ·unfold AL at hc;have e:j≠n:=fun e=>by subst e;omega
   refine⟨?_,?_,?_⟩
   ·show (CA (s.st.reads.set n l) (s.st.cols.set n 0) n).getD j 0=0;rw[hsp j hj,if_neg (hclean j hc),if_neg e];exact hc
   ·show (s.st.vals.set n x).getD j 0=s.st.vals.getD j 0;rw[hval,if_neg e]
   ·show (s.st.reads.set n l).getD j []=s.st.reads.getD j [];rw[hrd,if_neg e]
  ·have e:j≠n:=fun e=>by
    subst e;refine hc ?_;show (CA (s.st.reads.set j l) (s.st.cols.set j 0) j).getD j 0=0;rw[hsp j hj,if_neg hnn,if_pos rfl]
   refine⟨?_,?_⟩
   ·show (s.st.vals.set n x).getD j 0=s.st.vals.getD j 0;rw[hval,if_neg e]
   ·show (s.st.reads.set n l).getD j []=s.st.reads.getD j [];rw[hrd,if_neg e]
  ·unfold AL at h3;show (CA (s.st.reads.set n l) (s.st.cols.set n 0) n).getD j 0=2\/(CA (s.st.reads.set n l) (s.st.cols.set n 0) n).getD j 0=0;rw[hsp j hj];by_cases w:Fp s.st.reads n j
   ·rw[if_pos w];split
    ·exact .inl rfl
    ·rw[if_neg (by omega)];exact .inl h3
   ·rw[if_neg w];split
    ·exact .inr rfl
    ·exact .inl h3
  ·have h5:(CA (s.st.reads.set n l) (s.st.cols.set n 0) n).getD j 0=0:=h4;rw[hsp j hj] at h5;unfold AL at h3;by_cases w:Fp s.st.reads n j
   ·rw[if_pos w] at h5;split at h5
    ·omega
    ·exact absurd h5 h3
   ·rw[if_neg w] at h5;split at h5
    ·assumption
    ·exact absurd h5 h3
  ·have h5:(CA (s.st.reads.set n l) (s.st.cols.set n 0) n).getD j 0=2:=h3;rw[hsp j hj] at h5;by_cases w:Fp s.st.reads n j
   ·rw[if_pos w] at h5;split at h5
    ·rename_i hin
     refine .inr ⟨(n:Int),hin,?_⟩;show (s.st.vals.set n x).getD (n:Int).toNat 0≠s.st.vals.getD (n:Int).toNat 0;rw[Int.toNat_natCast,hval,if_pos rfl];exact hxv
    ·split at h5
     ·omega
     ·exact .inl h5
   ·rw[if_neg w] at h5;split at h5
    ·omega
    ·exact .inl h5
  ·simp only[List.mem_singleton] at hy;subst hy;refine⟨n,rfl,hil,rfl,by unfold AL;omega,?_,.inl h2⟩;show (CA (s.st.reads.set n l) (s.st.cols.set n 0) n).getD n 0=0;rw[hsp n hil,if_neg hnn,if_pos rfl]
  ·show (CA (s.st.reads.set n l) (s.st.cols.set n 0) n).getD n 0=0;rw[hsp n hil,if_neg hnn,if_pos rfl]
def IL (g:Ae)(c:Int->LR->LR)(b:Nat):Prop:=∀ (k:Nat) (s:LR),k<b->k<g.length->AM g s.st=true->AW g (Ik g k) s (c k s)/\AL (c k s) k=0
theorem L6 (c:Int->LR->LR)(n:Nat)(l:List Int)(s:LR)(h:AL s n≠1):Cy c n l s=s:=by
 unfold Cy;induction l with
 | nil=>rfl
 | cons k l ih=>rw[List.foldl_cons,if_neg h];exact ih
theorem Ri (c:Int->LR->LR)(n:Nat)(k:Int)(l:List Int)(s:LR)(h:AL s n=1):Cy c n (k :: l) s=Cy c n l (c k s):=by
 unfold Cy;rw[List.foldl_cons,if_pos h]
theorem Il {g:Ae}{c:Int->LR->LR}{n:Nat}(hn:n<g.length)(hc:IL g c n)(l:List Int)(hl:∀ x ∈ l,0<=x/\x<(n:Int))(s:LR)(hs:AM g s.st=true)(N:Nat->Prop)(hN:∀ (k j:Nat),(k:Int) ∈ l->Ik g k j->N j) :
  AW g N s (Cy c n l s)/\(AL (Cy c n l s) n=1->∀ x ∈ l,AL (Cy c n l s) x.toNat=0):=by
 induction l generalizing s with
 | nil=>exact⟨AW.refl hs,by simp⟩
 | cons x l ih =>
  by_cases h1:AL s n=1
  ·rw[Ri c n x l s h1];have hx:=hl x (by simp);obtain⟨k,rfl⟩:=Int.eq_ofNat_of_zero_le hx.1;obtain⟨a1,a2⟩:=hc k s (by omega) (by omega) hs;have a3:=a1.mono (fun j hj=>hN k j (by simp) hj);obtain⟨b1,b2⟩:=ih (fun y hy=>hl y (by simp[hy])) (c k s) a1.ok (fun k' j hk hj=>hN k' j (by simp[hk]) hj);refine⟨AW.trans hs a3 b1,fun e y hy=>?_⟩;rcases List.mem_cons.1 hy with rfl | hy
   ·rw[Int.toNat_natCast];exact(b1.keep k (by omega) a2).1
   ·exact b2 e y hy
  ·rw[L6 c n _ s h1];exact⟨AW.refl hs,fun e=>absurd e h1⟩
theorem GO {g:Ae}{c:Int->LR->LR}{n:Nat}{nd:BV}(hn:g[n]? = some nd)(hc:IL g c n)(s:LR)(hs:AM g s.st=true) :
  AW g (Ik g n) s (Cr c n s)/\(AL (Cr c n s) n=0\/AL (Cr c n s) n=2):=by
 have hil:=(List.getElem?_eq_some_iff.1 hn).1;obtain⟨hsh,hC⟩:=BT.1 hs
 have hrange:∀ t:LR,AM g t.st=true->AL t n=0\/AL t n=1\/AL t n=2:=by
  intro t ht;have hk:=(BT.1 ht).2 n nd hn;by_cases h0:nd.kind=0
  ·exact .inl (hk.cell h0).1
  ·rcases hk.form h0 with h | h | h
   ·exact .inr (.inr h.1)
   ·exact .inr (.inl h.1)
   ·exact .inl h.1
 unfold Cr;by_cases h1:AL s n=1
 ·rw[if_pos h1];have hk:=hC n nd hn;have hk0:nd.kind≠0:=fun h0=>by have:=(hk.cell h0).1;unfold AL at h1;omega
  have hmay:=hk.may hsh.1 hn hk0;have hd:=Bk hn default;obtain⟨a1,a2⟩:=Il hil hc (Co s n) (fun x hx=>C7 hs n x hx) s hs (Ik g n) (fun k j hk hj=>(Ik.more .self (by rw[hd];exact hmay.1 _ hk)).trans hj);generalize ht:Cy c n (Co s n) s=t at *;by_cases h2:AL t n=1
  ·rw[if_pos h2];have hsame:=(a1.stay n hil (by omega)).2;have b:=PF a1.ok hn h2 (fun x hx=>a2 h2 x (by rw[<- hsame];exact hx));refine⟨AW.trans hs a1 (b.mono (fun j e=>by subst e;exact .self)),.inl ?_⟩;have hcl:=(AN a1.ok).2.2.2.1;show (t.st.cols.set n 0).getD n 0=0;rw[Fc _ _ _ _ _ (by omega),if_pos rfl]
  ·rw[if_neg h2];refine⟨a1,?_⟩;rcases hrange t a1.ok with h | h | h
   ·exact .inl h
   ·exact absurd h h2
   ·exact .inr h
 ·rw[if_neg h1];refine⟨AW.refl hs,?_⟩;rcases hrange s hs with h | h | h
  ·exact .inl h
  ·exact absurd h h1
  ·exact .inr h
theorem zr0{p:Prop}(h:p:=by
 rcases List.mem_append.1 hz with hz | hz
 ·have:=hmem _ _ _ z hz;exact(b1.keep z.toNat (by omega) (a4 z hz)).1
 ·exact b4 z hz):p:=h
theorem Nm {g:Ae}{c:Int->LR->LR}{n:Nat}(hn:n<g.length)(hc:IL g c n)(N:Nat->Prop){f:List At}(hf:∀ p ∈ f,p.kind=1->(0<=p.n/\p.n<(n:Int))/\∀ j,Ik g p.n.toNat j->N j) :
  ∀ (m:Nat) (i:Int) (l:List Int) (s:LR),AM g s.st=true ->
   AW g N s (Ct f (fun (t:List Int × LR) k=>Ba (c k t.2) k.toNat) (fun t k=>(C5 t.1 k,c k t.2)) m i (l,s)).2.2 /\
   (Ct f (fun (t:List Int × LR) k=>Ba (c k t.2) k.toNat) (fun t k=>(C5 t.1 k,c k t.2)) m i (l,s)).1=(Cq f (Ct f (fun (t:List Int × LR) k=>Ba (c k t.2) k.toNat) (fun t k=>(C5 t.1 k,c k t.2)) m i (l,s)).2.2.st.vals m i).1 /\
   (Ct f (fun (t:List Int × LR) k=>Ba (c k t.2) k.toNat) (fun t k=>(C5 t.1 k,c k t.2)) m i (l,s)).2.1=(Cq f (Ct f (fun (t:List Int × LR) k=>Ba (c k t.2) k.toNat) (fun t k=>(C5 t.1 k,c k t.2)) m i (l,s)).2.2.st.vals m i).2.foldl C5 l /\
   ∀ x ∈ (Cq f (Ct f (fun (t:List Int × LR) k=>Ba (c k t.2) k.toNat) (fun t k=>(C5 t.1 k,c k t.2)) m i (l,s)).2.2.st.vals m i).2,AL (Ct f (fun (t:List Int × LR) k=>Ba (c k t.2) k.toNat) (fun t k=>(C5 t.1 k,c k t.2)) m i (l,s)).2.2 x.toNat=0:=by
 have hmem:∀ (v:List Int) (m:Nat) (i:Int) (x:Int),x ∈ (Cq f v m i).2->0<=x/\x<(n:Int):=fun v m i x hx=>by
  obtain⟨p,hp,h1,rfl⟩:=Md f v m i x hx;exact(hf p hp h1).1
 have same:∀ (t u:LR) (m:Nat) (i:Int),AW g N t u->(∀ x ∈ (Cq f t.st.vals m i).2,AL t x.toNat=0)->Cq f t.st.vals m i=Cq f u.st.vals m i:=fun t u m i h hcl=>by
  refine NQ f _ _ m i fun x hx=>?_;have hx2:=hmem _ _ _ x hx;have:=(h.keep x.toNat (by omega) (hcl x hx)).2.1;unfold Ba at this;unfold rd;exact this.symm
 intro m;induction m with
 | zero=>intro i l s hs;exact⟨AW.refl hs,by first | rfl | trivial,by first | rfl | trivial,by intro x hx;cases hx⟩
 | succ m ih =>
  intro i l s hs;simp only[Ct,Cq];by_cases h0:(f.getD i.toNat default).kind=0
  ·simp only[if_pos h0];exact⟨AW.refl hs,by first | rfl | trivial,by first | rfl | trivial,by intro x hx;cases hx⟩
  ·simp only[if_neg h0];by_cases h1:(f.getD i.toNat default).kind=1
   ·simp only[if_pos h1];obtain⟨hr,hN⟩:=hf _ (Ma h1) h1;generalize (f.getD i.toNat default).n=x at *;obtain⟨k,rfl⟩:=Int.eq_ofNat_of_zero_le hr.1;rw[Int.toNat_natCast] at hN;obtain⟨a1,a2⟩:=hc k s (by omega) (by omega) hs;refine⟨a1.mono hN,by first | rfl | trivial,by first | rfl | trivial,fun y hy=>?_⟩;simp only[List.mem_singleton] at hy;subst hy;exact a2
   ·simp only[if_neg h1];obtain⟨a1,a2,a3,a4⟩:=ih (f.getD i.toNat default).a l s hs;generalize hR:Ct f (fun (t:List Int × LR) k=>Ba (c k t.2) k.toNat) (fun t k=>(C5 t.1 k,c k t.2)) m (f.getD i.toNat default).a (l,s)=R at *;obtain⟨x,l1,t⟩:=R;dsimp only at a1 a2 a3 a4 ⊢;by_cases h8:(f.getD i.toNat default).kind=8
    ·simp only[if_pos h8];generalize hJ:(if x=0 then (f.getD i.toNat default).c else (f.getD i.toNat default).b)=j;obtain⟨b1,b2,b3,b4⟩:=ih j l1 t a1.ok;generalize Ct f (fun (t:List Int × LR) k=>Ba (c k t.2) k.toNat) (fun t k=>(C5 t.1 k,c k t.2)) m j (l1,t)=U at *;obtain⟨y,l2,u⟩:=U;dsimp only at b1 b2 b3 b4 ⊢;have e:=same t u m _ b1 a4;rw[<- e,<- a2,hJ];refine⟨AW.trans hs a1 b1,b2,?_,fun z hz=>?_⟩
     ·rw[List.foldl_append,<- a3];exact b3
     ·exact zr0
    ·simp only[if_neg h8];obtain⟨b1,b2,b3,b4⟩:=ih (f.getD i.toNat default).b l1 t a1.ok;generalize Ct f (fun (t:List Int × LR) k=>Ba (c k t.2) k.toNat) (fun t k=>(C5 t.1 k,c k t.2)) m (f.getD i.toNat default).b (l1,t)=U at *;obtain⟨y,l2,u⟩:=U;dsimp only at b1 b2 b3 b4 ⊢;have e:=same t u m _ b1 a4;rw[<- e,<- a2,b2];refine⟨AW.trans hs a1 b1,by first | rfl | trivial,?_,fun z hz=>?_⟩
     ·rw[List.foldl_append,<- a3];exact b3
     ·exact zr0
theorem IM {g:Ae}{c:Int->LR->LR}{n:Nat}{nd:BV}(hG:AG g=true)(hn:g[n]? = some nd)(h0:nd.kind≠0)(hc:IL g c n)(s:LR)(hs:AM g s.st=true) :
  AW g (fun j=>Ik g n j/\j<n) s (GM g c n s).2.2/\(GM g c n s).1=(AJ nd.f (GM g c n s).2.2.st.vals).1/\(GM g c n s).2.1=(AJ nd.f (GM g c n s).2.2.st.vals).2/\∀ x ∈ (AJ nd.f (GM g c n s).2.2.st.vals).2,AL (GM g c n s).2.2 x.toNat=0:=by
 have hil:=(List.getElem?_eq_some_iff.1 hn).1;have hd:=Bk hn default;have hgn:=Dh hG n hil
 have hV:AR nd.f=true:=by
  unfold Ck at hgn;rw[hd] at hgn;dsimp only at hgn;rw[if_neg h0] at hgn;split at hgn
  ·simp only[Bool.and_eq_true] at hgn;exact hgn.1
  ·cases hgn
 have:=Nm hil hc (fun j=>Ik g n j/\j<n) (f:=nd.f) (fun p hp h1=>by
  have hm:=FX hV hp h1;have hr:=J0 hG hn h0 hm;refine⟨hr,fun j hj=>⟨(Ik.more .self (by rw[hd,Int.toNat_of_nonneg hr.1];exact hm)).trans hj,?_⟩⟩;have:=Ik.le hG (by omega) hj;omega) nd.f.length ((nd.f.length:Int) - 1) [] s hs
 unfold GM Je;rw[hd];obtain⟨a1,a2,a3,a4⟩:=this;exact⟨a1,a2,a3,fun x hx=>a4 x ((FN _ _).1 hx)⟩
theorem Fd {g:Ae}(hG:AG g=true)(f:Nat):IL g (AI g f) f:=by
 induction f with
 | zero=>intro k s hk;omega
 | succ f ih =>
  intro k s hk hkg hs;have hn:g[k]? = some g[k]:=List.getElem?_eq_getElem hkg;generalize g[k]=nd at hn;have hc:IL g (AI g f) k:=fun j t hj hjg ht=>ih j t (by omega) hjg ht;obtain⟨a1,a2⟩:=GO hn hc s hs;simp only[AI,Int.toNat_natCast];generalize ht:Cr (AI g f) k s=t at *;by_cases h2:AL t k=2
  ·rw[if_pos h2];have h0:nd.kind≠0:=fun h0=>by have:=(((BT.1 a1.ok).2 k nd hn).cell h0).1;unfold AL at h2;omega
   obtain⟨b1,b2,b3,b4⟩:=IM hG hn h0 hc t a1.ok;generalize GM g (AI g f) k t=R at *;obtain⟨x,l,u⟩:=R;dsimp only at b1 b2 b3 b4 ⊢
   have hu2:AL u k=2:=by
    rcases b1.two k hkg h2 with h | h
    ·exact h
    ·have:=(b1.fin k hkg (by omega) h).2;omega
   obtain⟨c1,c2⟩:=PG b1.ok hn hu2 b4;rw[b2,b3];exact⟨AW.trans hs a1 (AW.trans a1.ok (b1.mono (fun j hj=>hj.1)) (c1.mono (fun j e=>by subst e;exact .self))),c2⟩
  ·rw[if_neg h2];exact⟨a1,a2.elim id (fun h=>absurd h h2)⟩
theorem AW.ran_len {g:Ae}{N:Nat->Prop}{s s':LR}(h:AW g N s s'):s'.ran.length<=s.ran.length+g.length:=by
 obtain⟨l,h1,h2,h3⟩:=h.ran;rw[h1,List.length_append]
 have key:∀ (n:Nat) (l:List Int),l.Nodup->(∀ x ∈ l,0<=x/\x<(n:Int))->l.length<=n:=by
  intro n;induction n with
  | zero =>
   intro l _ hb;cases l with
   | nil=>simp
   | cons x l=>have:=hb x (by simp);omega
  | succ n ih =>
   intro l hn hb
   have h1:=ih (l.erase (n:Int)) (hn.erase _) (fun x hx=>by
    have hm:=(hn.mem_erase_iff).1 hx;have:=hb x hm.2;have:x≠(n:Int):=hm.1;omega)
   have:l.length<=(l.erase (n:Int)).length+1:=by
    rw[List.length_erase];split <;> omega
   omega
 have:=key g.length l h2 (fun x hx=>by obtain⟨j,rfl,hj,_⟩:=h3 x hx;omega);omega
structure LI (g:Ae) (r:List (List Int)):Prop where
 rd:∀ k,k<g.length->∀ x ∈ r.getD k [],0<=x/\x<(k:Int)
 le:∀ l ∈ r,l.length<=4096
theorem LI.of {g:Ae}{st:BZ}(h:Dv g st=true):LI g st.reads:=by
 obtain⟨hG,hv,hr,hn,hR⟩:=Bb h
 have key:∀ k,k<g.length->st.reads.getD k []=Cf g st.vals k:=by
  intro k hk;obtain⟨n,hi⟩:∃ n,g[k]? = some n:=⟨_,List.getElem?_eq_getElem hk⟩;unfold Cf;rw[Bk hi];by_cases h0:n.kind=0
  ·rw[if_pos h0,IK hi h0 (hR k hk)]
  ·rw[if_neg h0,Ic hi h0 (hR k hk)]
 refine⟨fun k hk x hx=>?_,fun l hl=>?_⟩
 ·rw[key k hk] at hx;exact GB hG hk hx
 ·obtain⟨i,hi⟩:=List.getElem?_of_mem hl;have hil:i<g.length:=by have:=(List.getElem?_eq_some_iff.1 hi).1;omega
  have h1:=key i hil;have h2:st.reads.getD i []=l:=by simp[hi]
  rw[<- h2,h1];exact KO hG _ hil
theorem LI.put {g:Ae}{r:List (List Int)}(hG:AG g=true)(h:LI g r)(v:List Int){i:Nat}{n:BV}(hn:g[i]? = some n)(h0:n.kind≠0):LI g (r.set i (AJ n.f v).2):=by
 have hi:=(List.getElem?_eq_some_iff.1 hn).1;have hd:Cf g v i=(AJ n.f v).2:=by unfold Cf;rw[Bk hn,if_neg h0]
 refine⟨fun k hk x hx=>?_,fun l hl=>?_⟩
 ·by_cases hki:k=i
  ·subst hki;by_cases hkr:k<r.length
   ·rw[List.getD_eq_getElem?_getD,List.getElem?_set_self hkr] at hx;exact GB hG hk (by rw[hd];exact hx)
   ·rw[List.getD_eq_getElem?_getD,List.getElem?_eq_none (by simp;omega)] at hx;cases hx
  ·rw[List.getD_eq_getElem?_getD,List.getElem?_set_ne (fun e=>hki e.symm),<- List.getD_eq_getElem?_getD] at hx;exact h.rd k hk x hx
 ·rcases List.mem_or_eq_of_mem_set hl with hl | rfl
  ·exact h.le l hl
  ·rw[<- hd];exact KO hG _ hi
theorem Iw {g:Ae}{s:Nn}{i:Nat}{n:BV}(hn:g[i]? = some n)(h:n.kind=0\/UA s (s.reads.getD i [])=false):Jg g s i=s:=by
 unfold Jg;rw[Bk hn,if_neg];rcases h with h | h
 ·simp[h]
 ·rw[h];simp
theorem KP {g:Ae}{s:Nn}{i:Nat}{n:BV}(hn:g[i]? = some n)(h0:n.kind≠0)(h:UA s (s.reads.getD i [])=true) :
  Jg g s i=⟨s.vals.set i (AJ n.f s.vals).1,s.reads.set i (AJ n.f s.vals).2,s.ch.set i ((AJ n.f s.vals).1 != s.vals.getD i 0),s.ran++[(i:Int)]⟩:=by
 unfold Jg;rw[Bk hn,if_pos (by rw[h];simp[h0])]
def Cs (g:Ae)(l:List Int):BC:=⟨l,List.replicate g.length [],g.map fun n=>if n.kind=0 then 0 else 2⟩
theorem La {g:Ae}{l:List Int}{i:Nat}{n:BV}(hn:g[i]? = some n):(Cs g l).cols.getD i 0=if n.kind=0 then 0 else 2:=by
 unfold Cs;rw[List.getD_eq_getElem?_getD,List.getElem?_map,hn];rfl
theorem IN (g:Ae)(l:List Int)(i:Nat):(Cs g l).reads.getD i []=[]:=by
 unfold Cs;rw[List.getD_eq_getElem?_getD,List.getElem?_replicate];split <;> rfl
theorem Oz {g:Ae}{l:List Int}(h:AT g l=true):l.length=g.length/\C8 l=true:=by
 have hl:=Cu h;refine⟨hl,JA ?_⟩;exact CX h
theorem Kh {g:Ae}{l:List Int}(hG:AG g=true)(hC:AT g l=true):AM g (Cs g l)=true:=by
 obtain⟨hl,hr⟩:=Oz hC;refine BT.2 ⟨⟨hG,hl,by simp[Cs],by simp[Cs],hr⟩,fun i n hn=>⟨fun h0=>⟨?_,IN g l i⟩,fun h0=>.inl ⟨?_,?_,?_⟩⟩⟩
 ·rw[La hn,if_pos h0]
 ·rw[La hn,if_neg h0]
 ·rw[IN];intro x hx;cases hx
 ·rw[IN];exact List.nodup_nil
theorem Rj {l:List Int}(h:C8 l=true){n:Nat}{x:Int}(hx:0<=x/\x<=999):C8 (l.set n x)=true:=by
 refine JA fun y hy=>?_;rcases List.mem_or_eq_of_mem_set hy with hy | rfl
 ·exact Cc h y hy
 ·exact hx
theorem Rk {r:List (List Int)}{n i:Nat}(h:r.getD i []=[]):¬ Fp r n i:=by
 intro w;rcases w.last with h1 | ⟨m,_,h1⟩
 ·rw[h] at h1;cases h1
 ·rw[h] at h1;cases h1
theorem Ki {g:Ae}{st:BC}{n:Nat}{x:Int}(h:AM g st=true)(hc:BA g n=true)(hx:0<=x/\x<=999):AM g (Ca st n x)=true:=by
 unfold Ca;split
 ·exact h
 ·obtain⟨⟨hG,hvl,hrl,hcl,hv⟩,hC⟩:=BT.1 h;obtain⟨k,nd,hk,hnd,hkd⟩:=Fx hc;obtain rfl:n=k:=by omega
  have hn:=(List.getElem?_eq_some_iff.1 hnd).1;have hA:=C7 h;have hn0:=((hC n nd hnd).cell hkd).1;refine BT.2 ⟨⟨hG,by simpa using hvl,hrl,by simpa using hcl,Rj hv hx⟩,fun i m hi=>?_⟩;have hil:=(List.getElem?_eq_some_iff.1 hi).1;have hk:=hC i m hi;have hcol:=Id st.reads st.cols n i (by omega);have hval:i≠n->(st.vals.set n x).getD i 0=st.vals.getD i 0:=fun e=>by rw[Fc _ _ _ _ _ (by omega),if_neg e]
  refine⟨fun h0=>?_,fun h0=>?_⟩
  ·obtain⟨h1,h2⟩:=hk.cell h0;dsimp only;rw[hcol,if_neg (Rk h2)];exact⟨h1,h2⟩
  ·have hin:i≠n:=fun e=>by subst e;rw[hnd] at hi;injection hi with hi;subst hi;exact h0 hkd
   dsimp only;rw[hcol,hval hin]
   have run:(n:Int) ∉ st.reads.getD i []->AJ m.f st.vals=(st.vals.getD i 0,st.reads.getD i [])->AJ m.f (st.vals.set n x)=(st.vals.getD i 0,st.reads.getD i []):=fun hno hR=>by
    rw[<- hR];refine(Iv fun y hy=>?_).symm;rw[hR] at hy;have hya:=hA i y hy;unfold rd;rw[Fc _ _ _ _ _ (by omega),if_neg];intro e;exact hno (by rw[show (n:Int)=y by omega];exact hy)
   by_cases hd:(n:Int) ∈ st.reads.getD i []
   ·rw[if_pos (.one hd),if_pos hd];have:=hk.may hG hi h0;exact .inl ⟨rfl,this.1,this.2⟩
   ·by_cases hw:Fp st.reads n i
    ·rw[if_pos hw,if_neg hd];rcases hk.form h0 with ⟨h2,h3⟩ | ⟨h2,h3⟩ | ⟨h2,h3,_⟩
     ·rw[if_neg (by omega)];exact .inl ⟨h2,h3⟩
     ·rw[if_neg (by omega)];exact .inr (.inl ⟨h2,run hd h3⟩)
     ·rw[if_pos h2];exact .inr (.inl ⟨rfl,run hd h3⟩)
    ·rw[if_neg hw];rcases hk.form h0 with h2 | ⟨h2,h3⟩ | ⟨h2,h3,h4⟩
     ·exact .inl h2
     ·exact .inr (.inl ⟨h2,run hd h3⟩)
     ·refine .inr (.inr ⟨h2,run hd h3,fun y hy=>?_⟩);have hya:=hA i y hy;rw[Id _ _ _ _ (by omega),if_neg]
      ·exact h4 y hy
      ·intro w;exact hw (.more w (by rw[show ((y.toNat:Nat):Int)=y by omega];exact hy))
end Sg
