/- Parts of one proof, joined. The plain model of making lazy nodes clean: what it does, and what it keeps, and more. Conditions: in the theorems. -/
import Derived.Test.YthibllkleakiiaaGreatDoorFactsAll
namespace Sg
structure LR where
 st:Bv
 ran:List Int
def AN (s:LR)(n:Nat):Int:=s.st.cols.getD n 0
def Ba (s:LR)(n:Nat):Int:=s.st.vals.getD n 0
def Ci (s:LR)(n:Nat):List Int:=s.st.reads.getD n []
def Kd (s:LR)(n:Nat)(x:Int):LR:=⟨⟨s.st.vals,s.st.reads,s.st.cols.set n x⟩,s.ran⟩
noncomputable def Ef (s:LR)(n:Nat)(x:Int)(l:List Int):LR :=
 ⟨if x=Ba s n then ⟨s.st.vals,s.st.reads.set n l,s.st.cols.set n 0⟩ else ⟨s.st.vals.set n x,s.st.reads.set n l,Cs (s.st.reads.set n l) (s.st.cols.set n 0) n⟩,s.ran++[(n:Int)]⟩
def Cq (c:Int->LR->LR)(n:Nat)(l:List Int)(s:LR):LR:=l.foldl (fun t k=>if AN t n=1 then c k t else t) s
def Ck (c:Int->LR->LR)(n:Nat)(s:LR):LR :=
 if AN s n=1 then (if AN (Cq c n (Ci s n) s) n=1 then Kd (Cq c n (Ci s n) s) n 0 else Cq c n (Ci s n) s) else s
def Gt (g:Ae)(c:Int->LR->LR)(n:Nat)(s:LR):Int × (List Int × LR):=II (g.getD n default).f (fun t k=>Ba (c k t) k.toNat) (fun t k=>c k t) s
noncomputable def AI (g:Ae):Nat->Int->LR->LR
 | 0,_,s=>s
 | f+1,n,s =>
  if AN (Ck (AI g f) n.toNat s) n.toNat=2 then
   Ef (Gt g (AI g f) n.toNat (Ck (AI g f) n.toNat s)).2.2 n.toNat (Gt g (AI g f) n.toNat (Ck (AI g f) n.toNat s)).1 (Gt g (AI g f) n.toNat (Ck (AI g f) n.toNat s)).2.1
  else Ck (AI g f) n.toNat s
theorem IJ (r:List Int):FD r=true↔r.Nodup:=by
 unfold FD;rw[List.all_eq_true,List.nodup_iff_pairwise_ne,List.pairwise_iff_getElem];constructor
 ·intro h i j hi hj hij e;have:=h j (List.mem_range.2 hj);rw[decide_eq_true_eq,List.getD_eq_getElem?_getD,List.getElem?_eq_getElem hj] at this;refine this ?_;rw[List.mem_take_iff_getElem];exact⟨i,by omega,e⟩
 ·intro h k hk;have hk:=List.mem_range.1 hk;rw[decide_eq_true_eq,List.getD_eq_getElem?_getD,List.getElem?_eq_getElem hk];intro hm;rw[List.mem_take_iff_getElem] at hm;obtain⟨i,hi,e⟩:=hm;exact h i k (by omega) hk (by omega) e
theorem PX {l:List Int}(x:Int)(h:l.Nodup):(CT l x).Nodup:=by
 unfold CT;split
 ·exact h
 ·rename_i hx
  rw[List.nodup_append];refine⟨h,by simp,fun a ha b hb=>?_⟩;simp only[List.mem_singleton] at hb;subst hb;exact fun e=>hx (e ▸ ha)
theorem Ke (l out:List Int)(h:out.Nodup):(l.foldl CT out).Nodup:=by
 induction l generalizing out with
 | nil=>exact h
 | cons x l ih=>rw[List.foldl_cons];exact ih _ (PX x h)
theorem K2 (l:List Int):(AV l).Nodup:=Ke l [] List.nodup_nil
structure Ro (g:Ae) (st:Bv) (i:Nat) (n:BQ):Prop where
 cell:n.kind=0->st.cols.getD i 0=0/\st.reads.getD i []=[]
 form:n.kind≠0->(st.cols.getD i 0=2/\(∀ x ∈ st.reads.getD i [],x ∈ AY n.f)/\(st.reads.getD i []).Nodup) \/
  (st.cols.getD i 0=1/\AK n.f st.vals=(st.vals.getD i 0,st.reads.getD i [])) \/
  (st.cols.getD i 0=0/\AK n.f st.vals=(st.vals.getD i 0,st.reads.getD i [])/\∀ x ∈ st.reads.getD i [],st.cols.getD x.toNat 0=0)
theorem Oe {g:Ae}{st:Bv}{i:Nat}{n:BQ}(hn:g[i]? = some n):C5 g st i=true↔Ro g st i n:=by
 have hd:=Bi hn default
 have hr:CD g st.vals st.reads i=true↔(n.kind≠0->AK n.f st.vals=(st.vals.getD i 0,st.reads.getD i []))/\(n.kind=0->st.reads.getD i []=[]):=by
  constructor
  ·intro h;exact⟨fun h0=>GT hn h0 h,fun h0=>Ij hn h0 h⟩
  ·rintro ⟨h1,h2⟩;exact Lv hn h2 h1
 unfold C5;rw[hd];dsimp only;by_cases h0:n.kind=0
 ·rw[if_pos h0];simp only[Bool.and_eq_true,decide_eq_true_eq,List.isEmpty_iff];exact⟨fun h=>⟨fun _=>h,fun h1=>absurd h0 h1⟩,fun h=>h.cell h0⟩
 ·rw[if_neg h0];constructor
  ·intro h;refine⟨fun h1=>absurd h1 h0,fun _=>?_⟩;split at h
   ·rename_i h2
    simp only[Bool.and_eq_true,List.all_eq_true,decide_eq_true_eq] at h;exact .inl ⟨h2,h.1,(IJ _).1 h.2⟩
   ·split at h
    ·rename_i h1
     exact .inr (.inl ⟨h1,(hr.1 h).1 h0⟩)
    ·split at h
     ·rename_i h1
      simp only[Bool.and_eq_true,List.all_eq_true] at h;exact .inr (.inr ⟨h1,(hr.1 h.1).1 h0,fun x hx=>by have:=h.2 x hx;unfold rd at this;simpa using this⟩)
     ·cases h
  ·intro h;rcases h.form h0 with ⟨h2,hm,hd⟩ | ⟨h1,hR⟩ | ⟨h1,hR,hc⟩
   ·rw[if_pos h2];simp only[Bool.and_eq_true,List.all_eq_true,decide_eq_true_eq];exact⟨hm,(IJ _).2 hd⟩
   ·rw[if_neg (by omega),if_pos h1];exact hr.2 ⟨fun _=>hR,fun h=>absurd h h0⟩
   ·rw[if_neg (by omega),if_neg (by omega),if_pos h1];simp only[Bool.and_eq_true,List.all_eq_true];exact⟨hr.2 ⟨fun _=>hR,fun h=>absurd h h0⟩,fun x hx=>by have:=hc x hx;unfold rd;simpa using this⟩
theorem BH {g:Ae}{st:Bv}:AO g st=true↔(AG g=true/\st.vals.length=g.length/\st.reads.length=g.length/\st.cols.length=g.length/\CX st.vals=true)/\∀ i n,g[i]? = some n->Ro g st i n:=by
 constructor
 ·intro h;refine⟨AP h,fun i n hn=>(Oe hn).1 ?_⟩;unfold AO at h;simp only[Bool.and_eq_true,List.all_eq_true,List.mem_range] at h;exact h.2 i (List.getElem?_eq_some_iff.1 hn).1
 ·rintro ⟨⟨h1,h2,h3,h4,h5⟩,h⟩;unfold AO Dc;simp only[Bool.and_eq_true,decide_eq_true_eq,List.all_eq_true,List.mem_range];exact⟨⟨⟨⟨⟨h1,h2⟩,h3⟩,h4⟩,h5⟩,fun i hi=>(Oe (List.getElem?_eq_getElem hi)).2 (h i _ (List.getElem?_eq_getElem hi))⟩
theorem I8 {g:Ae}(hG:AG g=true){i:Nat}{n:BQ}(hn:g[i]? = some n)(h0:n.kind≠0)(v:List Int):(∀ x ∈ (AK n.f v).2,x ∈ AY n.f)/\(AK n.f v).2.Nodup:=by
 refine⟨fun x hx=>?_,K2 _⟩;unfold AK at hx;obtain⟨p,hp,h1,rfl⟩:=Lw _ _ _ _ _ ((Ft _ _).1 hx);have hi:=(List.getElem?_eq_some_iff.1 hn).1;have hg:=C7 hG i hi;unfold Ce at hg;rw[Bi hn] at hg;dsimp only at hg;rw[if_neg h0] at hg;split at hg
 ·simp only[Bool.and_eq_true] at hg;exact FB hg.1 hp h1
 ·cases hg
theorem Ju {g:Ae}(hG:AG g=true){i:Nat}{n:BQ}(hn:g[i]? = some n)(h0:n.kind≠0){x:Int}(hx:x ∈ AY n.f):0<=x/\x<(i:Int):=by
 have hi:=(List.getElem?_eq_some_iff.1 hn).1;refine⟨(D_ hx).1,?_⟩;have hg:=C7 hG i hi;unfold Ce at hg;rw[Bi hn] at hg;dsimp only at hg;rw[if_neg h0] at hg;split at hg
 ·simp only[Bool.and_eq_true] at hg;have hgr:=hg.2;unfold Dh at hgr;rw[Bi hn,List.all_eq_true] at hgr;have:=hgr x hx;unfold Cd at this;simp only[Bool.and_eq_true,decide_eq_true_eq] at this;exact this.1
 ·cases hg
theorem Ro.may {g:Ae}{st:Bv}{i:Nat}{n:BQ}(hG:AG g=true)(hn:g[i]? = some n)(h:Ro g st i n)(h0:n.kind≠0):(∀ x ∈ st.reads.getD i [],x ∈ AY n.f)/\(st.reads.getD i []).Nodup:=by
 rcases h.form h0 with ⟨_,h1,h2⟩ | ⟨_,hR⟩ | ⟨_,hR,_⟩
 ·exact⟨h1,h2⟩
 ·have:=I8 hG hn h0 st.vals;rw[hR] at this;exact this
 ·have:=I8 hG hn h0 st.vals;rw[hR] at this;exact this
theorem R8 {g:Ae}{st:Bv}(h:AO g st=true){m i:Nat}(w:Fc st.reads m i)(hc:st.cols.getD i 0=0):st.cols.getD m 0=0:=by
 have hA:=CW h;obtain⟨hs,hC⟩:=BH.1 h
 have key:∀ (i:Nat) (x:Int),st.cols.getD i 0=0->x ∈ st.reads.getD i []->st.cols.getD x.toNat 0=0:=by
  intro i x hc hx;have hi:i<g.length:=by have:=Ds hx;omega
  have hn:g[i]? = some g[i]:=List.getElem?_eq_getElem hi;have hk:=hC i _ hn;by_cases h0:g[i].kind=0
  ·rw[(hk.cell h0).2] at hx;cases hx
  ·rcases hk.form h0 with ⟨h2,_⟩ | ⟨h2,_⟩ | ⟨_,_,h2⟩
   ·omega
   ·omega
   ·exact h2 x hx
 induction w with
 | one hx=>exact key _ _ hc hx
 | more _ hx ih=>exact ih (key _ _ hc hx)
theorem EM {α:Type}(l:List α)(i j:Nat)(x d:α)(h:i<l.length):(l.set i x).getD j d=if j=i then x else l.getD j d:=by
 by_cases e:j=i
 ·subst e;rw[if_pos rfl,List.getD_eq_getElem?_getD,List.getElem?_set_self h];rfl
 ·rw[if_neg e,List.getD_eq_getElem?_getD,List.getElem?_set_ne (fun h=>e h.symm),<- List.getD_eq_getElem?_getD]
open Classical in
theorem GU (r:List (List Int))(c:List Int)(n i:Nat)(hi:i<c.length):(Cs r c n).getD i 0=if Fc r n i then (if (n:Int) ∈ r.getD i [] then 2 else if c.getD i 0=0 then 1 else c.getD i 0) else c.getD i 0:=by
 have e:c.getD i 0=c[i]:=by rw[List.getD_eq_getElem?_getD,List.getElem?_eq_getElem hi];rfl
 rw[e,List.getD_eq_getElem?_getD,Cs,Du,List.getElem?_eq_getElem hi];simp[hi]
theorem Uw {r:List (List Int)}{n i:Nat}{l:List Int}(hA:Eu (r.set n l))(hB:Eu r):Fc (r.set n l) n i↔Fc r n i:=by
 have e:∀ j,n<j->(r.set n l).getD j []=r.getD j []:=fun j hj=>by
  rw[List.getD_eq_getElem?_getD,List.getElem?_set_ne (by omega),<- List.getD_eq_getElem?_getD]
 constructor
 ·intro h;induction h with
  | one hx=>rw[e _ (by have:=(hA _ _ hx).2;omega)] at hx;exact .one hx
  | more w hx ih=>rw[e _ (by have:=w.lt hA;have:=(hA _ _ hx).2;omega)] at hx;exact .more ih hx
 ·intro h;induction h with
  | one hx=>rw[<- e _ (by have:=(hB _ _ hx).2;omega)] at hx;exact .one hx
  | more w hx ih=>rw[<- e _ (by have:=w.lt hB;have:=(hB _ _ hx).2;omega)] at hx;exact .more ih hx
structure AX (g:Ae) (N:Nat->Prop) (s s':LR):Prop where
 ok:AO g s'.st=true
 keep:∀ j,j<g.length->AN s j=0->AN s' j=0/\Ba s' j=Ba s j/\Ci s' j=Ci s j
 stay:∀ j,j<g.length->AN s' j≠0->Ba s' j=Ba s j/\Ci s' j=Ci s j
 two:∀ j,j<g.length->AN s j=2->AN s' j=2\/AN s' j=0
 fin:∀ j,j<g.length->AN s j≠0->AN s' j=0->N j
 dirt:∀ j,j<g.length->AN s' j=2->AN s j=2\/∃ y ∈ Ci s j,Ba s' y.toNat≠Ba s y.toNat
 ran:∃ l:List Int,s'.ran=s.ran++l/\l.Nodup/\∀ x ∈ l,∃ j:Nat,x=j/\j<g.length/\N j/\AN s j≠0/\AN s' j=0/\(AN s j=2\/∃ y ∈ Ci s j,Ba s' y.toNat≠Ba s y.toNat)
theorem AX.refl {g:Ae}{N:Nat->Prop}{s:LR}(h:AO g s.st=true):AX g N s s :=
 ⟨h,fun _ _ h=>⟨h,rfl,rfl⟩,fun _ _ _=>⟨rfl,rfl⟩,fun _ _ h=>.inl h,fun _ _ h k=>absurd k h,fun _ _ h=>.inl h,[],by simp,List.nodup_nil,by simp⟩
theorem AX.mono {g:Ae}{N N':Nat->Prop}{s s':LR}(h:AX g N s s')(hN:∀ j,N j->N' j):AX g N' s s' :=
 ⟨h.ok,h.keep,h.stay,h.two,fun j hj a b=>hN _ (h.fin j hj a b),h.dirt,by
  obtain⟨l,h1,h2,h3⟩:=h.ran;exact⟨l,h1,h2,fun x hx=>by obtain⟨j,e,a,b,c⟩:=h3 x hx;exact⟨j,e,a,hN _ b,c⟩⟩⟩
theorem PY {g:Ae}{s:LR}(h:AO g s.st=true){j:Nat}{y:Int}(hy:y ∈ Ci s j):y.toNat<g.length/\0<=y/\y<(j:Int):=by
 have hA:=CW h j y hy;have hs:=AP h;have:=Ds hy;omega
theorem AX.trans {g:Ae}{N:Nat->Prop}{s t u:LR}(hs:AO g s.st=true)(h:AX g N s t)(k:AX g N t u):AX g N s u:=by
 have held:∀ y,y<g.length->Ba t y≠Ba s y->Ba u y≠Ba s y:=by
  intro y hy hne;have hc:AN t y=0:=Decidable.byContradiction fun hc=>hne (h.stay y hy hc).1;rw[(k.keep y hy hc).2.1];exact hne
 have later:∀ y,y<g.length->Ba u y≠Ba t y->Ba u y≠Ba s y:=by
  intro y hy hne;have hc:AN t y≠0:=fun hc=>hne (k.keep y hy hc).2.1;rw[<- (h.stay y hy hc).1];exact hne
 have why:∀ j,j<g.length->AN t j≠0->(AN t j=2\/∃ y ∈ Ci t j,Ba u y.toNat≠Ba t y.toNat)->AN s j=2\/∃ y ∈ Ci s j,Ba u y.toNat≠Ba s y.toNat:=by
  intro j hj hc hw;rcases hw with h2 | ⟨y,hy,hne⟩
  ·rcases h.dirt j hj h2 with h3 | ⟨y,hy,hne⟩
   ·exact .inl h3
   ·exact .inr ⟨y,hy,held _ (PY hs hy).1 hne⟩
  ·rw[(h.stay j hj hc).2] at hy;exact .inr ⟨y,hy,later _ (PY hs hy).1 hne⟩
 refine⟨k.ok,fun j hj hc=>?_,fun j hj hc=>?_,fun j hj h2=>?_,fun j hj h1 h2=>?_,fun j hj h2=>?_,?_⟩
 ·obtain⟨a1,a2,a3⟩:=h.keep j hj hc;obtain⟨b1,b2,b3⟩:=k.keep j hj a1;exact⟨b1,b2.trans a2,b3.trans a3⟩
 ·have hct:AN t j≠0:=fun e=>hc (k.keep j hj e).1;obtain⟨a1,a2⟩:=h.stay j hj hct;obtain⟨b1,b2⟩:=k.stay j hj hc;exact⟨b1.trans a1,b2.trans a2⟩
 ·rcases h.two j hj h2 with h3 | h3
  ·exact k.two j hj h3
  ·exact .inr (k.keep j hj h3).1
 ·by_cases hc:AN t j=0
  ·exact h.fin j hj h1 hc
  ·exact k.fin j hj hc h2
 ·rcases k.dirt j hj h2 with h3 | h3
  ·exact why j hj (by omega) (.inl h3)
  ·have hct:AN t j≠0:=fun e=>by have:=(k.keep j hj e).1;omega
   exact why j hj hct (.inr h3)
 ·obtain⟨l1,e1,n1,f1⟩:=h.ran;obtain⟨l2,e2,n2,f2⟩:=k.ran;refine⟨l1++l2,by rw[e2,e1,List.append_assoc],?_,fun x hx=>?_⟩
  ·rw[List.nodup_append];refine⟨n1,n2,fun a ha b hb e=>?_⟩;subst e;obtain⟨j,hj,hjl,_,_,hc,_⟩:=f1 a ha;obtain⟨j',hj',_,_,hc',_⟩:=f2 a hb;have:j=j':=by omega
   subst this;exact hc' hc
  ·rcases List.mem_append.1 hx with hx | hx
   ·obtain⟨j,e,hj,hN,hc,hc',hw⟩:=f1 x hx;refine⟨j,e,hj,hN,hc,(k.keep j hj hc').1,hw.imp id ?_⟩;rintro ⟨y,hy,hne⟩;exact⟨y,hy,held _ (PY hs hy).1 hne⟩
   ·obtain⟨j,e,hj,hN,hc,hc',hw⟩:=f2 x hx;exact⟨j,e,hj,hN,fun e0=>hc (h.keep j hj e0).1,hc',why j hj hc hw⟩
inductive GZ (g:Ae) (n:Nat):Nat->Prop
 | self:GZ g n n
 | more {m k:Nat}:GZ g n m->(k:Int) ∈ AY (g.getD m default).f->GZ g n k
theorem GZ.trans {g:Ae}{a b c:Nat}(h:GZ g a b)(k:GZ g b c):GZ g a c:=by
 induction k with
 | self=>exact h
 | more _ hx ih=>exact .more ih hx
theorem Tx {g:Ae}(hG:AG g=true){i:Nat}{x:Int}(hi:i<g.length)(hx:x ∈ AY (g.getD i default).f):0<=x/\x<(i:Int):=by
 have hn:g[i]? = some g[i]:=List.getElem?_eq_getElem hi;rw[Bi hn] at hx;by_cases h0:g[i].kind=0
 ·have hg:=C7 hG i hi;unfold Ce at hg;rw[Bi hn] at hg;dsimp only at hg;rw[if_pos h0] at hg;have hf:g[i].f=[]:=by simpa using hg
  rw[hf] at hx;simp[AY,C9] at hx
 ·exact Ju hG hn h0 hx
theorem GZ.le {g:Ae}(hG:AG g=true){n i:Nat}(hn:n<g.length)(h:GZ g n i):i<=n:=by
 induction h with
 | self=>exact Nat.le_refl _
 | @more m k h hx ih=>have:=Tx hG (by omega:m<g.length) hx;omega
theorem Of {g:Ae}{s:LR}{n:Nat}{nd:BQ}(h:AO g s.st=true)(hn:g[n]? = some nd)(h1:AN s n=1)(hr:∀ x ∈ Ci s n,AN s x.toNat=0):AX g (fun j=>j=n) s (Kd s n 0):=by
 obtain⟨hs,hC⟩:=BH.1 h;have hil:=(List.getElem?_eq_some_iff.1 hn).1;have hcl:n<s.st.cols.length:=by omega
 have hcol:∀ j,(s.st.cols.set n 0).getD j 0=if j=n then 0 else s.st.cols.getD j 0:=fun j=>EM _ _ _ _ _ hcl
 have hc0:∀ j,s.st.cols.getD j 0=0->(s.st.cols.set n 0).getD j 0=0:=fun j e=>by rw[hcol];split;rfl;exact e
 unfold AN at h1 hr;unfold Ci at hr;refine⟨BH.2 ⟨⟨hs.1,hs.2.1,hs.2.2.1,by simp[Kd,hs.2.2.2.1],hs.2.2.2.2⟩,fun i m hm=>?_⟩,fun j hj hc=>⟨hc0 j hc,rfl,rfl⟩,fun j hj hc=>⟨rfl,rfl⟩,fun j hj h2=>?_,fun j hj h2 h3=>?_,fun j hj h2=>.inl ?_,[],by simp[Kd],List.nodup_nil,by simp⟩
 ·have hk:=hC i m hm;refine⟨fun h0=>⟨hc0 _ (hk.cell h0).1,(hk.cell h0).2⟩,fun h0=>?_⟩;show ((s.st.cols.set n 0).getD i 0=2/\_)\/((s.st.cols.set n 0).getD i 0=1/\_)\/((s.st.cols.set n 0).getD i 0=0/\AK m.f s.st.vals=(s.st.vals.getD i 0,s.st.reads.getD i [])/\∀ x ∈ s.st.reads.getD i [],(s.st.cols.set n 0).getD x.toNat 0=0);by_cases e:i=n
  ·subst e;rw[hn] at hm;injection hm with hm;subst hm;rcases hk.form h0 with ⟨h2,_⟩ | ⟨_,hR⟩ | ⟨h2,_⟩
   ·omega
   ·exact .inr (.inr ⟨by rw[hcol,if_pos rfl],hR,fun x hx=>hc0 _ (hr x hx)⟩)
   ·omega
  ·rw[hcol,if_neg e];rcases hk.form h0 with h2 | h2 | ⟨h2,hR,hx⟩
   ·exact .inl h2
   ·exact .inr (.inl h2)
   ·exact .inr (.inr ⟨h2,hR,fun x hx'=>hc0 _ (hx x hx')⟩)
 ·show (s.st.cols.set n 0).getD j 0=2\/(s.st.cols.set n 0).getD j 0=0;rw[hcol];split
  ·exact .inr rfl
  ·exact .inl h2
 ·have h4:(s.st.cols.set n 0).getD j 0=0:=h3;rw[hcol] at h4;split at h4
  ·assumption
  ·exact absurd h4 h2
 ·have h4:(s.st.cols.set n 0).getD j 0=2:=h2;rw[hcol] at h4;split at h4
  ·omega
  ·exact h4
theorem Og {g:Ae}{s:LR}{n:Nat}{nd:BQ}(h:AO g s.st=true)(hn:g[n]? = some nd)(h2:AN s n=2)(hr:∀ x ∈ (AK nd.f s.st.vals).2,AN s x.toNat=0) :
  AX g (fun j=>j=n) s (Ef s n (AK nd.f s.st.vals).1 (AK nd.f s.st.vals).2)/\AN (Ef s n (AK nd.f s.st.vals).1 (AK nd.f s.st.vals).2) n=0:=by
 obtain⟨hs,hC⟩:=BH.1 h;have hA:=CW h;have hil:=(List.getElem?_eq_some_iff.1 hn).1;have hk0:nd.kind≠0:=fun h0=>by have:=((hC n nd hn).cell h0).1;unfold AN at h2;omega
 have hok:=Bj hs.1 n hn hk0;have hmay:=I8 hs.1 hn hk0 s.st.vals;have hx0:=Jv hok (B7 hs.2.2.2.2);unfold AN at h2 hr;generalize hX:(AK nd.f s.st.vals).1=x at *;generalize hL:(AK nd.f s.st.vals).2=l at *;have hrun:AK nd.f s.st.vals=(x,l):=Prod.ext hX hL;have hlt:∀ y ∈ l,0<=y/\y<(n:Int):=fun y hy=>Ju hs.1 hn hk0 (hmay.1 y hy);have hrl:n<s.st.reads.length:=by omega
 have hcl:n<s.st.cols.length:=by omega
 have hvl:n<s.st.vals.length:=by omega
 have hcol:∀ j,(s.st.cols.set n 0).getD j 0=if j=n then 0 else s.st.cols.getD j 0:=fun j=>EM _ _ _ _ _ hcl
 have hrd:∀ j,(s.st.reads.set n l).getD j []=if j=n then l else s.st.reads.getD j []:=fun j=>EM _ _ _ _ _ hrl
 have hA':Eu (s.st.reads.set n l):=by
  intro k y hy;rw[hrd] at hy;split at hy
  ·rename_i e;subst e;exact hlt y hy
  ·exact hA k y hy
 have hself:¬ Fc (s.st.reads.set n l) n n:=fun w=>by have:=w.lt hA';omega
 by_cases hxv:x=Ba s n
 ·have hst:Ef s n x l=⟨⟨s.st.vals,s.st.reads.set n l,s.st.cols.set n 0⟩,s.ran++[(n:Int)]⟩:=by unfold Ef;rw[if_pos hxv]
  rw[hst];have hc0:∀ j,s.st.cols.getD j 0=0->(s.st.cols.set n 0).getD j 0=0:=fun j e=>by rw[hcol];split;rfl;exact e
  refine⟨⟨BH.2 ⟨⟨hs.1,hs.2.1,by simp[hs.2.2.1],by simp[hs.2.2.2.1],hs.2.2.2.2⟩,fun i m hm=>?_⟩,fun j hj hc=>?_,fun j hj hc=>?_,fun j hj h3=>?_,fun j hj h3 h4=>?_,fun j hj h3=>.inl ?_,[(n:Int)],rfl,by simp,fun y hy=>?_⟩,?_⟩
  ·have hk:=hC i m hm;refine⟨fun h0=>⟨hc0 _ (hk.cell h0).1,?_⟩,fun h0=>?_⟩
   ·show (s.st.reads.set n l).getD i []=[];rw[hrd,if_neg (fun e=>by subst e;rw[hn] at hm;injection hm with hm;subst hm;exact hk0 h0)];exact(hk.cell h0).2
   ·show ((s.st.cols.set n 0).getD i 0=2/\(∀ x ∈ (s.st.reads.set n l).getD i [],x ∈ AY m.f)/\((s.st.reads.set n l).getD i []).Nodup)\/((s.st.cols.set n 0).getD i 0=1/\AK m.f s.st.vals=(s.st.vals.getD i 0,(s.st.reads.set n l).getD i [])) \/
     ((s.st.cols.set n 0).getD i 0=0/\AK m.f s.st.vals=(s.st.vals.getD i 0,(s.st.reads.set n l).getD i [])/\∀ x ∈ (s.st.reads.set n l).getD i [],(s.st.cols.set n 0).getD x.toNat 0=0)
    rw[hcol,hrd];by_cases e:i=n
    ·subst e;rw[hn] at hm;injection hm with hm;subst hm;rw[if_pos rfl,if_pos rfl];exact .inr (.inr ⟨rfl,by rw[hrun,hxv];rfl,fun y hy=>hc0 _ (hr y hy)⟩)
    ·rw[if_neg e,if_neg e];rcases hk.form h0 with h3 | h3 | ⟨h3,hR,hx⟩
     ·exact .inl h3
     ·exact .inr (.inl h3)
     ·exact .inr (.inr ⟨h3,hR,fun y hy=>hc0 _ (hx y hy)⟩)
  ·unfold AN at hc;have e:j≠n:=fun e=>by subst e;omega
   exact⟨hc0 j hc,rfl,by show (s.st.reads.set n l).getD j []=s.st.reads.getD j [];rw[hrd,if_neg e]⟩
  ·have e:j≠n:=fun e=>by subst e;exact hc (by show (s.st.cols.set j 0).getD j 0=0;rw[hcol,if_pos rfl])
   exact⟨rfl,by show (s.st.reads.set n l).getD j []=s.st.reads.getD j [];rw[hrd,if_neg e]⟩
  ·show (s.st.cols.set n 0).getD j 0=2\/(s.st.cols.set n 0).getD j 0=0;rw[hcol];split
   ·exact .inr rfl
   ·exact .inl h3
  ·have h5:(s.st.cols.set n 0).getD j 0=0:=h4;rw[hcol] at h5;split at h5
   ·assumption
   ·exact absurd h5 h3
  ·have h5:(s.st.cols.set n 0).getD j 0=2:=h3;rw[hcol] at h5;split at h5
   ·omega
   ·exact h5
  ·simp only[List.mem_singleton] at hy;subst hy;refine⟨n,rfl,hil,rfl,by unfold AN;omega,?_,.inl h2⟩;show (s.st.cols.set n 0).getD n 0=0;rw[hcol,if_pos rfl]
  ·show (s.st.cols.set n 0).getD n 0=0;rw[hcol,if_pos rfl]
 ·have hst:Ef s n x l=⟨⟨s.st.vals.set n x,s.st.reads.set n l,Cs (s.st.reads.set n l) (s.st.cols.set n 0) n⟩,s.ran++[(n:Int)]⟩:=by unfold Ef;rw[if_neg hxv]
  rw[hst];have hval:∀ j,(s.st.vals.set n x).getD j 0=if j=n then x else s.st.vals.getD j 0:=fun j=>EM _ _ _ _ _ hvl
  have hsp:∀ j,j<g.length->(Cs (s.st.reads.set n l) (s.st.cols.set n 0) n).getD j 0=open Classical in if Fc s.st.reads n j then (if (n:Int) ∈ s.st.reads.getD j [] then 2 else if s.st.cols.getD j 0=0 then 1 else s.st.cols.getD j 0) else if j=n then 0 else s.st.cols.getD j 0:=by
   intro j hj;rw[GU _ _ _ _ (by simp;omega)];have hw:=Uw (n:=n) (i:=j) hA' hA;by_cases w:Fc s.st.reads n j
   ·have e:j≠n:=fun e=>by have:=w.lt hA;omega
    rw[if_pos (hw.2 w),if_pos w,hrd,if_neg e,hcol,if_neg e]
   ·rw[if_neg (fun h=>w (hw.1 h)),if_neg w,hcol]
  have hnn:¬ Fc s.st.reads n n:=fun w=>by have:=w.lt hA;omega
  have hclean:∀ j,s.st.cols.getD j 0=0->¬ Fc s.st.reads n j:=fun j hc w=>by have:=R8 h w hc;omega
  have hkeepV:∀ (m:BQ) (i:Nat),g[i]? = some m->m.kind≠0->(n:Int) ∉ (AK m.f s.st.vals).2->AK m.f (s.st.vals.set n x)=AK m.f s.st.vals:=by
   intro m i hm h0 hni;symm
   refine H3 fun y hy=>?_;have hy2:=Ju hs.1 hm h0 ((I8 hs.1 hm h0 s.st.vals).1 y hy);unfold rd;rw[hval,if_neg (fun e=>hni (by rw[<- e,Int.toNat_of_nonneg hy2.1];exact hy))]
  refine⟨⟨BH.2 ⟨⟨hs.1,by simp[hs.2.1],by simp[hs.2.2.1],by simp[hs.2.2.2.1],?_⟩,fun i m hm=>?_⟩,fun j hj hc=>?_,fun j hj hc=>?_,fun j hj h3=>?_,fun j hj h3 h4=>?_,fun j hj h3=>?_,[(n:Int)],rfl,by simp,fun y hy=>?_⟩,?_⟩
  ·refine I9 fun y hy=>?_;rcases List.mem_or_eq_of_mem_set hy with hy | rfl
   ·exact B7 hs.2.2.2.2 y hy
   ·exact hx0
  ·have hk:=hC i m hm;have hig:=(List.getElem?_eq_some_iff.1 hm).1;refine⟨fun h0=>?_,fun h0=>?_⟩
   ·have e:i≠n:=fun e=>by subst e;rw[hn] at hm;injection hm with hm;subst hm;exact hk0 h0
    have hc:=hk.cell h0;refine⟨?_,?_⟩
    ·show (Cs (s.st.reads.set n l) (s.st.cols.set n 0) n).getD i 0=0;rw[hsp i hig,if_neg (hclean i hc.1),if_neg e];exact hc.1
    ·show (s.st.reads.set n l).getD i []=[];rw[hrd,if_neg e];exact hc.2
   ·show ((Cs (s.st.reads.set n l) (s.st.cols.set n 0) n).getD i 0=2/\(∀ x ∈ (s.st.reads.set n l).getD i [],x ∈ AY m.f)/\((s.st.reads.set n l).getD i []).Nodup) \/
     ((Cs (s.st.reads.set n l) (s.st.cols.set n 0) n).getD i 0=1/\AK m.f (s.st.vals.set n x)=((s.st.vals.set n x).getD i 0,(s.st.reads.set n l).getD i [])) \/
     ((Cs (s.st.reads.set n l) (s.st.cols.set n 0) n).getD i 0=0/\AK m.f (s.st.vals.set n x)=((s.st.vals.set n x).getD i 0,(s.st.reads.set n l).getD i [])/\∀ y ∈ (s.st.reads.set n l).getD i [],(Cs (s.st.reads.set n l) (s.st.cols.set n 0) n).getD y.toNat 0=0)
    rw[hsp i hig,hrd,hval];by_cases e:i=n
    ·subst e;rw[hn] at hm;injection hm with hm;subst hm;rw[if_neg hnn,if_pos rfl,if_pos rfl,if_pos rfl];refine .inr (.inr ⟨rfl,?_,fun y hy=>?_⟩)
     ·rw[Gs hok (b:=s.st.vals) (fun j hj=>by rw[hval,if_neg (by omega)]),hrun]
     ·have hy2:=hlt y hy;have hyg:y.toNat<g.length:=by omega
      rw[hsp _ hyg,if_neg (fun w=>by have:=w.lt hA;omega),if_neg (by omega)];exact hr y hy
    ·simp only[if_neg e];by_cases hin:(n:Int) ∈ s.st.reads.getD i []
     ·rw[if_pos (.one hin),if_pos hin];exact .inl ⟨rfl,hk.may hs.1 hm h0⟩
     ·have hR2:AK m.f s.st.vals=(s.st.vals.getD i 0,s.st.reads.getD i [])->AK m.f (s.st.vals.set n x)=(s.st.vals.getD i 0,s.st.reads.getD i []):=fun hR=>by
       rw[hkeepV m i hm h0 (by rw[hR];exact hin),hR]
      by_cases w:Fc s.st.reads n i
      ·rw[if_pos w,if_neg hin];rcases hk.form h0 with ⟨h3,h4⟩ | ⟨h3,hR⟩ | ⟨h3,hR,_⟩
       ·rw[if_neg (by omega)];exact .inl ⟨h3,h4⟩
       ·rw[if_neg (by omega)];exact .inr (.inl ⟨h3,hR2 hR⟩)
       ·rw[if_pos h3];exact .inr (.inl ⟨rfl,hR2 hR⟩)
      ·rw[if_neg w];rcases hk.form h0 with h3 | ⟨h3,hR⟩ | ⟨h3,hR,hx⟩
       ·exact .inl h3
       ·exact .inr (.inl ⟨h3,hR2 hR⟩)
       ·refine .inr (.inr ⟨h3,hR2 hR,fun y hy=>?_⟩);have hy2:=hA i y hy;have hyn:y.toNat≠n:=fun e2=>hin (by rw[<- e2,Int.toNat_of_nonneg hy2.1];exact hy);rw[hsp _ (by omega),if_neg (fun w2=>w (.more w2 (by rw[Int.toNat_of_nonneg hy2.1];exact hy))),if_neg hyn];exact hx y hy
  ·unfold AN at hc;have e:j≠n:=fun e=>by subst e;omega
   refine⟨?_,?_,?_⟩
   ·show (Cs (s.st.reads.set n l) (s.st.cols.set n 0) n).getD j 0=0;rw[hsp j hj,if_neg (hclean j hc),if_neg e];exact hc
   ·show (s.st.vals.set n x).getD j 0=s.st.vals.getD j 0;rw[hval,if_neg e]
   ·show (s.st.reads.set n l).getD j []=s.st.reads.getD j [];rw[hrd,if_neg e]
  ·have e:j≠n:=fun e=>by
    subst e;refine hc ?_;show (Cs (s.st.reads.set j l) (s.st.cols.set j 0) j).getD j 0=0;rw[hsp j hj,if_neg hnn,if_pos rfl]
   refine⟨?_,?_⟩
   ·show (s.st.vals.set n x).getD j 0=s.st.vals.getD j 0;rw[hval,if_neg e]
   ·show (s.st.reads.set n l).getD j []=s.st.reads.getD j [];rw[hrd,if_neg e]
  ·unfold AN at h3;show (Cs (s.st.reads.set n l) (s.st.cols.set n 0) n).getD j 0=2\/(Cs (s.st.reads.set n l) (s.st.cols.set n 0) n).getD j 0=0;rw[hsp j hj];by_cases w:Fc s.st.reads n j
   ·rw[if_pos w];split
    ·exact .inl rfl
    ·rw[if_neg (by omega)];exact .inl h3
   ·rw[if_neg w];split
    ·exact .inr rfl
    ·exact .inl h3
  ·have h5:(Cs (s.st.reads.set n l) (s.st.cols.set n 0) n).getD j 0=0:=h4;rw[hsp j hj] at h5;unfold AN at h3;by_cases w:Fc s.st.reads n j
   ·rw[if_pos w] at h5;split at h5
    ·omega
    ·exact absurd h5 h3
   ·rw[if_neg w] at h5;split at h5
    ·assumption
    ·exact absurd h5 h3
  ·have h5:(Cs (s.st.reads.set n l) (s.st.cols.set n 0) n).getD j 0=2:=h3;rw[hsp j hj] at h5;by_cases w:Fc s.st.reads n j
   ·rw[if_pos w] at h5;split at h5
    ·rename_i hin
     refine .inr ⟨(n:Int),hin,?_⟩;show (s.st.vals.set n x).getD (n:Int).toNat 0≠s.st.vals.getD (n:Int).toNat 0;rw[Int.toNat_natCast,hval,if_pos rfl];exact hxv
    ·split at h5
     ·omega
     ·exact .inl h5
   ·rw[if_neg w] at h5;split at h5
    ·omega
    ·exact .inl h5
  ·simp only[List.mem_singleton] at hy;subst hy;refine⟨n,rfl,hil,rfl,by unfold AN;omega,?_,.inl h2⟩;show (Cs (s.st.reads.set n l) (s.st.cols.set n 0) n).getD n 0=0;rw[hsp n hil,if_neg hnn,if_pos rfl]
  ·show (Cs (s.st.reads.set n l) (s.st.cols.set n 0) n).getD n 0=0;rw[hsp n hil,if_neg hnn,if_pos rfl]
def Ik (g:Ae)(c:Int->LR->LR)(b:Nat):Prop:=∀ (k:Nat) (s:LR),k<b->k<g.length->AO g s.st=true->AX g (GZ g k) s (c k s)/\AN (c k s) k=0
theorem Lo (c:Int->LR->LR)(n:Nat)(l:List Int)(s:LR)(h:AN s n≠1):Cq c n l s=s:=by
 unfold Cq;induction l with
 | nil=>rfl
 | cons k l ih=>rw[List.foldl_cons,if_neg h];exact ih
theorem PZ (c:Int->LR->LR)(n:Nat)(k:Int)(l:List Int)(s:LR)(h:AN s n=1):Cq c n (k :: l) s=Cq c n l (c k s):=by
 unfold Cq;rw[List.foldl_cons,if_pos h]
theorem G2 {g:Ae}{c:Int->LR->LR}{n:Nat}(hn:n<g.length)(hc:Ik g c n)(l:List Int)(hl:∀ x ∈ l,0<=x/\x<(n:Int))(s:LR)(hs:AO g s.st=true)(N:Nat->Prop)(hN:∀ (k j:Nat),(k:Int) ∈ l->GZ g k j->N j) :
  AX g N s (Cq c n l s)/\(AN (Cq c n l s) n=1->∀ x ∈ l,AN (Cq c n l s) x.toNat=0):=by
 induction l generalizing s with
 | nil=>exact⟨AX.refl hs,by simp⟩
 | cons x l ih =>
  by_cases h1:AN s n=1
  ·rw[PZ c n x l s h1];have hx:=hl x (by simp);obtain⟨k,rfl⟩:=Int.eq_ofNat_of_zero_le hx.1;obtain⟨a1,a2⟩:=hc k s (by omega) (by omega) hs;have a3:=a1.mono (fun j hj=>hN k j (by simp) hj);obtain⟨b1,b2⟩:=ih (fun y hy=>hl y (by simp[hy])) (c k s) a1.ok (fun k' j hk hj=>hN k' j (by simp[hk]) hj);refine⟨AX.trans hs a3 b1,fun e y hy=>?_⟩;rcases List.mem_cons.1 hy with rfl | hy
   ·rw[Int.toNat_natCast];exact(b1.keep k (by omega) a2).1
   ·exact b2 e y hy
  ·rw[Lo c n _ s h1];exact⟨AX.refl hs,fun e=>absurd e h1⟩
theorem Gu {g:Ae}{c:Int->LR->LR}{n:Nat}{nd:BQ}(hn:g[n]? = some nd)(hc:Ik g c n)(s:LR)(hs:AO g s.st=true) :
  AX g (GZ g n) s (Ck c n s)/\(AN (Ck c n s) n=0\/AN (Ck c n s) n=2):=by
 have hil:=(List.getElem?_eq_some_iff.1 hn).1;obtain⟨hsh,hC⟩:=BH.1 hs
 have hrange:∀ t:LR,AO g t.st=true->AN t n=0\/AN t n=1\/AN t n=2:=by
  intro t ht;have hk:=(BH.1 ht).2 n nd hn;by_cases h0:nd.kind=0
  ·exact .inl (hk.cell h0).1
  ·rcases hk.form h0 with h | h | h
   ·exact .inr (.inr h.1)
   ·exact .inr (.inl h.1)
   ·exact .inl h.1
 unfold Ck;by_cases h1:AN s n=1
 ·rw[if_pos h1];have hk:=hC n nd hn;have hk0:nd.kind≠0:=fun h0=>by have:=(hk.cell h0).1;unfold AN at h1;omega
  have hmay:=hk.may hsh.1 hn hk0;have hd:=Bi hn default;obtain⟨a1,a2⟩:=G2 hil hc (Ci s n) (fun x hx=>CW hs n x hx) s hs (GZ g n) (fun k j hk hj=>(GZ.more .self (by rw[hd];exact hmay.1 _ hk)).trans hj);generalize ht:Cq c n (Ci s n) s=t at *;by_cases h2:AN t n=1
  ·rw[if_pos h2];have hsame:=(a1.stay n hil (by omega)).2;have b:=Of a1.ok hn h2 (fun x hx=>a2 h2 x (by rw[<- hsame];exact hx));refine⟨AX.trans hs a1 (b.mono (fun j e=>by subst e;exact .self)),.inl ?_⟩;have hcl:=(AP a1.ok).2.2.2.1;show (t.st.cols.set n 0).getD n 0=0;rw[EM _ _ _ _ _ (by omega),if_pos rfl]
  ·rw[if_neg h2];refine⟨a1,?_⟩;rcases hrange t a1.ok with h | h | h
   ·exact .inl h
   ·exact absurd h h2
   ·exact .inr h
 ·rw[if_neg h1];refine⟨AX.refl hs,?_⟩;rcases hrange s hs with h | h | h
  ·exact .inl h
  ·exact absurd h h1
  ·exact .inr h
theorem Ml {g:Ae}{c:Int->LR->LR}{n:Nat}(hn:n<g.length)(hc:Ik g c n)(N:Nat->Prop){f:List At}(hf:∀ p ∈ f,p.kind=1->(0<=p.n/\p.n<(n:Int))/\∀ j,GZ g p.n.toNat j->N j) :
  ∀ (m:Nat) (i:Int) (l:List Int) (s:LR),AO g s.st=true ->
   AX g N s (Cl f (fun (t:List Int × LR) k=>Ba (c k t.2) k.toNat) (fun t k=>(CT t.1 k,c k t.2)) m i (l,s)).2.2 /\
   (Cl f (fun (t:List Int × LR) k=>Ba (c k t.2) k.toNat) (fun t k=>(CT t.1 k,c k t.2)) m i (l,s)).1=(Cj f (Cl f (fun (t:List Int × LR) k=>Ba (c k t.2) k.toNat) (fun t k=>(CT t.1 k,c k t.2)) m i (l,s)).2.2.st.vals m i).1 /\
   (Cl f (fun (t:List Int × LR) k=>Ba (c k t.2) k.toNat) (fun t k=>(CT t.1 k,c k t.2)) m i (l,s)).2.1=(Cj f (Cl f (fun (t:List Int × LR) k=>Ba (c k t.2) k.toNat) (fun t k=>(CT t.1 k,c k t.2)) m i (l,s)).2.2.st.vals m i).2.foldl CT l /\
   ∀ x ∈ (Cj f (Cl f (fun (t:List Int × LR) k=>Ba (c k t.2) k.toNat) (fun t k=>(CT t.1 k,c k t.2)) m i (l,s)).2.2.st.vals m i).2,AN (Cl f (fun (t:List Int × LR) k=>Ba (c k t.2) k.toNat) (fun t k=>(CT t.1 k,c k t.2)) m i (l,s)).2.2 x.toNat=0:=by
 have hmem:∀ (v:List Int) (m:Nat) (i:Int) (x:Int),x ∈ (Cj f v m i).2->0<=x/\x<(n:Int):=fun v m i x hx=>by
  obtain⟨p,hp,h1,rfl⟩:=Lw f v m i x hx;exact(hf p hp h1).1
 have same:∀ (t u:LR) (m:Nat) (i:Int),AX g N t u->(∀ x ∈ (Cj f t.st.vals m i).2,AN t x.toNat=0)->Cj f t.st.vals m i=Cj f u.st.vals m i:=fun t u m i h hcl=>by
  refine MI f _ _ m i fun x hx=>?_;have hx2:=hmem _ _ _ x hx;have:=(h.keep x.toNat (by omega) (hcl x hx)).2.1;unfold Ba at this;unfold rd;exact this.symm
 intro m;induction m with
 | zero=>intro i l s hs;exact⟨AX.refl hs,by first | rfl | trivial,by first | rfl | trivial,by intro x hx;cases hx⟩
 | succ m ih =>
  intro i l s hs;simp only[Cl,Cj];by_cases h0:(f.getD i.toNat default).kind=0
  ·simp only[if_pos h0];exact⟨AX.refl hs,by first | rfl | trivial,by first | rfl | trivial,by intro x hx;cases hx⟩
  ·simp only[if_neg h0];by_cases h1:(f.getD i.toNat default).kind=1
   ·simp only[if_pos h1];obtain⟨hr,hN⟩:=hf _ (Lt h1) h1;generalize (f.getD i.toNat default).n=x at *;obtain⟨k,rfl⟩:=Int.eq_ofNat_of_zero_le hr.1;rw[Int.toNat_natCast] at hN;obtain⟨a1,a2⟩:=hc k s (by omega) (by omega) hs;refine⟨a1.mono hN,by first | rfl | trivial,by first | rfl | trivial,fun y hy=>?_⟩;simp only[List.mem_singleton] at hy;subst hy;exact a2
   ·simp only[if_neg h1];obtain⟨a1,a2,a3,a4⟩:=ih (f.getD i.toNat default).a l s hs;generalize hR:Cl f (fun (t:List Int × LR) k=>Ba (c k t.2) k.toNat) (fun t k=>(CT t.1 k,c k t.2)) m (f.getD i.toNat default).a (l,s)=R at *;obtain⟨x,l1,t⟩:=R;dsimp only at a1 a2 a3 a4 ⊢;by_cases h8:(f.getD i.toNat default).kind=8
    ·simp only[if_pos h8];generalize hJ:(if x=0 then (f.getD i.toNat default).c else (f.getD i.toNat default).b)=j;obtain⟨b1,b2,b3,b4⟩:=ih j l1 t a1.ok;generalize Cl f (fun (t:List Int × LR) k=>Ba (c k t.2) k.toNat) (fun t k=>(CT t.1 k,c k t.2)) m j (l1,t)=U at *;obtain⟨y,l2,u⟩:=U;dsimp only at b1 b2 b3 b4 ⊢;have e:=same t u m _ b1 a4;rw[<- e,<- a2,hJ];refine⟨AX.trans hs a1 b1,b2,?_,fun z hz=>?_⟩
     ·rw[List.foldl_append,<- a3];exact b3
     ·rcases List.mem_append.1 hz with hz | hz
      ·have:=hmem _ _ _ z hz;exact(b1.keep z.toNat (by omega) (a4 z hz)).1
      ·exact b4 z hz
    ·simp only[if_neg h8];obtain⟨b1,b2,b3,b4⟩:=ih (f.getD i.toNat default).b l1 t a1.ok;generalize Cl f (fun (t:List Int × LR) k=>Ba (c k t.2) k.toNat) (fun t k=>(CT t.1 k,c k t.2)) m (f.getD i.toNat default).b (l1,t)=U at *;obtain⟨y,l2,u⟩:=U;dsimp only at b1 b2 b3 b4 ⊢;have e:=same t u m _ b1 a4;rw[<- e,<- a2,b2];refine⟨AX.trans hs a1 b1,by first | rfl | trivial,?_,fun z hz=>?_⟩
     ·rw[List.foldl_append,<- a3];exact b3
     ·rcases List.mem_append.1 hz with hz | hz
      ·have:=hmem _ _ _ z hz;exact(b1.keep z.toNat (by omega) (a4 z hz)).1
      ·exact b4 z hz
theorem Il {g:Ae}{c:Int->LR->LR}{n:Nat}{nd:BQ}(hG:AG g=true)(hn:g[n]? = some nd)(h0:nd.kind≠0)(hc:Ik g c n)(s:LR)(hs:AO g s.st=true) :
  AX g (fun j=>GZ g n j/\j<n) s (Gt g c n s).2.2/\(Gt g c n s).1=(AK nd.f (Gt g c n s).2.2.st.vals).1/\(Gt g c n s).2.1=(AK nd.f (Gt g c n s).2.2.st.vals).2/\∀ x ∈ (AK nd.f (Gt g c n s).2.2.st.vals).2,AN (Gt g c n s).2.2 x.toNat=0:=by
 have hil:=(List.getElem?_eq_some_iff.1 hn).1;have hd:=Bi hn default;have hgn:=C7 hG n hil
 have hV:AU nd.f=true:=by
  unfold Ce at hgn;rw[hd] at hgn;dsimp only at hgn;rw[if_neg h0] at hgn;split at hgn
  ·simp only[Bool.and_eq_true] at hgn;exact hgn.1
  ·cases hgn
 have:=Ml hil hc (fun j=>GZ g n j/\j<n) (f:=nd.f) (fun p hp h1=>by
  have hm:=FB hV hp h1;have hr:=Ju hG hn h0 hm;refine⟨hr,fun j hj=>⟨(GZ.more .self (by rw[hd,Int.toNat_of_nonneg hr.1];exact hm)).trans hj,?_⟩⟩;have:=GZ.le hG (by omega) hj;omega) nd.f.length ((nd.f.length:Int) - 1) [] s hs
 unfold Gt II;rw[hd];obtain⟨a1,a2,a3,a4⟩:=this;exact⟨a1,a2,a3,fun x hx=>a4 x ((Ft _ _).1 hx)⟩
theorem EO {g:Ae}(hG:AG g=true)(f:Nat):Ik g (AI g f) f:=by
 induction f with
 | zero=>intro k s hk;omega
 | succ f ih =>
  intro k s hk hkg hs;have hn:g[k]? = some g[k]:=List.getElem?_eq_getElem hkg;generalize g[k]=nd at hn;have hc:Ik g (AI g f) k:=fun j t hj hjg ht=>ih j t (by omega) hjg ht;obtain⟨a1,a2⟩:=Gu hn hc s hs;simp only[AI,Int.toNat_natCast];generalize ht:Ck (AI g f) k s=t at *;by_cases h2:AN t k=2
  ·rw[if_pos h2];have h0:nd.kind≠0:=fun h0=>by have:=(((BH.1 a1.ok).2 k nd hn).cell h0).1;unfold AN at h2;omega
   obtain⟨b1,b2,b3,b4⟩:=Il hG hn h0 hc t a1.ok;generalize Gt g (AI g f) k t=R at *;obtain⟨x,l,u⟩:=R;dsimp only at b1 b2 b3 b4 ⊢
   have hu2:AN u k=2:=by
    rcases b1.two k hkg h2 with h | h
    ·exact h
    ·have:=(b1.fin k hkg (by omega) h).2;omega
   obtain⟨c1,c2⟩:=Og b1.ok hn hu2 b4;rw[b2,b3];exact⟨AX.trans hs a1 (AX.trans a1.ok (b1.mono (fun j hj=>hj.1)) (c1.mono (fun j e=>by subst e;exact .self))),c2⟩
  ·rw[if_neg h2];exact⟨a1,a2.elim id (fun h=>absurd h h2)⟩
theorem AX.ran_len {g:Ae}{N:Nat->Prop}{s s':LR}(h:AX g N s s'):s'.ran.length<=s.ran.length+g.length:=by
 obtain⟨l,h1,h2,h3⟩:=h.ran;rw[h1,List.length_append]
 have key:∀ (n:Nat) (l:List Int),l.Nodup->(∀ x ∈ l,0<=x/\x<(n:Int))->l.length<=n:=by
  intro n;induction n with
  | zero =>
   intro l _ hb;cases l with
   | nil=>simp
   | cons x l=>have:=hb x (by simp);omega
  | succ n ih =>
   intro l hn hb
   have h1:=ih (l.erase (n:Int)) (hn.erase _) (fun x hx=>by
    have hm:=(hn.mem_erase_iff).1 hx;have:=hb x hm.2;have:x≠(n:Int):=hm.1;omega)
   have:l.length<=(l.erase (n:Int)).length+1:=by
    rw[List.length_erase];split <;> omega
   omega
 have:=key g.length l h2 (fun x hx=>by obtain⟨j,rfl,hj,_⟩:=h3 x hx;omega);omega
structure K3 (g:Ae) (r:List (List Int)):Prop where
 rd:∀ k,k<g.length->∀ x ∈ r.getD k [],0<=x/\x<(k:Int)
 le:∀ l ∈ r,l.length<=4096
theorem K3.of {g:Ae}{st:BT}(h:Di g st=true):K3 g st.reads:=by
 obtain⟨hG,hv,hr,hn,hR⟩:=Bd h
 have key:∀ k,k<g.length->st.reads.getD k []=Cb g st.vals k:=by
  intro k hk;obtain⟨n,hi⟩:∃ n,g[k]? = some n:=⟨_,List.getElem?_eq_getElem hk⟩;unfold Cb;rw[Bi hi];by_cases h0:n.kind=0
  ·rw[if_pos h0,Ij hi h0 (hR k hk)]
  ·rw[if_neg h0,GT hi h0 (hR k hk)]
 refine⟨fun k hk x hx=>?_,fun l hl=>?_⟩
 ·rw[key k hk] at hx;exact Gd hG hk hx
 ·obtain⟨i,hi⟩:=List.getElem?_of_mem hl;have hil:i<g.length:=by have:=(List.getElem?_eq_some_iff.1 hi).1;omega
  have h1:=key i hil;have h2:st.reads.getD i []=l:=by simp[hi]
  rw[<- h2,h1];exact Kf hG _ hil
theorem K3.put {g:Ae}{r:List (List Int)}(hG:AG g=true)(h:K3 g r)(v:List Int){i:Nat}{n:BQ}(hn:g[i]? = some n)(h0:n.kind≠0):K3 g (r.set i (AK n.f v).2):=by
 have hi:=(List.getElem?_eq_some_iff.1 hn).1;have hd:Cb g v i=(AK n.f v).2:=by unfold Cb;rw[Bi hn,if_neg h0]
 refine⟨fun k hk x hx=>?_,fun l hl=>?_⟩
 ·by_cases hki:k=i
  ·subst hki;by_cases hkr:k<r.length
   ·rw[List.getD_eq_getElem?_getD,List.getElem?_set_self hkr] at hx;exact Gd hG hk (by rw[hd];exact hx)
   ·rw[List.getD_eq_getElem?_getD,List.getElem?_eq_none (by simp;omega)] at hx;cases hx
  ·rw[List.getD_eq_getElem?_getD,List.getElem?_set_ne (fun e=>hki e.symm),<- List.getD_eq_getElem?_getD] at hx;exact h.rd k hk x hx
 ·rcases List.mem_or_eq_of_mem_set hl with hl | rfl
  ·exact h.le l hl
  ·rw[<- hd];exact Kf hG _ hi
theorem H7 {g:Ae}{s:Mm}{i:Nat}{n:BQ}(hn:g[i]? = some n)(h:n.kind=0\/Tj s (s.reads.getD i [])=false):IK g s i=s:=by
 unfold IK;rw[Bi hn,if_neg];rcases h with h | h
 ·simp[h]
 ·rw[h];simp
theorem Kg {g:Ae}{s:Mm}{i:Nat}{n:BQ}(hn:g[i]? = some n)(h0:n.kind≠0)(h:Tj s (s.reads.getD i [])=true) :
  IK g s i=⟨s.vals.set i (AK n.f s.vals).1,s.reads.set i (AK n.f s.vals).2,s.ch.set i ((AK n.f s.vals).1 != s.vals.getD i 0),s.ran++[(i:Int)]⟩:=by
 unfold IK;rw[Bi hn,if_pos (by rw[h];simp[h0])]
def Co (g:Ae)(l:List Int):Bv:=⟨l,List.replicate g.length [],g.map fun n=>if n.kind=0 then 0 else 2⟩
theorem Kx {g:Ae}{l:List Int}{i:Nat}{n:BQ}(hn:g[i]? = some n):(Co g l).cols.getD i 0=if n.kind=0 then 0 else 2:=by
 unfold Co;rw[List.getD_eq_getElem?_getD,List.getElem?_map,hn];rfl
theorem Im (g:Ae)(l:List Int)(i:Nat):(Co g l).reads.getD i []=[]:=by
 unfold Co;rw[List.getD_eq_getElem?_getD,List.getElem?_replicate];split <;> rfl
theorem Nq {g:Ae}{l:List Int}(h:AT g l=true):l.length=g.length/\CX l=true:=by
 have hl:=CH h;refine⟨hl,I9 ?_⟩;exact DN h
theorem JP {g:Ae}{l:List Int}(hG:AG g=true)(hC:AT g l=true):AO g (Co g l)=true:=by
 obtain⟨hl,hr⟩:=Nq hC;refine BH.2 ⟨⟨hG,hl,by simp[Co],by simp[Co],hr⟩,fun i n hn=>⟨fun h0=>⟨?_,Im g l i⟩,fun h0=>.inl ⟨?_,?_,?_⟩⟩⟩
 ·rw[Kx hn,if_pos h0]
 ·rw[Kx hn,if_neg h0]
 ·rw[Im];intro x hx;cases hx
 ·rw[Im];exact List.nodup_nil
theorem P2 {l:List Int}(h:CX l=true){n:Nat}{x:Int}(hx:0<=x/\x<=999):CX (l.set n x)=true:=by
 refine I9 fun y hy=>?_;rcases List.mem_or_eq_of_mem_set hy with hy | rfl
 ·exact B7 h y hy
 ·exact hx
theorem P3 {r:List (List Int)}{n i:Nat}(h:r.getD i []=[]):¬ Fc r n i:=by
 intro w;rcases w.last with h1 | ⟨m,_,h1⟩
 ·rw[h] at h1;cases h1
 ·rw[h] at h1;cases h1
theorem JQ {g:Ae}{st:Bv}{n:Nat}{x:Int}(h:AO g st=true)(hc:Bt g n=true)(hx:0<=x/\x<=999):AO g (BX st n x)=true:=by
 unfold BX;split
 ·exact h
 ·obtain⟨⟨hG,hvl,hrl,hcl,hv⟩,hC⟩:=BH.1 h;obtain⟨k,nd,hk,hnd,hkd⟩:=Fh hc;obtain rfl:n=k:=by omega
  have hn:=(List.getElem?_eq_some_iff.1 hnd).1;have hA:=CW h;have hn0:=((hC n nd hnd).cell hkd).1;refine BH.2 ⟨⟨hG,by simpa using hvl,hrl,by simpa using hcl,P2 hv hx⟩,fun i m hi=>?_⟩;have hil:=(List.getElem?_eq_some_iff.1 hi).1;have hk:=hC i m hi;have hcol:=GU st.reads st.cols n i (by omega);have hval:i≠n->(st.vals.set n x).getD i 0=st.vals.getD i 0:=fun e=>by rw[EM _ _ _ _ _ (by omega),if_neg e]
  refine⟨fun h0=>?_,fun h0=>?_⟩
  ·obtain⟨h1,h2⟩:=hk.cell h0;dsimp only;rw[hcol,if_neg (P3 h2)];exact⟨h1,h2⟩
  ·have hin:i≠n:=fun e=>by subst e;rw[hnd] at hi;injection hi with hi;subst hi;exact h0 hkd
   dsimp only;rw[hcol,hval hin]
   have run:(n:Int) ∉ st.reads.getD i []->AK m.f st.vals=(st.vals.getD i 0,st.reads.getD i [])->AK m.f (st.vals.set n x)=(st.vals.getD i 0,st.reads.getD i []):=fun hno hR=>by
    rw[<- hR];refine(H3 fun y hy=>?_).symm;rw[hR] at hy;have hya:=hA i y hy;unfold rd;rw[EM _ _ _ _ _ (by omega),if_neg];intro e;exact hno (by rw[show (n:Int)=y by omega];exact hy)
   by_cases hd:(n:Int) ∈ st.reads.getD i []
   ·rw[if_pos (.one hd),if_pos hd];have:=hk.may hG hi h0;exact .inl ⟨rfl,this.1,this.2⟩
   ·by_cases hw:Fc st.reads n i
    ·rw[if_pos hw,if_neg hd];rcases hk.form h0 with ⟨h2,h3⟩ | ⟨h2,h3⟩ | ⟨h2,h3,_⟩
     ·rw[if_neg (by omega)];exact .inl ⟨h2,h3⟩
     ·rw[if_neg (by omega)];exact .inr (.inl ⟨h2,run hd h3⟩)
     ·rw[if_pos h2];exact .inr (.inl ⟨rfl,run hd h3⟩)
    ·rw[if_neg hw];rcases hk.form h0 with h2 | ⟨h2,h3⟩ | ⟨h2,h3,h4⟩
     ·exact .inl h2
     ·exact .inr (.inl ⟨h2,run hd h3⟩)
     ·refine .inr (.inr ⟨h2,run hd h3,fun y hy=>?_⟩);have hya:=hA i y hy;rw[GU _ _ _ _ (by omega),if_neg]
      ·exact h4 y hy
      ·intro w;exact hw (.more w (by rw[show ((y.toNat:Nat):Int)=y by omega];exact hy))
end Sg
