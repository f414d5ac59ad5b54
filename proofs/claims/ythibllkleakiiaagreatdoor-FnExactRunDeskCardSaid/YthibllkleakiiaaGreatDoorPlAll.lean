/- Parts of one proof, joined. Parts of one proof, joined. Sessions in plain Lean: acts, what they do, what effects show, and more. Conditions: in the theorems. -/
import Derived.Test.YthibllkleakiiaaGreatDoorLazFour
import Derived.Test.YthibllkleakiiaaGreatDoorModelR
namespace Go.Proofs.YthibllkleakiiaaGreatDoor
open Go.RowKit
end Go.Proofs.YthibllkleakiiaaGreatDoor
namespace Sg
theorem P4 {g:Ae}{st:Bv}(h:AO g st=true):∀ (m j:Nat),j<m->j<g.length->st.cols.getD j 0=0->(Bz g (B8 g st.vals)).getD j 0=st.vals.getD j 0:=by
 obtain⟨hs,hC⟩:=BH.1 h;have hA:=CW h;intro m;induction m with
 | zero=>intro j hj;omega
 | succ m ih =>
  intro j hjm hj hc;have hn:g[j]? = some g[j]:=List.getElem?_eq_getElem hj;have hk:=hC j _ hn;rw[Lx _ hn];by_cases h0:g[j].kind=0
  ·rw[if_pos h0,Ek _ _ _ (by omega),Bi hn,if_neg (fun e=>e h0)]
  ·rw[if_neg h0];rcases hk.form h0 with ⟨h2,_⟩ | ⟨h2,_⟩ | ⟨_,hR,hr⟩
   ·omega
   ·omega
   ·have:AK g[j].f st.vals=AK g[j].f (AZ g (B8 g st.vals) j):=by
     refine H3 fun x hx=>?_;rw[hR] at hx;have hxa:=hA j x hx;unfold rd;rw[<- GR g _ j g.length x.toNat (by omega) (by omega)];exact(ih x.toNat (by omega) (by omega) (hr x hx)).symm
    rw[<- this,hR]
theorem R9 {g:Ae}{st:Bv}(h:AO g st=true){n:Int}:n ∈ BF g st↔∃ i:Nat,n=i/\i<g.length/\st.cols.getD i 0≠0:=by
 unfold BF G3;rw[if_pos h,Fi];constructor
 ·rintro ⟨i,e,hi,hp⟩;exact⟨i,e,hi,by unfold rd at hp;simpa using hp⟩
 ·rintro ⟨i,e,hi,hp⟩;exact⟨i,e,hi,by unfold rd;simpa using hp⟩
theorem Ly {g:Ae}{a b:List Int}(ha:a.length=g.length)(hb:b.length=g.length)(h:∀ i n,g[i]? = some n->n.kind=0->a.getD i 0=b.getD i 0):B8 g a=B8 g b:=by
 refine VD (by rw[length_cellsOf,length_cellsOf];omega) fun i hi=>?_;rw[length_cellsOf] at hi;have hn:g[i]? = some g[i]:=List.getElem?_eq_getElem (by omega);rw[Ek _ _ _ hi,Ek _ _ _ (by omega),Bi hn];by_cases h0:g[i].kind=0
 ·rw[if_neg (fun e=>e h0),if_neg (fun e=>e h0)];exact h i _ hn h0
 ·rw[if_pos h0,if_pos h0]
theorem Mn {g:Ae}{N:Nat->Prop}{s s':LR}(hs:AO g s.st=true)(h:AX g N s s'):B8 g s'.st.vals=B8 g s.st.vals:=by
 have h1:=(AP hs).2.1;have h2:=(AP h.ok).2.1;refine Ly h2 h1 fun i n hn h0=>?_;have hi:=(List.getElem?_eq_some_iff.1 hn).1;exact(h.keep i hi (((BH.1 hs).2 i n hn).cell h0).1).2.1
theorem D8 {g:Ae}{st:Bv}(h:AO g st=true){k:Nat}(hk:k<g.length):AX g (GZ g k) ⟨st,[]⟩ (DU g st (k:Int))/\AN (DU g st (k:Int)) k=0:=by
 have hs:=AP h;have h10:=CM hs.1;exact EO hs.1 10 k ⟨st,[]⟩ (by omega) hk h
theorem Rp {n:Int}{L:Nat}:BZ n 0 ((L:Int) - 1)=true↔∃ k:Nat,n=k/\k<L:=by
 unfold BZ;simp only[Bool.and_eq_true,decide_eq_true_eq];constructor
 ·rintro ⟨h1,h2⟩;obtain⟨k,rfl⟩:=Int.eq_ofNat_of_zero_le h1;exact⟨k,rfl,by omega⟩
 ·rintro ⟨k,rfl,hk⟩;omega
theorem Hh {g:Ae}{st:Bv}(h:AO g st=true){k:Nat}(hk:k<g.length):AS g st (k:Int)=((DU g st (k:Int)).st,Ba (DU g st (k:Int)) k,(DU g st (k:Int)).ran):=by
 unfold AS;rw[h,Rp.2 ⟨k,rfl,hk⟩,Int.toNat_natCast];rfl
theorem Ty {g:Ae}{st:Bv}(h:AO g st=true){k:Nat}(hk:k<g.length):(AS g st k).2.2.Nodup/\∀ x ∈ (AS g st k).2.2,∃ j:Nat,x=j/\j<g.length/\GZ g k j/\x ∈ BF g st/\(st.cols.getD j 0=2\/∃ y ∈ st.reads.getD j [],(AS g st k).1.vals.getD y.toNat 0≠st.vals.getD y.toNat 0):=by
 obtain⟨h1,_⟩:=D8 h hk;rw[Hh h hk];obtain⟨l,e,hn,hr⟩:=h1.ran;have e:(DU g st (k:Int)).ran=l:=by simpa using e
 refine⟨by rw[e];exact hn,fun x hx=>?_⟩;dsimp only at hx;rw[e] at hx;obtain⟨j,e,hj,hN,hc,_,hw⟩:=hr x hx;exact⟨j,e,hj,hN,(R9 h).2 ⟨j,e,hj,hc⟩,hw⟩
theorem Oh {g:Ae}{st:Bv}(_h:AO g st=true){k:Nat}(hk:k<st.vals.length)(x:Int):(BX st k x).vals=st.vals.set k x:=by
 unfold BX;split
 ·rename_i e
  refine(List.ext_getElem? fun j=>?_).symm;rw[List.getElem?_set];split
  ·rename_i e2
   subst e2;try rw[if_pos hk]
   rw[<- e,List.getD_eq_getElem?_getD,List.getElem?_eq_getElem hk];rfl
  ·rfl
 ·rfl
end Sg
namespace Go.Proofs.YthibllkleakiiaaGreatDoor
open Go.RowKit
end Go.Proofs.YthibllkleakiiaaGreatDoor
namespace Sg
structure VH where
 kind:Int
 node:Int
 val:Int
structure UA where
 node:Int
 val:Int
def Vv (g:Ae)(a:VH):Bool :=
 if a.kind=0 then Bt g a.node && BZ a.val 0 999
 else if a.kind=1 then BZ a.node 0 ((g.length:Int) - 1) && decide (CL g a.node=2) && decide (a.val=0)
 else if a.kind=2\/a.kind=3 then decide (a.node=0) && decide (a.val=0) else false
structure WC where
 opn:Nat
 pend:List Int
 stop:List Bool
def Vw (x:WC)(a:VH):WC × Bool :=
 if a.kind=0 then (⟨x.opn,x.pend.set a.node.toNat a.val,x.stop⟩,decide (x.opn=0))
 else if a.kind=1 then (⟨x.opn,x.pend,x.stop.set a.node.toNat true⟩,false)
 else if a.kind=2 then (⟨x.opn+1,x.pend,x.stop⟩,false)
 else (⟨x.opn - 1,x.pend,x.stop⟩,decide (x.opn=1))
structure TL (g:Ae) (x:WC) (k:Nat):Prop where
 c:AT g x.pend=true
 s:x.stop.length=g.length
 o:x.opn<=k
theorem Fu {g:Ae}{l:List Int}(h:AT g l=true):l.length=g.length:=by
 unfold AT at h;simp only[Bool.and_eq_true,decide_eq_true_eq] at h;exact h.1
theorem QJ {g:Ae}{l:List Int}(h:AT g l=true){n v:Int}(hn:Bt g n=true)(hv:BZ v 0 999=true):AT g (l.set n.toNat v)=true:=by
 have hl:=Fu h;unfold AT at h ⊢;simp only[Bool.and_eq_true,decide_eq_true_eq,List.length_set,List.all_eq_true,List.mem_range] at h ⊢;refine⟨hl,fun i hi=>?_⟩;have h1:=h.2 i hi;unfold Bt at hn;simp only[Bool.and_eq_true,decide_eq_true_eq,BZ] at hn;unfold FN at h1 ⊢;by_cases e:n.toNat=i
 ·subst e;have hk:CL g ((n.toNat:Nat):Int)=0:=by rw[Int.toNat_of_nonneg hn.1.1];exact hn.2
  simp only[List.getD_eq_getElem?_getD,List.getElem?_set_self hi,Option.getD_some,hk];simpa using hv
 ·simp only[List.getD_eq_getElem?_getD,List.getElem?_set_ne e] at h1 ⊢;exact h1
theorem TL.step {g:Ae}{x:WC}{k:Nat}(h:TL g x k){a:VH}(ha:Vv g a=true):TL g (Vw x a).1 (k+1):=by
 unfold Vw;unfold Vv at ha;split
 ·rename_i h0
  rw[if_pos h0,Bool.and_eq_true] at ha;exact⟨QJ h.c ha.1 ha.2,h.s,by have:=h.o;show x.opn<=k+1;omega⟩
 ·split
  ·exact⟨h.c,by show (x.stop.set _ _).length=_;rw[List.length_set];exact h.s,by have:=h.o;show x.opn<=k+1;omega⟩
  ·split
   ·exact⟨h.c,h.s,by have:=h.o;show x.opn+1<=k+1;omega⟩
   ·exact⟨h.c,h.s,by have:=h.o;show x.opn - 1<=k+1;omega⟩
def CF (g:Ae):List Int:=Ch (fun i=>decide (CL g (i:Int)=0)) g.length
theorem IU {g:Ae}{n:Int}:n ∈ CF g↔∃ i:Nat,n=i/\i<g.length/\CL g (i:Int)=0:=by
 unfold CF;rw[Fi];simp
theorem MZ {g:Ae}{i:Nat}{n:BQ}(h:g[i]? = some n):CL g (i:Int)=n.kind:=by
 unfold CL;simp[h]
theorem Ms (g:Ae):BV g (CF g)=true:=by
 unfold BV;rw[List.all_eq_true];intro k hk;rw[List.mem_range] at hk;obtain⟨x,hx⟩:∃ x,(CF g)[k]? = some x:=⟨_,List.getElem?_eq_getElem hk⟩;have hd:(CF g).getD k 0=x:=by rw[List.getD_eq_getElem?_getD,hx];rfl
 rw[hd,Bool.and_eq_true,decide_eq_true_eq];constructor
 ·obtain⟨i,rfl,hi,hk0⟩:=IU.1 (List.mem_of_getElem? hx);unfold Bt BZ;simp only[Bool.and_eq_true,decide_eq_true_eq];exact⟨by omega,hk0⟩
 ·intro hm;obtain⟨j,hj⟩:=List.getElem?_of_mem hm;rw[List.getElem?_take] at hj;split at hj
  ·rename_i hjk
   have hp:(CF g).Pairwise (·<·):=Mr _ _;obtain⟨h1,e1⟩:=List.getElem?_eq_some_iff.1 hj;obtain⟨h2,e2⟩:=List.getElem?_eq_some_iff.1 hx;have:=List.pairwise_iff_getElem.1 hp j k h1 h2 hjk;omega
  ·cases hj
theorem VK (l:List Int)(i:Nat):rd l (i:Int)=l.getD i 0:=by unfold rd;simp
theorem SA {g:Ae}{p:List Int}(h:AT g p=true)(i:Nat)(hi:i<g.length):0<=p.getD i 0/\p.getD i 0<=999:=by
 have hl:=CH h;refine DN h _ ?_;rw[List.getD_eq_getElem?_getD,List.getElem?_eq_getElem (by omega)];exact List.getElem_mem _
def N4 (g:Ae)(chg:List Int)(ck:List Bool):Prop:=∀ i,i<g.length->ck.getD i false=decide ((i:Int) ∈ chg)
theorem N4.start (g:Ae):N4 g [] (List.replicate g.length false):=by
 intro i hi;simp[hi]
theorem N4.keep {g:Ae}{chg:List Int}{ck:List Bool}(h:N4 g chg ck){j:Nat}(hj:(j:Int) ∉ chg):N4 g chg (ck.set j false):=by
 intro i hi;by_cases e:i=j
 ·subst e;rw[List.getD_eq_getElem?_getD];by_cases hl:i<ck.length
  ·rw[List.getElem?_set_self hl];simpa using hj
  ·rw[List.getElem?_eq_none (by simp;omega)];simpa using hj
 ·rw[List.getD_eq_getElem?_getD,List.getElem?_set_ne (fun h=>e h.symm),<- List.getD_eq_getElem?_getD];exact h i hi
theorem N4.add {g:Ae}{chg:List Int}{ck:List Bool}(h:N4 g chg ck){j:Nat}(hl:j<ck.length):N4 g (chg++[(j:Int)]) (ck.set j true):=by
 intro i hi;by_cases e:i=j
 ·subst e;rw[List.getD_eq_getElem?_getD,List.getElem?_set_self hl];simp
 ·rw[List.getD_eq_getElem?_getD,List.getElem?_set_ne (fun h=>e h.symm),<- List.getD_eq_getElem?_getD,h i hi];have h1:(i:Int)≠(j:Int):=by omega
  simp[h1]
theorem OU {l:List Int}{j:Nat}{x:Int}(h:l[j]? = some x):l.set j x=l:=by
 apply List.ext_getElem?;intro i;by_cases e:j=i
 ·subst e;rw[List.getElem?_set_self (List.getElem?_eq_some_iff.1 h).1,h]
 ·rw[List.getElem?_set_ne e]
theorem SC {g:Ae}{chg:List Int}{s:Mm}(h:N4 g chg s.ch){l:List Int}(hl:∀ x ∈ l,0<=x/\x<(g.length:Int)):Tj s l=KJ l chg:=by
 unfold Tj KJ;rw[Bool.eq_iff_iff,List.any_eq_true,List.any_eq_true];constructor
 ·rintro ⟨x,hx,hb⟩;refine⟨x,hx,?_⟩;have h1:=hl x hx;rw[h x.toNat (by omega)] at hb;rwa [show ((x.toNat:Nat):Int)=x from by omega] at hb
 ·rintro ⟨x,hx,hb⟩;refine⟨x,hx,?_⟩;have h1:=hl x hx;rw[h x.toNat (by omega)];rwa [show ((x.toNat:Nat):Int)=x from by omega]
def M0 (g:Ae)(s s':LR):Prop:=∃ l:List Int,s'.ran=s.ran++l/\∀ j,j<g.length->(j:Int) ∉ l ->
 Ba s' j=Ba s j/\Ci s' j=Ci s j/\(AN s j=2->AN s' j=2)/\((∃ y ∈ Ci s j,Ba s' y.toNat≠Ba s y.toNat)->AN s' j=2)
theorem M0.refl (g:Ae)(s:LR):M0 g s s:=⟨[],by simp,fun j _ _=>⟨rfl,rfl,id,fun ⟨_,_,h⟩=>absurd rfl h⟩⟩
theorem M0.trans {g:Ae}{s t u:LR}(h:M0 g s t)(k:M0 g t u):M0 g s u:=by
 obtain⟨l1,e1,f1⟩:=h;obtain⟨l2,e2,f2⟩:=k;refine⟨l1++l2,by rw[e2,e1,List.append_assoc],fun j hj hn=>?_⟩;rw[List.mem_append,not_or] at hn;obtain⟨a1,a2,a3,a4⟩:=f1 j hj hn.1;obtain⟨b1,b2,b3,b4⟩:=f2 j hj hn.2;refine⟨b1.trans a1,b2.trans a2,fun h2=>b3 (a3 h2),?_⟩;rintro ⟨y,hy,hne⟩;by_cases e:Ba t y.toNat=Ba s y.toNat
 ·exact b4 ⟨y,by rw[a2];exact hy,by rw[e];exact hne⟩
 ·exact b3 (a4 ⟨y,hy,e⟩)
noncomputable def Is (nodes:List Int)(p:List Int)(st:Bv):Bv:=nodes.foldl (fun t n=>BX t n.toNat (rd p n)) st
theorem Nz (nodes:List Int)(n:Int)(p:List Int)(st:Bv):Is (nodes++[n]) p st=BX (Is nodes p st) n.toNat (rd p n):=by simp[Is]
structure Wl (g:Ae) (p:List Int) (st0 st:Bv) (nodes:List Int):Prop where
 ok:AO g st=true
 rds:st.reads=st0.reads
 cell:∀ i:Nat,(i:Int) ∈ nodes->st.vals.getD i 0=p.getD i 0
 oth:∀ i:Nat,(i:Int) ∉ nodes->st.vals.getD i 0=st0.vals.getD i 0
 two:∀ j,j<g.length->st0.cols.getD j 0=2->st.cols.getD j 0=2
 told:∀ j,j<g.length->(∃ y ∈ st0.reads.getD j [],st.vals.getD y.toNat 0≠st0.vals.getD y.toNat 0)->st.cols.getD j 0=2
 dirt:∀ j,j<g.length->st.cols.getD j 0=2->st0.cols.getD j 0=2\/∃ y ∈ st0.reads.getD j [],st.vals.getD y.toNat 0≠st0.vals.getD y.toNat 0
theorem VL {g:Ae}{p:List Int}{st0:Bv}(h:AO g st0=true)(hp:AT g p=true)(k:Nat)(hk:k<=(CF g).length):Wl g p st0 (Is ((CF g).take k) p st0) ((CF g).take k):=by
 induction k with
 | zero=>exact⟨h,rfl,fun i hi=>by simp at hi,fun i _=>rfl,fun j _ h=>h,fun j _ h=>by obtain⟨y,_,hy⟩:=h;exact absurd rfl hy,fun j _ h=>.inl h⟩
 | succ k ih =>
  obtain⟨ok,rds,cell,oth,two,told,dirt⟩:=ih (by omega);have hkl:k<(CF g).length:=by omega
  have e2:(CF g).take (k+1)=(CF g).take k++[(CF g)[k]]:=List.take_succ_eq_append_getElem hkl;obtain⟨n,en,hn,hk0⟩:=IU.1 (List.getElem_mem hkl)
  have hnew:(n:Int) ∉ (CF g).take k:=by
   have hd:=CA (Ms g) (List.getElem?_eq_getElem hkl);have:=hd.2;rw[en] at this;exact this
  rw[en] at e2;rw[e2,Nz];generalize Is ((CF g).take k) p st0=st at *;generalize (CF g).take k=nodes at *;have hs:=AP ok;have hpn:=SA hp n hn
  have hcell:Bt g (n:Int)=true:=by
   unfold Bt BZ;simp only[Bool.and_eq_true,decide_eq_true_eq];exact⟨by omega,hk0⟩
  rw[Int.toNat_natCast,VK];have hv:=JQ ok hcell hpn;have hvals:=Oh ok (show n<st.vals.length by omega) (p.getD n 0)
  have hgv:∀ i:Nat,(BX st n (p.getD n 0)).vals.getD i 0=if i=n then p.getD n 0 else st.vals.getD i 0:=fun i=>by
   rw[hvals,EM _ _ _ _ _ (by omega)]
  have hrd2:(BX st n (p.getD n 0)).reads=st.reads:=by unfold BX;split <;> rfl
  have hA:=CW ok
  have hcols:∀ j,j<g.length->(st.cols.getD j 0=2->(BX st n (p.getD n 0)).cols.getD j 0=2)/\((n:Int) ∈ st.reads.getD j []->st.vals.getD n 0≠p.getD n 0->(BX st n (p.getD n 0)).cols.getD j 0=2) /\
    ((BX st n (p.getD n 0)).cols.getD j 0=2->st.cols.getD j 0=2\/((n:Int) ∈ st.reads.getD j []/\st.vals.getD n 0≠p.getD n 0)):=by
   intro j hj;unfold BX;by_cases e:st.vals.getD n 0=p.getD n 0
   ·rw[if_pos e];exact⟨id,fun _ h=>absurd e h,.inl⟩
   ·rw[if_neg e];have hsp:=GU st.reads st.cols n j (by omega);dsimp only;rw[hsp];refine⟨fun h2=>?_,fun hm _=>?_,fun h2=>?_⟩
    ·rw[h2];split;split <;> simp;rfl
    ·rw[if_pos (Fc.one hm),if_pos hm]
    ·split at h2
     ·split at h2
      ·rename_i hm;exact .inr ⟨hm,e⟩
      ·split at h2
       ·omega
       ·exact .inl h2
     ·exact .inl h2
  refine⟨hv,hrd2.trans rds,fun i hi=>?_,fun i hi=>?_,fun j hj h2=>(hcols j hj).1 (two j hj h2),fun j hj h2=>?_,fun j hj h2=>?_⟩
  ·rw[hgv];split
   ·rename_i e;rw[e]
   ·rename_i e
    rcases List.mem_append.1 hi with hi | hi
    ·exact cell i hi
    ·rw[List.mem_singleton] at hi;omega
  ·rw[List.mem_append,not_or,List.mem_singleton] at hi;rw[hgv,if_neg (by omega)];exact oth i hi.1
  ·obtain⟨y,hy,hne⟩:=h2;rw[hgv] at hne;split at hne
   ·rename_i e
    have hy0:=hA j y (by rw[rds];exact hy);have:y=(n:Int):=by omega
    subst this;rw[Int.toNat_natCast] at hne;rw[<- oth n hnew] at hne;exact(hcols j hj).2.1 (by rw[rds];exact hy) (fun h=>hne h.symm)
   ·exact(hcols j hj).1 (told j hj ⟨y,hy,hne⟩)
  ·rcases (hcols j hj).2.2 h2 with h3 | ⟨hm,hne⟩
   ·rcases dirt j hj h3 with h4 | ⟨y,hy,hne⟩
    ·exact .inl h4
    ·refine .inr ⟨y,hy,?_⟩;rw[hgv];split
     ·rename_i e
      exfalso
      have hy0:=hA j y (by rw[rds];exact hy);have:y=(n:Int):=by omega
      subst this;rw[Int.toNat_natCast] at hne;exact hne (oth n hnew)
     ·exact hne
   ·refine .inr ⟨n,by rw[<- rds];exact hm,?_⟩;rw[Int.toNat_natCast,hgv,if_pos rfl,<- oth n hnew];exact fun h=>hne h.symm
structure Tk (g:Ae) (a:List Int) (st:Bv):Prop where
 ok:AO g st=true
 cells:B8 g st.vals=a
theorem Tk.mean {g:Ae}{a:List Int}{st:Bv}(h:Tk g a st){j:Nat}(hj:j<g.length)(hc:st.cols.getD j 0=0):st.vals.getD j 0=(Bz g a).getD j 0:=by
 have:=P4 h.ok (j+1) j (by omega) hj hc;rw[h.cells] at this;exact this.symm
theorem Tk.rds {g:Ae}{a:List Int}{st:Bv}(h:Tk g a st){j:Nat}(hj:j<g.length)(hc:st.cols.getD j 0=0):st.reads.getD j []=Cb g (Sg.Bz g a) j/\∀ x ∈ st.reads.getD j [],st.cols.getD x.toNat 0=0:=by
 have hn:g[j]? = some g[j]:=List.getElem?_eq_getElem hj;generalize g[j]=nd at hn;have hk:=(BH.1 h.ok).2 j nd hn;unfold Cb;rw[Bi hn];by_cases h0:nd.kind=0
 ·rw[if_pos h0,(hk.cell h0).2];exact⟨rfl,fun x hx=>by cases hx⟩
 ·rw[if_neg h0];rcases hk.form h0 with ⟨h2,_⟩ | ⟨h2,_⟩ | ⟨_,hR,hx⟩
  ·omega
  ·omega
  ·refine⟨?_,hx⟩;have hA:=CW h.ok
   have:AK nd.f st.vals=AK nd.f (Sg.Bz g a):=by
    refine H3 fun x hm=>?_;rw[hR] at hm;have hx0:=hA j x hm;have:=h.mean (j:=x.toNat) (by omega) (hx x hm);unfold rd;exact this
   rw[<- this,hR]
theorem Tk.cell {g:Ae}{a:List Int}{st:Bv}(h:Tk g a st){j:Nat}(hj:j<g.length)(hk:CL g (j:Int)=0):st.vals.getD j 0=(Sg.Bz g a).getD j 0/\st.cols.getD j 0=0:=by
 have hn:g[j]? = some g[j]:=List.getElem?_eq_getElem hj;generalize g[j]=nd at hn;rw[MZ hn] at hk;have hc:=(((BH.1 h.ok).2 j nd hn).cell hk).1;exact⟨h.mean hj hc,hc⟩
theorem Tk.wr {g:Ae}{a p:List Int}{st:Bv}(h:Tk g a st)(hp:AT g p=true):Wl g p st (Is (CF g) p st) (CF g)/\Tk g p (Is (CF g) p st):=by
 have hw:=VL h.ok hp (CF g).length (Nat.le_refl _);rw[List.take_length] at hw;refine⟨hw,hw.ok,?_⟩;have hs:=AP hw.ok;have hpl:=CH hp;refine(Ly (by omega) hpl fun i n hn h0=>?_).trans ?_
 ·exact hw.cell i (IU.2 ⟨i,rfl,(List.getElem?_eq_some_iff.1 hn).1,by rw[MZ hn];exact h0⟩)
 ·refine VD (by unfold B8;simp) fun i hi=>?_;rw[show (B8 g p).length=p.length by unfold B8;simp] at hi;rw[Ek g p i hi];split
  ·rename_i h0
   obtain⟨n,hn⟩:∃ n,g[i]? = some n:=⟨_,List.getElem?_eq_getElem (by omega)⟩;rw[Bi hn] at h0;rw[KF hp hn h0]
  ·rfl
theorem Tk.rd {g:Ae}{a:List Int}{st:Bv}(h:Tk g a st)(l:List Int)(hl:∀ x ∈ l,∃ k:Nat,x=k/\k<g.length):Tk g a (PR g l ⟨st,[]⟩).st:=by
 have hc:=Lp (g:=g) (s:=⟨st,[]⟩) h.ok l (fun k hk=>Rp.2 (hl k hk));exact⟨hc.ok,(Mn (s:=⟨st,[]⟩) h.ok hc).trans h.cells⟩
def Xx (g:Ae):Nat:=(Ch (fun j=>decide (CL g (j:Int)≠0)) g.length).length
end Sg
