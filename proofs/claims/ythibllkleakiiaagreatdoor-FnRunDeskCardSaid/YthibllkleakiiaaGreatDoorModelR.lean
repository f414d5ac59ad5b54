/- Parts of one proof, joined. Parts of one proof, joined. What goodGraph keeps in memory, and how its steps turn it, and more. Conditions: in the theorems. -/
import Derived.Test.YthibllkleakiiaaGreatDoorModLaz
import Derived.Deep.DeepCutAuto
import Derived.Test.YthibllkleakiiaaGreatDoorDrawD
namespace Sg
theorem El {α:Type}{l:List α}{i:Nat}(h:i<l.length)(x d:α):(l.set i x).getD i d=x:=by
 rw[List.getD_eq_getElem?_getD,List.getElem?_set_self h];rfl
theorem CJ {α:Type}{l:List α}{i j:Nat}(h:i≠j)(x d:α):(l.set i x).getD j d=l.getD j d:=by
 rw[List.getD_eq_getElem?_getD,List.getElem?_set_ne h,<- List.getD_eq_getElem?_getD]
def GR (a nodes values:List Int):List Int:=(nodes.zip values).foldl (fun l p=>l.set p.1.toNat p.2) a
def Bf (a nodes values:List Int)(k:Nat):List Int:=((nodes.zip values).take k).foldl (fun l p=>l.set p.1.toNat p.2) a
theorem Fh (a nodes values:List Int)(k:Nat){n x:Int}(hn:nodes[k]? = some n)(hx:values[k]? = some x):Bf a nodes values (k+1)=(Bf a nodes values k).set n.toNat x:=by
 unfold Bf;have hz:(nodes.zip values)[k]? = some (n,x):=by rw[List.getElem?_zip_eq_some];exact⟨hn,hx⟩
 obtain⟨hk,he⟩:=List.getElem?_eq_some_iff.1 hz;rw[List.take_succ_eq_append_getElem hk,List.foldl_append,he];rfl
@[simp] theorem writtenTo_zero (a nodes values:List Int):Bf a nodes values 0=a:=rfl
theorem Em (a nodes values:List Int)(k:Nat):(Bf a nodes values k).length=a.length:=by
 unfold Bf;generalize (nodes.zip values).take k=l;induction l generalizing a with
 | nil=>rfl
 | cons p l ih=>rw[List.foldl_cons,ih];simp
theorem JO (a nodes values:List Int)(h:nodes.length=values.length):Bf a nodes values nodes.length=GR a nodes values:=by
 unfold Bf GR;rw[List.take_of_length_le (by simp[h])]
theorem Lf (v:List Int)(c:List Bool)(nodes values:List Int)(k:Nat):(Ch (v,c) nodes values k).1=Bf v nodes values k:=by
 unfold Ch Bf;generalize (nodes.zip values).take k=l;induction l generalizing v c with
 | nil=>rfl
 | cons p l ih=>rw[List.foldl_cons,List.foldl_cons];exact ih _ _
theorem DY (a nodes values:List Int)(k i:Nat)(hn:∀ x ∈ nodes,0<=x)(h:(i:Int) ∉ nodes.take k):(Bf a nodes values k).getD i 0=a.getD i 0:=by
 induction k with
 | zero=>rfl
 | succ k ih =>
  cases hx:nodes[k]? with
  | none =>
   have hl:nodes.length<=k:=List.getElem?_eq_none_iff.1 hx
   have:Bf a nodes values (k+1)=Bf a nodes values k:=by
    unfold Bf;rw[List.take_of_length_le (by simp;omega),List.take_of_length_le (by simp;omega)]
   rw[this];exact ih (fun hm=>h (by rw[List.take_of_length_le (by omega)];rw[List.take_of_length_le (by omega)] at hm;exact hm))
  | some x =>
   have hxl:=(List.getElem?_eq_some_iff.1 hx).1
   have ht:nodes.take (k+1)=nodes.take k++[x]:=by
    rw[List.take_succ_eq_append_getElem hxl];obtain⟨_,h2⟩:=List.getElem?_eq_some_iff.1 hx;rw[h2]
   rw[ht,List.mem_append,List.mem_singleton] at h;cases hy:values[k]? with
   | none =>
    have hl:values.length<=k:=List.getElem?_eq_none_iff.1 hy
    have:Bf a nodes values (k+1)=Bf a nodes values k:=by
     unfold Bf;rw[List.take_of_length_le (by simp;omega),List.take_of_length_le (by simp;omega)]
    rw[this];exact ih (fun hm=>h (.inl hm))
   | some y =>
    rw[Fh a nodes values k hx hy,List.getD_eq_getElem?_getD,List.getElem?_set_ne,<- List.getD_eq_getElem?_getD]
    ·exact ih (fun hm=>h (.inl hm))
    ·intro e;have:=hn x (List.mem_of_getElem? hx);exact h (.inr (by omega))
theorem Mt (a a' nodes values:List Int)(k i:Nat)(hl:a.length=a'.length)(hk:nodes.length=values.length)(hn:∀ x ∈ nodes,0<=x/\x<(a.length:Int))(h:(i:Int) ∈ nodes.take k):(Bf a nodes values k).getD i 0=(Bf a' nodes values k).getD i 0:=by
 induction k with
 | zero=>simp at h
 | succ k ih =>
  cases hx:nodes[k]? with
  | none =>
   have hl2:nodes.length<=k:=List.getElem?_eq_none_iff.1 hx
   have e:∀ b,Bf b nodes values (k+1)=Bf b nodes values k:=fun b=>by
    unfold Bf;rw[List.take_of_length_le (by simp;omega),List.take_of_length_le (by simp;omega)]
   rw[e,e];refine ih ?_;rw[List.take_of_length_le (by omega)] at h ⊢;exact h
  | some x =>
   have hxl:=(List.getElem?_eq_some_iff.1 hx).1;obtain⟨y,hy⟩:∃ y,values[k]? = some y:=⟨_,List.getElem?_eq_getElem (by omega)⟩;rw[Fh a nodes values k hx hy,Fh a' nodes values k hx hy];have hb:=hn x (List.mem_of_getElem? hx);by_cases hxi:x.toNat=i
   ·rw[List.getD_eq_getElem?_getD,List.getD_eq_getElem?_getD,hxi,List.getElem?_set_self (by rw[Em];omega),List.getElem?_set_self (by rw[Em];omega)]
   ·rw[List.getD_eq_getElem?_getD,List.getD_eq_getElem?_getD,List.getElem?_set_ne hxi,List.getElem?_set_ne hxi,<- List.getD_eq_getElem?_getD,<- List.getD_eq_getElem?_getD];refine ih ?_
    have ht:nodes.take (k+1)=nodes.take k++[x]:=by
     rw[List.take_succ_eq_append_getElem hxl];obtain⟨_,h2⟩:=List.getElem?_eq_some_iff.1 hx;rw[h2]
    rw[ht,List.mem_append,List.mem_singleton] at h;rcases h with h | h
    ·exact h
    ·omega
theorem LL (a nodes values:List Int)(k:Nat)(ha:Bq a)(hv:Bq values):Bq (Bf a nodes values k):=by
 unfold Bf
 have key:∀ (l:List (Int × Int)) (a:List Int),Bq a->(∀ p ∈ l,0<=p.2/\p.2<=999)->Bq (l.foldl (fun l p=>l.set p.1.toNat p.2) a):=by
  intro l;induction l with
  | nil=>intro a ha _;exact ha
  | cons p l ih =>
   intro a ha hp;rw[List.foldl_cons];refine ih _ ?_ (fun q hq=>hp q (by simp[hq]));intro x hx;rcases List.mem_or_eq_of_mem_set hx with hx | rfl
   ·exact ha x hx
   ·exact hp p (by simp)
 refine key _ _ ha (fun p hp=>?_);exact hv p.2 (List.of_mem_zip (List.mem_of_mem_take hp)).2
theorem TN {g:Ae}{v nodes values:List Int}(hv:v.length=g.length)(hcd:B_ g nodes=true)(hlen:nodes.length=values.length)(k:Nat)(hk:k<=nodes.length)(i:Nat)(hi:i<g.length) :
  (Ch (v,List.replicate g.length false) nodes values k).2.getD i false=((Bf v nodes values k).getD i 0 != v.getD i 0):=by
 induction k with
 | zero=>simp[hi]
 | succ k ih =>
  have ih:=ih (by omega);have hxl:k<nodes.length:=hk;have hx:nodes[k]? = some nodes[k]:=List.getElem?_eq_getElem hxl;obtain⟨y,hy⟩:∃ y,values[k]? = some y:=⟨_,List.getElem?_eq_getElem (by omega)⟩;generalize nodes[k]=x at hx;rw[Jj _ nodes values k hx hy,Fh v nodes values k hx hy];obtain⟨hc,hnt⟩:=CH hcd hx;obtain⟨j,n,rfl,hn,_⟩:=Fx hc;have hj:=(List.getElem?_eq_some_iff.1 hn).1
  have hpos:∀ x ∈ nodes,0<=x:=by
   intro z hz;obtain⟨m,hm⟩:=List.getElem?_of_mem hz;obtain⟨j',_,rfl,_,_⟩:=Fx (CH hcd hm).1;omega
  unfold IA;rw[Int.toNat_natCast];by_cases e:j=i
  ·subst e;rw[El (by simp;omega),El (by rw[Em];omega)];rw[Lf,DY v nodes values k j hpos hnt];exact bne_comm
  ·rw[CJ e,CJ e];exact ih
structure VX (g:Ae) (a b:List Int) (s:Nn) (k:Nat):Prop where
 v:s.vals.length=g.length
 r:s.reads.length=g.length
 c:s.ch.length=g.length
 v1:∀ i,i<k->s.vals.getD i 0=(BF g b).getD i 0
 v2:∀ i n,k<=i->g[i]? = some n->s.vals.getD i 0=if n.kind=0 then (BF g b).getD i 0 else (BF g a).getD i 0
 r1:∀ i,i<k->s.reads.getD i []=Cf g (BF g b) i
 r2:∀ i,k<=i->i<g.length->s.reads.getD i []=Cf g (BF g a) i
 c1:∀ i,i<k->s.ch.getD i false=((BF g b).getD i 0 != (BF g a).getD i 0)
 c2:∀ i n,k<=i->g[i]? = some n->s.ch.getD i false=if n.kind=0 then ((BF g b).getD i 0 != (BF g a).getD i 0) else false
 n:s.ran=Cm (Jk g (BF g a) (BF g b)) k
theorem VX.step {g:Ae}{a b:List Int}{s:Nn}{k:Nat}(hG:AG g=true)(h:VX g a b s k)(hk:k<g.length):VX g a b (Jg g s k) (k+1):=by
 obtain⟨n,hn⟩:∃ n,g[k]? = some n:=⟨_,List.getElem?_eq_getElem hk⟩;have lt_of:∀ {i:Nat},i<k+1->i≠k->i<k:=fun h1 h2=>by omega
 by_cases h0:n.kind=0
 ·rw[Iw hn (.inl h0)]
  have hm:Jk g (BF g a) (BF g b) k=false:=by
   unfold Jk CU;rw[Int.toNat_natCast,Bk hn];simp[h0]
  have hv:=h.v2 k n (Nat.le_refl _) hn;have hc:=h.c2 k n (Nat.le_refl _) hn;rw[if_pos h0] at hv hc;have hr:=h.r2 k (Nat.le_refl _) hk;have hd:∀ x,Cf g x k=[]:=fun x=>by unfold Cf;rw[Bk hn,if_pos h0]
  refine⟨h.v,h.r,h.c,fun i hi=>?_,fun i n' hi hn'=>h.v2 i n' (by omega) hn',fun i hi=>?_,fun i hi hi2=>h.r2 i (by omega) hi2,fun i hi=>?_,fun i n' hi hn'=>h.c2 i n' (by omega) hn',?_⟩
  ·by_cases e:i=k
   ·subst e;exact hv
   ·exact h.v1 i (lt_of hi e)
  ·by_cases e:i=k
   ·subst e;rw[hr,hd,hd]
   ·exact h.r1 i (lt_of hi e)
  ·by_cases e:i=k
   ·subst e;exact hc
   ·exact h.c1 i (lt_of hi e)
  ·rw[h.n,DC,hm,if_neg (by simp)]
 ·have hdA:Cf g (BF g a) k=(AJ n.f (BF g a)).2:=by unfold Cf;rw[Bk hn,if_neg h0]
  have hdB:Cf g (BF g b) k=(AJ n.f (BF g b)).2:=by unfold Cf;rw[Bk hn,if_neg h0]
  have hrun:AJ n.f s.vals=AJ n.f (BF g b):=GL (Bo hG k hn h0) (fun j hj=>h.v1 j hj);have hB:=NZ (cells:=b) hG hn h0;have hA:=NZ (cells:=a) hG hn h0;have hr:=h.r2 k (Nat.le_refl _) hk;have hv:=h.v2 k n (Nat.le_refl _) hn;have hc:=h.c2 k n (Nat.le_refl _) hn;rw[if_neg h0] at hv hc;have hkind:(CU g (k:Int) != 0)=true:=by unfold CU;rw[Int.toNat_natCast,Bk hn];simp[h0]
  have hhit:UA s (s.reads.getD k [])=(Cf g (BF g a) k).any fun x=>rd (BF g a) x != rd (BF g b) x:=by
   unfold UA;rw[hr,Bool.eq_iff_iff,List.any_eq_true,List.any_eq_true];refine exists_congr fun x=>and_congr_right fun hx=>?_;have hx2:=GB hG hk hx;unfold rd;rw[h.c1 x.toNat (by omega),bne_comm]
  cases hh:UA s (s.reads.getD k [])
  ·rw[Iw hn (.inr hh)];rw[hh] at hhit
   have hsame:AJ n.f (BF g a)=AJ n.f (BF g b):=Iv fun x hx=>by
    have:=List.any_eq_false.1 hhit.symm x (by rw[hdA];exact hx);simpa using this
   have hval:(BF g a).getD k 0=(BF g b).getD k 0:=by rw[hA,hB,hsame]
   have hm:Jk g (BF g a) (BF g b) k=false:=by
    unfold Jk;rw[<- hhit,hval];simp
   refine⟨h.v,h.r,h.c,fun i hi=>?_,fun i n' hi hn'=>h.v2 i n' (by omega) hn',fun i hi=>?_,fun i hi hi2=>h.r2 i (by omega) hi2,fun i hi=>?_,fun i n' hi hn'=>h.c2 i n' (by omega) hn',?_⟩
   ·by_cases e:i=k
    ·subst e;rw[hv,hval]
    ·exact h.v1 i (lt_of hi e)
   ·by_cases e:i=k
    ·subst e;rw[hr,hdA,hdB,hsame]
    ·exact h.r1 i (lt_of hi e)
   ·by_cases e:i=k
    ·subst e;rw[hc,hval];simp
    ·exact h.c1 i (lt_of hi e)
   ·rw[h.n,DC,hm,if_neg (by simp)]
  ·rw[KP hn h0 hh,hrun]
   have hm:Jk g (BF g a) (BF g b) k=true:=by
    unfold Jk;rw[hkind,<- hhit,hh];simp
   refine⟨by simp[h.v],by simp[h.r],by simp[h.c],fun i hi=>?_,fun i n' hi hn'=>?_,fun i hi=>?_,fun i hi hi2=>?_,fun i hi=>?_,fun i n' hi hn'=>?_,?_⟩
   ·by_cases e:i=k
    ·subst e;rw[El (by rw[h.v];exact hk),hB]
    ·rw[CJ (fun e2=>e e2.symm)];exact h.v1 i (lt_of hi e)
   ·rw[CJ (by omega)];exact h.v2 i n' (by omega) hn'
   ·by_cases e:i=k
    ·subst e;rw[El (by rw[h.r];exact hk),hdB]
    ·rw[CJ (fun e2=>e e2.symm)];exact h.r1 i (lt_of hi e)
   ·rw[CJ (by omega)];exact h.r2 i (by omega) hi2
   ·by_cases e:i=k
    ·subst e;rw[El (by rw[h.c];exact hk),hv,hB]
    ·rw[CJ (fun e2=>e e2.symm)];exact h.c1 i (lt_of hi e)
   ·rw[CJ (by omega)];exact h.c2 i n' (by omega) hn'
   ·rw[h.n,DC,hm,if_pos rfl]
theorem VX.steps {g:Ae}{a b:List Int}{s:Nn}(hG:AG g=true)(h:VX g a b s 0)(k:Nat)(hk:k<=g.length):VX g a b (BX g s k) k:=by
 induction k with
 | zero=>exact h
 | succ k ih=>rw[F_];exact(ih (by omega)).step hG (by omega)
theorem PW {g:Ae}{nodes:List Int}(hcd:B_ g nodes=true):∀ x ∈ nodes,∃ (j:Nat) (n:BV),x=j/\g[j]? = some n/\n.kind=0:=by
 intro x hx;obtain⟨m,hm⟩:=List.getElem?_of_mem hx;exact Fx (CH hcd hm).1
theorem GT {g:Ae}{st:BZ}{nodes values:List Int}(h:GU g st nodes values=true):Dv g st=true/\B_ g nodes=true/\nodes.length=values.length/\Bq values:=by
 unfold GU at h;simp only[Bool.and_eq_true,decide_eq_true_eq] at h;exact⟨h.1.1.1,h.1.1.2,h.1.2,Cc h.2⟩
theorem FQ {g:Ae}{st:BZ}{nodes values:List Int}(h:GU g st nodes values=true):AT g (GR (Cd g st.vals) nodes values)=true:=by
 obtain⟨hV,hcd,hlen,hx⟩:=GT h;have hC:=Kn hV;have hl:=Cu hC;have hin:=PW hcd;rw[<- JO _ _ _ hlen];refine N4 (by rw[Em];exact hl) fun i n hi=>?_;have hil:=(List.getElem?_eq_some_iff.1 hi).1;have hr:=LL _ nodes values nodes.length (CX hC) hx;have h1:i<(Bf (Cd g st.vals) nodes values nodes.length).length:=by rw[Em];omega
 refine⟨?_,fun h0=>?_⟩
 ·rw[List.getD_eq_getElem?_getD,List.getElem?_eq_getElem h1];exact hr _ (List.getElem_mem h1)
 ·rw[DY _ _ _ _ _ (fun x hx=>by obtain⟨j,_,rfl,_⟩:=hin x hx;omega)]
  ·exact Lg hC hi h0
  ·intro hm;obtain⟨j,n',e,hn',hk⟩:=hin _ (List.mem_of_mem_take hm);have:i=j:=by omega
   subst this;rw[hi] at hn';injection hn' with hn';subst hn';exact h0 hk
theorem VX.start {g:Ae}{st:BZ}{nodes values:List Int}(h:GU g st nodes values=true) :
  VX g (Cd g st.vals) (GR (Cd g st.vals) nodes values) ⟨(Ch (st.vals,List.replicate g.length false) nodes values nodes.length).1,st.reads,(Ch (st.vals,List.replicate g.length false) nodes values nodes.length).2,[]⟩ 0:=by
 obtain⟨hV,hcd,hlen,hx⟩:=GT h;obtain⟨hG,hvl,hrl,hvr,hR⟩:=Bb hV;have hin:=PW hcd;have hA:=PX hV;have hpos:∀ x ∈ nodes,0<=x:=fun x hx=>by obtain⟨j,_,rfl,_⟩:=hin x hx;omega
 have hB:∀ i n,g[i]? = some n->n.kind=0->(BF g (GR (Cd g st.vals) nodes values)).getD i 0=(Bf st.vals nodes values nodes.length).getD i 0:=by
  intro i n hn h0;have hil:=(List.getElem?_eq_some_iff.1 hn).1;rw[Me _ hn,if_pos h0,<- JO _ _ _ hlen];by_cases hm:(i:Int) ∈ nodes.take nodes.length
  ·exact Mt _ _ nodes values nodes.length i (by simp) hlen (fun x hx=>by obtain⟨j,n',rfl,hn',_⟩:=hin x hx;have:=(List.getElem?_eq_some_iff.1 hn').1;simp[hvl];omega) hm
  ·rw[DY _ _ _ _ _ hpos hm,DY _ _ _ _ _ hpos hm,Et g _ i (by omega),Bk hn,if_neg (by simpa using h0)]
 have hN:∀ i n,g[i]? = some n->n.kind≠0->(Bf st.vals nodes values nodes.length).getD i 0=st.vals.getD i 0:=by
  intro i n hn h0;refine DY _ _ _ _ _ hpos fun hm=>?_;obtain⟨j,n',e,hn',hk⟩:=hin _ (List.mem_of_mem_take hm);have:i=j:=by omega
  subst this;rw[hn] at hn';injection hn' with hn';subst hn';exact h0 hk
 refine⟨by simp[hvl],hrl,by simp,fun i hi=>by omega,fun i n _ hn=>?_,fun i hi=>by omega,fun i _ hi=>?_,fun i hi=>by omega,fun i n _ hn=>?_,by simp[Cm]⟩
 ·show (Ch (st.vals,List.replicate g.length false) nodes values nodes.length).1.getD i 0=_;rw[Lf,hA];by_cases h0:n.kind=0
  ·rw[if_pos h0,hB i n hn h0]
  ·rw[if_neg h0,hN i n hn h0]
 ·show st.reads.getD i []=_;rw[hA];obtain⟨n,hn⟩:∃ n,g[i]? = some n:=⟨_,List.getElem?_eq_getElem hi⟩;unfold Cf;rw[Bk hn];by_cases h0:n.kind=0
  ·rw[if_pos h0,IK hn h0 (hR i hi)]
  ·rw[if_neg h0,Ic hn h0 (hR i hi)]
 ·have hil:=(List.getElem?_eq_some_iff.1 hn).1;show (Ch (st.vals,List.replicate g.length false) nodes values nodes.length).2.getD i false=_;rw[TN hvl hcd hlen nodes.length (Nat.le_refl _) i hil,hA];by_cases h0:n.kind=0
  ·rw[if_pos h0,hB i n hn h0]
  ·rw[if_neg h0,hN i n hn h0];simp
theorem If {g:Ae}{st:BZ}{nodes values:List Int}(h:GU g st nodes values=true) :
  Bi g st nodes values=(BQ g (GR (Cd g st.vals) nodes values),OH g (Cd g st.vals) (GR (Cd g st.vals) nodes values)):=by
 have hC:=FQ h;obtain⟨hV,hcd,hlen,hx⟩:=GT h;obtain⟨hG,hvl,hrl,hvr,hR⟩:=Bb hV;have hI:=(VX.start h).steps hG g.length (Nat.le_refl _);have hA:=Kn hV;unfold Bi;have hS:C0 g st nodes values=BX g ⟨(Ch (st.vals,List.replicate g.length false) nodes values nodes.length).1,st.reads,(Ch (st.vals,List.replicate g.length false) nodes values nodes.length).2,[]⟩ g.length:=rfl;rw[hS];refine Prod.ext ?_ ?_
 ·show BZ.mk _ _=BZ.mk _ _;congr 1
  ·exact Xe (by rw[hI.v];simp) (fun i hi=>hI.v1 i (by rw[hI.v] at hi;exact hi))
  ·refine List.ext_getElem (by rw[hI.r];simp) fun i h1 h2=>?_;rw[hI.r] at h1;have:=hI.r1 i h1;rw[List.getD_eq_getElem?_getD,List.getElem?_eq_getElem (by rw[hI.r];exact h1)] at this;simp only[Option.getD_some] at this;rw[this];simp[Cv]
 ·show (BX g _ g.length).ran=_;rw[hI.n];unfold OH;rw[hG,hA,hC];rfl
end Sg
namespace Go.Proofs.YthibllkleakiiaaGreatDoor
open Go.RowKit
theorem Bj.gr {w w':World}{B eo so ei si c:Nat}{A:Option Addr}{its:List It}{hs:List (Option Addr × Nat)}{row:Option Nat}(k:Bj w B eo so ei si A c its hs)(hg:w.grownBy w' row)(hr:∀ b,row=some b->¬ Gi A hs b):Bj w' B eo so ei si A c its hs :=
 k.fr fun b hb=>hg.block b (k.lt hb).2 (fun e=>hr b e.symm hb)
theorem Bj.snocM {w1 w2:World}{B S eo so ei si c c':Nat}{A A':Option Addr}{its:List It}{hs:List (Option Addr × Nat)}(k:Bj w1 B eo so ei si A c its hs)(hS:∀ b,Gi A hs b->b<S)(hB:B<=S){it:It}{A0:Option Addr}{c0:Nat}(own:Au w1 S ei si A0 it.n c0 it.xs)(out:Au w2 B eo so A' (its.length+1) c' (A_ its hs++Nv it (A0,c0)))(hg:w1.grownBy w2 (AE A))(hat:AE A'=AE A\/∃ g,AE A'=some g/\w1.heap.size<=g) :
  Bj w2 B eo so ei si A' c' (its++[it]) (hs++[(A0,c0)]):=by
 have key:∀ (i:Nat) (h:Option Addr × Nat),(hs++[(A0,c0)])[i]? = some h->(i<hs.length/\hs[i]? = some h)\/(i=hs.length/\h=(A0,c0)):=by
  intro i h hh;by_cases hik:i<hs.length
  ·rw[List.getElem?_append_left hik] at hh;exact .inl ⟨hik,hh⟩
  ·have h1:=(ge_.1 hh).1;simp at h1
   obtain rfl:i=hs.length:=by omega
   rw[List.getElem?_append_right (Nat.le_refl _)] at hh;simp at hh
   exact .inr ⟨rfl,hh.symm⟩
 have old:∀ (i:Nat) (h:Option Addr × Nat),hs[i]? = some h->∀ b,AE h.1=some b->b<S:=fun i h hh b hb=>hS b (.inr ⟨h,List.mem_of_getElem? hh,hb⟩);refine⟨by simp[k.len],by simpa[J8 _ _ k.len] using out,?_,?_,?_⟩
 ·intro i it' h hi hh;rcases key i h hh with ⟨hik,hh⟩ | ⟨rfl,rfl⟩
  ·rw[List.getElem?_append_left (by rw[<- k.len];exact hik)] at hi;have o1:=k.inn i it' h hi hh;exact o1.keep fun b hb=>hg.block b (o1.lt hb).2 (fun e=>k.dio i h hh b e.symm hb)
  ·rw[List.getElem?_append_right (by rw[k.len];exact Nat.le_refl _),k.len,Nat.sub_self] at hi;simp at hi
   subst hi;refine(own.keep fun b hb=>hg.block b (own.lt hb).2 (fun e=>?_)).mono hB;have h1:=(own.lt hb).1;have h2:=hS b (.inl e.symm);omega
 ·intro i j h h' hij hh hh' b hb hb';rcases key i h hh with ⟨_,hh⟩ | ⟨rfl,rfl⟩
  ·rcases key j h' hh' with ⟨_,hh'⟩ | ⟨rfl,rfl⟩
   ·exact k.dis i j h h' hij hh hh' b hb hb'
   ·have h1:=old i h hh b hb;have h2:=(own.lt hb').1;omega
  ·have:=(ge_.1 hh').1;simp at this
   omega
 ·intro i h hh b hb hb';rcases hat with hat | ⟨g,hg',hle⟩
  ·rw[hat] at hb;rcases key i h hh with ⟨_,hh⟩ | ⟨rfl,rfl⟩
   ·exact k.dio i h hh b hb hb'
   ·have h1:=hS b (.inl hb);have h2:=(own.lt hb').1;omega
  ·rw[hg'] at hb;injection hb with hb;subst hb;rcases key i h hh with ⟨_,hh⟩ | ⟨rfl,rfl⟩
   ·have h1:=(k.lt (.inr ⟨h,List.mem_of_getElem? hh,hb'⟩)).2;omega
   ·have h1:=(own.lt hb').2;omega
structure GS (L R m:Nat) (w:World) (g:Sg.Ae) (Ag:Option Addr) (cg:Nat) (hs:List (Option Addr × Nat)) (n4:Nat) (A4:Option Addr) (c4:Nat) (W:World):Prop where
 nf:∀ n ∈ g,n.f.length<=30
 base:L=w.heap.size
 rl:R<L
 res:Bx W L [.slice none 0 0]
 box:Bx W (L+1) [.slice Ag g.length cg]
 own:Gj W (L+2) Ag cg g hs
 fr:∃ l:List Int,l.length=n4/\Au W (L+2) 3 1 A4 n4 c4 (Ah l)
 dis:∀ b,AE A4=some b->¬ Gi Ag hs b
 rdr:Gn W R m
 md:AF (fun b=>b=R) w W
section
variable {L R m n4 cg c4:Nat} {w W W':World} {g:Sg.Ae} {Ag A4:Option Addr} {hs:List (Option Addr × Nat)}
theorem GS.size (h:GS L R m w g Ag cg hs n4 A4 c4 W):L+2<=W.heap.size:=h.box.lt
theorem GS.pick {m':Nat}(h:GS L R m w g Ag cg hs n4 A4 c4 W)(hm:AF (fun b=>b=R) W W')(hr:Gn W' R m'):GS L R m' w g Ag cg hs n4 A4 c4 W':=by
 have hrl:=h.rl;obtain⟨l,h1,h2⟩:=h.fr
 exact⟨h.nf,h.base,h.rl,h.res.mod hm (by omega),h.box.mod hm (by omega),h.own.mod hm (fun b hb e=>by have:=(h.own.lt hb).1;omega),
  ⟨l,h1,h2.mod hm (fun b hb e=>by have:=(h2.lt hb).1;omega)⟩,h.dis,hr,h.md.tr' hm⟩
theorem GS.ext (h:GS L R m w g Ag cg hs n4 A4 c4 W)(e:Aa W W'):GS L R m w g Ag cg hs n4 A4 c4 W':=h.pick (AF.of e) (h.rdr.ext e)
theorem GS.more {m':Nat}(h:GS L R m w g Ag cg hs n4 A4 c4 W)(hm:m<=m'):GS L R m' w g Ag cg hs n4 A4 c4 W:=⟨h.nf,h.base,h.rl,h.res,h.box,h.own,h.fr,h.dis,h.rdr.more hm,h.md⟩
theorem GS.oth {F:Nat->Prop}(h:GS L R m w g Ag cg hs n4 A4 c4 W)(hm:AF F W W')(h0:∀ b,F b->L+2<=b)(h4:∀ b,F b->AE A4≠some b)(hf:∀ b,F b->¬ Gi Ag hs b):GS L R m w g Ag cg hs n4 A4 c4 W':=by
 have hrl:=h.rl;have hba:=h.base;obtain⟨l,h1,h2⟩:=h.fr
 exact⟨h.nf,h.base,h.rl,h.res.mod hm (fun e=>by have:=h0 _ e;omega),h.box.mod hm (fun e=>by have:=h0 _ e;omega),h.own.mod hm (fun b hb e=>hf b e hb),
  ⟨l,h1,h2.mod hm (fun b hb e=>h4 b e hb)⟩,h.dis,h.rdr.mod hm (fun b e=>by have:=h0 b e;omega),h.md.tr hm (fun b e=>.inr (by have:=h0 b e;omega))⟩
theorem GS.lt4 (h:GS L R m w g Ag cg hs n4 A4 c4 W){b:Nat}(hb:AE A4=some b):L+2<=b/\b<W.heap.size:=by
 obtain⟨l,h1,h2⟩:=h.fr;exact h2.lt hb
theorem GS.room (h:GS L R m w g Ag cg hs n4 A4 c4 W):n4<=c4/\c4<=maxLen:=by
 obtain⟨l,h1,h2⟩:=h.fr;exact⟨h2.2.1,h2.2.2.1⟩
theorem GS.free {A':Option Addr}{c':Nat}{l:List Int}(h:GS L R m w g Ag cg hs n4 A4 c4 W)(x:Int)(ho:Au W' (L+2) 3 1 A' (n4+1) c' (Ah l++[.int .i64 x]))(hl:l.length=n4)(hg:W.grownBy W' (AE A4))(hat:AE A'=AE A4\/∃ g,AE A'=some g/\W.heap.size<=g):GS L R m w g Ag cg hs (n4+1) A' c' W':=by
 have hlt:=fun b hb=>h.lt4 (b:=b) hb;have hrl:=h.rl;have hba:=h.base;rw[ints_snoc] at ho
 refine⟨h.nf,h.base,h.rl,h.res.gr hg (fun e=>by have:=(hlt _ e).1;omega),h.box.gr hg (fun e=>by have:=(hlt _ e).1;omega),h.own.gr hg (fun b e=>h.dis b e),⟨l++[x],by simp[hl],ho⟩,?_,
  h.rdr.gr hg (fun b hb=>by have:=(hlt b hb).1;omega),h.md.gr hg (fun b hb=>.inr (by have:=(hlt b hb).1;omega))⟩
 intro b hb hb';rcases hat with hat | ⟨g,hg',hle⟩
 ·rw[hat] at hb;exact h.dis b hb hb'
 ·rw[hg'] at hb;injection hb with hb;subst hb;have:=(h.own.lt hb').2;omega
structure GP (L N:Nat) (kd:Int) (f:List Sg.At) (Af:Option Addr) (cf:Nat) (Ag:Option Addr) (hs:List (Option Addr × Nat)) (A4:Option Addr) (W:World):Prop where
 n1:∀ b,Gi Ag hs b->b<N
 n2:∀ b,AE A4=some b->b<N
 n3:L+2<=N
 bx:Bx W N [.int .i64 kd,.slice Af f.length cf]
 own:Au W (N+1) 111 5 Af f.length cf (AH f)
 le:f.length<=30
theorem GS.node {N c' cf:Nat}{A' Af:Option Addr}{kd:Int}{f:List Sg.At}(h:GS L R m w g Ag cg hs n4 A4 c4 W)(hP:GP L N kd f Af cf Ag hs A4 W)(ho:Au W' (L+2) 70 2 A' (g.length+1) c' (A_ (Dl g) hs++[.int .i64 kd,.slice Af f.length cf]))(hg:W.grownBy W' (AE Ag))(hat:AE A'=AE Ag\/∃ g,AE A'=some g/\W.heap.size<=g) :
  GS L R m w (g++[⟨kd,f⟩]) A' c' (hs++[(Af,cf)]) n4 A4 c4 (W'.setCell ⟨L+1,0,none⟩ (.slice A' (g.length+1) c'))/\Bx (W'.setCell ⟨L+1,0,none⟩ (.slice A' (g.length+1) c')) N [.int .i64 kd,.slice Af f.length cf]:=by
 have hlt:=fun b hb=>h.own.out.lt (g:=b) hb;have hn3:=hP.n3;have hrl:=h.rl;have hba:=h.base;have hAg:∀ b,AE Ag=some b->b<N:=fun b hb=>hP.n1 b (.inl hb);have g5:=h.res.gr hg (fun e=>by have:=(hlt _ e).1;omega);have g6:=h.box.gr hg (fun e=>by have:=(hlt _ e).1;omega);have gN:=hP.bx.gr hg (fun e=>by have:=hAg _ e;omega);obtain⟨l,h1,h2⟩:=h.fr;have g8:=K7 h2 hg (fun b hb e=>h.dis b e (.inl hb));have g10:=h.rdr.gr hg (fun b hb=>by have:=(hlt b hb).1;omega);have g11:=h.md.gr hg (fun b hb=>.inr (by have:=(hlt b hb).1;omega));have hsn:=h.own.snocM (S:=N+1) (it:=⟨[.int .i64 kd],f.length,AH f⟩) (fun b hb=>by have:=hP.n1 b hb;omega) (by omega) hP.own (by simpa[Nv] using ho) hg hat;have hits:Dl (g++[⟨kd,f⟩])=Dl g++[⟨[.int .i64 kd],f.length,AH f⟩]:=by simp[Dl]
 rw[<- hits] at hsn;have hbel:Gj (W'.setCell ⟨L+1,0,none⟩ (.slice A' (g.length+1) c')) (L+2) A' c' (g++[⟨kd,f⟩]) (hs++[(Af,cf)]):=Bj.below hsn (by show L+1<L+2;omega) _;refine⟨⟨?_,h.base,h.rl,g5.oth (show L+1≠L by omega) _,?_,hbel,⟨l,h1,g8.set (fun e=>by have:=(g8.lt e).1;simp at this) _⟩,?_,?_,?_⟩,gN.oth (show L+1≠N by omega) _⟩
 ·intro n hn;rcases List.mem_append.1 hn with hn | hn
  ·exact h.nf n hn
  ·simp at hn;subst hn;exact hP.le
 ·have:=g6.set 0 (.slice A' (g.length+1) c');simpa using this
 ·intro b hb hb';have hbN:=hP.n2 b hb;have hbW:=(h2.lt hb).2;rcases hb' with hb' | ⟨x,hx,hb'⟩
  ·rcases hat with hat | ⟨q,hq,hle⟩
   ·rw[hat] at hb';exact h.dis b hb (.inl hb')
   ·rw[hq] at hb';injection hb' with hb';omega
  ·rcases List.mem_append.1 hx with hx | hx
   ·exact h.dis b hb (.inr ⟨x,hx,hb'⟩)
   ·simp at hx
    subst hx;have:=(hP.own.lt hb').1;omega
 ·exact g10.mod (F:=fun b=>b=L+1) (AF.set (F:=fun b=>b=L+1) (AF.rfl' (fun b=>b=L+1) W') (p:=⟨L+1,0,none⟩) (.inl rfl) _) (fun b e=>by omega)
 ·exact g11.set (p:=⟨L+1,0,none⟩) (.inr (show w.heap.size<=L+1 by omega)) _
end
def GG (L R m:Nat)(w:World)(k n4:Nat)(A4:Option Addr)(c4:Nat)(W:World):Prop:=∃ (g:Sg.Ae) (Ag:Option Addr) (cg:Nat) (hs:List (Option Addr × Nat)),g.length=k/\GS L R m w g Ag cg hs n4 A4 c4 W
def GN (L R m:Nat)(w:World)(N k n4:Nat)(A4:Option Addr)(c4:Nat)(kd:Int)(fin:Bool)(W:World):Prop :=
 ∃ (g:Sg.Ae) (Ag:Option Addr) (cg:Nat) (hs:List (Option Addr × Nat)) (f:List Sg.At) (Af:Option Addr) (cf:Nat),g.length=k/\GS L R m w g Ag cg hs n4 A4 c4 W/\GP L N kd f Af cf Ag hs A4 W/\(fin=false->f=[]/\Af=none/\cf=0)
section
variable {L R m N k n4 c4:Nat} {w W W':World} {A4:Option Addr} {kd:Int} {fin:Bool}
theorem GG.size (h:GG L R m w k n4 A4 c4 W):L+2<=W.heap.size:=by obtain⟨_,_,_,_,_,h⟩:=h;exact h.size
theorem GG.rl (h:GG L R m w k n4 A4 c4 W):R<L:=by obtain⟨_,_,_,_,_,h⟩:=h;exact h.rl
theorem GG.more {m':Nat}(h:GG L R m w k n4 A4 c4 W)(hm:m<=m'):GG L R m' w k n4 A4 c4 W:=by obtain⟨a,b,c,d,e,h⟩:=h;exact⟨a,b,c,d,e,h.more hm⟩
theorem GN.start (h:GG L R m w k n4 A4 c4 W)(t:Nat):GN L R m w W.heap.size k n4 A4 c4 0 false (W.alloc (.cells #[.int .i64 0,.slice none 0 0] t)):=by
 obtain⟨g,Ag,cg,hs,h1,h⟩:=h;exact⟨g,Ag,cg,hs,[],none,0,h1,h.ext (xr.al _),⟨fun b hb=>(h.own.lt hb).2,fun b hb=>(h.lt4 hb).2,h.size,Bx.new W _ t,Au.nil _ _ _ _,by simp⟩,fun _=>⟨rfl,rfl,rfl⟩⟩
theorem GN.pick {m':Nat}(h:GN L R m w N k n4 A4 c4 kd fin W)(hm:AF (fun b=>b=R) W W')(hr:Gn W' R m'):GN L R m' w N k n4 A4 c4 kd fin W':=by
 obtain⟨g,Ag,cg,hs,f,Af,cf,h1,h,hP,hz⟩:=h;have:=h.rl;have:=hP.n3;exact⟨g,Ag,cg,hs,f,Af,cf,h1,h.pick hm hr,⟨hP.n1,hP.n2,hP.n3,hP.bx.mod hm (by omega),hP.own.mod hm (fun b hb e=>by have:=(hP.own.lt hb).1;omega),hP.le⟩,hz⟩
theorem GN.ext (h:GN L R m w N k n4 A4 c4 kd fin W)(e:Aa W W'):GN L R m w N k n4 A4 c4 kd fin W':=h.pick (AF.of e) (by obtain⟨_,_,_,_,_,_,_,_,h,_⟩:=h;exact h.rdr.ext e)
theorem GN.rdr (h:GN L R m w N k n4 A4 c4 kd fin W):Gn W R m:=by obtain⟨_,_,_,_,_,_,_,_,h,_⟩:=h;exact h.rdr
theorem GN.md (h:GN L R m w N k n4 A4 c4 kd fin W):AF (fun b=>b=R) w W:=by obtain⟨_,_,_,_,_,_,_,_,h,_⟩:=h;exact h.md
theorem GN.rl (h:GN L R m w N k n4 A4 c4 kd fin W):R<L/\L+2<=N/\N<W.heap.size:=by obtain⟨_,_,_,_,_,_,_,_,h,hP,_⟩:=h;exact⟨h.rl,hP.n3,hP.bx.lt⟩
theorem GN.whole (h:GN L R m w N k n4 A4 c4 kd fin W):GN L R m w N k n4 A4 c4 kd true W:=by
 obtain⟨g,Ag,cg,hs,f,Af,cf,h1,h,hP,hz⟩:=h;exact⟨g,Ag,cg,hs,f,Af,cf,h1,h,hP,by simp⟩
theorem GN.more {m':Nat}(h:GN L R m w N k n4 A4 c4 kd fin W)(hm:m<=m'):GN L R m' w N k n4 A4 c4 kd fin W:=by
 obtain⟨g,Ag,cg,hs,f,Af,cf,h1,h,hP,hz⟩:=h;exact⟨g,Ag,cg,hs,f,Af,cf,h1,h.more hm,hP,hz⟩
theorem GN.c0 (h:GN L R m w N k n4 A4 c4 kd fin W):W.cell? ⟨N,0,none⟩=some (.int .i64 kd)/\∀ j,W.frozen? ⟨N,j,none⟩=false:=by
 obtain⟨_,_,_,_,_,_,_,_,h,hP,_⟩:=h;exact⟨hP.bx.cell (j:=0) rfl,fun j=>hP.bx.free j⟩
theorem GN.c1 (h:GN L R m w N k n4 A4 c4 kd false W):W.cell? ⟨N,1,none⟩=some (.slice none 0 0):=by
 obtain⟨_,_,_,_,f,Af,cf,_,h,hP,hz⟩:=h;obtain⟨rfl,rfl,rfl⟩:=hz rfl;exact hP.bx.cell (j:=1) rfl
theorem GN.kind (h:GN L R m w N k n4 A4 c4 kd false W)(x:Int):GN L R m w N k n4 A4 c4 x false (W.setCell ⟨N,0,none⟩ (.int .i64 x)):=by
 obtain⟨g,Ag,cg,hs,f,Af,cf,h1,h,hP,hz⟩:=h;have hn:=hP.n3;have hm:AF (fun b=>b=N) W (W.setCell ⟨N,0,none⟩ (.int .i64 x)):=AF.set (F:=fun b=>b=N) (AF.rfl' (fun b=>b=N) W) (p:=⟨N,0,none⟩) (.inl rfl) _;have hb:=hP.bx.set 0 (.int .i64 x);simp only[List.set_cons_zero] at hb;exact⟨g,Ag,cg,hs,f,Af,cf,h1,h.oth hm (fun b e=>by omega) (fun b e e'=>by have:=hP.n2 b e';omega) (fun b e e'=>by have:=hP.n1 b e';omega),⟨hP.n1,hP.n2,hP.n3,hb,hP.own.set (fun e=>absurd (hP.own.lt e).1 (show ¬ (N+1<=N) by omega)) _,hP.le⟩,hz⟩
theorem GN.form {W1:World}{m':Nat}(h:GN L R m w N k n4 A4 c4 kd false W)(hm:AF (fun b=>b=R) W W1)(hr:Gn W1 R m'){f:List Sg.At}{Af:Option Addr}{cf:Nat}(ho:Au W1 W.heap.size 111 5 Af f.length cf (AH f))(hf:f.length<=30) :
  GN L R m' w N k n4 A4 c4 kd true (W1.setCell ⟨N,1,none⟩ (.slice Af f.length cf)):=by
 have hN:=h.rl.2.2;obtain⟨g,Ag,cg,hs,f0,Af0,cf0,h1,h,hP,hz⟩:=h.pick hm hr;have hn:=hP.n3;have hm:AF (fun b=>b=N) W1 (W1.setCell ⟨N,1,none⟩ (.slice Af f.length cf)):=AF.set (F:=fun b=>b=N) (AF.rfl' (fun b=>b=N) W1) (p:=⟨N,1,none⟩) (.inl rfl) _;have hb:=hP.bx.set 1 (.slice Af f.length cf);simp only[List.set_cons_succ,List.set_cons_zero] at hb;have ho2:=ho.mono (B':=N+1) hN;exact⟨g,Ag,cg,hs,f,Af,cf,h1,h.oth hm (fun b e=>by omega) (fun b e e'=>by have:=hP.n2 b e';omega) (fun b e e'=>by have:=hP.n1 b e';omega),⟨hP.n1,hP.n2,hP.n3,hb,ho2.set (fun e=>absurd (ho2.lt e).1 (show ¬ (N+1<=N) by omega)) _,hf⟩,by simp⟩
theorem GN.free (h:GN L R m w N k n4 A4 c4 kd fin W):∃ l:List Int,l.length=n4/\Au W (L+2) 3 1 A4 n4 c4 (Ah l):=by obtain⟨_,_,_,_,_,_,_,_,h,_⟩:=h;exact h.fr
end
theorem Rd.tail {w:World}{b o n:Nat}{l:List Int}(h:Rd w 1 (some ⟨b,o,none⟩) n (Ah l))(i:Nat)(hi:i<=n):Rd w 1 (some ⟨b,o+i,none⟩) (n - i) (Ah (l.drop i)):=by
 have hl:=h.len;refine⟨by simp;omega,by have:=h.2.1;omega,fun h0=>?_⟩;obtain⟨b0,o0,ha,hc⟩:=h.2.2 (by omega);simp only[Option.some.injEq,Addr.mk.injEq,and_true] at ha;obtain⟨rfl,rfl⟩:=ha;refine⟨b,o+i,rfl,fun j u hu=>?_⟩;rw[<- T9,List.getElem?_drop] at hu;rw[Nat.add_assoc];exact hc (i+j) u hu
def Wx (R m:Nat)(w:World)(e:Ending)(w':World):Prop:=∃ (g:Sg.Ae) (A:Option Addr) (c:Nat) (hs:List (Option Addr × Nat)),e= .returned (.agg #[.slice A g.length c])/\Gj w' w.heap.size A c g hs/\2<=g.length/\g.length<=10/\(∀ n ∈ g,n.f.length<=30)/\Gn w' R (m+1200)/\AF (fun b=>b=R) w w'
theorem GG.start {R m:Nat}{w:World}(h:Gn w R m):GG w.heap.size R m w 0 0 (some ⟨w.heap.size+1+1,0,none⟩) 0 (World.alloc (World.alloc (World.alloc (World.alloc w (.cells #[.slice none 0 0] 35)) (.cells #[.slice none 0 0] 35)) (.cells #[] 3)) (.cells #[.int .i64 6,.int .i64 5,.int .i64 7,.int .i64 8,.int .i64 4,.int .i64 10,.int .i64 2] 3)):=by
 have hR:=h.lt;have b0:=((Bx.new w #[.slice none 0 0] 35).al (.cells #[.slice none 0 0] 35)).al (.cells #[] 3) |>.al (.cells #[.int .i64 6,.int .i64 5,.int .i64 7,.int .i64 8,.int .i64 4,.int .i64 10,.int .i64 2] 3);have b1:=((Bx.new (World.alloc w (.cells #[.slice none 0 0] 35)) #[.slice none 0 0] 35).al (.cells #[] 3)).al (.cells #[.int .i64 6,.int .i64 5,.int .i64 7,.int .i64 8,.int .i64 4,.int .i64 10,.int .i64 2] 3);have o1:=(Au.new (World.alloc (World.alloc w (.cells #[.slice none 0 0] 35)) (.cells #[.slice none 0 0] 35)) (B:=w.heap.size+2) 3 1 #[] 0 (by simp) (by unfold maxLen;omega) rfl).al (.cells #[.int .i64 6,.int .i64 5,.int .i64 7,.int .i64 8,.int .i64 4,.int .i64 10,.int .i64 2] 3);simp only[World.size_alloc] at b1 o1;have e1:Aa w (World.alloc (World.alloc (World.alloc (World.alloc w (.cells #[.slice none 0 0] 35)) (.cells #[.slice none 0 0] 35)) (.cells #[] 3)) (.cells #[.int .i64 6,.int .i64 5,.int .i64 7,.int .i64 8,.int .i64 4,.int .i64 10,.int .i64 2] 3)):=((((Aa.rfl' w).al _).al _).al _).al _;exact⟨[],none,0,[],rfl,by simp,rfl,hR,b0,b1,Bj.nil _ _ _ _ _ _,⟨[],rfl,o1⟩,(by intro b hb hb';rcases hb' with hb' | ⟨x,hx,_⟩ <;> simp_all [AE]),h.ext e1,AF.of e1⟩
set_option maxRecDepth 100000 in
set_option maxHeartbeats 16000000 in
theorem QB (R m:Nat)(w:World)(h:Gn w R m)(hm:m<=800000) :
  Calls Tryz.prog 62 #[.pointer (some ⟨R,0,none⟩)] w (Wx R m w):=by
 have hRl:=h.lt;have G0:=lh (GG.start h);have HR0:=lh (h.ext (show Aa w (World.alloc (World.alloc (World.alloc (World.alloc w (.cells #[.slice none 0 0] 35)) (.cells #[.slice none 0 0] 35)) (.cells #[] 3)) (.cells #[.int .i64 6,.int .i64 5,.int .i64 7,.int .i64 8,.int .i64 4,.int .i64 10,.int .i64 2] 3)) from ((((Aa.rfl' w).al _).al _).al _).al _));clear h;go_enter Tryz.func62,Tryz.ntmps62;go_wp2_with fail
 have RL:=(Au.new (World.alloc (World.alloc (World.alloc w (.cells #[.slice none 0 0] 35)) (.cells #[.slice none 0 0] 35)) (.cells #[] 3)) (B:=0) 3 1 #[.int .i64 6,.int .i64 5,.int .i64 7,.int .i64 8,.int .i64 4,.int .i64 10,.int .i64 2] 7 (Nat.zero_le _) (by unfold maxLen;omega) rfl).rd;simp only[World.size_alloc] at RL;refine(Oi R m _ 7 [6,5,7,8,4,10,2] _ HR0.out RL (by simp) (by simp) (by intro b hb;simp[AE] at hb;omega) (by omega)).mono ?_;rintro e w1 ⟨x,rfl,hx,hr,hm1⟩;obtain⟨k0,rfl,hk0⟩:∃ k:Nat,x=k/\2<=k/\k<=10:=⟨x.toNat,by simp at hx;omega,by simp at hx;omega⟩;have G1:=lh (show GG w.heap.size R (m+1) w 0 0 (some ⟨w.heap.size+1+1,0,none⟩) 0 w1 from by obtain⟨a,b,c,d,e,f⟩:=G0.out;exact⟨a,b,c,d,e,f.pick hm1 hr⟩);clear RL hx hr hm1 G0 HR0;go_wp2_with fail
 go_loopw [4,6] (fun s4 s6 wr=>∃ (k n4:Nat) (A4:Option Addr) (c4:Nat),s4= .slice A4 n4 c4/\s6= .int .i64 k/\k<=k0/\n4<=k/\Hid (GG w.heap.size R (m+1+110 * k) w k n4 A4 c4 wr)) (fun _ s6 _=>k0 - (intOf s6).toNat)
 case atStart=>exact⟨0,0,_,_,rfl,rfl,by omega,by omega,G1⟩
 case round =>
  obtain⟨k,n4,A4,c4,rfl,rfl,hk9,hn4,hG⟩:=hrel;clear G1;have hsz:=hG.out.size;have hrl:=hG.out.rl;by_cases hk:k<k0
  ·obtain⟨M,hM⟩:∃ M,M=m+1+110 * k:=⟨_,rfl⟩;have hMb:M<=m+1001:=by omega
   have HMe:=lh hM;rw[<- hM] at hG;clear hM;have N0:=lh (GN.start hG.out 70);clear hG;go_upto_region 8 with fail
   go_cut [26] (fun s26 wx=>∃ b:Bool,s26= .bool b/\Hid (GN w.heap.size R (M+1) w wr.heap.size k n4 A4 c4 0 false wx))
   case first =>
    by_cases h1:(1:Int)<(k:Int)
    ·go_wp2_with fail
     go_meet
     exact⟨_,rfl,lh (N0.out.more (by omega))⟩
    ·have z1:decide ((1:Int)<(k:Int))=false:=by simpa using h1
     go_wp2_with fail
     refine(D7 R M 8 _ N0.out.rdr (by omega) (by omega) (by omega)).mono ?_;rintro e w2 ⟨x,rfl,hx0,hx1,hr,hm2⟩;have N1:=lh (N0.out.pick hm2 hr);clear hx0 hx1 hr hm2 z1 h1;go_wp2_with fail
     go_meet
     exact⟨_,rfl,N1⟩
   case rest =>
    obtain⟨b,rfl,hN⟩:=hcut;clear N0;go_upto_if 26 with fail
    go_cut [] (fun wx=>∃ kd:Int,Hid (GN w.heap.size R (M+2) w wr.heap.size k n4 A4 c4 kd false wx))
    case first =>
     cases b
     ·go_wp2_with fail
      go_meet
      exact⟨0,lh (hN.out.more (by omega))⟩
     ·go_wp2_with fail
      have RL:=(Au.new wc (B:=0) 3 1 #[.int .i64 1,.int .i64 1,.int .i64 2,.int .i64 0,.int .i64 1] 5 (Nat.zero_le _) (by unfold maxLen;omega) rfl).rd;refine(Oi R (M+1) _ 5 [1,1,2,0,1] _ (hN.out.rdr.ext ((Aa.rfl' wc).al _)) RL (by simp) (by simp) (by intro b hb;simp[AE] at hb;have:=hN.out.rl;omega) (by omega)).mono ?_;rintro e w3 ⟨x,rfl,hx,hr,hm3⟩;have N2:=lh ((hN.out.ext ((Aa.rfl' wc).al (.cells #[.int .i64 1,.int .i64 1,.int .i64 2,.int .i64 0,.int .i64 1] 3))).pick hm3 hr);clear hx hr hm3 RL;have f0:=N2.out.c0.2 0;have q3:=N2.out.c0.1;have bl:=N2.out.rl.2.2;go_wp2_with fail
      go_meet
      exact⟨x,lh (N2.out.kind x)⟩
    case rest =>
     obtain⟨wa,rfl⟩:∃ wa:World,wa=wc:=⟨_,rfl⟩;obtain⟨kd,hN2⟩:=hcut;clear hN;have q0:=hN2.out.c0.1;have bl:=AA q0;go_upto_if 33 with fail
     clear q0 bl;go_cut [] (fun wx=>Hid (GN w.heap.size R (M+103) w wr.heap.size k n4 A4 c4 kd true wx))
     case first =>
      by_cases hkd:kd=0
      ·have z3:(kd != 0)=false:=by simp[hkd]
       go_wp2_with fail
       go_meet
       exact lh (hN2.out.whole.more (by omega))
      ·have z3:(kd != 0)=true:=by simp[hkd]
       clear hkd;obtain⟨l,hll,hlo⟩:=hN2.out.free;have Hlo:=lh hlo;clear hlo;have hrl2:=hN2.out.rl;have hlm:=Hlo.out.2.2.1;have hln:=Hlo.out.2.1;unfold maxLen at hlm;subst hll;by_cases h3:3<l.length
       ·obtain⟨b4,rfl,hb4⟩:=Hlo.out.at_ (by omega);have z4:(3:Int)<(l.length:Int):=by omega
        obtain⟨j3,hj3⟩:∃ j,j=l.length - 3:=⟨_,rfl⟩;go_wp2_with fail
        refine(D7 R (M+2) 2 _ hN2.out.rdr (by omega) (by omega) (by omega)).mono ?_;rintro e w5 ⟨x,rfl,hx0,hx1,hr,hm5⟩;have N3:=lh (hN2.out.pick hm5 hr);have Ho5:=lh (Hlo.out.mod hm5 (fun b hb e=>by simp[AE] at hb;omega));clear hx0 hx1 hr hm5 hN2;by_cases hx:x=0
        ·have z5:(x == 0)=true:=by simp[hx]
         have i1:IntKind.i64.wrap ((l.length:Int) - 3)=(j3:Int):=by rw[IntWalk.i64_in _ (by omega)];omega
         have i2:j3<=c4:=by omega
         have i3:(j3:Int)<=(c4:Int):=by omega
         have i4:j3<=l.length:=by omega
         have i5:(j3:Int)<=(l.length:Int):=by omega
         have i6:¬ c4=j3:=by omega
         have RT:=lh (Ho5.out.rd.tail j3 i4);obtain⟨l3,hl3⟩:∃ l3,l3=l.drop j3:=⟨_,rfl⟩;have e9:l.length - j3=l3.length:=by rw[hl3,List.length_drop]
         have hl30:l3.length<=10:=by rw[<- e9];omega
         rw[<- hl3,Nat.zero_add,e9] at RT;have E9:=lh e9;clear hx e9 hl3 hj3;go_wp2_with fail
         rw[E9.out];refine(Iq R (M+3) _ _ l3 w5 N3.out.rdr RT.out (by omega) (by intro b hb;simp[AE] at hb;omega) (by omega)).mono ?_;rintro e w9 ⟨f,Af,cf,rfl,ho,hf1,hf30,hr9,hm9⟩;have N9:=lh (N3.out.form hm9 hr9 ho hf30);have f1:w9.frozen? ⟨wr.heap.size,1,none⟩=false:=(N3.out.pick hm9 hr9).c0.2 1;have q3:=(N3.out.pick hm9 hr9).c1;have bl:=(N3.out.pick hm9 hr9).rl.2.2;clear ho hf1 hr9 hm9;go_wp2_with fail
         go_meet
         exact lh (N9.out.more (by omega))
        ·have z5:(x == 0)=false:=by rw[beq_eq_false_iff_ne];exact hx
         clear hx;go_wp2_with fail
         refine(Iq R (M+3) _ _ l w5 N3.out.rdr Ho5.out.rd (by omega) (by intro b hb;simp[AE] at hb;omega) (by omega)).mono ?_;rintro e w9 ⟨f,Af,cf,rfl,ho,hf1,hf30,hr9,hm9⟩;have N9:=lh (N3.out.form hm9 hr9 ho hf30);have f1:w9.frozen? ⟨wr.heap.size,1,none⟩=false:=(N3.out.pick hm9 hr9).c0.2 1;have q3:=(N3.out.pick hm9 hr9).c1;have bl:=(N3.out.pick hm9 hr9).rl.2.2;clear ho hf1 hr9 hm9;go_wp2_with fail
         go_meet
         exact lh (N9.out.more (by omega))
       ·have z4:¬ (3:Int)<(l.length:Int):=by omega
        have z4':decide ((3:Int)<(l.length:Int))=false:=by simpa using z4
        go_wp2_with fail
        refine(Iq R (M+2) A4 c4 l wa hN2.out.rdr Hlo.out.rd (by omega) (by intro b hb;have:=Hlo.out.lt hb;omega) (by omega)).mono ?_;rintro e w9 ⟨f,Af,cf,rfl,ho,hf1,hf30,hr9,hm9⟩;have N9:=lh (hN2.out.form hm9 hr9 ho hf30);have f1:w9.frozen? ⟨wr.heap.size,1,none⟩=false:=(hN2.out.pick hm9 hr9).c0.2 1;have q3:=(hN2.out.pick hm9 hr9).c1;have bl:=(hN2.out.pick hm9 hr9).rl.2.2;clear ho hf1 hr9 hm9;go_wp2_with fail
        go_meet
        exact lh (N9.out.more (by omega))
     case rest =>
      have hN3:=hcut;clear hcut hN2;obtain⟨g,Ag,cg,hs,f,Af,cf,hgk,hS,hP,_⟩:=hN3.out;have HS:=lh hS;have HP:=lh hP;have hb4:=hS.room;have q0:=hP.bx.cell (j:=0) rfl;have q1:=hP.bx.cell (j:=1) rfl;have bl:=AA q0;have qb:=hS.box.cell (j:=0) rfl;have qf:=hS.box.free 0;have bq:=AA qb;have HOW:=lh hS.own.out;have hA1:∀ b,AE Ag=some b->b≠w.heap.size+1:=fun b hb e=>by have:=(hS.own.out.lt hb).1;omega
      have HA1:=lh hA1;have hsz9:=hS.size;subst hgk;clear hS hP hN3 hA1;have hON:=lh (show Au wc (w.heap.size+2) 70 2 Ag g.length cg (A_ (Dl g) hs) from by have:=HOW.out;simpa using this);go_upto_region 16 with (at_builtin;refine AB (cs:=[.int .i64 kd,.slice Af f.length cf]) rfl rfl Sd rfl hON.out rfl rfl (by intro u hu;simp at hu;rcases hu with rfl | rfl <;> rfl) (by omega) (by omega) (by omega) ?_;intro A7 c7 w7 ho7 hg7 hat7;have hne7:AE Ag≠some (w.heap.size+1):=(fun e=>HA1.out _ e rfl);have hcf7:=AP hg7 qb hne7;have hff7:=Db hg7 bq qf hne7;have blf7:=AA hcf7;have GX:=lh (GS.node HS.out HP.out ho7 hg7 hat7);clear q0 q1 bl qb qf bq ho7 hg7 hat7 hne7)
      obtain⟨hS9,hB9⟩:=GX.out;have HS9:=lh hS9;have HB9:=lh hB9;clear hS9 hB9 GX hcf7 hff7 blf7;generalize (World.setCell w7 ⟨w.heap.size+1,0,none⟩ (.slice A7 (g.length+1) c7))=w8 at *;have q0:=HB9.out.cell (j:=0) rfl;have bl:=AA q0;have hs8:=HS9.out.size;obtain⟨l,hll,hlo⟩:=HS9.out.fr;have Hlo:=lh hlo;have Hll:=lh hll;clear hlo hll;by_cases hk2:kd=2
      ·have z3:(kd != 2)=false:=by simp[hk2]
       go_wp2_with fail
       go_wp2;go_roundw
       case rel=>exact⟨g.length+1,n4,A4,c4,rfl,(by simp),by omega,by omega,lh ⟨_,_,_,_,(by simp),HS9.out.more (by have:=HMe.out;omega)⟩⟩
       case measure=>simp[intOf];omega
      ·have z3:(kd != 2)=true:=by simp[hk2]
       go_wp2_with (at_builtin;refine AB rfl rfl Bc rfl Hlo.out rfl rfl (Bn _ _) (by omega) (by omega) (by omega) ?_;intro A9 c9 w9 ho9 hg9 hat9;have GF:=lh (GS.free HS9.out _ ho9 Hll.out hg9 hat9);clear ho9 hg9 hat9 q0 bl)
       go_roundw
       case rel=>exact⟨g.length+1,n4+1,A9,c9,(by simp),(by simp),by omega,by omega,lh ⟨_,_,_,_,(by simp),GF.out.more (by have:=HMe.out;omega)⟩⟩
       case measure=>simp[intOf];omega
  ·obtain rfl:k=k0:=by omega
   obtain⟨g,Ag,cg,hs,hgk,hS⟩:=hG.out;subst hgk;have hnf:=hS.nf;have HNF:=lh hnf;have HS:=lh hS;have qb:=hS.box.cell (j:=0) rfl;have bq:=AA qb;have f0:=hS.res.free 0;have qr:=hS.res.cell (j:=0) rfl;have bl:=hS.res.lt;have HRS:=lh hS.res;clear hS hnf hG;go_wp2;have s0:∀ u:Value,World.cell? (World.setCell wr ⟨w.heap.size,0,none⟩ u) ⟨w.heap.size,0,none⟩=some u:=fun u=>(HRS.out.set 0 u).cell (j:=0) rfl;refine bodyPost_ret (v := .agg #[.slice Ag g.length cg]) (by simp[results,Tryz.results62,go_sem,s0];try rfl) rfl ?_;refine⟨g,Ag,cg,hs,rfl,(Bj.below HS.out.own (by show w.heap.size<w.heap.size+2;omega) _).mono (by omega),by omega,by omega,HNF.out,?_,?_⟩
   ·exact(HS.out.rdr.mod (F:=fun b=>b=w.heap.size) (AF.set (F:=fun b=>b=w.heap.size) (AF.rfl' (fun b=>b=w.heap.size) _) (p:=⟨w.heap.size,0,none⟩) (.inl rfl) _) (fun b e=>by omega)).more (by omega)
   ·exact HS.out.md.set (p:=⟨w.heap.size,0,none⟩) (.inr (Nat.le_refl _)) _
section
variable {w w1:World} {B c b S:Nat} {g:Sg.Ae} {hs:List (Option Addr × Nat)}
end
def XH (R m lo hi:Nat)(w:World)(e:Ending)(w':World):Prop:=∃ (l:List Int) (A:Option Addr) (c:Nat),e= .returned (.slice A l.length c)/\Au w' w.heap.size 3 1 A l.length c (Ah l)/\lo<=l.length/\l.length<=hi/\Gn w' R m/\AF (fun b=>b=R) w w'
set_option maxRecDepth 100000 in
set_option maxHeartbeats 4000000 in
theorem QC (R m:Nat)(A:Option Addr)(c:Nat)(g:Sg.Ae)(w:World)(h:Gn w R m)(hg:∀ W,AF (fun b=>b=R) w W->Eg W A g)(hgl:g.length<=10)(hm:m<=900000) :
  Calls Tryz.prog 64 #[.pointer (some ⟨R,0,none⟩),.agg #[.slice A g.length c]] w (XH R (m+20) g.length g.length w):=by
 have hRl:=h.lt;have HG:=lh hg;have M0:=lh (AF.of (F:=fun b=>b=R) (((Aa.rfl' w).al (.cells #[.slice A g.length c] 35)).al (.cells #[] 3)));have R0:=lh (h.ext (((Aa.rfl' w).al (.cells #[.slice A g.length c] 35)).al (.cells #[] 3)));have q0:World.cell? (World.alloc (World.alloc w (.cells #[.slice A g.length c] 35)) (.cells #[] 3)) ⟨w.heap.size,0,none⟩=some (.slice A g.length c):=by simp[go_sem]
 have Q0:=lh q0;have o1:=Au.new (World.alloc w (.cells #[.slice A g.length c] 35)) (B:=w.heap.size) 3 1 #[] 0 (by simp) (by unfold maxLen;omega) rfl;simp only[World.size_alloc] at o1;have O1:=lh o1;clear h hg q0 o1;go_enter Tryz.func64,Tryz.ntmps64;go_wp2_with fail
 go_loopw [5,6] (fun s5 s6 wr=>∃ (l:List Int) (A5:Option Addr) (c5:Nat),s5= .slice A5 l.length c5/\s6= .int .i64 (l.length:Int)/\l.length<=g.length/\Hid (wr.cell? ⟨w.heap.size,0,none⟩=some (.slice A g.length c))/\Hid (Au wr w.heap.size 3 1 A5 l.length c5 (Ah l))/\Hid (AE A5≠some w.heap.size)/\Hid (Gn wr R (m+2 * l.length))/\Hid (AF (fun b=>b=R) w wr)) (fun _ s6 _=>g.length - (intOf s6).toNat)
 case atStart=>exact⟨[],_,_,rfl,rfl,Nat.zero_le _,Q0,O1,lh (by simp[AE]),R0,M0⟩
 case round =>
  clear Q0 O1 R0 M0;obtain⟨l,A5,c5,rfl,rfl,hl,hQ,hO,hD,hR,hM⟩:=hrel;have q0:=hQ.out;have b0:=AA q0;by_cases hlt:l.length<g.length
  ·obtain⟨n,bn,on,Ap,cp,hn,rfl,k1,k2,k3,k4⟩:=(HG.out _ hM.out).at_ hlt;have bk:=AA k1;clear hn k2 k3 k4;go_upto_if 22 with fail
   go_cut [7] (fun s7 wx=>∃ x:Int,s7= .int .i64 x/\Hid (wx.cell? ⟨w.heap.size,0,none⟩=some (.slice (some ⟨bn,on,none⟩) g.length c))/\Hid (Au wx w.heap.size 3 1 A5 l.length c5 (Ah l))/\Hid (Gn wx R (m+2 * l.length+2))/\Hid (AF (fun b=>b=R) w wx))
   case first =>
    by_cases hk:n.kind=0
    ·have z1:(n.kind == 0)=true:=by simp[hk]
     clear hk q0 k1 b0 bk;go_wp2_with fail
     refine(D7 R (m+2 * l.length) 1000 _ hR.out (by omega) (by omega) (by omega)).mono ?_;rintro e w2 ⟨x,rfl,hx0,hx1,hr2,hm2⟩;have Hr2:=lh hr2;have Hm2:=lh hm2;clear hx0 hx1 hr2 hm2;go_wp2_with fail
     have RL:=(Au.new w2 (B:=0) 3 1 #[.int .i64 0,.int .i64 1,.int .i64 x,.int .i64 2,.int .i64 5] 5 (Nat.zero_le _) (by unfold maxLen;omega) rfl).rd;have hRl2:=Hr2.out.lt;refine(Oi R (m+2 * l.length+1) _ 5 [0,1,x,2,5] _ (Hr2.out.ext ((Aa.rfl' w2).al _)) RL (by simp) (by simp) (by intro b hb;simp[AE] at hb;omega) (by omega)).mono ?_;rintro e w3 ⟨y,rfl,hy,hr3,hm3⟩;have Hm3:=lh (((Hm2.out).al (.cells #[.int .i64 0,.int .i64 1,.int .i64 x,.int .i64 2,.int .i64 5] 3)).tr' hm3);have Hr3:=lh hr3;clear hy hr3 hm3 RL;go_wp2_with fail
     go_meet
     exact⟨y,rfl,lh (Hm3.out.cellE hQ.out (by omega)),lh (hO.out.mod Hm3.out (fun b hb e=>by have:=(hO.out.lt hb).1;omega)),lh (Hr3.out.more (by omega)),lh (hM.out.tr' Hm3.out)⟩
    ·have z1:(n.kind == 0)=false:=by rw[beq_eq_false_iff_ne];exact hk
     clear hk;go_wp2_with fail
     go_meet
     exact⟨0,rfl,hQ,hO,lh (hR.out.more (by omega)),hM⟩
   case rest =>
    clear q0 b0 k1 bk;obtain⟨x,rfl,hQ2,hO2,hR2,hM2⟩:=hcut;have hws:=hM2.out.size;go_wp2_with (at_builtin;refine AB rfl rfl Bc rfl hO2.out rfl rfl (Bn _ _) (by omega) (by omega) (by omega) ?_;intro A9 c9 w9 ho9 hg9 hat9;have Ho9:=lh ho9;have Hg9:=lh hg9;have Ha9:=lh hat9;clear ho9 hg9 hat9)
    go_roundw
    case rel =>
     have hlt5:=fun b hb=>hO2.out.lt (g:=b) hb;refine⟨l++[x],A9,c9,by simp,by simp,by simp;omega,lh (AP Hg9.out hQ2.out hD.out),lh (by have:=Ho9.out;simpa using this),lh ?_,lh (by simp only[List.length_append,List.length_singleton];exact(hR2.out.gr Hg9.out (fun b hb=>by have:=(hlt5 b hb).1;omega)).more (by omega)),lh (hM2.out.gr Hg9.out (fun b hb=>.inr (hlt5 b hb).1))⟩;intro e;rcases Ha9.out with h | ⟨q,hq,hle⟩
     ·exact hD.out (by rw[<- h];exact e)
     ·rw[hq] at e;injection e with e;have:=AA hQ2.out;omega
    case measure=>simp[intOf];omega
  ·have hle:l.length=g.length:=by omega
   have HLE:=lh hle;have hnl:¬ ((l.length:Int)<(g.length:Int)):=by omega
   clear hle;go_wp2;go_ret;exact⟨l,A5,c5,rfl,hO.out,by rw[HLE.out];exact Nat.le_refl _,by rw[HLE.out];exact Nat.le_refl _,hR.out.more (by omega),hM.out⟩
structure Vq (B R:Nat) (A:Option Addr) (c:Nat) (g:Sg.Ae) (hs:List (Option Addr × Nat)) (W:World):Prop where
 own:Gj W B A c g hs
 lo:2<=g.length
 hi:g.length<=10
 nf:∀ n ∈ g,n.f.length<=30
theorem Vq.mod {B R c:Nat}{A:Option Addr}{g:Sg.Ae}{hs:List (Option Addr × Nat)}{F:Nat->Prop}{W W':World}(h:Vq B R A c g hs W)(hm:AF F W W')(hF:∀ b,F b->b<B):Vq B R A c g hs W' :=
 ⟨h.own.mod hm (fun b hb e=>by have:=(h.own.lt hb).1;have:=hF b e;omega),h.lo,h.hi,h.nf⟩
theorem Vq.ext {B R c:Nat}{A:Option Addr}{g:Sg.Ae}{hs:List (Option Addr × Nat)}{W W':World}(h:Vq B R A c g hs W)(e:Aa W W'):Vq B R A c g hs W':=h.mod (F:=fun _=>False) (AF.of e) (fun _=>False.elim)
theorem Vq.rd {B R c:Nat}{A:Option Addr}{g:Sg.Ae}{hs:List (Option Addr × Nat)}{W:World}(h:Vq B R A c g hs W):Eg W A g:=h.own.rdN (by have:=h.hi;omega) (fun n hn=>by have:=h.nf n hn;omega)
theorem Vq.mono {B B' R c:Nat}{A:Option Addr}{g:Sg.Ae}{hs:List (Option Addr × Nat)}{W:World}(h:Vq B R A c g hs W)(hB:B'<=B):Vq B' R A c g hs W:=⟨h.own.mono hB,h.lo,h.hi,h.nf⟩
end Go.Proofs.YthibllkleakiiaaGreatDoor
