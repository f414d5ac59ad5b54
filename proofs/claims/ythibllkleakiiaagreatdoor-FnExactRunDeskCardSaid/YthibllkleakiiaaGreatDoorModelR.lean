/- The plain law of eager writes: they keep the meaning, and what runs is what must. Conditions: none. -/
import Derived.Test.YthibllkleakiiaaGreatDoorModLaz
namespace Sg
theorem Eb {α:Type}{l:List α}{i:Nat}(h:i<l.length)(x d:α):(l.set i x).getD i d=x:=by
 rw[List.getD_eq_getElem?_getD,List.getElem?_set_self h];rfl
theorem CC {α:Type}{l:List α}{i j:Nat}(h:i≠j)(x d:α):(l.set i x).getD j d=l.getD j d:=by
 rw[List.getD_eq_getElem?_getD,List.getElem?_set_ne h,<- List.getD_eq_getElem?_getD]
def Gw (a nodes values:List Int):List Int:=(nodes.zip values).foldl (fun l p=>l.set p.1.toNat p.2) a
def Bf (a nodes values:List Int)(k:Nat):List Int:=((nodes.zip values).take k).foldl (fun l p=>l.set p.1.toNat p.2) a
theorem EV (a nodes values:List Int)(k:Nat){n x:Int}(hn:nodes[k]? = some n)(hx:values[k]? = some x):Bf a nodes values (k+1)=(Bf a nodes values k).set n.toNat x:=by
 unfold Bf;have hz:(nodes.zip values)[k]? = some (n,x):=by rw[List.getElem?_zip_eq_some];exact⟨hn,hx⟩
 obtain⟨hk,he⟩:=List.getElem?_eq_some_iff.1 hz;rw[List.take_succ_eq_append_getElem hk,List.foldl_append,he];rfl
@[simp] theorem writtenTo_zero (a nodes values:List Int):Bf a nodes values 0=a:=rfl
theorem Ec (a nodes values:List Int)(k:Nat):(Bf a nodes values k).length=a.length:=by
 unfold Bf;generalize (nodes.zip values).take k=l;induction l generalizing a with
 | nil=>rfl
 | cons p l ih=>rw[List.foldl_cons,ih];simp
theorem Jk (a nodes values:List Int)(h:nodes.length=values.length):Bf a nodes values nodes.length=Gw a nodes values:=by
 unfold Bf Gw;rw[List.take_of_length_le (by simp[h])]
theorem KE (v:List Int)(c:List Bool)(nodes values:List Int)(k:Nat):(Cc (v,c) nodes values k).1=Bf v nodes values k:=by
 unfold Cc Bf;generalize (nodes.zip values).take k=l;induction l generalizing v c with
 | nil=>rfl
 | cons p l ih=>rw[List.foldl_cons,List.foldl_cons];exact ih _ _
theorem DK (a nodes values:List Int)(k i:Nat)(hn:∀ x ∈ nodes,0<=x)(h:(i:Int) ∉ nodes.take k):(Bf a nodes values k).getD i 0=a.getD i 0:=by
 induction k with
 | zero=>rfl
 | succ k ih =>
  cases hx:nodes[k]? with
  | none =>
   have hl:nodes.length<=k:=List.getElem?_eq_none_iff.1 hx
   have:Bf a nodes values (k+1)=Bf a nodes values k:=by
    unfold Bf;rw[List.take_of_length_le (by simp;omega),List.take_of_length_le (by simp;omega)]
   rw[this];exact ih (fun hm=>h (by rw[List.take_of_length_le (by omega)];rw[List.take_of_length_le (by omega)] at hm;exact hm))
  | some x =>
   have hxl:=(List.getElem?_eq_some_iff.1 hx).1
   have ht:nodes.take (k+1)=nodes.take k++[x]:=by
    rw[List.take_succ_eq_append_getElem hxl];obtain⟨_,h2⟩:=List.getElem?_eq_some_iff.1 hx;rw[h2]
   rw[ht,List.mem_append,List.mem_singleton] at h;cases hy:values[k]? with
   | none =>
    have hl:values.length<=k:=List.getElem?_eq_none_iff.1 hy
    have:Bf a nodes values (k+1)=Bf a nodes values k:=by
     unfold Bf;rw[List.take_of_length_le (by simp;omega),List.take_of_length_le (by simp;omega)]
    rw[this];exact ih (fun hm=>h (.inl hm))
   | some y =>
    rw[EV a nodes values k hx hy,List.getD_eq_getElem?_getD,List.getElem?_set_ne,<- List.getD_eq_getElem?_getD]
    ·exact ih (fun hm=>h (.inl hm))
    ·intro e;have:=hn x (List.mem_of_getElem? hx);exact h (.inr (by omega))
theorem LN (a a' nodes values:List Int)(k i:Nat)(hl:a.length=a'.length)(hk:nodes.length=values.length)(hn:∀ x ∈ nodes,0<=x/\x<(a.length:Int))(h:(i:Int) ∈ nodes.take k):(Bf a nodes values k).getD i 0=(Bf a' nodes values k).getD i 0:=by
 induction k with
 | zero=>simp at h
 | succ k ih =>
  cases hx:nodes[k]? with
  | none =>
   have hl2:nodes.length<=k:=List.getElem?_eq_none_iff.1 hx
   have e:∀ b,Bf b nodes values (k+1)=Bf b nodes values k:=fun b=>by
    unfold Bf;rw[List.take_of_length_le (by simp;omega),List.take_of_length_le (by simp;omega)]
   rw[e,e];refine ih ?_;rw[List.take_of_length_le (by omega)] at h ⊢;exact h
  | some x =>
   have hxl:=(List.getElem?_eq_some_iff.1 hx).1;obtain⟨y,hy⟩:∃ y,values[k]? = some y:=⟨_,List.getElem?_eq_getElem (by omega)⟩;rw[EV a nodes values k hx hy,EV a' nodes values k hx hy];have hb:=hn x (List.mem_of_getElem? hx);by_cases hxi:x.toNat=i
   ·rw[List.getD_eq_getElem?_getD,List.getD_eq_getElem?_getD,hxi,List.getElem?_set_self (by rw[Ec];omega),List.getElem?_set_self (by rw[Ec];omega)]
   ·rw[List.getD_eq_getElem?_getD,List.getD_eq_getElem?_getD,List.getElem?_set_ne hxi,List.getElem?_set_ne hxi,<- List.getD_eq_getElem?_getD,<- List.getD_eq_getElem?_getD];refine ih ?_
    have ht:nodes.take (k+1)=nodes.take k++[x]:=by
     rw[List.take_succ_eq_append_getElem hxl];obtain⟨_,h2⟩:=List.getElem?_eq_some_iff.1 hx;rw[h2]
    rw[ht,List.mem_append,List.mem_singleton] at h;rcases h with h | h
    ·exact h
    ·omega
theorem K7 (a nodes values:List Int)(k:Nat)(ha:Bk a)(hv:Bk values):Bk (Bf a nodes values k):=by
 unfold Bf
 have key:∀ (l:List (Int × Int)) (a:List Int),Bk a->(∀ p ∈ l,0<=p.2/\p.2<=999)->Bk (l.foldl (fun l p=>l.set p.1.toNat p.2) a):=by
  intro l;induction l with
  | nil=>intro a ha _;exact ha
  | cons p l ih =>
   intro a ha hp;rw[List.foldl_cons];refine ih _ ?_ (fun q hq=>hp q (by simp[hq]));intro x hx;rcases List.mem_or_eq_of_mem_set hx with hx | rfl
   ·exact ha x hx
   ·exact hp p (by simp)
 refine key _ _ ha (fun p hp=>?_);exact hv p.2 (List.of_mem_zip (List.mem_of_mem_take hp)).2
theorem Sl {g:Ae}{v nodes values:List Int}(hv:v.length=g.length)(hcd:BV g nodes=true)(hlen:nodes.length=values.length)(k:Nat)(hk:k<=nodes.length)(i:Nat)(hi:i<g.length) :
  (Cc (v,List.replicate g.length false) nodes values k).2.getD i false=((Bf v nodes values k).getD i 0 != v.getD i 0):=by
 induction k with
 | zero=>simp[hi]
 | succ k ih =>
  have ih:=ih (by omega);have hxl:k<nodes.length:=hk;have hx:nodes[k]? = some nodes[k]:=List.getElem?_eq_getElem hxl;obtain⟨y,hy⟩:∃ y,values[k]? = some y:=⟨_,List.getElem?_eq_getElem (by omega)⟩;generalize nodes[k]=x at hx;rw[IP _ nodes values k hx hy,EV v nodes values k hx hy];obtain⟨hc,hnt⟩:=CA hcd hx;obtain⟨j,n,rfl,hn,_⟩:=Fh hc;have hj:=(List.getElem?_eq_some_iff.1 hn).1
  have hpos:∀ x ∈ nodes,0<=x:=by
   intro z hz;obtain⟨m,hm⟩:=List.getElem?_of_mem hz;obtain⟨j',_,rfl,_,_⟩:=Fh (CA hcd hm).1;omega
  unfold Ic;rw[Int.toNat_natCast];by_cases e:j=i
  ·subst e;rw[Eb (by simp;omega),Eb (by rw[Ec];omega)];rw[KE,DK v nodes values k j hpos hnt];exact bne_comm
  ·rw[CC e,CC e];exact ih
structure UD (g:Ae) (a b:List Int) (s:Mm) (k:Nat):Prop where
 v:s.vals.length=g.length
 r:s.reads.length=g.length
 c:s.ch.length=g.length
 v1:∀ i,i<k->s.vals.getD i 0=(Bz g b).getD i 0
 v2:∀ i n,k<=i->g[i]? = some n->s.vals.getD i 0=if n.kind=0 then (Bz g b).getD i 0 else (Bz g a).getD i 0
 r1:∀ i,i<k->s.reads.getD i []=Cb g (Bz g b) i
 r2:∀ i,k<=i->i<g.length->s.reads.getD i []=Cb g (Bz g a) i
 c1:∀ i,i<k->s.ch.getD i false=((Bz g b).getD i 0 != (Bz g a).getD i 0)
 c2:∀ i n,k<=i->g[i]? = some n->s.ch.getD i false=if n.kind=0 then ((Bz g b).getD i 0 != (Bz g a).getD i 0) else false
 n:s.ran=Ch (IQ g (Bz g a) (Bz g b)) k
theorem UD.step {g:Ae}{a b:List Int}{s:Mm}{k:Nat}(hG:AG g=true)(h:UD g a b s k)(hk:k<g.length):UD g a b (IK g s k) (k+1):=by
 obtain⟨n,hn⟩:∃ n,g[k]? = some n:=⟨_,List.getElem?_eq_getElem hk⟩;have lt_of:∀ {i:Nat},i<k+1->i≠k->i<k:=fun h1 h2=>by omega
 by_cases h0:n.kind=0
 ·rw[H7 hn (.inl h0)]
  have hm:IQ g (Bz g a) (Bz g b) k=false:=by
   unfold IQ CL;rw[Int.toNat_natCast,Bi hn];simp[h0]
  have hv:=h.v2 k n (Nat.le_refl _) hn;have hc:=h.c2 k n (Nat.le_refl _) hn;rw[if_pos h0] at hv hc;have hr:=h.r2 k (Nat.le_refl _) hk;have hd:∀ x,Cb g x k=[]:=fun x=>by unfold Cb;rw[Bi hn,if_pos h0]
  refine⟨h.v,h.r,h.c,fun i hi=>?_,fun i n' hi hn'=>h.v2 i n' (by omega) hn',fun i hi=>?_,fun i hi hi2=>h.r2 i (by omega) hi2,fun i hi=>?_,fun i n' hi hn'=>h.c2 i n' (by omega) hn',?_⟩
  ·by_cases e:i=k
   ·subst e;exact hv
   ·exact h.v1 i (lt_of hi e)
  ·by_cases e:i=k
   ·subst e;rw[hr,hd,hd]
   ·exact h.r1 i (lt_of hi e)
  ·by_cases e:i=k
   ·subst e;exact hc
   ·exact h.c1 i (lt_of hi e)
  ·rw[h.n,Dr,hm,if_neg (by simp)]
 ·have hdA:Cb g (Bz g a) k=(AK n.f (Bz g a)).2:=by unfold Cb;rw[Bi hn,if_neg h0]
  have hdB:Cb g (Bz g b) k=(AK n.f (Bz g b)).2:=by unfold Cb;rw[Bi hn,if_neg h0]
  have hrun:AK n.f s.vals=AK n.f (Bz g b):=Gs (Bj hG k hn h0) (fun j hj=>h.v1 j hj);have hB:=MQ (cells:=b) hG hn h0;have hA:=MQ (cells:=a) hG hn h0;have hr:=h.r2 k (Nat.le_refl _) hk;have hv:=h.v2 k n (Nat.le_refl _) hn;have hc:=h.c2 k n (Nat.le_refl _) hn;rw[if_neg h0] at hv hc;have hkind:(CL g (k:Int) != 0)=true:=by unfold CL;rw[Int.toNat_natCast,Bi hn];simp[h0]
  have hhit:Tj s (s.reads.getD k [])=(Cb g (Bz g a) k).any fun x=>rd (Bz g a) x != rd (Bz g b) x:=by
   unfold Tj;rw[hr,Bool.eq_iff_iff,List.any_eq_true,List.any_eq_true];refine exists_congr fun x=>and_congr_right fun hx=>?_;have hx2:=Gd hG hk hx;unfold rd;rw[h.c1 x.toNat (by omega),bne_comm]
  cases hh:Tj s (s.reads.getD k [])
  ·rw[H7 hn (.inr hh)];rw[hh] at hhit
   have hsame:AK n.f (Bz g a)=AK n.f (Bz g b):=H3 fun x hx=>by
    have:=List.any_eq_false.1 hhit.symm x (by rw[hdA];exact hx);simpa using this
   have hval:(Bz g a).getD k 0=(Bz g b).getD k 0:=by rw[hA,hB,hsame]
   have hm:IQ g (Bz g a) (Bz g b) k=false:=by
    unfold IQ;rw[<- hhit,hval];simp
   refine⟨h.v,h.r,h.c,fun i hi=>?_,fun i n' hi hn'=>h.v2 i n' (by omega) hn',fun i hi=>?_,fun i hi hi2=>h.r2 i (by omega) hi2,fun i hi=>?_,fun i n' hi hn'=>h.c2 i n' (by omega) hn',?_⟩
   ·by_cases e:i=k
    ·subst e;rw[hv,hval]
    ·exact h.v1 i (lt_of hi e)
   ·by_cases e:i=k
    ·subst e;rw[hr,hdA,hdB,hsame]
    ·exact h.r1 i (lt_of hi e)
   ·by_cases e:i=k
    ·subst e;rw[hc,hval];simp
    ·exact h.c1 i (lt_of hi e)
   ·rw[h.n,Dr,hm,if_neg (by simp)]
  ·rw[Kg hn h0 hh,hrun]
   have hm:IQ g (Bz g a) (Bz g b) k=true:=by
    unfold IQ;rw[hkind,<- hhit,hh];simp
   refine⟨by simp[h.v],by simp[h.r],by simp[h.c],fun i hi=>?_,fun i n' hi hn'=>?_,fun i hi=>?_,fun i hi hi2=>?_,fun i hi=>?_,fun i n' hi hn'=>?_,?_⟩
   ·by_cases e:i=k
    ·subst e;rw[Eb (by rw[h.v];exact hk),hB]
    ·rw[CC (fun e2=>e e2.symm)];exact h.v1 i (lt_of hi e)
   ·rw[CC (by omega)];exact h.v2 i n' (by omega) hn'
   ·by_cases e:i=k
    ·subst e;rw[Eb (by rw[h.r];exact hk),hdB]
    ·rw[CC (fun e2=>e e2.symm)];exact h.r1 i (lt_of hi e)
   ·rw[CC (by omega)];exact h.r2 i (by omega) hi2
   ·by_cases e:i=k
    ·subst e;rw[Eb (by rw[h.c];exact hk),hv,hB]
    ·rw[CC (fun e2=>e e2.symm)];exact h.c1 i (lt_of hi e)
   ·rw[CC (by omega)];exact h.c2 i n' (by omega) hn'
   ·rw[h.n,Dr,hm,if_pos rfl]
theorem UD.steps {g:Ae}{a b:List Int}{s:Mm}(hG:AG g=true)(h:UD g a b s 0)(k:Nat)(hk:k<=g.length):UD g a b (BP g s k) k:=by
 induction k with
 | zero=>exact h
 | succ k ih=>rw[FG];exact(ih (by omega)).step hG (by omega)
theorem Ox {g:Ae}{nodes:List Int}(hcd:BV g nodes=true):∀ x ∈ nodes,∃ (j:Nat) (n:BQ),x=j/\g[j]? = some n/\n.kind=0:=by
 intro x hx;obtain⟨m,hm⟩:=List.getElem?_of_mem hx;exact Fh (CA hcd hm).1
theorem Gx {g:Ae}{st:BT}{nodes values:List Int}(h:Gy g st nodes values=true):Di g st=true/\BV g nodes=true/\nodes.length=values.length/\Bk values:=by
 unfold Gy at h;simp only[Bool.and_eq_true,decide_eq_true_eq] at h;exact⟨h.1.1.1,h.1.1.2,h.1.2,B7 h.2⟩
theorem Fw {g:Ae}{st:BT}{nodes values:List Int}(h:Gy g st nodes values=true):AT g (Gw (B8 g st.vals) nodes values)=true:=by
 obtain⟨hV,hcd,hlen,hx⟩:=Gx h;have hC:=JT hV;have hl:=CH hC;have hin:=Ox hcd;rw[<- Jk _ _ _ hlen];refine MT (by rw[Ec];exact hl) fun i n hi=>?_;have hil:=(List.getElem?_eq_some_iff.1 hi).1;have hr:=K7 _ nodes values nodes.length (DN hC) hx;have h1:i<(Bf (B8 g st.vals) nodes values nodes.length).length:=by rw[Ec];omega
 refine⟨?_,fun h0=>?_⟩
 ·rw[List.getD_eq_getElem?_getD,List.getElem?_eq_getElem h1];exact hr _ (List.getElem_mem h1)
 ·rw[DK _ _ _ _ _ (fun x hx=>by obtain⟨j,_,rfl,_⟩:=hin x hx;omega)]
  ·exact KF hC hi h0
  ·intro hm;obtain⟨j,n',e,hn',hk⟩:=hin _ (List.mem_of_mem_take hm);have:i=j:=by omega
   subst this;rw[hi] at hn';injection hn' with hn';subst hn';exact h0 hk
theorem UD.start {g:Ae}{st:BT}{nodes values:List Int}(h:Gy g st nodes values=true) :
  UD g (B8 g st.vals) (Gw (B8 g st.vals) nodes values) ⟨(Cc (st.vals,List.replicate g.length false) nodes values nodes.length).1,st.reads,(Cc (st.vals,List.replicate g.length false) nodes values nodes.length).2,[]⟩ 0:=by
 obtain⟨hV,hcd,hlen,hx⟩:=Gx h;obtain⟨hG,hvl,hrl,hvr,hR⟩:=Bd hV;have hin:=Ox hcd;have hA:=Oy hV;have hpos:∀ x ∈ nodes,0<=x:=fun x hx=>by obtain⟨j,_,rfl,_⟩:=hin x hx;omega
 have hB:∀ i n,g[i]? = some n->n.kind=0->(Bz g (Gw (B8 g st.vals) nodes values)).getD i 0=(Bf st.vals nodes values nodes.length).getD i 0:=by
  intro i n hn h0;have hil:=(List.getElem?_eq_some_iff.1 hn).1;rw[Lx _ hn,if_pos h0,<- Jk _ _ _ hlen];by_cases hm:(i:Int) ∈ nodes.take nodes.length
  ·exact LN _ _ nodes values nodes.length i (by simp) hlen (fun x hx=>by obtain⟨j,n',rfl,hn',_⟩:=hin x hx;have:=(List.getElem?_eq_some_iff.1 hn').1;simp[hvl];omega) hm
  ·rw[DK _ _ _ _ _ hpos hm,DK _ _ _ _ _ hpos hm,Ek g _ i (by omega),Bi hn,if_neg (by simpa using h0)]
 have hN:∀ i n,g[i]? = some n->n.kind≠0->(Bf st.vals nodes values nodes.length).getD i 0=st.vals.getD i 0:=by
  intro i n hn h0;refine DK _ _ _ _ _ hpos fun hm=>?_;obtain⟨j,n',e,hn',hk⟩:=hin _ (List.mem_of_mem_take hm);have:i=j:=by omega
  subst this;rw[hn] at hn';injection hn' with hn';subst hn';exact h0 hk
 refine⟨by simp[hvl],hrl,by simp,fun i hi=>by omega,fun i n _ hn=>?_,fun i hi=>by omega,fun i _ hi=>?_,fun i hi=>by omega,fun i n _ hn=>?_,by simp[Ch]⟩
 ·show (Cc (st.vals,List.replicate g.length false) nodes values nodes.length).1.getD i 0=_;rw[KE,hA];by_cases h0:n.kind=0
  ·rw[if_pos h0,hB i n hn h0]
  ·rw[if_neg h0,hN i n hn h0]
 ·show st.reads.getD i []=_;rw[hA];obtain⟨n,hn⟩:∃ n,g[i]? = some n:=⟨_,List.getElem?_eq_getElem hi⟩;unfold Cb;rw[Bi hn];by_cases h0:n.kind=0
  ·rw[if_pos h0,Ij hn h0 (hR i hi)]
  ·rw[if_neg h0,GT hn h0 (hR i hi)]
 ·have hil:=(List.getElem?_eq_some_iff.1 hn).1;show (Cc (st.vals,List.replicate g.length false) nodes values nodes.length).2.getD i false=_;rw[Sl hvl hcd hlen nodes.length (Nat.le_refl _) i hil,hA];by_cases h0:n.kind=0
  ·rw[if_pos h0,hB i n hn h0]
  ·rw[if_neg h0,hN i n hn h0];simp
theorem GV {g:Ae}{st:BT}{nodes values:List Int}(h:Gy g st nodes values=true) :
  Bh g st nodes values=(BJ g (Gw (B8 g st.vals) nodes values),Nv g (B8 g st.vals) (Gw (B8 g st.vals) nodes values)):=by
 have hC:=Fw h;obtain⟨hV,hcd,hlen,hx⟩:=Gx h;obtain⟨hG,hvl,hrl,hvr,hR⟩:=Bd hV;have hI:=(UD.start h).steps hG g.length (Nat.le_refl _);have hA:=JT hV;unfold Bh;have hS:CN g st nodes values=BP g ⟨(Cc (st.vals,List.replicate g.length false) nodes values nodes.length).1,st.reads,(Cc (st.vals,List.replicate g.length false) nodes values nodes.length).2,[]⟩ g.length:=rfl;rw[hS];refine Prod.ext ?_ ?_
 ·show BT.mk _ _=BT.mk _ _;congr 1
  ·exact VD (by rw[hI.v];simp) (fun i hi=>hI.v1 i (by rw[hI.v] at hi;exact hi))
  ·refine List.ext_getElem (by rw[hI.r];simp) fun i h1 h2=>?_;rw[hI.r] at h1;have:=hI.r1 i h1;rw[List.getD_eq_getElem?_getD,List.getElem?_eq_getElem (by rw[hI.r];exact h1)] at this;simp only[Option.getD_some] at this;rw[this];simp[Cm]
 ·show (BP g _ g.length).ran=_;rw[hI.n];unfold Nv;rw[hG,hA,hC];rfl
end Sg
