/- Parts of one proof, joined. The plain model of what must run, and of chosen nodes: no program in sight, and more. Conditions: in the theorems. -/
import Derived.Test.YthibllkleakiiaaGreatDoorCore
namespace Sg
def Ch (p:Nat->Bool)(k:Nat):List Int:=((List.range k).filter p).map Int.ofNat
theorem Dr (p:Nat->Bool)(k:Nat):Ch p (k+1)=if p k=true then Ch p k++[(k:Int)] else Ch p k:=by
 unfold Ch;rw[List.range_succ,List.filter_append,List.map_append];by_cases h:p k=true
 ·rw[if_pos h];simp[h]
 ·rw[if_neg h];simp[h]
theorem Fn (p:Nat->Bool)(k:Nat):(Ch p k).length<=k:=by
 unfold Ch;have:=List.length_filter_le p (List.range k);simpa using this
theorem Fi {p:Nat->Bool}{k:Nat}{n:Int}:n ∈ Ch p k↔∃ i:Nat,n=i/\i<k/\p i=true:=by
 unfold Ch;rw[List.mem_map];constructor
 ·rintro ⟨i,hi,rfl⟩;rw[List.mem_filter,List.mem_range] at hi;exact⟨i,rfl,hi.1,hi.2⟩
 ·rintro ⟨i,rfl,h1,h2⟩;exact⟨i,List.mem_filter.2 ⟨List.mem_range.2 h1,h2⟩,rfl⟩
def KJ (a b:List Int):Bool:=a.any fun x=>decide (x ∈ b)
theorem LQ (l out:List Int)(x:Int):x ∈ l.foldl CT out↔x ∈ out\/x ∈ l:=by
 induction l generalizing out with
 | nil=>simp
 | cons y l ih =>
  rw[List.foldl_cons,ih,List.mem_cons];unfold CT;split
  ·rename_i h
   constructor
   ·rintro (h1 | h1)
    ·exact .inl h1
    ·exact .inr (.inr h1)
   ·rintro (h1 | rfl | h1)
    ·exact .inl h1
    ·exact .inl h
    ·exact .inr h1
  ·rw[List.mem_append,List.mem_singleton,or_assoc]
theorem Ft (l:List Int)(x:Int):x ∈ AV l↔x ∈ l:=by
 unfold AV;rw[LQ];simp
theorem Lw (f:List At)(v:List Int)(m:Nat)(i:Int)(x:Int)(h:x ∈ (Cj f v m i).2):∃ p ∈ f,p.kind=1/\p.n=x:=by
 induction m generalizing i with
 | zero=>simp[Cj] at h
 | succ m ih =>
  simp only[Cj] at h;by_cases h0:(f.getD i.toNat default).kind=0
  ·rw[if_pos h0] at h;cases h
  ·rw[if_neg h0] at h;by_cases h1:(f.getD i.toNat default).kind=1
   ·rw[if_pos h1] at h;simp only[List.mem_singleton] at h;exact⟨_,Lt h1,h1,h.symm⟩
   ·rw[if_neg h1] at h;split at h
    ·rcases List.mem_append.1 h with h | h
     ·exact ih _ h
     ·exact ih _ h
    ·rcases List.mem_append.1 h with h | h
     ·exact ih _ h
     ·exact ih _ h
theorem MI (f:List At)(a b:List Int)(m:Nat)(i:Int)(h:∀ x ∈ (Cj f a m i).2,rd a x=rd b x):Cj f a m i=Cj f b m i:=by
 induction m generalizing i with
 | zero=>rfl
 | succ m ih =>
  simp only[Cj] at h ⊢;by_cases h0:(f.getD i.toNat default).kind=0
  ·rw[if_pos h0,if_pos h0]
  ·rw[if_neg h0] at h;rw[if_neg h0,if_neg h0];by_cases h1:(f.getD i.toNat default).kind=1
   ·rw[if_pos h1] at h;rw[if_pos h1,if_pos h1,h _ (List.mem_singleton.2 rfl)]
   ·rw[if_neg h1] at h;rw[if_neg h1,if_neg h1];by_cases h8:(f.getD i.toNat default).kind=8
    ·rw[if_pos h8] at h;rw[if_pos h8,if_pos h8];have e1:=ih (f.getD i.toNat default).a (fun x hx=>h x (List.mem_append.2 (.inl hx)));rw[<- e1];have e2:=ih _ (fun x hx=>h x (List.mem_append.2 (.inr hx)));rw[<- e2]
    ·rw[if_neg h8] at h;rw[if_neg h8,if_neg h8];have e1:=ih (f.getD i.toNat default).a (fun x hx=>h x (List.mem_append.2 (.inl hx)));have e2:=ih (f.getD i.toNat default).b (fun x hx=>h x (List.mem_append.2 (.inr hx)));rw[<- e1,<- e2]
theorem H3 {f:List At}{a b:List Int}(h:∀ x ∈ (AK f a).2,rd a x=rd b x):AK f a=AK f b:=by
 unfold AK at h ⊢;have:=MI f a b _ _ (fun x hx=>h x ((Ft _ _).2 hx));rw[this]
theorem Gd {g:Ae}(hg:AG g=true){v:List Int}{i:Nat}{x:Int}(hi:i<g.length)(h:x ∈ Cb g v i):0<=x/\x<i:=by
 unfold Cb at h;have hn:g[i]? = some g[i]:=List.getElem?_eq_getElem hi;have hd:g.getD i default=g[i]:=by simp[hn]
 rw[hd] at h;by_cases h0:g[i].kind=0
 ·rw[if_pos h0] at h;cases h
 ·rw[if_neg h0] at h;unfold AK at h;obtain⟨p,hp,h1,rfl⟩:=Lw _ _ _ _ _ ((Ft _ _).1 h);exact(Bj hg i hn h0).read0 p hp h1
def IQ (g:Ae)(x y:List Int)(i:Nat):Bool:=(CL g (i:Int) != 0) && ((x.getD i 0 != y.getD i 0) || (Cb g x i).any fun n=>rd x n != rd y n)
theorem UG {g:Ae}(cells:List Int){i:Nat}{n:BQ}(hn:g[i]? = some n):(Bz g cells).getD i 0=Iy g cells (AZ g cells i) i:=by
 have hi:i<g.length:=(List.getElem?_eq_some_iff.1 hn).1;unfold Bz;rw[GR g cells (i+1) _ i (by omega) (by omega)];simp[AZ,List.getD_eq_getElem?_getD]
theorem MQ {g:Ae}{cells:List Int}(hg:AG g=true){i:Nat}{n:BQ}(hn:g[i]? = some n)(h0:n.kind≠0):(Bz g cells).getD i 0=(AK n.f (Bz g cells)).1:=by
 rw[UG cells hn,Lu hg hn h0];unfold Iy;have hd:g.getD i default=n:=by simp[hn]
 rw[hd,if_neg h0]
def Nv (g:Ae)(a b:List Int):List Int:=if (AG g && AT g a && AT g b)=true then Ch (IQ g (Bz g a) (Bz g b)) g.length else []
structure Bv where
 vals:List Int
 reads:List (List Int)
 cols:List Int
deriving DecidableEq,Inhabited
def EY (a b:List Int):List Int:=a.filter fun x=>decide (x ∉ b)
def FD (r:List Int):Bool:=(List.range r.length).all fun k=>decide (r.getD k 0 ∉ r.take k)
def C5 (g:Ae)(st:Bv)(i:Nat):Bool :=
 let n:=g.getD i default
 let c:=st.cols.getD i 0
 let r:=st.reads.getD i []
 if n.kind=0 then decide (c=0) && r.isEmpty
 else if c=2 then r.all (fun x=>decide (x ∈ AY n.f)) && FD r
 else if c=1 then CD g st.vals st.reads i
 else if c=0 then CD g st.vals st.reads i && r.all fun x=>rd st.cols x == 0
 else false
def Ji (g:Ae)(st:Bv)(i:Nat):Bool :=
 let n:=g.getD i default
 let c:=st.cols.getD i 0
 let r:=st.reads.getD i []
 if n.kind=0 then decide (c=0) && decide (r.length=0)
 else if c=2 then decide (r.length=(AV r).length) && decide ((EY r (AY n.f)).length=0)
 else (if c=0 then (AK n.f st.vals).2.all fun x=>rd st.cols x == 0 else true) && decide ((AK n.f st.vals).1=st.vals.getD i 0) && decide ((AK n.f st.vals).2=r)
def Dc (g:Ae)(st:Bv):Bool:=AG g && decide (st.vals.length=g.length) && decide (st.reads.length=g.length) && decide (st.cols.length=g.length) && CX st.vals
def AO (g:Ae)(st:Bv):Bool:=Dc g st && (List.range g.length).all (C5 g st)
def DP (g:Ae)(st:Bv):Bool:=Dc g st && (st.cols.all fun x=>BZ x 0 2) && (List.range g.length).all (Ji g st)
theorem Ss (l out:List Int):(l.foldl CT out).length<=out.length+l.length:=by
 induction l generalizing out with
 | nil=>simp
 | cons x l ih =>
  rw[List.foldl_cons];have:=ih (CT out x)
  have h1:(CT out x).length<=out.length+1:=by
   unfold CT;split
   ·omega
   ·simp
  simp only[List.length_cons];omega
theorem St (l out:List Int):(l.foldl CT out).length=out.length+l.length↔∀ k,k<l.length->l.getD k 0 ∉ out++l.take k:=by
 induction l generalizing out with
 | nil=>simp
 | cons x l ih =>
  rw[List.foldl_cons,List.length_cons];by_cases hx:x ∈ out
  ·have e:CT out x=out:=by unfold CT;rw[if_pos hx]
   rw[e];have:=Ss l out;constructor
   ·intro h;omega
   ·intro h;have:=h 0 (by omega);simp at this
    exact absurd hx this
  ·have e:CT out x=out++[x]:=by unfold CT;rw[if_neg hx]
   rw[e];have:=ih (out++[x]);rw[List.length_append,List.length_singleton] at this;rw[show out.length+(l.length+1)=out.length+1+l.length from by omega,this];constructor
   ·intro h k hk;cases k with
    | zero=>simpa using hx
    | succ k =>
     have:=h k (by omega);simpa using this
   ·intro h k hk;have:=h (k+1) (by omega);simpa using this
theorem Nx (r:List Int):decide (r.length=(AV r).length)=FD r:=by
 rw[Bool.eq_iff_iff,decide_eq_true_eq];unfold FD AV;rw[List.all_eq_true];have:=St r [];simp only[List.length_nil,Nat.zero_add,List.nil_append] at this;rw[eq_comm,this];constructor
 ·intro h k hk;rw[decide_eq_true_eq];exact h k (List.mem_range.1 hk)
 ·intro h k hk;have:=h k (List.mem_range.2 hk);rwa [decide_eq_true_eq] at this
theorem Ny (a b:List Int):decide ((EY a b).length=0)=a.all fun x=>decide (x ∈ b):=by
 rw[Bool.eq_iff_iff,decide_eq_true_eq,List.length_eq_zero_iff];unfold EY;rw[List.filter_eq_nil_iff,List.all_eq_true];constructor
 ·intro h x hx;have:=h x hx;simpa using this
 ·intro h x hx;have:=h x hx;simpa using this
theorem OI (g:Ae)(st:Bv)(i:Nat)(h:BZ (st.cols.getD i 0) 0 2=true):Ji g st i=C5 g st i:=by
 unfold Ji C5;dsimp only;by_cases h0:(g.getD i default).kind=0
 ·rw[if_pos h0,if_pos h0];cases st.reads.getD i [] <;> simp
 ·rw[if_neg h0,if_neg h0];by_cases h2:st.cols.getD i 0=2
  ·rw[if_pos h2,if_pos h2,Nx,Ny,Bool.and_comm]
  ·rw[if_neg h2,if_neg h2]
   have hr:CD g st.vals st.reads i=(decide ((AK (g.getD i default).f st.vals).1=st.vals.getD i 0) && decide ((AK (g.getD i default).f st.vals).2=st.reads.getD i [])):=by
    unfold CD;dsimp only;rw[if_neg h0]
   by_cases h1:st.cols.getD i 0=1
   ·rw[if_pos h1,if_neg (by omega),hr,Bool.true_and]
   ·have h00:st.cols.getD i 0=0:=by
     simp only[BZ,Bool.and_eq_true,decide_eq_true_eq] at h;omega
    rw[if_neg h1,if_pos h00,if_pos h00,hr];by_cases he:(AK (g.getD i default).f st.vals).2=st.reads.getD i []
    ·rw[he,Bool.and_assoc,Bool.and_comm]
    ·have:decide ((AK (g.getD i default).f st.vals).2=st.reads.getD i [])=false:=by simpa using he
     rw[this];simp
theorem IR {g:Ae}{st:Bv}{i:Nat}(h:C5 g st i=true):BZ (st.cols.getD i 0) 0 2=true:=by
 unfold C5 at h;dsimp only at h;simp only[BZ,Bool.and_eq_true,decide_eq_true_eq];split at h
 ·simp only[Bool.and_eq_true,decide_eq_true_eq] at h;omega
 ·split at h
  ·omega
  ·split at h
   ·omega
   ·split at h
    ·omega
    ·cases h
theorem KH (g:Ae)(st:Bv):DP g st=AO g st:=by
 unfold DP AO;rw[Bool.eq_iff_iff];simp only[Bool.and_eq_true,List.all_eq_true,List.mem_range];constructor
 ·rintro ⟨⟨h1,h2⟩,h3⟩;refine⟨h1,fun i hi=>?_⟩
  have hl:st.cols.length=g.length:=by
   unfold Dc at h1;simp only[Bool.and_eq_true,decide_eq_true_eq] at h1;exact h1.1.2
  rw[<- OI g st i]
  ·exact h3 i hi
  ·have hi':i<st.cols.length:=by omega
   rw[List.getD_eq_getElem?_getD,List.getElem?_eq_getElem hi'];exact h2 _ (List.getElem_mem hi')
 ·rintro ⟨h1,h3⟩
  have hl:st.cols.length=g.length:=by
   unfold Dc at h1;simp only[Bool.and_eq_true,decide_eq_true_eq] at h1;exact h1.1.2
  refine⟨⟨h1,fun x hx=>?_⟩,fun i hi=>?_⟩
  ·obtain⟨i,hi⟩:=List.getElem?_of_mem hx;have hi':=(List.getElem?_eq_some_iff.1 hi).1;have:=IR (h3 i (by omega));rw[List.getD_eq_getElem?_getD,hi] at this;exact this
  ·rw[OI g st i (IR (h3 i hi))];exact h3 i hi
def La (g:Ae)(v:List Int)(k:Nat):List Int:=(List.range v.length).map fun i=>if i<k/\(g.getD i default).kind≠0 then 0 else v.getD i 0
def B8 (g:Ae)(v:List Int):List Int:=La g v v.length
@[simp] theorem length_cellsTo (g:Ae) (v:List Int) (k:Nat):(La g v k).length=v.length:=by simp[La]
@[simp] theorem length_cellsOf (g:Ae) (v:List Int):(B8 g v).length=v.length:=by simp[B8]
theorem Ek (g:Ae)(v:List Int)(i:Nat)(h:i<v.length):(B8 g v).getD i 0=if (g.getD i default).kind≠0 then 0 else v.getD i 0:=by
 have h':i<(B8 g v).length:=by simpa using h
 rw[List.getD_eq_getElem?_getD,List.getElem?_eq_getElem h'];simp only[B8,La,List.getElem_map,List.getElem_range,Option.getD_some,h,true_and]
def G3 (q:List Int)(k:Nat):List Int:=Ch (fun i=>rd q (i:Int) != 0) k
def BF (g:Ae)(st:Bv):List Int:=if AO g st=true then G3 st.cols g.length else []
theorem AP {g:Ae}{st:Bv}(h:AO g st=true):AG g=true/\st.vals.length=g.length/\st.reads.length=g.length/\st.cols.length=g.length/\CX st.vals=true:=by
 unfold AO Dc at h;simp only[Bool.and_eq_true,decide_eq_true_eq] at h;exact⟨h.1.1.1.1.1,h.1.1.1.1.2,h.1.1.1.2,h.1.1.2,h.1.2⟩
theorem CM {g:Ae}(h:AG g=true):g.length<=10:=by
 unfold AG at h;simp only[Bool.and_eq_true,decide_eq_true_eq] at h;exact h.2
inductive Fc (r:List (List Int)) (n:Nat):Nat->Prop
 | one {i:Nat}:(n:Int) ∈ r.getD i []->Fc r n i
 | more {m i:Nat}:Fc r n m->(m:Int) ∈ r.getD i []->Fc r n i
theorem Fc.front {r:List (List Int)}{n m i:Nat}(h:(n:Int) ∈ r.getD m [])(k:Fc r m i):Fc r n i:=by
 induction k with
 | one h1=>exact .more (.one h) h1
 | more _ h1 ih=>exact .more ih h1
theorem Fc.split {r:List (List Int)}{n i:Nat}(h:Fc r n i):(n:Int) ∈ r.getD i []\/∃ m:Nat,(n:Int) ∈ r.getD m []/\Fc r m i:=by
 induction h with
 | one h=>exact .inl h
 | more _ h2 ih =>
  rcases ih with h | ⟨m,h,k⟩
  ·exact .inr ⟨_,h,.one h2⟩
  ·exact .inr ⟨m,h,.more k h2⟩
theorem Fc.last {r:List (List Int)}{n i:Nat}(h:Fc r n i):(n:Int) ∈ r.getD i []\/∃ m:Nat,Fc r n m/\(m:Int) ∈ r.getD i []:=by
 cases h with
 | one h=>exact .inl h
 | more h k=>exact .inr ⟨_,h,k⟩
def Eu (r:List (List Int)):Prop:=∀ (k:Nat),∀ x ∈ r.getD k [],0<=x/\x<(k:Int)
theorem Fc.lt {r:List (List Int)}{n i:Nat}(hA:Eu r)(h:Fc r n i):n<i:=by
 induction h with
 | one h=>have:=(hA _ _ h).2;omega
 | more _ h ih=>have:=(hA _ _ h).2;omega
theorem Ds {r:List (List Int)}{i:Nat}{x:Int}(h:x ∈ r.getD i []):i<r.length:=by
 apply Decidable.byContradiction;intro hh;rw[List.getD_eq_getElem?_getD,List.getElem?_eq_none (by omega)] at h;cases h
theorem Fc.len {r:List (List Int)}{n i:Nat}(h:Fc r n i):i<r.length:=by
 cases h with
 | one h=>exact Ds h
 | more _ h=>exact Ds h
def Dn (r:List (List Int))(n:Nat)(k:Nat):List Int:=Ch (fun i=>decide ((n:Int) ∈ r.getD i [])) k
def Bo (r:List (List Int))(n:Nat):List Int:=Dn r n r.length
theorem Fx {r:List (List Int)}{n i:Nat}:(i:Int) ∈ Bo r n↔(n:Int) ∈ r.getD i []:=by
 unfold Bo Dn;rw[Fi];constructor
 ·rintro ⟨j,hj,_,h⟩;have:i=j:=by omega
  subst this;exact of_decide_eq_true h
 ·intro h;exact⟨i,rfl,Ds h,decide_eq_true h⟩
theorem JX {r:List (List Int)}{n k:Nat}{x:Int}(h:(Bo r n)[k]? = some x):∃ i:Nat,x=i/\(n:Int) ∈ r.getD i []:=by
 have hm:=List.mem_of_getElem? h;unfold Bo Dn at hm;rw[Fi] at hm;obtain⟨j,rfl,_,h⟩:=hm;exact⟨j,rfl,of_decide_eq_true h⟩
open Classical in
noncomputable def Fe (M:Nat->Prop)(c:List Int):List Int:=c.mapIdx fun i x=>if M i/\x=0 then 1 else x
@[simp] theorem length_markC (M:Nat->Prop) (c:List Int):(Fe M c).length=c.length:=by simp[Fe]
open Classical in
theorem Qy (c:List Int):Fe (fun _=>False) c=c:=by
 refine List.ext_getElem? fun i=>?_;simp[Fe,List.getElem?_mapIdx]
open Classical in
theorem GB (M:Nat->Prop)(c:List Int)(i:Nat):(Fe M c)[i]? = c[i]?.map (fun x=>if M i/\x=0 then 1 else x):=by
 simp[Fe,List.getElem?_mapIdx]
theorem OJ {M M':Nat->Prop}(c:List Int)(h:∀ i,M i↔M' i):Fe M c=Fe M' c:=by
 have:M=M':=funext fun i=>propext (h i);rw[this]
open Classical in
theorem Qz {M:Nat->Prop}{c:List Int}{m:Nat}{x:Int}(hx:(Fe M c)[m]? = some x)(h0:x=0):Fe (fun i=>M i\/i=m) c=(Fe M c).set m 1:=by
 subst h0;refine List.ext_getElem? fun i=>?_;rw[List.getElem?_set];by_cases hi:m=i
 ·subst hi;rw[if_pos rfl,if_pos (List.getElem?_eq_some_iff.1 hx).1];rw[GB] at hx ⊢;cases hc:c[m]? with
  | none=>rw[hc] at hx;cases hx
  | some y =>
   rw[hc] at hx;simp only[Option.map_some,Option.some.injEq] at hx ⊢;by_cases hy:y=0
   ·simp[hy]
   ·rw[if_neg (fun h=>hy h.2)] at hx;exact absurd hx hy
 ·rw[if_neg hi,GB,GB];have:(M i\/i=m)↔M i:=⟨fun h=>h.elim id (fun e=>absurd e.symm hi),.inl⟩;simp only[this]
open Classical in
theorem QA {M:Nat->Prop}{c:List Int}{m:Nat}{x:Int}(hx:(Fe M c)[m]? = some x)(h0:x≠0):Fe (fun i=>M i\/i=m) c=Fe M c:=by
 refine List.ext_getElem? fun i=>?_;rw[GB,GB];by_cases hi:i=m
 ·subst hi;rw[GB] at hx;cases hc:c[i]? with
  | none=>rfl
  | some y =>
   rw[hc] at hx;simp only[Option.map_some,Option.some.injEq] at hx ⊢;by_cases hy:y=0
   ·by_cases hM:M i
    ·simp[hM,hy]
    ·rw[if_neg (fun h=>hM h.1)] at hx;exact absurd (hx.symm.trans hy) h0
   ·simp[hy]
 ·have:(M i\/i=m)↔M i:=⟨fun h=>h.elim id (fun e=>absurd e hi),.inl⟩;simp only[this]
def IS (r:List (List Int))(n:Nat)(M:Nat->Prop):Prop:=∀ j i:Nat,M j->n<j->(j:Int) ∈ r.getD i []->M i
theorem IS.way {r:List (List Int)}{n j i:Nat}{M:Nat->Prop}(h:IS r n M)(hA:Eu r)(hj:M j)(hn:n<j)(w:Fc r j i):M i:=by
 induction w with
 | one h1=>exact h _ _ hj hn h1
 | more w1 h1 ih=>exact h _ _ ih (by have:=w1.lt hA;omega) h1
def N3 (r:List (List Int))(l:List Int)(M:Nat->Prop)(i:Nat):Prop:=M i\/∃ m:Nat,(m:Int) ∈ l/\(m=i\/Fc r m i)
theorem UH (r:List (List Int))(M:Nat->Prop):N3 r [] M=M:=by
 funext i
 simp[N3]
theorem LT {r:List (List Int)}{n:Nat}{l:List Int}{M:Nat->Prop}(h:IS r n M):IS r n (N3 r l M):=by
 intro j i hj hn hi;rcases hj with hj | ⟨m,hm,hj⟩
 ·exact .inl (h j i hj hn hi)
 ·refine .inr ⟨m,hm,.inr ?_⟩;rcases hj with rfl | hj
  ·exact .one hi
  ·exact .more hj hi
theorem UI {r:List (List Int)}{n m:Nat}{l:List Int}{M:Nat->Prop}(hA:Eu r)(h:IS r n M)(hn:n<m)(hm:N3 r l M m):N3 r (l++[(m:Int)]) M=N3 r l M:=by
 funext i
 apply propext;constructor
 ·rintro (h1 | ⟨k,hk,h2⟩)
  ·exact .inl h1
  ·rcases List.mem_append.1 hk with hk | hk
   ·exact .inr ⟨k,hk,h2⟩
   ·simp at hk
    have:k=m:=by omega
    subst this;rcases h2 with rfl | h2
    ·exact hm
    ·exact(LT h).way hA hm hn h2
 ·rintro (h1 | ⟨k,hk,h2⟩)
  ·exact .inl h1
  ·exact .inr ⟨k,List.mem_append.2 (.inl hk),h2⟩
theorem UJ {r:List (List Int)}{m:Nat}{l:List Int}{M:Nat->Prop}:N3 r (l++[(m:Int)]) M=fun i=>(N3 r l M i\/i=m)\/Fc r m i:=by
 funext i
 apply propext;constructor
 ·rintro (h1 | ⟨k,hk,h2⟩)
  ·exact .inl (.inl (.inl h1))
  ·rcases List.mem_append.1 hk with hk | hk
   ·exact .inl (.inl (.inr ⟨k,hk,h2⟩))
   ·simp at hk
    have:k=m:=by omega
    subst this;rcases h2 with rfl | h2
    ·exact .inl (.inr rfl)
    ·exact .inr h2
 ·rintro (((h1 | ⟨k,hk,h2⟩) | rfl) | h1)
  ·exact .inl h1
  ·exact .inr ⟨k,List.mem_append.2 (.inl hk),h2⟩
  ·exact .inr ⟨i,by simp,.inl rfl⟩
  ·exact .inr ⟨m,by simp,.inr h1⟩
theorem UK {r:List (List Int)}{n:Nat}{M:Nat->Prop}:N3 r (Bo r n) M=fun i=>M i\/Fc r n i:=by
 funext i
 apply propext;constructor
 ·rintro (h1 | ⟨m,hm,h2⟩)
  ·exact .inl h1
  ·rw[Fx] at hm;rcases h2 with rfl | h2
   ·exact .inr (.one hm)
   ·exact .inr (.front hm h2)
 ·rintro (h1 | h1)
  ·exact .inl h1
  ·rcases h1.split with h2 | ⟨m,h2,h3⟩
   ·exact .inr ⟨i,Fx.2 h2,.inl rfl⟩
   ·exact .inr ⟨m,Fx.2 h2,.inr h3⟩
theorem Mp {r:List (List Int)}{n m:Nat}{M:Nat->Prop}(h:IS r n M)(hn:n<m):IS r m (fun i=>M i\/i=m):=by
 intro j i hj hm hi;rcases hj with hj | rfl
 ·exact .inl (h j i hj (by omega) hi)
 ·omega
noncomputable def LU (r:List (List Int))(c:List Int)(n:Nat):List Int:=Fe (Fc r n) c
@[simp] theorem length_doubtC (r:List (List Int)) (c:List Int) (n:Nat):(LU r c n).length=c.length:=by simp[LU]
open Classical in
noncomputable def Df (d:Bool)(r:List (List Int))(c:List Int)(n k:Nat):List Int:=c.mapIdx fun i x=>if i<k/\Fc r n i then (if d=true/\(n:Int) ∈ r.getD i [] then 2 else if x=0 then 1 else x) else x
@[simp] theorem length_spoilTo (d:Bool) (r:List (List Int)) (c:List Int) (n k:Nat):(Df d r c n k).length=c.length:=by simp[Df]
noncomputable def Cs (r:List (List Int))(c:List Int)(n:Nat):List Int:=Df true r c n c.length
@[simp] theorem length_spoilC (r:List (List Int)) (c:List Int) (n:Nat):(Cs r c n).length=c.length:=by simp[Cs]
open Classical in
theorem Du (d:Bool)(r:List (List Int))(c:List Int)(n k i:Nat):(Df d r c n k)[i]? = c[i]?.map (fun x=>if i<k/\Fc r n i then (if d=true/\(n:Int) ∈ r.getD i [] then 2 else if x=0 then 1 else x) else x):=by
 simp[Df,List.getElem?_mapIdx]
open Classical in
theorem Mo (d:Bool){r:List (List Int)}(hA:Eu r)(c:List Int)(n:Nat):Df d r c n (n+1)=c:=by
 refine List.ext_getElem? fun i=>?_;rw[Du];have:¬ (i<n+1/\Fc r n i):=fun h=>by have:=h.2.lt hA;omega
 simp[this]
open Classical in
theorem Qw (d:Bool){r:List (List Int)}{c:List Int}{n k:Nat}(h:¬ Fc r n k):Df d r c n (k+1)=Df d r c n k:=by
 refine List.ext_getElem? fun i=>?_;rw[Du,Du]
 have:(i<k+1/\Fc r n i)↔(i<k/\Fc r n i):=by
  constructor
  ·rintro ⟨h1,h2⟩;refine⟨?_,h2⟩;by_cases e:i=k
   ·subst e;exact absurd h2 h
   ·omega
  ·rintro ⟨h1,h2⟩;exact⟨by omega,h2⟩
 simp only[this]
open Classical in
theorem Nw (d:Bool)(r:List (List Int))(c:List Int)(n k:Nat):(Df d r c n k)[k]? = c[k]? := by
 rw[Du];cases c[k]? <;> simp
open Classical in
theorem KI {d:Bool}{r:List (List Int)}{c:List Int}{n k:Nat}{x:Int}(h:Fc r n k)(hx:c[k]? = some x):Df d r c n (k+1)=(Df d r c n k).set k (if d=true/\(n:Int) ∈ r.getD k [] then 2 else if x=0 then 1 else x):=by
 refine List.ext_getElem? fun i=>?_;rw[List.getElem?_set];by_cases e:k=i
 ·subst e;rw[if_pos rfl,if_pos (by simpa using (List.getElem?_eq_some_iff.1 hx).1),Du,hx];simp[h]
 ·rw[if_neg e,Du,Du]
  have:(i<k+1/\Fc r n i)↔(i<k/\Fc r n i):=by
   constructor
   ·rintro ⟨h1,h2⟩;exact⟨by omega,h2⟩
   ·rintro ⟨h1,h2⟩;exact⟨by omega,h2⟩
  simp only[this]
open Classical in
noncomputable def Fo (l:List Int)(c:List Int):List Int:=c.mapIdx fun i x=>if (i:Int) ∈ l then 2 else x
@[simp] theorem length_dirtyL (l c:List Int):(Fo l c).length=c.length:=by simp[Fo]
open Classical in
theorem Jb (l c:List Int)(i:Nat):(Fo l c)[i]? = c[i]?.map (fun x=>if (i:Int) ∈ l then 2 else x):=by simp[Fo,List.getElem?_mapIdx]
open Classical in
theorem QB (c:List Int):Fo [] c=c:=by
 refine List.ext_getElem? fun i=>?_;rw[Jb];simp
open Classical in
theorem OK (l c:List Int)(m:Nat):Fo (l++[(m:Int)]) c=(Fo l c).set m 2:=by
 refine List.ext_getElem? fun i=>?_;rw[List.getElem?_set,Jb,Jb];by_cases e:m=i
 ·subst e;rw[if_pos rfl];by_cases hl:m<c.length
  ·rw[if_pos (by simpa using hl),List.getElem?_eq_getElem hl];simp
  ·rw[if_neg (by simpa using hl),List.getElem?_eq_none (by omega)];rfl
 ·rw[if_neg e];have h1:¬ (i:Int)=(m:Int):=by omega
  simp[h1]
open Classical in
theorem QC (r:List (List Int))(c:List Int)(n:Nat):LU r (Fo (Bo r n) c) n=Cs r c n:=by
 refine List.ext_getElem? fun i=>?_;rw[LU,GB,Jb,Cs,Du];cases hc:c[i]? with
 | none=>rfl
 | some y =>
  have hi:=(List.getElem?_eq_some_iff.1 hc).1;simp only[Option.map_some,Option.some.injEq,Fx];by_cases hr:(n:Int) ∈ r.getD i []
  ·have hw:Fc r n i := .one hr;rw[List.getD_eq_getElem?_getD] at hr;simp[hr,hw,hi]
  ·by_cases hw:Fc r n i
   ·rw[List.getD_eq_getElem?_getD] at hr;simp[hr,hw,hi]
   ·rw[List.getD_eq_getElem?_getD] at hr;simp[hr,hw]
def Qt (r:List (List Int))(n k:Nat)(l:List Int):Prop:=∀ x,x ∈ l↔∃ j:Nat,x=j/\(j=n\/(j<k/\Fc r n j))
theorem Qu {r:List (List Int)}(hA:Eu r)(n:Nat):Qt r n (n+1) [(n:Int)]:=by
 intro x;simp only[List.mem_singleton];constructor
 ·rintro rfl;exact⟨n,rfl,.inl rfl⟩
 ·rintro ⟨j,rfl,h | ⟨h,hw⟩⟩
  ·rw[h]
  ·have:=hw.lt hA;omega
theorem Qv {r:List (List Int)}{n k:Nat}{l:List Int}(hA:Eu r)(h:Qt r n k l):KJ (r.getD k []) l=true↔Fc r n k:=by
 unfold KJ;rw[List.any_eq_true];constructor
 ·rintro ⟨x,hx,hb⟩;obtain⟨j,rfl,hj⟩:=(h x).1 (of_decide_eq_true hb);rcases hj with rfl | ⟨_,hw⟩
  ·exact .one hx
  ·exact .more hw hx
 ·intro hw;rcases hw.last with h1 | ⟨m,h1,h2⟩
  ·exact⟨_,h1,decide_eq_true ((h _).2 ⟨n,rfl,.inl rfl⟩)⟩
  ·exact⟨_,h2,decide_eq_true ((h _).2 ⟨m,rfl,.inr ⟨by have:=(hA _ _ h2).2;omega,h1⟩⟩)⟩
theorem UE {r:List (List Int)}{n k:Nat}{l:List Int}(h:Qt r n k l)(hw:¬ Fc r n k):Qt r n (k+1) l:=by
 intro x;rw[h x];refine exists_congr fun j=>and_congr_right fun _=>or_congr_right ?_;constructor
 ·rintro ⟨h1,h2⟩;exact⟨by omega,h2⟩
 ·rintro ⟨h1,h2⟩;refine⟨?_,h2⟩;by_cases e:j=k
  ·subst e;exact absurd h2 hw
  ·omega
theorem OE {r:List (List Int)}{n k:Nat}{l:List Int}(h:Qt r n k l)(hw:Fc r n k):Qt r n (k+1) (l++[(k:Int)]):=by
 intro x;rw[List.mem_append,h x,List.mem_singleton];constructor
 ·rintro (⟨j,rfl,h1⟩ | rfl)
  ·exact⟨j,rfl,h1.imp id (fun h=>⟨by omega,h.2⟩)⟩
  ·exact⟨k,rfl,.inr ⟨by omega,hw⟩⟩
 ·rintro ⟨j,rfl,h1 | ⟨h1,h2⟩⟩
  ·exact .inl ⟨j,rfl,.inl h1⟩
  ·by_cases e:j=k
   ·subst e;exact .inr rfl
   ·exact .inl ⟨j,rfl,.inr ⟨by omega,h2⟩⟩
noncomputable def BX (st:Bv)(n:Nat)(x:Int):Bv:=if st.vals.getD n 0=x then st else ⟨st.vals.set n x,st.reads,Cs st.reads st.cols n⟩
theorem CW {g:Ae}{st:Bv}(h:AO g st=true):Eu st.reads:=by
 have hs:=AP h;intro k x hx;have hk:k<g.length:=by have:=Ds hx;omega
 unfold AO at h;simp only[Bool.and_eq_true,List.all_eq_true,List.mem_range] at h;have hc:=h.2 k hk;have hn:g[k]? = some g[k]:=List.getElem?_eq_getElem hk;have hd:g.getD k default=g[k]:=by simp[hn]
 have right:CD g st.vals st.reads k=true->g[k].kind≠0->0<=x/\x<(k:Int):=by
  intro hr h0;unfold CD at hr;rw[hd] at hr;dsimp only at hr;rw[if_neg h0] at hr;simp only[Bool.and_eq_true,decide_eq_true_eq] at hr;have:Cb g st.vals k=st.reads.getD k []:=by unfold Cb;rw[hd,if_neg h0];exact hr.2
  rw[<- this] at hx;exact Gd hs.1 hk hx
 unfold C5 at hc;dsimp only at hc;rw[hd] at hc;by_cases h0:g[k].kind=0
 ·rw[if_pos h0] at hc;simp only[Bool.and_eq_true,List.isEmpty_iff] at hc;rw[hc.2] at hx;cases hx
 ·rw[if_neg h0] at hc;split at hc
  ·simp only[Bool.and_eq_true,List.all_eq_true,decide_eq_true_eq] at hc;have hm:=hc.1 x hx;refine⟨(D_ hm).1,?_⟩;have hg:=C7 hs.1 k hk;unfold Ce at hg;rw[hd] at hg;dsimp only at hg;rw[if_neg h0] at hg;split at hg
   ·simp only[Bool.and_eq_true] at hg;have hgr:=hg.2;unfold Dh at hgr;rw[hd,List.all_eq_true] at hgr;have:=hgr x hm;unfold Cd at this;simp only[Bool.and_eq_true,decide_eq_true_eq] at this;exact this.1
   ·cases hg
  ·split at hc
   ·exact right hc h0
   ·split at hc
    ·simp only[Bool.and_eq_true] at hc;exact right hc.1 h0
    ·cases hc
theorem LM {g:Ae}{st:Bv}(h:AO g st=true):∀ x ∈ st.cols,0<=x/\x<=2:=by
 have hs:=AP h;intro x hx;obtain⟨i,hi⟩:=List.getElem?_of_mem hx;have hil:=(List.getElem?_eq_some_iff.1 hi).1;unfold AO at h;simp only[Bool.and_eq_true,List.all_eq_true,List.mem_range] at h;have:=IR (h.2 i (by omega));rw[List.getD_eq_getElem?_getD,hi] at this;simp only[Option.getD_some,BZ,Bool.and_eq_true,decide_eq_true_eq] at this;exact this
theorem Bd {g:Ae}{st:BT}(h:Di g st=true):AG g=true/\st.vals.length=g.length/\st.reads.length=g.length/\CX st.vals=true/\∀ i,i<g.length->CD g st.vals st.reads i=true:=by
 unfold Di at h;simp only[Bool.and_eq_true,decide_eq_true_eq,List.all_eq_true,List.mem_range] at h;exact⟨h.1.1.1.1,h.1.1.1.2,h.1.1.2,h.1.2,h.2⟩
theorem Su {g:Ae}{st:BT}(h:AG g=true/\st.vals.length=g.length/\st.reads.length=g.length/\CX st.vals=true/\∀ i,i<g.length->CD g st.vals st.reads i=true):Di g st=true:=by
 unfold Di;simp only[Bool.and_eq_true,decide_eq_true_eq,List.all_eq_true,List.mem_range];exact⟨⟨⟨⟨h.1,h.2.1⟩,h.2.2.1⟩,h.2.2.2.1⟩,h.2.2.2.2⟩
theorem Bi {α:Type}[Inhabited α]{l:List α}{i:Nat}{x:α}(h:l[i]? = some x)(d:α):l.getD i d=x:=by simp[h]
theorem GT {g:Ae}{v:List Int}{r:List (List Int)}{i:Nat}{n:BQ}(hn:g[i]? = some n)(h0:n.kind≠0)(h:CD g v r i=true):AK n.f v=(v.getD i 0,r.getD i []):=by
 unfold CD at h;rw[Bi hn] at h;dsimp only at h;rw[if_neg h0] at h;simp only[Bool.and_eq_true,decide_eq_true_eq] at h;exact Prod.ext h.1 h.2
theorem Ij {g:Ae}{v:List Int}{r:List (List Int)}{i:Nat}{n:BQ}(hn:g[i]? = some n)(h0:n.kind=0)(h:CD g v r i=true):r.getD i []=[]:=by
 unfold CD at h;rw[Bi hn] at h;dsimp only at h;rw[if_pos h0] at h;simpa using h
theorem Lv {g:Ae}{v:List Int}{r:List (List Int)}{i:Nat}{n:BQ}(hn:g[i]? = some n)(h0:n.kind=0->r.getD i []=[])(h1:n.kind≠0->AK n.f v=(v.getD i 0,r.getD i [])):CD g v r i=true:=by
 unfold CD;rw[Bi hn];dsimp only;by_cases hk:n.kind=0
 ·rw[if_pos hk,h0 hk];rfl
 ·rw[if_neg hk,h1 hk];simp
theorem Lx {g:Ae}(cells:List Int){k:Nat}{n:BQ}(hn:g[k]? = some n):(Bz g cells).getD k 0=if n.kind=0 then cells.getD k 0 else (AK n.f (AZ g cells k)).1:=by
 have hk:=(List.getElem?_eq_some_iff.1 hn).1;have h1:=GR g cells (k+1) g.length k hk (by omega);unfold Bz;rw[h1];show (AZ g cells k++[Iy g cells (AZ g cells k) k]).getD k 0=_;rw[List.getD_eq_getElem?_getD,List.getElem?_append_right (by simp)];simp only[length_meanTo,Nat.sub_self,List.getElem?_cons_zero,Option.getD_some];unfold Iy;rw[Bi hn]
theorem I9 {l:List Int}(h:Bk l):CX l=true:=by
 unfold CX;rw[List.all_eq_true];intro x hx;have:=h x hx;simp[BZ]
 omega
theorem VD {a b:List Int}(hl:a.length=b.length)(h:∀ i,i<a.length->a.getD i 0=b.getD i 0):a=b:=by
 refine List.ext_getElem hl fun i h1 h2=>?_;have:=h i h1;rw[List.getD_eq_getElem?_getD,List.getD_eq_getElem?_getD,List.getElem?_eq_getElem h1,List.getElem?_eq_getElem h2] at this;exact this
theorem ET {g:Ae}{l:List Int}(hG:AG g=true)(hC:AT g l=true):Di g (BJ g l)=true:=by
 refine Su ⟨hG,by simp[BJ],by simp[BJ],I9 (FV hG hC g.length (Nat.le_refl _)),fun i hi=>?_⟩;obtain⟨n,hn⟩:∃ n,g[i]? = some n:=⟨_,List.getElem?_eq_getElem hi⟩;have hd:(Cm g (Bz g l) g.length).getD i []=Cb g (Bz g l) i:=by unfold Cm;simp[hi]
 refine Lv hn (fun h0=>?_) (fun h0=>?_)
 ·show (Cm g (Bz g l) g.length).getD i []=[];rw[hd];unfold Cb;rw[Bi hn,if_pos h0]
 ·show AK n.f (Bz g l)=((Bz g l).getD i 0,(Cm g (Bz g l) g.length).getD i []);rw[hd];unfold Cb;rw[Bi hn,if_neg h0,Lx l hn,if_neg h0,Lu hG hn h0]
theorem KF {g:Ae}{l:List Int}(hC:AT g l=true){i:Nat}{n:BQ}(hn:g[i]? = some n)(h0:n.kind≠0):l.getD i 0=0:=by
 have hl:=CH hC;have hi:=(List.getElem?_eq_some_iff.1 hn).1;unfold AT at hC;simp only[Bool.and_eq_true,List.all_eq_true,List.mem_range] at hC;have:=hC.2 i (by omega);unfold FN CL at this;rw[Int.toNat_natCast,Bi hn] at this;simp only[Bool.and_eq_true,Bool.or_eq_true,decide_eq_true_eq] at this;rcases this.2 with h | h
 ·exact absurd h h0
 ·exact h
theorem MT {g:Ae}{l:List Int}(hl:l.length=g.length)(h:∀ i n,g[i]? = some n->(0<=l.getD i 0/\l.getD i 0<=999)/\(n.kind≠0->l.getD i 0=0)):AT g l=true:=by
 unfold AT;simp only[Bool.and_eq_true,decide_eq_true_eq,List.all_eq_true,List.mem_range];refine⟨hl,fun i hi=>?_⟩;obtain⟨n,hn⟩:∃ n,g[i]? = some n:=⟨_,List.getElem?_eq_getElem (by omega)⟩;have:=h i n hn;unfold FN CL BZ;rw[Int.toNat_natCast,Bi hn];simp only[Bool.and_eq_true,Bool.or_eq_true,decide_eq_true_eq];refine⟨this.1,?_⟩;by_cases h0:n.kind=0
 ·exact .inl h0
 ·exact .inr (this.2 h0)
theorem Sv {l:List Int}(h:CX l=true){i:Nat}(hi:i<l.length):0<=l.getD i 0/\l.getD i 0<=999:=by
 rw[List.getD_eq_getElem?_getD,List.getElem?_eq_getElem hi];exact B7 h _ (List.getElem_mem hi)
theorem JT {g:Ae}{st:BT}(h:Di g st=true):AT g (B8 g st.vals)=true:=by
 obtain⟨hG,hv,hr,hn,hR⟩:=Bd h;refine MT (by simp[hv]) fun i n hi=>?_;have hil:=(List.getElem?_eq_some_iff.1 hi).1;rw[Ek g _ i (by omega),Bi hi];have:=Sv hn (i:=i) (by omega);by_cases h0:n.kind=0
 ·rw[if_neg (by simpa using h0)];exact⟨this,fun h=>absurd h0 h⟩
 ·rw[if_pos h0];exact⟨by omega,fun _=>rfl⟩
theorem Mq {g:Ae}{st:BT}(h:Di g st=true)(k:Nat)(hk:k<=g.length):AZ g (B8 g st.vals) k=st.vals.take k:=by
 obtain⟨hG,hv,hr,hn,hR⟩:=Bd h;induction k with
 | zero=>simp[AZ]
 | succ k ih =>
  have ih:=ih (by omega);obtain⟨n,hi⟩:∃ n,g[k]? = some n:=⟨_,List.getElem?_eq_getElem (by omega)⟩;show AZ g (B8 g st.vals) k++[Iy g (B8 g st.vals) (AZ g (B8 g st.vals) k) k]=_;have hkv:k<st.vals.length:=by omega
  rw[ih,List.take_succ_eq_append_getElem hkv];congr 2
  unfold Iy;rw[Bi hi];have hx:st.vals.getD k 0=st.vals[k]:=by rw[List.getD_eq_getElem?_getD,List.getElem?_eq_getElem hkv];rfl
  by_cases h0:n.kind=0
  ·rw[if_pos h0,Ek g _ k hkv,Bi hi,if_neg (by simpa using h0),hx]
  ·rw[if_neg h0,Gs (Bj hG k hi h0) (b:=st.vals) (fun j hj=>by
    rw[List.getD_eq_getElem?_getD,List.getD_eq_getElem?_getD,List.getElem?_take_of_lt hj]),GT hi h0 (hR k (by omega))]
   exact hx
theorem Oy {g:Ae}{st:BT}(h:Di g st=true):Bz g (B8 g st.vals)=st.vals:=by
 have:=Mq h g.length (Nat.le_refl _);unfold Bz;rw[this,<- (Bd h).2.1,List.take_length]
structure Mm where
 vals:List Int
 reads:List (List Int)
 ch:List Bool
 ran:List Int
def Ic (s:List Int × List Bool)(n x:Int):List Int × List Bool:=(s.1.set n.toNat x,s.2.set n.toNat (s.1.getD n.toNat 0 != x))
def Cc (s:List Int × List Bool)(nodes values:List Int)(k:Nat):List Int × List Bool:=((nodes.zip values).take k).foldl (fun s p=>Ic s p.1 p.2) s
theorem IP (s:List Int × List Bool)(nodes values:List Int)(k:Nat){n x:Int}(hn:nodes[k]? = some n)(hx:values[k]? = some x):Cc s nodes values (k+1)=Ic (Cc s nodes values k) n x:=by
 unfold Cc;have hz:(nodes.zip values)[k]? = some (n,x):=by rw[List.getElem?_zip_eq_some];exact⟨hn,hx⟩
 obtain⟨hk,he⟩:=List.getElem?_eq_some_iff.1 hz;rw[List.take_succ_eq_append_getElem hk,List.foldl_append,he];rfl
@[simp] theorem wcells_zero (s:List Int × List Bool) (nodes values:List Int):Cc s nodes values 0=s:=rfl
@[simp] theorem wstep_len1 (s:List Int × List Bool) (n x:Int):(Ic s n x).1.length=s.1.length:=by simp[Ic]
@[simp] theorem wstep_len2 (s:List Int × List Bool) (n x:Int):(Ic s n x).2.length=s.2.length:=by simp[Ic]
theorem MX (l:List (Int × Int))(s:List Int × List Bool):(l.foldl (fun s p=>Ic s p.1 p.2) s).1.length=s.1.length/\(l.foldl (fun s p=>Ic s p.1 p.2) s).2.length=s.2.length:=by
 induction l generalizing s with
 | nil=>exact⟨rfl,rfl⟩
 | cons a l ih=>rw[List.foldl_cons];have:=ih (Ic s a.1 a.2);simpa using this
@[simp] theorem wcells_len1 (s:List Int × List Bool) (nodes values:List Int) (k:Nat):(Cc s nodes values k).1.length=s.1.length:=(MX _ _).1
@[simp] theorem wcells_len2 (s:List Int × List Bool) (nodes values:List Int) (k:Nat):(Cc s nodes values k).2.length=s.2.length:=(MX _ _).2
def Tj (s:Mm)(l:List Int):Bool:=l.any fun k=>s.ch.getD k.toNat false
def IK (g:Ae)(s:Mm)(i:Nat):Mm :=
 if ((g.getD i default).kind != 0 && Tj s (s.reads.getD i []))=true then
  ⟨s.vals.set i (AK (g.getD i default).f s.vals).1,s.reads.set i (AK (g.getD i default).f s.vals).2,s.ch.set i ((AK (g.getD i default).f s.vals).1 != s.vals.getD i 0),s.ran++[(i:Int)]⟩
 else s
def BP (g:Ae)(s:Mm)(k:Nat):Mm:=(List.range k).foldl (IK g) s
@[simp] theorem rsteps_zero (g:Ae) (s:Mm):BP g s 0=s:=rfl
theorem FG (g:Ae)(s:Mm)(k:Nat):BP g s (k+1)=IK g (BP g s k) k:=by unfold BP;rw[List.range_succ,List.foldl_append];rfl
def CN (g:Ae)(st:BT)(nodes values:List Int):Mm :=
 BP g ⟨(Cc (st.vals,List.replicate g.length false) nodes values nodes.length).1,st.reads,(Cc (st.vals,List.replicate g.length false) nodes values nodes.length).2,[]⟩ g.length
def Bh (g:Ae)(st:BT)(nodes values:List Int):BT × List Int:=(⟨(CN g st nodes values).vals,(CN g st nodes values).reads⟩,(CN g st nodes values).ran)
def Bt (g:Ae)(n:Int):Bool:=BZ n 0 ((g.length:Int) - 1) && decide (CL g n=0)
def BV (g:Ae)(nodes:List Int):Bool:=(List.range nodes.length).all fun k=>Bt g (nodes.getD k 0) && decide (nodes.getD k 0 ∉ nodes.take k)
def Gy (g:Ae)(st:BT)(nodes values:List Int):Bool:=Di g st && BV g nodes && decide (nodes.length=values.length) && CX values
structure OO (g:Ae) (s:Mm):Prop where
 v:s.vals.length=g.length
 r:s.reads.length=g.length
 c:s.ch.length=g.length
 n:Bk s.vals
theorem OO.step {g:Ae}{s:Mm}(hG:AG g=true)(h:OO g s)(i:Nat)(hi:i<g.length):OO g (IK g s i):=by
 unfold IK;split
 ·rename_i hc
  simp only[Bool.and_eq_true,bne_iff_ne] at hc;refine⟨by simp[h.v],by simp[h.r],by simp[h.c],?_⟩;intro x hx;rcases List.mem_or_eq_of_mem_set hx with hx | rfl
  ·exact h.n x hx
  ·have hn:g[i]? = some g[i]:=List.getElem?_eq_getElem hi;have hd:g.getD i default=g[i]:=by simp[hn]
   rw[hd] at hc ⊢;exact Jv (Bj hG i hn hc.1) h.n
 ·exact h
theorem OO.steps {g:Ae}{s:Mm}(hG:AG g=true)(h:OO g s)(k:Nat)(hk:k<=g.length):OO g (BP g s k):=by
 induction k with
 | zero=>exact h
 | succ k ih=>rw[FG];exact(ih (by omega)).step hG k (by omega)
theorem Sw (g:Ae)(s:Mm)(i:Nat):(IK g s i).ran.length<=s.ran.length+1:=by
 unfold IK;split <;> simp
theorem LW (g:Ae)(s:Mm)(k:Nat):(BP g s k).ran.length<=s.ran.length+k:=by
 induction k with
 | zero=>simp
 | succ k ih=>rw[FG];have:=Sw g (BP g s k) k;omega
theorem JY (v:List Int)(c:List Bool)(nodes values:List Int)(k:Nat)(hv:Bk v)(hx:Bk values):Bk (Cc (v,c) nodes values k).1:=by
 unfold Cc
 have key:∀ (l:List (Int × Int)) (s:List Int × List Bool),Bk s.1->(∀ p ∈ l,0<=p.2/\p.2<=999)->Bk (l.foldl (fun s p=>Ic s p.1 p.2) s).1:=by
  intro l;induction l with
  | nil=>intro s hs _;exact hs
  | cons a l ih =>
   intro s hs hp;rw[List.foldl_cons];refine ih _ ?_ (fun p hp'=>hp p (by simp[hp']));intro x hx;rcases List.mem_or_eq_of_mem_set hx with hx | rfl
   ·exact hs x hx
   ·exact hp a (by simp)
 refine key _ _ hv (fun p hp=>?_);have h1:=List.mem_of_mem_take hp;exact hx p.2 (List.of_mem_zip h1).2
theorem Fh {g:Ae}{n:Int}(h:Bt g n=true):∃ (k:Nat) (x:BQ),n=k/\g[k]? = some x/\x.kind=0:=by
 unfold Bt BZ CL at h;simp only[Bool.and_eq_true,decide_eq_true_eq] at h;obtain⟨k,rfl⟩:=Int.eq_ofNat_of_zero_le h.1.1;have hk:k<g.length:=by omega
 have hn:g[k]? = some g[k]:=List.getElem?_eq_getElem hk;refine⟨k,_,rfl,hn,?_⟩;have:=h.2;rw[Int.toNat_natCast] at this;simpa[hn] using this
theorem CA {g:Ae}{nodes:List Int}(h:BV g nodes=true){k:Nat}{n:Int}(hn:nodes[k]? = some n):Bt g n=true/\n ∉ nodes.take k:=by
 unfold BV at h;rw[List.all_eq_true] at h;have:=h k (List.mem_range.2 (List.getElem?_eq_some_iff.1 hn).1);simp only[Bool.and_eq_true,decide_eq_true_eq,List.getD_eq_getElem?_getD,hn,Option.getD_some] at this;exact this
theorem JR {g:Ae}{nodes:List Int}(h:BV g nodes=true):nodes.Nodup:=by
 rw[List.nodup_iff_pairwise_ne,List.pairwise_iff_getElem];intro i j hi hj hij e;have:=(CA h (List.getElem?_eq_getElem hj)).2;rw[<- e] at this;refine this ?_;rw[List.mem_take_iff_getElem];exact⟨i,by omega,rfl⟩
def VI (a b:List Int):List Int:=a.filter fun x=>decide (x ∈ b)
def Xk (l:List Int):Int:=l.foldl min (l.headD 0)
def N0 (g:Ae)(x ch:List Int)(n:Int):Int:=Xk (VI (Cb g x n.toNat) ch)
theorem Mr (p:Nat->Bool)(k:Nat):(Ch p k).Pairwise (·<·):=by
 induction k with
 | zero=>simp[Ch]
 | succ k ih =>
  rw[Dr];split
  ·rw[List.pairwise_append];refine⟨ih,by simp,fun x hx y hy=>?_⟩;obtain⟨i,rfl,hi,_⟩:=Fi.1 hx;simp at hy
   omega
  ·exact ih
end Sg
