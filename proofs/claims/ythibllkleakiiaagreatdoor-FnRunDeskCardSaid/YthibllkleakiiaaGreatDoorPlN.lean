/- Parts of one proof, joined. Texts in plain Lean: numerals, and texts cut at a byte. No program in sight. Conditions: none. -/
import Derived.Test.YthibllkleakiiaaGreatDoorCore
import Derived.Lib.AtoiTie
import Derived.Lib.AtoiBound
import Derived.Lib.ItoaNum
import Derived.Lib.SplitLaws
import Derived.Lib.Join
namespace Sg
def Cm (p:Nat->Bool)(k:Nat):List Int:=((List.range k).filter p).map Int.ofNat
theorem DC (p:Nat->Bool)(k:Nat):Cm p (k+1)=if p k=true then Cm p k++[(k:Int)] else Cm p k:=by
 unfold Cm;rw[List.range_succ,List.filter_append,List.map_append];by_cases h:p k=true
 ·rw[if_pos h];simp[h]
 ·rw[if_neg h];simp[h]
theorem FI (p:Nat->Bool)(k:Nat):(Cm p k).length<=k:=by
 unfold Cm;have:=List.length_filter_le p (List.range k);simpa using this
theorem Fy {p:Nat->Bool}{k:Nat}{n:Int}:n ∈ Cm p k↔∃ i:Nat,n=i/\i<k/\p i=true:=by
 unfold Cm;rw[List.mem_map];constructor
 ·rintro ⟨i,hi,rfl⟩;rw[List.mem_filter,List.mem_range] at hi;exact⟨i,rfl,hi.1,hi.2⟩
 ·rintro ⟨i,rfl,h1,h2⟩;exact⟨i,List.mem_filter.2 ⟨List.mem_range.2 h1,h2⟩,rfl⟩
def Lk (a b:List Int):Bool:=a.any fun x=>decide (x ∈ b)
theorem My (l out:List Int)(x:Int):x ∈ l.foldl C5 out↔x ∈ out\/x ∈ l:=by
 induction l generalizing out with
 | nil=>simp
 | cons y l ih =>
  rw[List.foldl_cons,ih,List.mem_cons];unfold C5;split
  ·rename_i h
   constructor
   ·rintro (h1 | h1)
    ·exact .inl h1
    ·exact .inr (.inr h1)
   ·rintro (h1 | rfl | h1)
    ·exact .inl h1
    ·exact .inl h
    ·exact .inr h1
  ·rw[List.mem_append,List.mem_singleton,or_assoc]
theorem FN (l:List Int)(x:Int):x ∈ AU l↔x ∈ l:=by
 unfold AU;rw[My];simp
theorem Md (f:List At)(v:List Int)(m:Nat)(i:Int)(x:Int)(h:x ∈ (Cq f v m i).2):∃ p ∈ f,p.kind=1/\p.n=x:=by
 induction m generalizing i with
 | zero=>simp[Cq] at h
 | succ m ih =>
  simp only[Cq] at h;by_cases h0:(f.getD i.toNat default).kind=0
  ·rw[if_pos h0] at h;cases h
  ·rw[if_neg h0] at h;by_cases h1:(f.getD i.toNat default).kind=1
   ·rw[if_pos h1] at h;simp only[List.mem_singleton] at h;exact⟨_,Ma h1,h1,h.symm⟩
   ·rw[if_neg h1] at h;split at h
    ·rcases List.mem_append.1 h with h | h
     ·exact ih _ h
     ·exact ih _ h
    ·rcases List.mem_append.1 h with h | h
     ·exact ih _ h
     ·exact ih _ h
theorem NQ (f:List At)(a b:List Int)(m:Nat)(i:Int)(h:∀ x ∈ (Cq f a m i).2,rd a x=rd b x):Cq f a m i=Cq f b m i:=by
 induction m generalizing i with
 | zero=>rfl
 | succ m ih =>
  simp only[Cq] at h ⊢;by_cases h0:(f.getD i.toNat default).kind=0
  ·rw[if_pos h0,if_pos h0]
  ·rw[if_neg h0] at h;rw[if_neg h0,if_neg h0];by_cases h1:(f.getD i.toNat default).kind=1
   ·rw[if_pos h1] at h;rw[if_pos h1,if_pos h1,h _ (List.mem_singleton.2 rfl)]
   ·rw[if_neg h1] at h;rw[if_neg h1,if_neg h1];by_cases h8:(f.getD i.toNat default).kind=8
    ·rw[if_pos h8] at h;rw[if_pos h8,if_pos h8];have e1:=ih (f.getD i.toNat default).a (fun x hx=>h x (List.mem_append.2 (.inl hx)));rw[<- e1];have e2:=ih _ (fun x hx=>h x (List.mem_append.2 (.inr hx)));rw[<- e2]
    ·rw[if_neg h8] at h;rw[if_neg h8,if_neg h8];have e1:=ih (f.getD i.toNat default).a (fun x hx=>h x (List.mem_append.2 (.inl hx)));have e2:=ih (f.getD i.toNat default).b (fun x hx=>h x (List.mem_append.2 (.inr hx)));rw[<- e1,<- e2]
theorem Iv {f:List At}{a b:List Int}(h:∀ x ∈ (AJ f a).2,rd a x=rd b x):AJ f a=AJ f b:=by
 unfold AJ at h ⊢;have:=NQ f a b _ _ (fun x hx=>h x ((FN _ _).2 hx));rw[this]
theorem GB {g:Ae}(hg:AG g=true){v:List Int}{i:Nat}{x:Int}(hi:i<g.length)(h:x ∈ Cf g v i):0<=x/\x<i:=by
 unfold Cf at h;have hn:g[i]? = some g[i]:=List.getElem?_eq_getElem hi;have hd:g.getD i default=g[i]:=by simp[hn]
 rw[hd] at h;by_cases h0:g[i].kind=0
 ·rw[if_pos h0] at h;cases h
 ·rw[if_neg h0] at h;unfold AJ at h;obtain⟨p,hp,h1,rfl⟩:=Md _ _ _ _ _ ((FN _ _).1 h);exact(Bo hg i hn h0).read0 p hp h1
def Jk (g:Ae)(x y:List Int)(i:Nat):Bool:=(CU g (i:Int) != 0) && ((x.getD i 0 != y.getD i 0) || (Cf g x i).any fun n=>rd x n != rd y n)
theorem V4 {g:Ae}(cells:List Int){i:Nat}{n:BV}(hn:g[i]? = some n):(BF g cells).getD i 0=I6 g cells (AY g cells i) i:=by
 have hi:i<g.length:=(List.getElem?_eq_some_iff.1 hn).1;unfold BF;rw[Ib g cells (i+1) _ i (by omega) (by omega)];simp[AY,List.getD_eq_getElem?_getD]
theorem NZ {g:Ae}{cells:List Int}(hg:AG g=true){i:Nat}{n:BV}(hn:g[i]? = some n)(h0:n.kind≠0):(BF g cells).getD i 0=(AJ n.f (BF g cells)).1:=by
 rw[V4 cells hn,Mb hg hn h0];unfold I6;have hd:g.getD i default=n:=by simp[hn]
 rw[hd,if_neg h0]
def OH (g:Ae)(a b:List Int):List Int:=if (AG g && AT g a && AT g b)=true then Cm (Jk g (BF g a) (BF g b)) g.length else []
structure BC where
 vals:List Int
 reads:List (List Int)
 cols:List Int
deriving DecidableEq,Inhabited
def Fi (a b:List Int):List Int:=a.filter fun x=>decide (x ∉ b)
def FZ (r:List Int):Bool:=(List.range r.length).all fun k=>decide (r.getD k 0 ∉ r.take k)
def Df (g:Ae)(st:BC)(i:Nat):Bool :=
 let n:=g.getD i default
 let c:=st.cols.getD i 0
 let r:=st.reads.getD i []
 if n.kind=0 then decide (c=0) && r.isEmpty
 else if c=2 then r.all (fun x=>decide (x ∈ AX n.f)) && FZ r
 else if c=1 then CL g st.vals st.reads i
 else if c=0 then CL g st.vals st.reads i && r.all fun x=>rd st.cols x == 0
 else false
def JM (g:Ae)(st:BC)(i:Nat):Bool :=
 let n:=g.getD i default
 let c:=st.cols.getD i 0
 let r:=st.reads.getD i []
 if n.kind=0 then decide (c=0) && decide (r.length=0)
 else if c=2 then decide (r.length=(AU r).length) && decide ((Fi r (AX n.f)).length=0)
 else (if c=0 then (AJ n.f st.vals).2.all fun x=>rd st.cols x == 0 else true) && decide ((AJ n.f st.vals).1=st.vals.getD i 0) && decide ((AJ n.f st.vals).2=r)
def Dq (g:Ae)(st:BC):Bool:=AG g && decide (st.vals.length=g.length) && decide (st.reads.length=g.length) && decide (st.cols.length=g.length) && C8 st.vals
def AM (g:Ae)(st:BC):Bool:=Dq g st && (List.range g.length).all (Df g st)
def D8 (g:Ae)(st:BC):Bool:=Dq g st && (st.cols.all fun x=>Cb x 0 2) && (List.range g.length).all (JM g st)
theorem TU (l out:List Int):(l.foldl C5 out).length<=out.length+l.length:=by
 induction l generalizing out with
 | nil=>simp
 | cons x l ih =>
  rw[List.foldl_cons];have:=ih (C5 out x)
  have h1:(C5 out x).length<=out.length+1:=by
   unfold C5;split
   ·omega
   ·simp
  simp only[List.length_cons];omega
theorem TV (l out:List Int):(l.foldl C5 out).length=out.length+l.length↔∀ k,k<l.length->l.getD k 0 ∉ out++l.take k:=by
 induction l generalizing out with
 | nil=>simp
 | cons x l ih =>
  rw[List.foldl_cons,List.length_cons];by_cases hx:x ∈ out
  ·have e:C5 out x=out:=by unfold C5;rw[if_pos hx]
   rw[e];have:=TU l out;constructor
   ·intro h;omega
   ·intro h;have:=h 0 (by omega);simp at this
    exact absurd hx this
  ·have e:C5 out x=out++[x]:=by unfold C5;rw[if_neg hx]
   rw[e];have:=ih (out++[x]);rw[List.length_append,List.length_singleton] at this;rw[show out.length+(l.length+1)=out.length+1+l.length from by omega,this];constructor
   ·intro h k hk;cases k with
    | zero=>simpa using hx
    | succ k =>
     have:=h k (by omega);simpa using this
   ·intro h k hk;have:=h (k+1) (by omega);simpa using this
theorem OJ (r:List Int):decide (r.length=(AU r).length)=FZ r:=by
 rw[Bool.eq_iff_iff,decide_eq_true_eq];unfold FZ AU;rw[List.all_eq_true];have:=TV r [];simp only[List.length_nil,Nat.zero_add,List.nil_append] at this;rw[eq_comm,this];constructor
 ·intro h k hk;rw[decide_eq_true_eq];exact h k (List.mem_range.1 hk)
 ·intro h k hk;have:=h k (List.mem_range.2 hk);rwa [decide_eq_true_eq] at this
theorem OK (a b:List Int):decide ((Fi a b).length=0)=a.all fun x=>decide (x ∈ b):=by
 rw[Bool.eq_iff_iff,decide_eq_true_eq,List.length_eq_zero_iff];unfold Fi;rw[List.filter_eq_nil_iff,List.all_eq_true];constructor
 ·intro h x hx;have:=h x hx;simpa using this
 ·intro h x hx;have:=h x hx;simpa using this
theorem P5 (g:Ae)(st:BC)(i:Nat)(h:Cb (st.cols.getD i 0) 0 2=true):JM g st i=Df g st i:=by
 unfold JM Df;dsimp only;by_cases h0:(g.getD i default).kind=0
 ·rw[if_pos h0,if_pos h0];cases st.reads.getD i [] <;> simp
 ·rw[if_neg h0,if_neg h0];by_cases h2:st.cols.getD i 0=2
  ·rw[if_pos h2,if_pos h2,OJ,OK,Bool.and_comm]
  ·rw[if_neg h2,if_neg h2]
   have hr:CL g st.vals st.reads i=(decide ((AJ (g.getD i default).f st.vals).1=st.vals.getD i 0) && decide ((AJ (g.getD i default).f st.vals).2=st.reads.getD i [])):=by
    unfold CL;dsimp only;rw[if_neg h0]
   by_cases h1:st.cols.getD i 0=1
   ·rw[if_pos h1,if_neg (by omega),hr,Bool.true_and]
   ·have h00:st.cols.getD i 0=0:=by
     simp only[Cb,Bool.and_eq_true,decide_eq_true_eq] at h;omega
    rw[if_neg h1,if_pos h00,if_pos h00,hr];by_cases he:(AJ (g.getD i default).f st.vals).2=st.reads.getD i []
    ·rw[he,Bool.and_assoc,Bool.and_comm]
    ·have:decide ((AJ (g.getD i default).f st.vals).2=st.reads.getD i [])=false:=by simpa using he
     rw[this];simp
theorem Jl {g:Ae}{st:BC}{i:Nat}(h:Df g st i=true):Cb (st.cols.getD i 0) 0 2=true:=by
 unfold Df at h;dsimp only at h;simp only[Cb,Bool.and_eq_true,decide_eq_true_eq];split at h
 ·simp only[Bool.and_eq_true,decide_eq_true_eq] at h;omega
 ·split at h
  ·omega
  ·split at h
   ·omega
   ·split at h
    ·omega
    ·cases h
theorem Li (g:Ae)(st:BC):D8 g st=AM g st:=by
 unfold D8 AM;rw[Bool.eq_iff_iff];simp only[Bool.and_eq_true,List.all_eq_true,List.mem_range];constructor
 ·rintro ⟨⟨h1,h2⟩,h3⟩;refine⟨h1,fun i hi=>?_⟩
  have hl:st.cols.length=g.length:=by
   unfold Dq at h1;simp only[Bool.and_eq_true,decide_eq_true_eq] at h1;exact h1.1.2
  rw[<- P5 g st i]
  ·exact h3 i hi
  ·have hi':i<st.cols.length:=by omega
   rw[List.getD_eq_getElem?_getD,List.getElem?_eq_getElem hi'];exact h2 _ (List.getElem_mem hi')
 ·rintro ⟨h1,h3⟩
  have hl:st.cols.length=g.length:=by
   unfold Dq at h1;simp only[Bool.and_eq_true,decide_eq_true_eq] at h1;exact h1.1.2
  refine⟨⟨h1,fun x hx=>?_⟩,fun i hi=>?_⟩
  ·obtain⟨i,hi⟩:=List.getElem?_of_mem hx;have hi':=(List.getElem?_eq_some_iff.1 hi).1;have:=Jl (h3 i (by omega));rw[List.getD_eq_getElem?_getD,hi] at this;exact this
  ·rw[P5 g st i (Jl (h3 i hi))];exact h3 i hi
def LQ (g:Ae)(v:List Int)(k:Nat):List Int:=(List.range v.length).map fun i=>if i<k/\(g.getD i default).kind≠0 then 0 else v.getD i 0
def Cd (g:Ae)(v:List Int):List Int:=LQ g v v.length
@[simp] theorem length_cellsTo (g:Ae) (v:List Int) (k:Nat):(LQ g v k).length=v.length:=by simp[LQ]
@[simp] theorem length_cellsOf (g:Ae) (v:List Int):(Cd g v).length=v.length:=by simp[Cd]
theorem Et (g:Ae)(v:List Int)(i:Nat)(h:i<v.length):(Cd g v).getD i 0=if (g.getD i default).kind≠0 then 0 else v.getD i 0:=by
 have h':i<(Cd g v).length:=by simpa using h
 rw[List.getD_eq_getElem?_getD,List.getElem?_eq_getElem h'];simp only[Cd,LQ,List.getElem_map,List.getElem_range,Option.getD_some,h,true_and]
def Im (q:List Int)(k:Nat):List Int:=Cm (fun i=>rd q (i:Int) != 0) k
def BP (g:Ae)(st:BC):List Int:=if AM g st=true then Im st.cols g.length else []
theorem AN {g:Ae}{st:BC}(h:AM g st=true):AG g=true/\st.vals.length=g.length/\st.reads.length=g.length/\st.cols.length=g.length/\C8 st.vals=true:=by
 unfold AM Dq at h;simp only[Bool.and_eq_true,decide_eq_true_eq] at h;exact⟨h.1.1.1.1.1,h.1.1.1.1.2,h.1.1.1.2,h.1.1.2,h.1.2⟩
theorem CW {g:Ae}(h:AG g=true):g.length<=10:=by
 unfold AG at h;simp only[Bool.and_eq_true,decide_eq_true_eq] at h;exact h.2
inductive Fp (r:List (List Int)) (n:Nat):Nat->Prop
 | one {i:Nat}:(n:Int) ∈ r.getD i []->Fp r n i
 | more {m i:Nat}:Fp r n m->(m:Int) ∈ r.getD i []->Fp r n i
theorem Fp.front {r:List (List Int)}{n m i:Nat}(h:(n:Int) ∈ r.getD m [])(k:Fp r m i):Fp r n i:=by
 induction k with
 | one h1=>exact .more (.one h) h1
 | more _ h1 ih=>exact .more ih h1
theorem Fp.split {r:List (List Int)}{n i:Nat}(h:Fp r n i):(n:Int) ∈ r.getD i []\/∃ m:Nat,(n:Int) ∈ r.getD m []/\Fp r m i:=by
 induction h with
 | one h=>exact .inl h
 | more _ h2 ih =>
  rcases ih with h | ⟨m,h,k⟩
  ·exact .inr ⟨_,h,.one h2⟩
  ·exact .inr ⟨m,h,.more k h2⟩
theorem Fp.last {r:List (List Int)}{n i:Nat}(h:Fp r n i):(n:Int) ∈ r.getD i []\/∃ m:Nat,Fp r n m/\(m:Int) ∈ r.getD i []:=by
 cases h with
 | one h=>exact .inl h
 | more h k=>exact .inr ⟨_,h,k⟩
def EH (r:List (List Int)):Prop:=∀ (k:Nat),∀ x ∈ r.getD k [],0<=x/\x<(k:Int)
theorem Fp.lt {r:List (List Int)}{n i:Nat}(hA:EH r)(h:Fp r n i):n<i:=by
 induction h with
 | one h=>have:=(hA _ _ h).2;omega
 | more _ h ih=>have:=(hA _ _ h).2;omega
theorem DE {r:List (List Int)}{i:Nat}{x:Int}(h:x ∈ r.getD i []):i<r.length:=by
 apply Decidable.byContradiction;intro hh;rw[List.getD_eq_getElem?_getD,List.getElem?_eq_none (by omega)] at h;cases h
theorem Fp.len {r:List (List Int)}{n i:Nat}(h:Fp r n i):i<r.length:=by
 cases h with
 | one h=>exact DE h
 | more _ h=>exact DE h
def Dy (r:List (List Int))(n:Nat)(k:Nat):List Int:=Cm (fun i=>decide ((n:Int) ∈ r.getD i [])) k
def Bt (r:List (List Int))(n:Nat):List Int:=Dy r n r.length
theorem FR {r:List (List Int)}{n i:Nat}:(i:Int) ∈ Bt r n↔(n:Int) ∈ r.getD i []:=by
 unfold Bt Dy;rw[Fy];constructor
 ·rintro ⟨j,hj,_,h⟩;have:i=j:=by omega
  subst this;exact of_decide_eq_true h
 ·intro h;exact⟨i,rfl,DE h,decide_eq_true h⟩
theorem Kr {r:List (List Int)}{n k:Nat}{x:Int}(h:(Bt r n)[k]? = some x):∃ i:Nat,x=i/\(n:Int) ∈ r.getD i []:=by
 have hm:=List.mem_of_getElem? h;unfold Bt Dy at hm;rw[Fy] at hm;obtain⟨j,rfl,_,h⟩:=hm;exact⟨j,rfl,of_decide_eq_true h⟩
open Classical in
noncomputable def Ft (M:Nat->Prop)(c:List Int):List Int:=c.mapIdx fun i x=>if M i/\x=0 then 1 else x
@[simp] theorem length_markC (M:Nat->Prop) (c:List Int):(Ft M c).length=c.length:=by simp[Ft]
open Classical in
theorem RQ (c:List Int):Ft (fun _=>False) c=c:=by
 refine List.ext_getElem? fun i=>?_;simp[Ft,List.getElem?_mapIdx]
open Classical in
theorem GY (M:Nat->Prop)(c:List Int)(i:Nat):(Ft M c)[i]? = c[i]?.map (fun x=>if M i/\x=0 then 1 else x):=by
 simp[Ft,List.getElem?_mapIdx]
theorem P6 {M M':Nat->Prop}(c:List Int)(h:∀ i,M i↔M' i):Ft M c=Ft M' c:=by
 have:M=M':=funext fun i=>propext (h i);rw[this]
open Classical in
theorem RS {M:Nat->Prop}{c:List Int}{m:Nat}{x:Int}(hx:(Ft M c)[m]? = some x)(h0:x=0):Ft (fun i=>M i\/i=m) c=(Ft M c).set m 1:=by
 subst h0;refine List.ext_getElem? fun i=>?_;rw[List.getElem?_set];by_cases hi:m=i
 ·subst hi;rw[if_pos rfl,if_pos (List.getElem?_eq_some_iff.1 hx).1];rw[GY] at hx ⊢;cases hc:c[m]? with
  | none=>rw[hc] at hx;cases hx
  | some y =>
   rw[hc] at hx;simp only[Option.map_some,Option.some.injEq] at hx ⊢;by_cases hy:y=0
   ·simp[hy]
   ·rw[if_neg (fun h=>hy h.2)] at hx;exact absurd hx hy
 ·rw[if_neg hi,GY,GY];have:(M i\/i=m)↔M i:=⟨fun h=>h.elim id (fun e=>absurd e.symm hi),.inl⟩;simp only[this]
open Classical in
theorem RU {M:Nat->Prop}{c:List Int}{m:Nat}{x:Int}(hx:(Ft M c)[m]? = some x)(h0:x≠0):Ft (fun i=>M i\/i=m) c=Ft M c:=by
 refine List.ext_getElem? fun i=>?_;rw[GY,GY];by_cases hi:i=m
 ·subst hi;rw[GY] at hx;cases hc:c[i]? with
  | none=>rfl
  | some y =>
   rw[hc] at hx;simp only[Option.map_some,Option.some.injEq] at hx ⊢;by_cases hy:y=0
   ·by_cases hM:M i
    ·simp[hM,hy]
    ·rw[if_neg (fun h=>hM h.1)] at hx;exact absurd (hx.symm.trans hy) h0
   ·simp[hy]
 ·have:(M i\/i=m)↔M i:=⟨fun h=>h.elim id (fun e=>absurd e hi),.inl⟩;simp only[this]
def Jm (r:List (List Int))(n:Nat)(M:Nat->Prop):Prop:=∀ j i:Nat,M j->n<j->(j:Int) ∈ r.getD i []->M i
theorem Jm.way {r:List (List Int)}{n j i:Nat}{M:Nat->Prop}(h:Jm r n M)(hA:EH r)(hj:M j)(hn:n<j)(w:Fp r j i):M i:=by
 induction w with
 | one h1=>exact h _ _ hj hn h1
 | more w1 h1 ih=>exact h _ _ ih (by have:=w1.lt hA;omega) h1
def Ps (r:List (List Int))(l:List Int)(M:Nat->Prop)(i:Nat):Prop:=M i\/∃ m:Nat,(m:Int) ∈ l/\(m=i\/Fp r m i)
theorem V5 (r:List (List Int))(M:Nat->Prop):Ps r [] M=M:=by
 funext i
 simp[Ps]
theorem Mz {r:List (List Int)}{n:Nat}{l:List Int}{M:Nat->Prop}(h:Jm r n M):Jm r n (Ps r l M):=by
 intro j i hj hn hi;rcases hj with hj | ⟨m,hm,hj⟩
 ·exact .inl (h j i hj hn hi)
 ·refine .inr ⟨m,hm,.inr ?_⟩;rcases hj with rfl | hj
  ·exact .one hi
  ·exact .more hj hi
theorem V6 {r:List (List Int)}{n m:Nat}{l:List Int}{M:Nat->Prop}(hA:EH r)(h:Jm r n M)(hn:n<m)(hm:Ps r l M m):Ps r (l++[(m:Int)]) M=Ps r l M:=by
 funext i
 apply propext;constructor
 ·rintro (h1 | ⟨k,hk,h2⟩)
  ·exact .inl h1
  ·rcases List.mem_append.1 hk with hk | hk
   ·exact .inr ⟨k,hk,h2⟩
   ·simp at hk
    have:k=m:=by omega
    subst this;rcases h2 with rfl | h2
    ·exact hm
    ·exact(Mz h).way hA hm hn h2
 ·rintro (h1 | ⟨k,hk,h2⟩)
  ·exact .inl h1
  ·exact .inr ⟨k,List.mem_append.2 (.inl hk),h2⟩
theorem V7 {r:List (List Int)}{m:Nat}{l:List Int}{M:Nat->Prop}:Ps r (l++[(m:Int)]) M=fun i=>(Ps r l M i\/i=m)\/Fp r m i:=by
 funext i
 apply propext;constructor
 ·rintro (h1 | ⟨k,hk,h2⟩)
  ·exact .inl (.inl (.inl h1))
  ·rcases List.mem_append.1 hk with hk | hk
   ·exact .inl (.inl (.inr ⟨k,hk,h2⟩))
   ·simp at hk
    have:k=m:=by omega
    subst this;rcases h2 with rfl | h2
    ·exact .inl (.inr rfl)
    ·exact .inr h2
 ·rintro (((h1 | ⟨k,hk,h2⟩) | rfl) | h1)
  ·exact .inl h1
  ·exact .inr ⟨k,List.mem_append.2 (.inl hk),h2⟩
  ·exact .inr ⟨i,by simp,.inl rfl⟩
  ·exact .inr ⟨m,by simp,.inr h1⟩
theorem V8 {r:List (List Int)}{n:Nat}{M:Nat->Prop}:Ps r (Bt r n) M=fun i=>M i\/Fp r n i:=by
 funext i
 apply propext;constructor
 ·rintro (h1 | ⟨m,hm,h2⟩)
  ·exact .inl h1
  ·rw[FR] at hm;rcases h2 with rfl | h2
   ·exact .inr (.one hm)
   ·exact .inr (.front hm h2)
 ·rintro (h1 | h1)
  ·exact .inl h1
  ·rcases h1.split with h2 | ⟨m,h2,h3⟩
   ·exact .inr ⟨i,FR.2 h2,.inl rfl⟩
   ·exact .inr ⟨m,FR.2 h2,.inr h3⟩
theorem Nr {r:List (List Int)}{n m:Nat}{M:Nat->Prop}(h:Jm r n M)(hn:n<m):Jm r m (fun i=>M i\/i=m):=by
 intro j i hj hm hi;rcases hj with hj | rfl
 ·exact .inl (h j i hj (by omega) hi)
 ·omega
noncomputable def MA (r:List (List Int))(c:List Int)(n:Nat):List Int:=Ft (Fp r n) c
@[simp] theorem length_doubtC (r:List (List Int)) (c:List Int) (n:Nat):(MA r c n).length=c.length:=by simp[MA]
open Classical in
noncomputable def Dt (d:Bool)(r:List (List Int))(c:List Int)(n k:Nat):List Int:=c.mapIdx fun i x=>if i<k/\Fp r n i then (if d=true/\(n:Int) ∈ r.getD i [] then 2 else if x=0 then 1 else x) else x
@[simp] theorem length_spoilTo (d:Bool) (r:List (List Int)) (c:List Int) (n k:Nat):(Dt d r c n k).length=c.length:=by simp[Dt]
noncomputable def CA (r:List (List Int))(c:List Int)(n:Nat):List Int:=Dt true r c n c.length
@[simp] theorem length_spoilC (r:List (List Int)) (c:List Int) (n:Nat):(CA r c n).length=c.length:=by simp[CA]
open Classical in
theorem DG (d:Bool)(r:List (List Int))(c:List Int)(n k i:Nat):(Dt d r c n k)[i]? = c[i]?.map (fun x=>if i<k/\Fp r n i then (if d=true/\(n:Int) ∈ r.getD i [] then 2 else if x=0 then 1 else x) else x):=by
 simp[Dt,List.getElem?_mapIdx]
open Classical in
theorem Nq (d:Bool){r:List (List Int)}(hA:EH r)(c:List Int)(n:Nat):Dt d r c n (n+1)=c:=by
 refine List.ext_getElem? fun i=>?_;rw[DG];have:¬ (i<n+1/\Fp r n i):=fun h=>by have:=h.2.lt hA;omega
 simp[this]
open Classical in
theorem RO (d:Bool){r:List (List Int)}{c:List Int}{n k:Nat}(h:¬ Fp r n k):Dt d r c n (k+1)=Dt d r c n k:=by
 refine List.ext_getElem? fun i=>?_;rw[DG,DG]
 have:(i<k+1/\Fp r n i)↔(i<k/\Fp r n i):=by
  constructor
  ·rintro ⟨h1,h2⟩;refine⟨?_,h2⟩;by_cases e:i=k
   ·subst e;exact absurd h2 h
   ·omega
  ·rintro ⟨h1,h2⟩;exact⟨by omega,h2⟩
 simp only[this]
open Classical in
theorem OI (d:Bool)(r:List (List Int))(c:List Int)(n k:Nat):(Dt d r c n k)[k]? = c[k]? := by
 rw[DG];cases c[k]? <;> simp
open Classical in
theorem Lj {d:Bool}{r:List (List Int)}{c:List Int}{n k:Nat}{x:Int}(h:Fp r n k)(hx:c[k]? = some x):Dt d r c n (k+1)=(Dt d r c n k).set k (if d=true/\(n:Int) ∈ r.getD k [] then 2 else if x=0 then 1 else x):=by
 refine List.ext_getElem? fun i=>?_;rw[List.getElem?_set];by_cases e:k=i
 ·subst e;rw[if_pos rfl,if_pos (by simpa using (List.getElem?_eq_some_iff.1 hx).1),DG,hx];simp[h]
 ·rw[if_neg e,DG,DG]
  have:(i<k+1/\Fp r n i)↔(i<k/\Fp r n i):=by
   constructor
   ·rintro ⟨h1,h2⟩;exact⟨by omega,h2⟩
   ·rintro ⟨h1,h2⟩;exact⟨by omega,h2⟩
  simp only[this]
open Classical in
noncomputable def FJ (l:List Int)(c:List Int):List Int:=c.mapIdx fun i x=>if (i:Int) ∈ l then 2 else x
@[simp] theorem length_dirtyL (l c:List Int):(FJ l c).length=c.length:=by simp[FJ]
open Classical in
theorem JH (l c:List Int)(i:Nat):(FJ l c)[i]? = c[i]?.map (fun x=>if (i:Int) ∈ l then 2 else x):=by simp[FJ,List.getElem?_mapIdx]
open Classical in
theorem RV (c:List Int):FJ [] c=c:=by
 refine List.ext_getElem? fun i=>?_;rw[JH];simp
open Classical in
theorem P8 (l c:List Int)(m:Nat):FJ (l++[(m:Int)]) c=(FJ l c).set m 2:=by
 refine List.ext_getElem? fun i=>?_;rw[List.getElem?_set,JH,JH];by_cases e:m=i
 ·subst e;rw[if_pos rfl];by_cases hl:m<c.length
  ·rw[if_pos (by simpa using hl),List.getElem?_eq_getElem hl];simp
  ·rw[if_neg (by simpa using hl),List.getElem?_eq_none (by omega)];rfl
 ·rw[if_neg e];have h1:¬ (i:Int)=(m:Int):=by omega
  simp[h1]
open Classical in
theorem RW (r:List (List Int))(c:List Int)(n:Nat):MA r (FJ (Bt r n) c) n=CA r c n:=by
 refine List.ext_getElem? fun i=>?_;rw[MA,GY,JH,CA,DG];cases hc:c[i]? with
 | none=>rfl
 | some y =>
  have hi:=(List.getElem?_eq_some_iff.1 hc).1;simp only[Option.map_some,Option.some.injEq,FR];by_cases hr:(n:Int) ∈ r.getD i []
  ·have hw:Fp r n i := .one hr;rw[List.getD_eq_getElem?_getD] at hr;simp[hr,hw,hi]
  ·by_cases hw:Fp r n i
   ·rw[List.getD_eq_getElem?_getD] at hr;simp[hr,hw,hi]
   ·rw[List.getD_eq_getElem?_getD] at hr;simp[hr,hw]
def RJ (r:List (List Int))(n k:Nat)(l:List Int):Prop:=∀ x,x ∈ l↔∃ j:Nat,x=j/\(j=n\/(j<k/\Fp r n j))
theorem RK {r:List (List Int)}(hA:EH r)(n:Nat):RJ r n (n+1) [(n:Int)]:=by
 intro x;simp only[List.mem_singleton];constructor
 ·rintro rfl;exact⟨n,rfl,.inl rfl⟩
 ·rintro ⟨j,rfl,h | ⟨h,hw⟩⟩
  ·rw[h]
  ·have:=hw.lt hA;omega
theorem RM {r:List (List Int)}{n k:Nat}{l:List Int}(hA:EH r)(h:RJ r n k l):Lk (r.getD k []) l=true↔Fp r n k:=by
 unfold Lk;rw[List.any_eq_true];constructor
 ·rintro ⟨x,hx,hb⟩;obtain⟨j,rfl,hj⟩:=(h x).1 (of_decide_eq_true hb);rcases hj with rfl | ⟨_,hw⟩
  ·exact .one hx
  ·exact .more hw hx
 ·intro hw;rcases hw.last with h1 | ⟨m,h1,h2⟩
  ·exact⟨_,h1,decide_eq_true ((h _).2 ⟨n,rfl,.inl rfl⟩)⟩
  ·exact⟨_,h2,decide_eq_true ((h _).2 ⟨m,rfl,.inr ⟨by have:=(hA _ _ h2).2;omega,h1⟩⟩)⟩
theorem VY {r:List (List Int)}{n k:Nat}{l:List Int}(h:RJ r n k l)(hw:¬ Fp r n k):RJ r n (k+1) l:=by
 intro x;rw[h x];refine exists_congr fun j=>and_congr_right fun _=>or_congr_right ?_;constructor
 ·rintro ⟨h1,h2⟩;exact⟨by omega,h2⟩
 ·rintro ⟨h1,h2⟩;refine⟨?_,h2⟩;by_cases e:j=k
  ·subst e;exact absurd h2 hw
  ·omega
theorem P2 {r:List (List Int)}{n k:Nat}{l:List Int}(h:RJ r n k l)(hw:Fp r n k):RJ r n (k+1) (l++[(k:Int)]):=by
 intro x;rw[List.mem_append,h x,List.mem_singleton];constructor
 ·rintro (⟨j,rfl,h1⟩ | rfl)
  ·exact⟨j,rfl,h1.imp id (fun h=>⟨by omega,h.2⟩)⟩
  ·exact⟨k,rfl,.inr ⟨by omega,hw⟩⟩
 ·rintro ⟨j,rfl,h1 | ⟨h1,h2⟩⟩
  ·exact .inl ⟨j,rfl,.inl h1⟩
  ·by_cases e:j=k
   ·subst e;exact .inr rfl
   ·exact .inl ⟨j,rfl,.inr ⟨by omega,h2⟩⟩
noncomputable def Ca (st:BC)(n:Nat)(x:Int):BC:=if st.vals.getD n 0=x then st else ⟨st.vals.set n x,st.reads,CA st.reads st.cols n⟩
theorem C7 {g:Ae}{st:BC}(h:AM g st=true):EH st.reads:=by
 have hs:=AN h;intro k x hx;have hk:k<g.length:=by have:=DE hx;omega
 unfold AM at h;simp only[Bool.and_eq_true,List.all_eq_true,List.mem_range] at h;have hc:=h.2 k hk;have hn:g[k]? = some g[k]:=List.getElem?_eq_getElem hk;have hd:g.getD k default=g[k]:=by simp[hn]
 have right:CL g st.vals st.reads k=true->g[k].kind≠0->0<=x/\x<(k:Int):=by
  intro hr h0;unfold CL at hr;rw[hd] at hr;dsimp only at hr;rw[if_neg h0] at hr;simp only[Bool.and_eq_true,decide_eq_true_eq] at hr;have:Cf g st.vals k=st.reads.getD k []:=by unfold Cf;rw[hd,if_neg h0];exact hr.2
  rw[<- this] at hx;exact GB hs.1 hk hx
 unfold Df at hc;dsimp only at hc;rw[hd] at hc;by_cases h0:g[k].kind=0
 ·rw[if_pos h0] at hc;simp only[Bool.and_eq_true,List.isEmpty_iff] at hc;rw[hc.2] at hx;cases hx
 ·rw[if_neg h0] at hc;split at hc
  ·simp only[Bool.and_eq_true,List.all_eq_true,decide_eq_true_eq] at hc;have hm:=hc.1 x hx;refine⟨(Ek hm).1,?_⟩;have hg:=Dh hs.1 k hk;unfold Ck at hg;rw[hd] at hg;dsimp only at hg;rw[if_neg h0] at hg;split at hg
   ·simp only[Bool.and_eq_true] at hg;have hgr:=hg.2;unfold Du at hgr;rw[hd,List.all_eq_true] at hgr;have:=hgr x hm;unfold Ci at this;simp only[Bool.and_eq_true,decide_eq_true_eq] at this;exact this.1
   ·cases hg
  ·split at hc
   ·exact right hc h0
   ·split at hc
    ·simp only[Bool.and_eq_true] at hc;exact right hc.1 h0
    ·cases hc
theorem Mr {g:Ae}{st:BC}(h:AM g st=true):∀ x ∈ st.cols,0<=x/\x<=2:=by
 have hs:=AN h;intro x hx;obtain⟨i,hi⟩:=List.getElem?_of_mem hx;have hil:=(List.getElem?_eq_some_iff.1 hi).1;unfold AM at h;simp only[Bool.and_eq_true,List.all_eq_true,List.mem_range] at h;have:=Jl (h.2 i (by omega));rw[List.getD_eq_getElem?_getD,hi] at this;simp only[Option.getD_some,Cb,Bool.and_eq_true,decide_eq_true_eq] at this;exact this
theorem Bb {g:Ae}{st:BZ}(h:Dv g st=true):AG g=true/\st.vals.length=g.length/\st.reads.length=g.length/\C8 st.vals=true/\∀ i,i<g.length->CL g st.vals st.reads i=true:=by
 unfold Dv at h;simp only[Bool.and_eq_true,decide_eq_true_eq,List.all_eq_true,List.mem_range] at h;exact⟨h.1.1.1.1,h.1.1.1.2,h.1.1.2,h.1.2,h.2⟩
theorem TW {g:Ae}{st:BZ}(h:AG g=true/\st.vals.length=g.length/\st.reads.length=g.length/\C8 st.vals=true/\∀ i,i<g.length->CL g st.vals st.reads i=true):Dv g st=true:=by
 unfold Dv;simp only[Bool.and_eq_true,decide_eq_true_eq,List.all_eq_true,List.mem_range];exact⟨⟨⟨⟨h.1,h.2.1⟩,h.2.2.1⟩,h.2.2.2.1⟩,h.2.2.2.2⟩
theorem Bk {α:Type}[Inhabited α]{l:List α}{i:Nat}{x:α}(h:l[i]? = some x)(d:α):l.getD i d=x:=by simp[h]
theorem Ic {g:Ae}{v:List Int}{r:List (List Int)}{i:Nat}{n:BV}(hn:g[i]? = some n)(h0:n.kind≠0)(h:CL g v r i=true):AJ n.f v=(v.getD i 0,r.getD i []):=by
 unfold CL at h;rw[Bk hn] at h;dsimp only at h;rw[if_neg h0] at h;simp only[Bool.and_eq_true,decide_eq_true_eq] at h;exact Prod.ext h.1 h.2
theorem IK {g:Ae}{v:List Int}{r:List (List Int)}{i:Nat}{n:BV}(hn:g[i]? = some n)(h0:n.kind=0)(h:CL g v r i=true):r.getD i []=[]:=by
 unfold CL at h;rw[Bk hn] at h;dsimp only at h;rw[if_pos h0] at h;simpa using h
theorem Mc {g:Ae}{v:List Int}{r:List (List Int)}{i:Nat}{n:BV}(hn:g[i]? = some n)(h0:n.kind=0->r.getD i []=[])(h1:n.kind≠0->AJ n.f v=(v.getD i 0,r.getD i [])):CL g v r i=true:=by
 unfold CL;rw[Bk hn];dsimp only;by_cases hk:n.kind=0
 ·rw[if_pos hk,h0 hk];rfl
 ·rw[if_neg hk,h1 hk];simp
theorem Me {g:Ae}(cells:List Int){k:Nat}{n:BV}(hn:g[k]? = some n):(BF g cells).getD k 0=if n.kind=0 then cells.getD k 0 else (AJ n.f (AY g cells k)).1:=by
 have hk:=(List.getElem?_eq_some_iff.1 hn).1;have h1:=Ib g cells (k+1) g.length k hk (by omega);unfold BF;rw[h1];show (AY g cells k++[I6 g cells (AY g cells k) k]).getD k 0=_;rw[List.getD_eq_getElem?_getD,List.getElem?_append_right (by simp)];simp only[length_meanTo,Nat.sub_self,List.getElem?_cons_zero,Option.getD_some];unfold I6;rw[Bk hn]
theorem JA {l:List Int}(h:Bq l):C8 l=true:=by
 unfold C8;rw[List.all_eq_true];intro x hx;have:=h x hx;simp[Cb]
 omega
theorem Xe {a b:List Int}(hl:a.length=b.length)(h:∀ i,i<a.length->a.getD i 0=b.getD i 0):a=b:=by
 refine List.ext_getElem hl fun i h1 h2=>?_;have:=h i h1;rw[List.getD_eq_getElem?_getD,List.getD_eq_getElem?_getD,List.getElem?_eq_getElem h1,List.getElem?_eq_getElem h2] at this;exact this
theorem Fg {g:Ae}{l:List Int}(hG:AG g=true)(hC:AT g l=true):Dv g (BQ g l)=true:=by
 refine TW ⟨hG,by simp[BQ],by simp[BQ],JA (Gq hG hC g.length (Nat.le_refl _)),fun i hi=>?_⟩;obtain⟨n,hn⟩:∃ n,g[i]? = some n:=⟨_,List.getElem?_eq_getElem hi⟩;have hd:(Cv g (BF g l) g.length).getD i []=Cf g (BF g l) i:=by unfold Cv;simp[hi]
 refine Mc hn (fun h0=>?_) (fun h0=>?_)
 ·show (Cv g (BF g l) g.length).getD i []=[];rw[hd];unfold Cf;rw[Bk hn,if_pos h0]
 ·show AJ n.f (BF g l)=((BF g l).getD i 0,(Cv g (BF g l) g.length).getD i []);rw[hd];unfold Cf;rw[Bk hn,if_neg h0,Me l hn,if_neg h0,Mb hG hn h0]
theorem Lg {g:Ae}{l:List Int}(hC:AT g l=true){i:Nat}{n:BV}(hn:g[i]? = some n)(h0:n.kind≠0):l.getD i 0=0:=by
 have hl:=Cu hC;have hi:=(List.getElem?_eq_some_iff.1 hn).1;unfold AT at hC;simp only[Bool.and_eq_true,List.all_eq_true,List.mem_range] at hC;have:=hC.2 i (by omega);unfold Gg CU at this;rw[Int.toNat_natCast,Bk hn] at this;simp only[Bool.and_eq_true,Bool.or_eq_true,decide_eq_true_eq] at this;rcases this.2 with h | h
 ·exact absurd h h0
 ·exact h
theorem N4 {g:Ae}{l:List Int}(hl:l.length=g.length)(h:∀ i n,g[i]? = some n->(0<=l.getD i 0/\l.getD i 0<=999)/\(n.kind≠0->l.getD i 0=0)):AT g l=true:=by
 unfold AT;simp only[Bool.and_eq_true,decide_eq_true_eq,List.all_eq_true,List.mem_range];refine⟨hl,fun i hi=>?_⟩;obtain⟨n,hn⟩:∃ n,g[i]? = some n:=⟨_,List.getElem?_eq_getElem (by omega)⟩;have:=h i n hn;unfold Gg CU Cb;rw[Int.toNat_natCast,Bk hn];simp only[Bool.and_eq_true,Bool.or_eq_true,decide_eq_true_eq];refine⟨this.1,?_⟩;by_cases h0:n.kind=0
 ·exact .inl h0
 ·exact .inr (this.2 h0)
theorem TX {l:List Int}(h:C8 l=true){i:Nat}(hi:i<l.length):0<=l.getD i 0/\l.getD i 0<=999:=by
 rw[List.getD_eq_getElem?_getD,List.getElem?_eq_getElem hi];exact Cc h _ (List.getElem_mem hi)
theorem Kn {g:Ae}{st:BZ}(h:Dv g st=true):AT g (Cd g st.vals)=true:=by
 obtain⟨hG,hv,hr,hn,hR⟩:=Bb h;refine N4 (by simp[hv]) fun i n hi=>?_;have hil:=(List.getElem?_eq_some_iff.1 hi).1;rw[Et g _ i (by omega),Bk hi];have:=TX hn (i:=i) (by omega);by_cases h0:n.kind=0
 ·rw[if_neg (by simpa using h0)];exact⟨this,fun h=>absurd h0 h⟩
 ·rw[if_pos h0];exact⟨by omega,fun _=>rfl⟩
theorem Ns {g:Ae}{st:BZ}(h:Dv g st=true)(k:Nat)(hk:k<=g.length):AY g (Cd g st.vals) k=st.vals.take k:=by
 obtain⟨hG,hv,hr,hn,hR⟩:=Bb h;induction k with
 | zero=>simp[AY]
 | succ k ih =>
  have ih:=ih (by omega);obtain⟨n,hi⟩:∃ n,g[k]? = some n:=⟨_,List.getElem?_eq_getElem (by omega)⟩;show AY g (Cd g st.vals) k++[I6 g (Cd g st.vals) (AY g (Cd g st.vals) k) k]=_;have hkv:k<st.vals.length:=by omega
  rw[ih,List.take_succ_eq_append_getElem hkv];congr 2
  unfold I6;rw[Bk hi];have hx:st.vals.getD k 0=st.vals[k]:=by rw[List.getD_eq_getElem?_getD,List.getElem?_eq_getElem hkv];rfl
  by_cases h0:n.kind=0
  ·rw[if_pos h0,Et g _ k hkv,Bk hi,if_neg (by simpa using h0),hx]
  ·rw[if_neg h0,GL (Bo hG k hi h0) (b:=st.vals) (fun j hj=>by
    rw[List.getD_eq_getElem?_getD,List.getD_eq_getElem?_getD,List.getElem?_take_of_lt hj]),Ic hi h0 (hR k (by omega))]
   exact hx
theorem PX {g:Ae}{st:BZ}(h:Dv g st=true):BF g (Cd g st.vals)=st.vals:=by
 have:=Ns h g.length (Nat.le_refl _);unfold BF;rw[this,<- (Bb h).2.1,List.take_length]
structure Nn where
 vals:List Int
 reads:List (List Int)
 ch:List Bool
 ran:List Int
def IA (s:List Int × List Bool)(n x:Int):List Int × List Bool:=(s.1.set n.toNat x,s.2.set n.toNat (s.1.getD n.toNat 0 != x))
def Ch (s:List Int × List Bool)(nodes values:List Int)(k:Nat):List Int × List Bool:=((nodes.zip values).take k).foldl (fun s p=>IA s p.1 p.2) s
theorem Jj (s:List Int × List Bool)(nodes values:List Int)(k:Nat){n x:Int}(hn:nodes[k]? = some n)(hx:values[k]? = some x):Ch s nodes values (k+1)=IA (Ch s nodes values k) n x:=by
 unfold Ch;have hz:(nodes.zip values)[k]? = some (n,x):=by rw[List.getElem?_zip_eq_some];exact⟨hn,hx⟩
 obtain⟨hk,he⟩:=List.getElem?_eq_some_iff.1 hz;rw[List.take_succ_eq_append_getElem hk,List.foldl_append,he];rfl
@[simp] theorem wcells_zero (s:List Int × List Bool) (nodes values:List Int):Ch s nodes values 0=s:=rfl
@[simp] theorem wstep_len1 (s:List Int × List Bool) (n x:Int):(IA s n x).1.length=s.1.length:=by simp[IA]
@[simp] theorem wstep_len2 (s:List Int × List Bool) (n x:Int):(IA s n x).2.length=s.2.length:=by simp[IA]
theorem N7 (l:List (Int × Int))(s:List Int × List Bool):(l.foldl (fun s p=>IA s p.1 p.2) s).1.length=s.1.length/\(l.foldl (fun s p=>IA s p.1 p.2) s).2.length=s.2.length:=by
 induction l generalizing s with
 | nil=>exact⟨rfl,rfl⟩
 | cons a l ih=>rw[List.foldl_cons];have:=ih (IA s a.1 a.2);simpa using this
@[simp] theorem wcells_len1 (s:List Int × List Bool) (nodes values:List Int) (k:Nat):(Ch s nodes values k).1.length=s.1.length:=(N7 _ _).1
@[simp] theorem wcells_len2 (s:List Int × List Bool) (nodes values:List Int) (k:Nat):(Ch s nodes values k).2.length=s.2.length:=(N7 _ _).2
def UA (s:Nn)(l:List Int):Bool:=l.any fun k=>s.ch.getD k.toNat false
def Jg (g:Ae)(s:Nn)(i:Nat):Nn :=
 if ((g.getD i default).kind != 0 && UA s (s.reads.getD i []))=true then
  ⟨s.vals.set i (AJ (g.getD i default).f s.vals).1,s.reads.set i (AJ (g.getD i default).f s.vals).2,s.ch.set i ((AJ (g.getD i default).f s.vals).1 != s.vals.getD i 0),s.ran++[(i:Int)]⟩
 else s
def BX (g:Ae)(s:Nn)(k:Nat):Nn:=(List.range k).foldl (Jg g) s
@[simp] theorem rsteps_zero (g:Ae) (s:Nn):BX g s 0=s:=rfl
theorem F_ (g:Ae)(s:Nn)(k:Nat):BX g s (k+1)=Jg g (BX g s k) k:=by unfold BX;rw[List.range_succ,List.foldl_append];rfl
def C0 (g:Ae)(st:BZ)(nodes values:List Int):Nn :=
 BX g ⟨(Ch (st.vals,List.replicate g.length false) nodes values nodes.length).1,st.reads,(Ch (st.vals,List.replicate g.length false) nodes values nodes.length).2,[]⟩ g.length
def Bi (g:Ae)(st:BZ)(nodes values:List Int):BZ × List Int:=(⟨(C0 g st nodes values).vals,(C0 g st nodes values).reads⟩,(C0 g st nodes values).ran)
def BA (g:Ae)(n:Int):Bool:=Cb n 0 ((g.length:Int) - 1) && decide (CU g n=0)
def B_ (g:Ae)(nodes:List Int):Bool:=(List.range nodes.length).all fun k=>BA g (nodes.getD k 0) && decide (nodes.getD k 0 ∉ nodes.take k)
def GU (g:Ae)(st:BZ)(nodes values:List Int):Bool:=Dv g st && B_ g nodes && decide (nodes.length=values.length) && C8 values
structure P_ (g:Ae) (s:Nn):Prop where
 v:s.vals.length=g.length
 r:s.reads.length=g.length
 c:s.ch.length=g.length
 n:Bq s.vals
theorem P_.step {g:Ae}{s:Nn}(hG:AG g=true)(h:P_ g s)(i:Nat)(hi:i<g.length):P_ g (Jg g s i):=by
 unfold Jg;split
 ·rename_i hc
  simp only[Bool.and_eq_true,bne_iff_ne] at hc;refine⟨by simp[h.v],by simp[h.r],by simp[h.c],?_⟩;intro x hx;rcases List.mem_or_eq_of_mem_set hx with hx | rfl
  ·exact h.n x hx
  ·have hn:g[i]? = some g[i]:=List.getElem?_eq_getElem hi;have hd:g.getD i default=g[i]:=by simp[hn]
   rw[hd] at hc ⊢;exact J1 (Bo hG i hn hc.1) h.n
 ·exact h
theorem P_.steps {g:Ae}{s:Nn}(hG:AG g=true)(h:P_ g s)(k:Nat)(hk:k<=g.length):P_ g (BX g s k):=by
 induction k with
 | zero=>exact h
 | succ k ih=>rw[F_];exact(ih (by omega)).step hG k (by omega)
theorem TY (g:Ae)(s:Nn)(i:Nat):(Jg g s i).ran.length<=s.ran.length+1:=by
 unfold Jg;split <;> simp
theorem MB (g:Ae)(s:Nn)(k:Nat):(BX g s k).ran.length<=s.ran.length+k:=by
 induction k with
 | zero=>simp
 | succ k ih=>rw[F_];have:=TY g (BX g s k) k;omega
theorem Ks (v:List Int)(c:List Bool)(nodes values:List Int)(k:Nat)(hv:Bq v)(hx:Bq values):Bq (Ch (v,c) nodes values k).1:=by
 unfold Ch
 have key:∀ (l:List (Int × Int)) (s:List Int × List Bool),Bq s.1->(∀ p ∈ l,0<=p.2/\p.2<=999)->Bq (l.foldl (fun s p=>IA s p.1 p.2) s).1:=by
  intro l;induction l with
  | nil=>intro s hs _;exact hs
  | cons a l ih =>
   intro s hs hp;rw[List.foldl_cons];refine ih _ ?_ (fun p hp'=>hp p (by simp[hp']));intro x hx;rcases List.mem_or_eq_of_mem_set hx with hx | rfl
   ·exact hs x hx
   ·exact hp a (by simp)
 refine key _ _ hv (fun p hp=>?_);have h1:=List.mem_of_mem_take hp;exact hx p.2 (List.of_mem_zip h1).2
theorem Fx {g:Ae}{n:Int}(h:BA g n=true):∃ (k:Nat) (x:BV),n=k/\g[k]? = some x/\x.kind=0:=by
 unfold BA Cb CU at h;simp only[Bool.and_eq_true,decide_eq_true_eq] at h;obtain⟨k,rfl⟩:=Int.eq_ofNat_of_zero_le h.1.1;have hk:k<g.length:=by omega
 have hn:g[k]? = some g[k]:=List.getElem?_eq_getElem hk;refine⟨k,_,rfl,hn,?_⟩;have:=h.2;rw[Int.toNat_natCast] at this;simpa[hn] using this
theorem CH {g:Ae}{nodes:List Int}(h:B_ g nodes=true){k:Nat}{n:Int}(hn:nodes[k]? = some n):BA g n=true/\n ∉ nodes.take k:=by
 unfold B_ at h;rw[List.all_eq_true] at h;have:=h k (List.mem_range.2 (List.getElem?_eq_some_iff.1 hn).1);simp only[Bool.and_eq_true,decide_eq_true_eq,List.getD_eq_getElem?_getD,hn,Option.getD_some] at this;exact this
theorem Kj {g:Ae}{nodes:List Int}(h:B_ g nodes=true):nodes.Nodup:=by
 rw[List.nodup_iff_pairwise_ne,List.pairwise_iff_getElem];intro i j hi hj hij e;have:=(CH h (List.getElem?_eq_getElem hj)).2;rw[<- e] at this;refine this ?_;rw[List.mem_take_iff_getElem];exact⟨i,by omega,rfl⟩
def Xj (a b:List Int):List Int:=a.filter fun x=>decide (x ∈ b)
def YX (l:List Int):Int:=l.foldl min (l.headD 0)
def Pr (g:Ae)(x ch:List Int)(n:Int):Int:=YX (Xj (Cf g x n.toNat) ch)
theorem Nt (p:Nat->Bool)(k:Nat):(Cm p k).Pairwise (·<·):=by
 induction k with
 | zero=>simp[Cm]
 | succ k ih =>
  rw[DC];split
  ·rw[List.pairwise_append];refine⟨ih,by simp,fun x hx y hy=>?_⟩;obtain⟨i,rfl,hi,_⟩:=Fy.1 hx;simp at hy
   omega
  ·exact ih
open Go
abbrev AO:=List UInt8
def BE (n:Nat):AO:=Lib.decDigits n
theorem CQ {n:Nat}(h:n<10):BE n=[UInt8.ofNat (48+n)]:=Lib.decDigits_one h
theorem Fa {n:Nat}(h:¬ n<10):BE n=BE (n / 10)++[UInt8.ofNat (48+n % 10)]:=by
 unfold BE;rw[Lib.decDigits,dif_neg h]
theorem H_ {d:Nat}(h:d<10):(UInt8.ofNat (48+d)).toNat=48+d:=by simp;omega
theorem ED (n:Nat):∀ b ∈ BE n,48<=b.toNat/\b.toNat<=57:=by
 induction n using Nat.strongRecOn with
 | ind n ih =>
  intro b hb;by_cases h:n<10
  ·rw[CQ h,List.mem_singleton] at hb;subst hb;rw[H_ h];omega
  ·rw[Fa h,List.mem_append,List.mem_singleton] at hb;rcases hb with hb | rfl
   ·exact ih (n / 10) (by omega) b hb
   ·rw[H_ (Nat.mod_lt _ (by omega))];omega
theorem Kd (n:Nat):BE n≠[]:=by
 by_cases h:n<10
 ·rw[CQ h];simp
 ·rw[Fa h];simp
def Is (n:Nat)(l:AO):Nat:=l.foldl (fun n b=>10 * n+(b.toNat - 48)) n
theorem Gz (n:Nat):Is 0 (BE n)=n:=by
 induction n using Nat.strongRecOn with
 | ind n ih =>
  by_cases h:n<10
  ·rw[CQ h];show 10 * 0+((UInt8.ofNat (48+n)).toNat - 48)=n;rw[H_ h];omega
  ·rw[Fa h];unfold Is;rw[List.foldl_append];have:=ih (n / 10) (by omega);unfold Is at this;rw[this];show 10 * (n / 10)+((UInt8.ofNat (48+n % 10)).toNat - 48)=n;rw[H_ (Nat.mod_lt _ (by omega))];omega
theorem UF {m n:Nat}(h:BE m=BE n):m=n:=by rw[<- Gz m,<- Gz n,h]
def JZ:Nat->AO->Option Nat
 | n,[]=>some n
 | n,b :: r=>if b.toNat<48\/57<b.toNat\/99<n then none else JZ (10 * n+(b.toNat - 48)) r
def AV (l:AO):Int:=match JZ 0 l with
 | none=>-1
 | some n=>if l=[]\/l≠BE n then -1 else n
theorem L1:∀ (l:AO)(n m:Nat),JZ n l=some m->m=Is n l/\(l≠[]->m<=999)
 | [],n,m,h=>by
  simp only[JZ,Option.some.injEq] at h;exact⟨h.symm,fun e=>absurd rfl e⟩
 | b :: r,n,m,h=>by
  unfold JZ at h;split at h
  ·cases h
  ·rename_i hb
   obtain⟨h1,h2⟩:=L1 r _ m h;refine⟨h1,fun _=>?_⟩;by_cases hr:r=[]
   ·subst hr;simp only[Is,List.foldl_nil] at h1;omega
   ·exact h2 hr
theorem zs0{p:Prop}(h:p:=by
 intro l;induction l with
 | nil=>intro k;exact Nat.le_refl _
 | cons c l ih=>intro k;exact Nat.le_trans (by omega:k<=10 * k+(c.toNat - 48)) (ih _)):p:=h
theorem SL:∀ (l:AO)(n:Nat),(∀ b ∈ l,48<=b.toNat/\b.toNat<=57)->Is n l<=999->JZ n l=some (Is n l)
 | [],_,_,_=>rfl
 | b :: r,n,hd,hs=>by
  have hb:=hd b (by simp)
  have hmono:∀ (l:AO) (k:Nat),k<=Is k l:=by
   exact zs0
  have hs':Is (10 * n+(b.toNat - 48)) r<=999:=hs;have h1:=hmono r (10 * n+(b.toNat - 48));unfold JZ;rw[if_neg (by omega)];exact SL r _ (fun c hc=>hd c (by simp[hc])) hs'
theorem NK {n:Nat}(h:n<=999):AV (BE n)=n:=by
 unfold AV;rw[SL (BE n) 0 (ED n) (by rw[Gz];exact h),Gz];simp only;rw[if_neg];rintro (h | h)
 ·exact Kd n h
 ·exact h rfl
theorem II {l:AO}(h:AV l≠-1):∃ n:Nat,n<=999/\l=BE n/\AV l=n:=by
 unfold AV at h ⊢;cases hr:JZ 0 l with
 | none=>rw[hr] at h;exact absurd rfl h
 | some m =>
  rw[hr] at h;simp only at h ⊢;split at h
  ·exact absurd rfl h
  ·rename_i hc
   rw[if_neg hc];have h1:l≠[]:=fun e=>hc (.inl e);have h2:l=BE m:=Decidable.byContradiction fun e=>hc (.inr e);exact⟨m,(L1 l 0 m hr).2 h1,h2,rfl⟩
theorem FV (l:AO):AV l = -1\/∃ n:Nat,AV l=n/\n<=999:=by
 by_cases h:AV l = -1
 ·exact .inl h
 ·obtain⟨n,h1,-,h3⟩:=II h;exact .inr ⟨n,h3,h1⟩
def C4 (l:AO):Option Nat:=match Lib.atoiAll l with
 | .ok v=>if 0<=v/\Lib.itoa v=l then some v.toNat else none
 | _=>none
theorem Iu (n:Nat):Lib.itoa (n:Int)=BE n:=by
 unfold Lib.itoa BE;rw[if_neg (by omega)];rfl
theorem NL:∀ (l:AO)(acc:Nat),(∀ b ∈ l,48<=b.toNat/\b.toNat<=57)->Is acc l<18446744073709551616->Lib.parseUint10 acc l= .ok (Is acc l)
 | [],_,_,_=>rfl
 | b :: r,acc,hd,hs=>by
  have hb:=hd b (by simp)
  have hmono:∀ (l:AO) (k:Nat),k<=Is k l:=by
   exact zs0
  have hs':Is (10 * acc+(b.toNat - 48)) r<18446744073709551616:=hs;have h1:=hmono r (10 * acc+(b.toNat - 48));unfold Lib.parseUint10;rw[if_pos hb,if_neg (by omega),if_neg (by omega),show acc * 10+(b.toNat - 48)=10 * acc+(b.toNat - 48) by omega];exact NL r _ (fun c hc=>hd c (by simp[hc])) hs'
theorem UG {n:Nat}(h:n<9223372036854775808):Lib.atoiAll (BE n)= .ok (n:Int):=by
 have hd:=ED n
 have hp:Lib.parseUint10 0 (BE n)= .ok n:=by
  have:=NL (BE n) 0 hd (by rw[Gz];omega);rwa [Gz] at this
 have hn:=Kd n;cases hl:BE n with
 | nil=>exact absurd hl hn
 | cons c r =>
  rw[hl] at hp hd;have hc:=hd c (by simp);unfold Lib.atoiAll;simp only;rw[if_neg (by omega:¬ (c.toNat=43\/c.toNat=45))];unfold Lib.parseMag;rw[if_neg (by simp),hp];simp only;rw[if_neg (by omega),if_neg (by omega),if_neg (by omega)]
theorem Py {n:Nat}(h:n<9223372036854775808):C4 (BE n)=some n:=by
 unfold C4;rw[UG h];simp only;rw[if_pos ⟨by omega,Iu n⟩];rfl
theorem Gx {l:AO}{n:Nat}(h:C4 l=some n):l=BE n/\n<9223372036854775808:=by
 unfold C4 at h;split at h
 ·rename_i v hv
  split at h
  ·rename_i hc
   simp only[Option.some.injEq] at h;subst h;have hb:=(Lib.atoiAll_bounds hv);obtain⟨k,rfl⟩:=Int.eq_ofNat_of_zero_le hc.1;refine⟨?_,by omega⟩;rw[<- hc.2,Iu];simp
  ·cases h
 ·cases h
theorem NI (l:AO):AV l=match C4 l with
  | some n=>if n<=999 then (n:Int) else -1
  | none=>-1:=by
 cases hd:C4 l with
 | some n =>
  obtain⟨rfl,hn⟩:=Gx hd;simp only;split
  ·rename_i h;exact NK h
  ·rename_i h
   by_cases hr:AV (BE n) = -1
   ·exact hr
   ·obtain⟨m,h1,h2,-⟩:=II hr;have:=UF h2;omega
 | none =>
  simp only;by_cases hr:AV l = -1
  ·exact hr
  ·obtain⟨m,h1,rfl,-⟩:=II hr;rw[Py (by omega)] at hd;cases hd
def AC (c:UInt8):AO->List AO
 | []=>[[]]
 | b :: r=>if b=c then [] :: AC c r else match AC c r with
  | []=>[[b]]
  | h :: t=>(b :: h) :: t
def DT (c:UInt8)(ls:List AO):AO:=Lib.join ls [c]
theorem CC (c:UInt8)(l:AO):AC c l≠[]:=by
 cases l with
 | nil=>simp[AC]
 | cons b r =>
  unfold AC;split
  ·simp
  ·split <;> simp
theorem FU {c b:UInt8}{r:AO}(h:b≠c){p:AO}{t:List AO}(hr:AC c r=p :: t):AC c (b :: r)=(b :: p) :: t:=by
 rw[AC,if_neg h,hr]
theorem NM (c:UInt8)(r:AO):AC c (c :: r)=[] :: AC c r:=by rw[AC,if_pos rfl]
theorem Eq {c:UInt8}:∀ (p r:AO),c ∉ p->AC c (p++c :: r)=p :: AC c r
 | [],r,_=>NM c r
 | b :: p,r,h=>by
  have hb:b≠c:=fun e=>h (by simp[e]);have hp:c ∉ p:=fun e=>h (by simp[e]);exact FU hb (Eq p r hp)
theorem DX {c:UInt8}:∀ (p:AO),c ∉ p->AC c p=[p]
 | [],_=>rfl
 | b :: p,h=>by
  have hb:b≠c:=fun e=>h (by simp[e]);have hp:c ∉ p:=fun e=>h (by simp[e]);exact FU hb (DX p hp)
theorem DN (c:UInt8)(p:AO):DT c [p]=p:=Lib.join_one _ _
theorem Dp (c:UInt8)(p q:AO)(t:List AO):DT c (p :: q :: t)=p++c :: DT c (q :: t):=by
 unfold DT;rw[Lib.join_cons,Lib.join_cons];simp[Lib.joinTail]
theorem K_ {c:UInt8}:∀ (ls:List AO),ls≠[]->(∀ p ∈ ls,c ∉ p)->AC c (DT c ls)=ls
 | [],h,_=>absurd rfl h
 | [p],_,h=>by rw[DN];exact DX p (h p (by simp))
 | p :: q :: t,_,h=>by
  rw[Dp,Eq p _ (h p (by simp)),K_ (q :: t) (by simp) (fun x hx=>h x (by simp[hx]))]
theorem H7 (c:UInt8):∀ (l:AO),DT c (AC c l)=l
 | []=>DN _ _
 | b :: r=>by
  have ih:=H7 c r;have hne:=CC c r;by_cases hb:b=c
  ·subst hb;rw[NM];cases hs:AC b r with
   | nil=>exact absurd hs hne
   | cons p t =>
    rw[Dp,<- hs,ih];rfl
  ·cases hs:AC c r with
   | nil=>exact absurd hs hne
   | cons p t =>
    rw[FU hb hs];rw[hs] at ih;cases t with
    | nil=>rw[DN] at ih ⊢;rw[ih]
    | cons q t=>rw[Dp] at ih ⊢;rw[<- ih];rfl
theorem L2 {c:UInt8}:∀ (l:AO),c ∉ l->Lib.index l [c] = -1
 | [],_=>rfl
 | b :: r,h=>by
  have hb:b≠c:=fun e=>h (by simp[e]);have:=L2 r (fun (e:c ∈ r)=>h (by simp[e]));unfold Lib.index;rw[this];simp[List.isPrefixOf,Ne.symm hb]
theorem L3 {c:UInt8}:∀ (p r:AO),c ∉ p->Lib.index (p++c :: r) [c]=p.length
 | [],r,_=>by simp[Lib.index,List.isPrefixOf]
 | b :: p,r,h=>by
  have hb:b≠c:=fun e=>h (by simp[e]);have ih:=L3 p r (fun (e:c ∈ p)=>h (by simp[e]));show Lib.index (b :: (p++c :: r)) [c]=_;unfold Lib.index;rw[ih];have:((p.length:Int) == -1)=false:=by rw[beq_eq_false_iff_ne];omega
  simp[List.isPrefixOf,Ne.symm hb,this]
theorem GK {c:UInt8}:∀ (l:AO),c ∈ l->∃ p r,l=p++c :: r/\c ∉ p
 | [],h=>by simp at h
 | b :: l,h=>by
  by_cases hb:b=c
  ·subst hb;exact⟨[],l,rfl,by simp⟩
  ·obtain⟨p,r,rfl,hp⟩:=GK l (by simpa[Ne.symm hb] using h);exact⟨b :: p,r,rfl,by simp[hp,Ne.symm hb]⟩
theorem Kg (c:UInt8):∀ (k:Nat) (l:AO),l.count c=k->Lib.splitK [c] 0 k l=AC c l
 | 0,l,h=>by
  rw[DX l (fun e=>by have:=List.count_pos_iff.2 e;rw[h] at this;omega)];rfl
 | k+1,l,h=>by
  have hpos:0<l.count c:=by omega
  obtain⟨p,r,rfl,hp⟩:=GK l (List.count_pos_iff.1 hpos);have hi:=L3 p r hp;rw[List.count_append,List.count_cons_self,List.count_eq_zero_of_not_mem hp] at h;unfold Lib.splitK;rw[hi,Eq p r hp];have:((p.length:Int) == -1)=false:=by rw[beq_eq_false_iff_ne];omega
  rw[this];simp only[Bool.false_eq_true,if_false,Int.toNat_natCast,Nat.add_zero,List.length_singleton];rw[List.take_left,List.drop_append,List.drop_eq_nil_of_le (by omega),List.nil_append,show p.length+1 - p.length=1 by omega];rw[show (c :: r).drop 1=r from rfl,Kg c k r (by omega)]
theorem UH (c:UInt8)(l:AO):Lib.split l [c]=AC c l:=by
 unfold Lib.split;rw[Lib.count_one];exact Kg c _ l rfl
theorem LO {c:UInt8}(p r:AO)(h:c ∉ p):Lib.cut (p++c :: r) [c]=(p,r,true):=by
 unfold Lib.cut;rw[L3 p r h,if_pos (by omega)];simp only[Int.toNat_natCast,List.length_singleton];rw[List.take_left,List.drop_append,List.drop_eq_nil_of_le (by omega),List.nil_append,show p.length+1 - p.length=1 by omega];rfl
theorem Ke {c:UInt8}(l:AO)(h:c ∉ l):Lib.cut l [c]=(l,[],false):=by
 unfold Lib.cut;rw[L2 l h,if_neg (by omega)]
end Sg
