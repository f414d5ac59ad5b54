/- Texts in plain Lean: numerals, and texts cut at a byte. No program in sight. Conditions: none. -/
import Derived.Lib.AtoiTie
import Derived.Lib.AtoiBound
import Derived.Lib.ItoaNum
import Derived.Lib.SplitLaws
import Derived.Lib.Join
namespace Sg
open Go
abbrev AR:=List UInt8
def BB (n:Nat):AR:=Lib.decDigits n
theorem CG {n:Nat}(h:n<10):BB n=[UInt8.ofNat (48+n)]:=Lib.decDigits_one h
theorem EL {n:Nat}(h:¬ n<10):BB n=BB (n / 10)++[UInt8.ofNat (48+n % 10)]:=by
 unfold BB;rw[Lib.decDigits,dif_neg h]
theorem GO {d:Nat}(h:d<10):(UInt8.ofNat (48+d)).toNat=48+d:=by simp;omega
theorem Es (n:Nat):∀ b ∈ BB n,48<=b.toNat/\b.toNat<=57:=by
 induction n using Nat.strongRecOn with
 | ind n ih =>
  intro b hb;by_cases h:n<10
  ·rw[CG h,List.mem_singleton] at hb;subst hb;rw[GO h];omega
  ·rw[EL h,List.mem_append,List.mem_singleton] at hb;rcases hb with hb | rfl
   ·exact ih (n / 10) (by omega) b hb
   ·rw[GO (Nat.mod_lt _ (by omega))];omega
theorem JL (n:Nat):BB n≠[]:=by
 by_cases h:n<10
 ·rw[CG h];simp
 ·rw[EL h];simp
def Hj (n:Nat)(l:AR):Nat:=l.foldl (fun n b=>10 * n+(b.toNat - 48)) n
theorem Gc (n:Nat):Hj 0 (BB n)=n:=by
 induction n using Nat.strongRecOn with
 | ind n ih =>
  by_cases h:n<10
  ·rw[CG h];show 10 * 0+((UInt8.ofNat (48+n)).toNat - 48)=n;rw[GO h];omega
  ·rw[EL h];unfold Hj;rw[List.foldl_append];have:=ih (n / 10) (by omega);unfold Hj at this;rw[this];show 10 * (n / 10)+((UInt8.ofNat (48+n % 10)).toNat - 48)=n;rw[GO (Nat.mod_lt _ (by omega))];omega
theorem Tp {m n:Nat}(h:BB m=BB n):m=n:=by rw[<- Gc m,<- Gc n,h]
def Jt:Nat->AR->Option Nat
 | n,[]=>some n
 | n,b :: r=>if b.toNat<48\/57<b.toNat\/99<n then none else Jt (10 * n+(b.toNat - 48)) r
def AW (l:AR):Int:=match Jt 0 l with
 | none=>-1
 | some n=>if l=[]\/l≠BB n then -1 else n
theorem Lj:∀ (l:AR)(n m:Nat),Jt n l=some m->m=Hj n l/\(l≠[]->m<=999)
 | [],n,m,h=>by
  simp only[Jt,Option.some.injEq] at h;exact⟨h.symm,fun e=>absurd rfl e⟩
 | b :: r,n,m,h=>by
  unfold Jt at h;split at h
  ·cases h
  ·rename_i hb
   obtain⟨h1,h2⟩:=Lj r _ m h;refine⟨h1,fun _=>?_⟩;by_cases hr:r=[]
   ·subst hr;simp only[Hj,List.foldl_nil] at h1;omega
   ·exact h2 hr
theorem Rn:∀ (l:AR)(n:Nat),(∀ b ∈ l,48<=b.toNat/\b.toNat<=57)->Hj n l<=999->Jt n l=some (Hj n l)
 | [],_,_,_=>rfl
 | b :: r,n,hd,hs=>by
  have hb:=hd b (by simp)
  have hmono:∀ (l:AR) (k:Nat),k<=Hj k l:=by
   intro l;induction l with
   | nil=>intro k;exact Nat.le_refl _
   | cons c l ih=>intro k;exact Nat.le_trans (by omega:k<=10 * k+(c.toNat - 48)) (ih _)
  have hs':Hj (10 * n+(b.toNat - 48)) r<=999:=hs;have h1:=hmono r (10 * n+(b.toNat - 48));unfold Jt;rw[if_neg (by omega)];exact Rn r _ (fun c hc=>hd c (by simp[hc])) hs'
theorem MC {n:Nat}(h:n<=999):AW (BB n)=n:=by
 unfold AW;rw[Rn (BB n) 0 (Es n) (by rw[Gc];exact h),Gc];simp only;rw[if_neg];rintro (h | h)
 ·exact JL n h
 ·exact h rfl
theorem Ih {l:AR}(h:AW l≠-1):∃ n:Nat,n<=999/\l=BB n/\AW l=n:=by
 unfold AW at h ⊢;cases hr:Jt 0 l with
 | none=>rw[hr] at h;exact absurd rfl h
 | some m =>
  rw[hr] at h;simp only at h ⊢;split at h
  ·exact absurd rfl h
  ·rename_i hc
   rw[if_neg hc];have h1:l≠[]:=fun e=>hc (.inl e);have h2:l=BB m:=Decidable.byContradiction fun e=>hc (.inr e);exact⟨m,(Lj l 0 m hr).2 h1,h2,rfl⟩
theorem FA (l:AR):AW l = -1\/∃ n:Nat,AW l=n/\n<=999:=by
 by_cases h:AW l = -1
 ·exact .inl h
 ·obtain⟨n,h1,-,h3⟩:=Ih h;exact .inr ⟨n,h3,h1⟩
def CR (l:AR):Option Nat:=match Lib.atoiAll l with
 | .ok v=>if 0<=v/\Lib.itoa v=l then some v.toNat else none
 | _=>none
theorem Ht (n:Nat):Lib.itoa (n:Int)=BB n:=by
 unfold Lib.itoa BB;rw[if_neg (by omega)];rfl
theorem ME:∀ (l:AR)(acc:Nat),(∀ b ∈ l,48<=b.toNat/\b.toNat<=57)->Hj acc l<18446744073709551616->Lib.parseUint10 acc l= .ok (Hj acc l)
 | [],_,_,_=>rfl
 | b :: r,acc,hd,hs=>by
  have hb:=hd b (by simp)
  have hmono:∀ (l:AR) (k:Nat),k<=Hj k l:=by
   intro l;induction l with
   | nil=>intro k;exact Nat.le_refl _
   | cons c l ih=>intro k;exact Nat.le_trans (by omega:k<=10 * k+(c.toNat - 48)) (ih _)
  have hs':Hj (10 * acc+(b.toNat - 48)) r<18446744073709551616:=hs;have h1:=hmono r (10 * acc+(b.toNat - 48));unfold Lib.parseUint10;rw[if_pos hb,if_neg (by omega),if_neg (by omega),show acc * 10+(b.toNat - 48)=10 * acc+(b.toNat - 48) by omega];exact ME r _ (fun c hc=>hd c (by simp[hc])) hs'
theorem Tq {n:Nat}(h:n<9223372036854775808):Lib.atoiAll (BB n)= .ok (n:Int):=by
 have hd:=Es n
 have hp:Lib.parseUint10 0 (BB n)= .ok n:=by
  have:=ME (BB n) 0 hd (by rw[Gc];omega);rwa [Gc] at this
 have hn:=JL n;cases hl:BB n with
 | nil=>exact absurd hl hn
 | cons c r =>
  rw[hl] at hp hd;have hc:=hd c (by simp);unfold Lib.atoiAll;simp only;rw[if_neg (by omega:¬ (c.toNat=43\/c.toNat=45))];unfold Lib.parseMag;rw[if_neg (by simp),hp];simp only;rw[if_neg (by omega),if_neg (by omega),if_neg (by omega)]
theorem N9 {n:Nat}(h:n<9223372036854775808):CR (BB n)=some n:=by
 unfold CR;rw[Tq h];simp only;rw[if_pos ⟨by omega,Ht n⟩];rfl
theorem Ga {l:AR}{n:Nat}(h:CR l=some n):l=BB n/\n<9223372036854775808:=by
 unfold CR at h;split at h
 ·rename_i v hv
  split at h
  ·rename_i hc
   simp only[Option.some.injEq] at h;subst h;have hb:=(Lib.atoiAll_bounds hv);obtain⟨k,rfl⟩:=Int.eq_ofNat_of_zero_le hc.1;refine⟨?_,by omega⟩;rw[<- hc.2,Ht];simp
  ·cases h
 ·cases h
theorem MA (l:AR):AW l=match CR l with
  | some n=>if n<=999 then (n:Int) else -1
  | none=>-1:=by
 cases hd:CR l with
 | some n =>
  obtain⟨rfl,hn⟩:=Ga hd;simp only;split
  ·rename_i h;exact MC h
  ·rename_i h
   by_cases hr:AW (BB n) = -1
   ·exact hr
   ·obtain⟨m,h1,h2,-⟩:=Ih hr;have:=Tp h2;omega
 | none =>
  simp only;by_cases hr:AW l = -1
  ·exact hr
  ·obtain⟨m,h1,rfl,-⟩:=Ih hr;rw[N9 (by omega)] at hd;cases hd
def AB (c:UInt8):AR->List AR
 | []=>[[]]
 | b :: r=>if b=c then [] :: AB c r else match AB c r with
  | []=>[[b]]
  | h :: t=>(b :: h) :: t
def DG (c:UInt8)(ls:List AR):AR:=Lib.join ls [c]
theorem Cv (c:UInt8)(l:AR):AB c l≠[]:=by
 cases l with
 | nil=>simp[AB]
 | cons b r =>
  unfold AB;split
  ·simp
  ·split <;> simp
theorem Fz {c b:UInt8}{r:AR}(h:b≠c){p:AR}{t:List AR}(hr:AB c r=p :: t):AB c (b :: r)=(b :: p) :: t:=by
 rw[AB,if_neg h,hr]
theorem MF (c:UInt8)(r:AR):AB c (c :: r)=[] :: AB c r:=by rw[AB,if_pos rfl]
theorem Ei {c:UInt8}:∀ (p r:AR),c ∉ p->AB c (p++c :: r)=p :: AB c r
 | [],r,_=>MF c r
 | b :: p,r,h=>by
  have hb:b≠c:=fun e=>h (by simp[e]);have hp:c ∉ p:=fun e=>h (by simp[e]);exact Fz hb (Ei p r hp)
theorem DJ {c:UInt8}:∀ (p:AR),c ∉ p->AB c p=[p]
 | [],_=>rfl
 | b :: p,h=>by
  have hb:b≠c:=fun e=>h (by simp[e]);have hp:c ∉ p:=fun e=>h (by simp[e]);exact Fz hb (DJ p hp)
theorem DM (c:UInt8)(p:AR):DG c [p]=p:=Lib.join_one _ _
theorem Dt (c:UInt8)(p q:AR)(t:List AR):DG c (p :: q :: t)=p++c :: DG c (q :: t):=by
 unfold DG;rw[Lib.join_cons,Lib.join_cons];simp[Lib.joinTail]
theorem Kw {c:UInt8}:∀ (ls:List AR),ls≠[]->(∀ p ∈ ls,c ∉ p)->AB c (DG c ls)=ls
 | [],h,_=>absurd rfl h
 | [p],_,h=>by rw[DM];exact DJ p (h p (by simp))
 | p :: q :: t,_,h=>by
  rw[Dt,Ei p _ (h p (by simp)),Kw (q :: t) (by simp) (fun x hx=>h x (by simp[hx]))]
theorem GM (c:UInt8):∀ (l:AR),DG c (AB c l)=l
 | []=>DM _ _
 | b :: r=>by
  have ih:=GM c r;have hne:=Cv c r;by_cases hb:b=c
  ·subst hb;rw[MF];cases hs:AB b r with
   | nil=>exact absurd hs hne
   | cons p t =>
    rw[Dt,<- hs,ih];rfl
  ·cases hs:AB c r with
   | nil=>exact absurd hs hne
   | cons p t =>
    rw[Fz hb hs];rw[hs] at ih;cases t with
    | nil=>rw[DM] at ih ⊢;rw[ih]
    | cons q t=>rw[Dt] at ih ⊢;rw[<- ih];rfl
theorem Lk {c:UInt8}:∀ (l:AR),c ∉ l->Lib.index l [c] = -1
 | [],_=>rfl
 | b :: r,h=>by
  have hb:b≠c:=fun e=>h (by simp[e]);have:=Lk r (fun (e:c ∈ r)=>h (by simp[e]));unfold Lib.index;rw[this];simp[List.isPrefixOf,Ne.symm hb]
theorem Ll {c:UInt8}:∀ (p r:AR),c ∉ p->Lib.index (p++c :: r) [c]=p.length
 | [],r,_=>by simp[Lib.index,List.isPrefixOf]
 | b :: p,r,h=>by
  have hb:b≠c:=fun e=>h (by simp[e]);have ih:=Ll p r (fun (e:c ∈ p)=>h (by simp[e]));show Lib.index (b :: (p++c :: r)) [c]=_;unfold Lib.index;rw[ih];have:((p.length:Int) == -1)=false:=by rw[beq_eq_false_iff_ne];omega
  simp[List.isPrefixOf,Ne.symm hb,this]
theorem Gr {c:UInt8}:∀ (l:AR),c ∈ l->∃ p r,l=p++c :: r/\c ∉ p
 | [],h=>by simp at h
 | b :: l,h=>by
  by_cases hb:b=c
  ·subst hb;exact⟨[],l,rfl,by simp⟩
  ·obtain⟨p,r,rfl,hp⟩:=Gr l (by simpa[Ne.symm hb] using h);exact⟨b :: p,r,rfl,by simp[hp,Ne.symm hb]⟩
theorem JO (c:UInt8):∀ (k:Nat) (l:AR),l.count c=k->Lib.splitK [c] 0 k l=AB c l
 | 0,l,h=>by
  rw[DJ l (fun e=>by have:=List.count_pos_iff.2 e;rw[h] at this;omega)];rfl
 | k+1,l,h=>by
  have hpos:0<l.count c:=by omega
  obtain⟨p,r,rfl,hp⟩:=Gr l (List.count_pos_iff.1 hpos);have hi:=Ll p r hp;rw[List.count_append,List.count_cons_self,List.count_eq_zero_of_not_mem hp] at h;unfold Lib.splitK;rw[hi,Ei p r hp];have:((p.length:Int) == -1)=false:=by rw[beq_eq_false_iff_ne];omega
  rw[this];simp only[Bool.false_eq_true,if_false,Int.toNat_natCast,Nat.add_zero,List.length_singleton];rw[List.take_left,List.drop_append,List.drop_eq_nil_of_le (by omega),List.nil_append,show p.length+1 - p.length=1 by omega];rw[show (c :: r).drop 1=r from rfl,JO c k r (by omega)]
theorem Ts (c:UInt8)(l:AR):Lib.split l [c]=AB c l:=by
 unfold Lib.split;rw[Lib.count_one];exact JO c _ l rfl
theorem K_ {c:UInt8}(p r:AR)(h:c ∉ p):Lib.cut (p++c :: r) [c]=(p,r,true):=by
 unfold Lib.cut;rw[Ll p r h,if_pos (by omega)];simp only[Int.toNat_natCast,List.length_singleton];rw[List.take_left,List.drop_append,List.drop_eq_nil_of_le (by omega),List.nil_append,show p.length+1 - p.length=1 by omega];rfl
theorem JM {c:UInt8}(l:AR)(h:c ∉ l):Lib.cut l [c]=(l,[],false):=by
 unfold Lib.cut;rw[Lk l h,if_neg (by omega)]
end Sg
