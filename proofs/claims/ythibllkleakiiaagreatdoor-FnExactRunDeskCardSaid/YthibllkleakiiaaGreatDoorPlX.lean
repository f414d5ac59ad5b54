/- Texts of formulas in plain Lean: what is written is read back, and the other way. No program in sight. Conditions: in the theorems. -/
import Derived.Test.YthibllkleakiiaaGreatDoorPlN
import Derived.Test.YthibllkleakiiaaGreatDoorPlK
namespace Sg
def CE (k:Int):AR :=
 if k=2 then [97,100,100] else if k=3 then [115,117,98] else if k=4 then [109,117,108] else if k=5 then [109,105,110] else if k=6 then [109,97,120] else if k=7 then [108,101,115,115] else if k=8 then [105,102] else []
def CB (p:At):AR:=if p.kind=0 then BB p.n.toNat else if p.kind=1 then 114 :: BB p.n.toNat else CE p.kind
theorem Ki (a b c:Int)(n:Nat):CB ⟨0,a,b,c,n⟩=BB n:=by simp[CB]
theorem Jw (a b c:Int)(n:Nat):CB ⟨1,a,b,c,n⟩=114 :: BB n:=by simp[CB]
def FM (f:List At):AR:=if AU f=true then DG 32 ((BY f).map CB) else []
def CY (s:AR):Int :=
 if s=CE 2 then 2 else if s=CE 3 then 3 else if s=CE 4 then 4 else if s=CE 5 then 5 else if s=CE 6 then 6 else if s=CE 7 then 7 else if s=CE 8 then 8 else -1
theorem Fj {k:Int}(h:2<=k)(h':k<=8):CY (CE k)=k:=by
 have:k=2\/k=3\/k=4\/k=5\/k=6\/k=7\/k=8:=by omega
 rcases this with rfl | rfl | rfl | rfl | rfl | rfl | rfl <;> decide
theorem Ex (s:AR):CY s = -1\/(2<=CY s/\CY s<=8/\s=CE (CY s)):=by
 unfold CY;repeat' split
 all_goals first | exact .inl rfl | (rename_i h;exact .inr ⟨by decide,by decide,h⟩)
theorem LA {b:UInt8}{r:AR}(h:b≠97/\b≠115/\b≠109/\b≠108/\b≠105):CY (b :: r) = -1:=by
 rcases Ex (b :: r) with e | ⟨h2,h8,e⟩
 ·exact e
 ·generalize CY (b :: r)=k at *;exfalso
  have:k=2\/k=3\/k=4\/k=5\/k=6\/k=7\/k=8:=by omega
  rcases this with rfl | rfl | rfl | rfl | rfl | rfl | rfl <;> (injection e with e _;first | exact h.1 e | exact h.2.1 e | exact h.2.2.1 e | exact h.2.2.2.1 e | exact h.2.2.2.2 e)
theorem Sa (n:Nat):CY (BB n) = -1:=by
 have hd:=Es n;cases hl:BB n with
 | nil=>exact absurd hl (JL n)
 | cons b r =>
  rw[hl] at hd;have:=hd b (by simp);refine LA ⟨?_,?_,?_,?_,?_⟩ <;> (rintro rfl;revert this;decide)
theorem RW:CY [] = -1:=by decide
def Et (rn:AR->Option Nat)(s:AR):Option At :=
 if CY s≠-1 then some ⟨CY s,-1,-1,-1,0⟩
 else if s.head? = some 114 then (rn s.tail).map fun (n:Nat)=>(⟨1,-1,-1,-1,(n:Int)⟩:At) else (rn s).map fun (n:Nat)=>(⟨0,-1,-1,-1,(n:Int)⟩:At)
def K5 (p:At):List Int->At
 | [x,y]=>{ p with a:=x,b:=y }
 | [x,y,z]=>{ p with a:=x,b:=y,c:=z }
 | _=>p
def Dx (rn:AR->Option Nat)(st:List At × List Int)(w:AR):Option (List At × List Int) :=
 match Et rn w with
 | none=>none
 | some p=>if st.2.length<(AE p).length then none else
  some (st.1++[K5 p (st.2.drop (st.2.length - (AE p).length))],st.2.take (st.2.length - (AE p).length)++[(st.1.length:Int)])
def D9 (rn:AR->Option Nat):List AR->List At × List Int->Option (List At × List Int)
 | [],st=>some st
 | w :: ws,st=>match Dx rn st w with
  | none=>none
  | some st'=>D9 rn ws st'
theorem H8 (rn:AR->Option Nat):∀ (a b:List AR) (st:List At × List Int),D9 rn (a++b) st=match D9 rn a st with
  | none=>none
  | some st'=>D9 rn b st'
 | [],_,_=>rfl
 | w :: a,b,st=>by
  simp only[List.cons_append,D9];cases Dx rn st w with
  | none=>rfl
  | some st'=>exact H8 rn a b st'
def Ku (l:AR):Option Nat:=if AW l = -1 then none else some (AW l).toNat
def Cw (ws:List AR):Option (List At):=match D9 Ku ws ([],[]) with
 | some (f,o)=>if o.length=1/\AU f=true then some f else none
 | none=>none
def Ej (s:AR):Option (List At):=Cw (AB 32 s)
def IL:List AR->List At × List Int->Option (List At × List Int)
 | [],st=>some st
 | w :: ws,st=>match Dx CR st w with
  | none=>none
  | some st'=>if st.1.length=12 then none else IL ws st'
def Cr (s:AR):Option (List At):=match IL (AB 32 s) ([],[]) with
 | some (f,_)=>if AU f=true/\FM f=s then some (BY f) else none
 | none=>none
theorem Tz {l:AR}{n:Nat}(h:Ku l=some n):l=BB n/\n<=999:=by
 unfold Ku at h;split at h
 ·cases h
 ·rename_i hr
  obtain⟨m,h1,h2,h3⟩:=Ih hr;rw[h3] at h;simp only[Int.toNat_natCast,Option.some.injEq] at h;subst h;exact⟨h2,h1⟩
theorem Uy {n:Nat}(h:n<=999):Ku (BB n)=some n:=by
 unfold Ku;rw[MC h,if_neg (by omega)];rfl
def C6:List Tr->Nat->List At
 | [],_=>[]
 | t :: ts,b=>Ca t b++C6 ts (b+t.size)
def FE:List Tr->Nat
 | []=>0
 | t :: ts=>t.size+FE ts
def Jh:List Tr->Nat->List Int
 | [],_=>[]
 | t :: ts,b=>((b:Int)+t.size - 1) :: Jh ts (b+t.size)
@[simp] theorem flats_len:∀ (ts:List Tr) (b:Nat),(C6 ts b).length=FE ts
 | [],_=>rfl
 | t :: ts,b=>by simp[C6,FE,flats_len ts]
@[simp] theorem ends_len:∀ (ts:List Tr) (b:Nat),(Jh ts b).length=ts.length
 | [],_=>rfl
 | t :: ts,b=>by simp[Jh,ends_len ts]
theorem Kj:∀ (a b:List Tr),FE (a++b)=FE a+FE b
 | [],b=>by simp[FE]
 | t :: a,b=>by simp[FE,Kj a b];omega
theorem Dj:∀ (a b:List Tr)(k:Nat),C6 (a++b) k=C6 a k++C6 b (k+FE a)
 | [],b,k=>by simp[C6,FE]
 | t :: a,b,k=>by simp[C6,FE,Dj a b,Nat.add_assoc]
theorem H_:∀ (a b:List Tr)(k:Nat),Jh (a++b) k=Jh a k++Jh b (k+FE a)
 | [],b,k=>by simp[Jh,FE]
 | t :: a,b,k=>by simp[Jh,FE,H_ a b,Nat.add_assoc]
theorem LC {α:Type}(l:List α)(h:1<=l.length):∃ a x,l=a++[x]:=⟨l.dropLast,l.getLast (by intro e;subst e;simp at h),(List.dropLast_concat_getLast _).symm⟩
theorem Ol {α:Type}(l:List α)(h:2<=l.length):∃ a x y,l=a++[x,y]:=by
 obtain⟨a,y,rfl⟩:=LC l (by omega);obtain⟨b,x,rfl⟩:=LC a (by simp at h;omega);exact⟨b,x,y,by simp⟩
theorem P_ {α:Type}(l:List α)(h:3<=l.length):∃ a x y z,l=a++[x,y,z]:=by
 obtain⟨a,y,z,rfl⟩:=Ol l (by omega);obtain⟨b,x,rfl⟩:=LC a (by simp at h;omega);exact⟨b,x,y,z,by simp⟩
theorem Qa {rn:AR->Option Nat}{m:Nat}(hrn:∀ l n,rn l=some n->l=BB n/\n<=m){w:AR}{p:At}(h:Et rn w=some p) :
  (∃ n:Nat,n<=m/\(p=⟨0,-1,-1,-1,n⟩\/p=⟨1,-1,-1,-1,n⟩)/\CB p=w)\/(2<=p.kind/\p.kind<=8/\p=⟨p.kind,-1,-1,-1,0⟩/\w=CE p.kind):=by
 unfold Et at h;by_cases hk:CY w≠-1
 ·rw[if_pos hk] at h;simp only[Option.some.injEq] at h;subst h;rcases Ex w with e | ⟨h2,h8,e⟩
  ·exact absurd e hk
  ·exact .inr ⟨h2,h8,rfl,e⟩
 ·rw[if_neg hk] at h;left
  by_cases hr:w.head? = some 114
  ·rw[if_pos hr] at h;cases hn:rn w.tail with
   | none=>rw[hn] at h;cases h
   | some n =>
    rw[hn] at h;simp only[Option.map_some,Option.some.injEq] at h;subst h;obtain⟨h1,h2⟩:=hrn _ _ hn;refine⟨n,h2,.inr rfl,?_⟩;rw[Jw];cases w with
    | nil=>cases hr
    | cons b r =>
     simp only[List.head?_cons,Option.some.injEq] at hr;simp only[List.tail_cons] at h1;subst hr;rw[h1]
  ·rw[if_neg hr] at h;cases hn:rn w with
   | none=>rw[hn] at h;cases h
   | some n =>
    rw[hn] at h;simp only[Option.map_some,Option.some.injEq] at h;subst h;obtain⟨h1,h2⟩:=hrn _ _ hn;refine⟨n,h2,.inl rfl,?_⟩;rw[Ki,h1]
theorem Gv {k:Int}(h:2<=k)(x y z n:Int):CB ⟨k,x,y,z,n⟩=CE k:=by
 unfold CB;rw[if_neg (by simp only;omega),if_neg (by simp only;omega)]
theorem Om {rn:AR->Option Nat}{m:Nat}(hrn:∀ l n,rn l=some n->l=BB n/\n<=m){ts:List Tr}(hok:∀ t ∈ ts,t.ok m){w:AR}{st:List At × List Int}(h:Dx rn (C6 ts 0,Jh ts 0) w=some st):∃ us:List Tr,st=(C6 us 0,Jh us 0)/\(∀ t ∈ us,t.ok m)/\(C6 us 0).map CB=(C6 ts 0).map CB++[w]:=by
 unfold Dx at h;cases hp:Et rn w with
 | none=>rw[hp] at h;cases h
 | some p =>
  rw[hp] at h;simp only[ends_len,flats_len] at h;split at h
  ·cases h
  ·rename_i hlen
   simp only[Option.some.injEq] at h;rcases Qa hrn hp with ⟨n,hn,hpp,hw⟩ | ⟨h2,h8,hpe,hw⟩
   ·have hb:AE p=[]:=by rcases hpp with rfl | rfl <;> rfl
    have hs:K5 p []=p:=rfl;rw[hb] at h;simp only[List.length_nil,Nat.sub_zero] at h;rw[List.drop_eq_nil_of_le (by simp),List.take_of_length_le (by simp),hs] at h;refine⟨ts++[.leaf p.kind n],?_,?_,?_⟩
    ·rw[<- h,Dj,H_];rcases hpp with rfl | rfl <;> simp[C6,Ca,Jh,Tr.size]
    ·intro t ht;rcases List.mem_append.1 ht with ht | ht
     ·exact hok t ht
     ·rw[List.mem_singleton.1 ht];rcases hpp with rfl | rfl
      ·exact .inl ⟨rfl,by omega,by omega⟩
      ·exact .inr ⟨rfl,by omega,by omega⟩
    ·rw[Dj,List.map_append,<- hw];rcases hpp with rfl | rfl <;> rfl
   ·by_cases h8':p.kind=8
    ·have hb:(AE p).length=3:=by unfold AE;rw[if_pos h8'];rfl
     rw[hb] at h hlen;obtain⟨us,x,y,z,rfl⟩:=P_ ts (by omega);have hx:=hok x (by simp);have hy:=hok y (by simp);have hz:=hok z (by simp);refine⟨us++[.ite x y z],?_,?_,?_⟩
     ·rw[<- h,Dj,H_,Dj,H_];rw[List.drop_append,List.take_append];simp only[List.length_append,List.length_cons,List.length_nil,ends_len];rw[List.drop_eq_nil_of_le (by simp),List.take_of_length_le (by simp),show us.length+(0+1+1+1) - 3 - us.length=0 by omega];rw[hpe];simp only[Jh,C6,Ca,List.nil_append,List.drop_zero,List.take_zero,List.append_nil,K5,h8',Kj,FE,Tr.size,List.append_assoc];simp only[Prod.mk.injEq,List.append_cancel_left_eq,List.cons.injEq,and_true];refine⟨?_,?_⟩
      ·simp only[Nat.zero_add,Int.natCast_add,Int.add_assoc,Nat.add_assoc]
      ·simp only[Int.natCast_add];omega
     ·intro t ht;rcases List.mem_append.1 ht with ht | ht
      ·exact hok t (by simp[ht])
      ·rw[List.mem_singleton.1 ht];exact⟨hx,hy,hz⟩
     ·rw[Dj,Dj];simp only[C6,Ca,List.map_append,List.append_nil,List.append_assoc,List.map_cons,List.map_nil,List.append_cancel_left_eq,Nat.add_assoc];rw[Gv (by decide),hw,h8']
    ·have hk:2<=p.kind/\p.kind<=7:=⟨h2,by omega⟩;have hb:(AE p).length=2:=by unfold AE;rw[if_neg h8',if_pos hk];rfl
     rw[hb] at h hlen;obtain⟨us,x,y,rfl⟩:=Ol ts (by omega);have hx:=hok x (by simp);have hy:=hok y (by simp);refine⟨us++[.bin p.kind x y],?_,?_,?_⟩
     ·rw[<- h,Dj,H_,Dj,H_];rw[List.drop_append,List.take_append];simp only[List.length_append,List.length_cons,List.length_nil,ends_len];rw[List.drop_eq_nil_of_le (by simp),List.take_of_length_le (by simp),show us.length+(0+1+1) - 2 - us.length=0 by omega];generalize p.kind=pk at *;rw[hpe];simp only[Jh,C6,Ca,List.nil_append,List.drop_zero,List.take_zero,List.append_nil,K5,Kj,FE,Tr.size,List.append_assoc];simp only[Prod.mk.injEq,List.append_cancel_left_eq,List.cons.injEq,and_true];refine⟨?_,?_⟩
      ·simp only[Nat.zero_add,Int.natCast_add,Int.add_assoc]
      ·simp only[Int.natCast_add];omega
     ·intro t ht;rcases List.mem_append.1 ht with ht | ht
      ·exact hok t (by simp[ht])
      ·rw[List.mem_singleton.1 ht];exact⟨hk.1,hk.2,hx,hy⟩
     ·rw[Dj,Dj];simp only[C6,Ca,List.map_append,List.append_nil,List.append_assoc,List.map_cons,List.map_nil,List.append_cancel_left_eq,Nat.add_assoc];rw[Gv hk.1,hw]
theorem LE {rn:AR->Option Nat}{m:Nat}(hrn:∀ l n,rn l=some n->l=BB n/\n<=m):∀ (ws:List AR) {ts:List Tr} (_:∀ t ∈ ts,t.ok m) {st:List At × List Int},
  D9 rn ws (C6 ts 0,Jh ts 0)=some st->∃ us:List Tr,st=(C6 us 0,Jh us 0)/\(∀ t ∈ us,t.ok m)/\(C6 us 0).map CB=(C6 ts 0).map CB++ws
 | [],ts,hok,st,h=>by
  simp only[D9,Option.some.injEq] at h;exact⟨ts,h.symm,hok,by simp⟩
 | w :: ws,ts,hok,st,h=>by
  unfold D9 at h;cases hs:Dx rn (C6 ts 0,Jh ts 0) w with
  | none=>rw[hs] at h;cases h
  | some st' =>
   rw[hs] at h;obtain⟨us,rfl,h1,h2⟩:=Om hrn hok hs;obtain⟨vs,e,h3,h4⟩:=LE hrn ws h1 h;exact⟨vs,e,h3,by rw[h4,h2];simp⟩
theorem Ia {rn:AR->Option Nat}{m:Nat}(hrn:∀ n,n<=m->rn (BB n)=some n):∀ (t:Tr) (ps:List At) (op:List Int),t.ok m ->
  D9 rn ((Ca t ps.length).map CB) (ps,op)=some (ps++Ca t ps.length,op++[(ps.length:Int)+t.size - 1])
 | .leaf k n,ps,op,h=>by
  have key:Et rn (CB ⟨k,-1,-1,-1,n⟩)=some ⟨k,-1,-1,-1,n⟩:=by
   unfold Et;rcases h with ⟨rfl,h0,h1⟩ | ⟨rfl,h0,h1⟩
   ·obtain⟨n,rfl⟩:=Int.eq_ofNat_of_zero_le h0;rw[Ki,if_neg (by rw[Sa];simp),if_neg,hrn n (by omega)]
    ·rfl
    ·intro e;have hd:=Es n;cases hl:BB n with
     | nil=>exact JL n hl
     | cons b r =>
      rw[hl] at e hd;simp only[List.head?_cons,Option.some.injEq] at e;subst e;have:=hd 114 (by simp);revert this;decide
   ·obtain⟨n,rfl⟩:=Int.eq_ofNat_of_zero_le h0;rw[Jw,if_neg (by rw[LA (by decide)];simp),List.head?_cons,if_pos rfl,List.tail_cons,hrn n (by omega)];rfl
  have hb:AE (⟨k,-1,-1,-1,n⟩:At)=[]:=by rcases h with ⟨rfl,_⟩ | ⟨rfl,_⟩ <;> rfl
  show D9 rn [CB _] _=_;unfold D9 Dx;rw[key];simp only[hb,List.length_nil,Nat.not_lt_zero,if_false,Nat.sub_zero];rw[List.drop_eq_nil_of_le (Nat.le_refl _),List.take_of_length_le (Nat.le_refl _)];simp[D9,K5,Ca,Tr.size]
 | .bin k x y,ps,op,h=>by
  obtain⟨h2,h7,hx,hy⟩:=h;have ex:=Ia hrn x ps op hx;have ey:=Ia hrn y (ps++Ca x ps.length) (op++[(ps.length:Int)+x.size - 1]) hy;rw[List.length_append,flat_len] at ey;simp only[Ca,List.map_append];rw[H8,ex];simp only;rw[H8,ey];simp only[List.map_cons,List.map_nil];rw[Gv h2]
  have key:Et rn (CE k)=some ⟨k,-1,-1,-1,0⟩:=by
   unfold Et;rw[Fj h2 (by omega),if_pos (by omega)]
  have hb:(AE (⟨k,-1,-1,-1,0⟩:At)).length=2:=by unfold AE;rw[if_neg (by simp only;omega),if_pos ⟨h2,h7⟩];rfl
  unfold D9 Dx;rw[key];simp only[hb];rw[if_neg (by simp)];simp only[List.append_assoc,List.singleton_append,List.length_append,List.length_cons,List.length_nil];rw[show op.length+(0+1+1) - 2=op.length by omega,List.drop_left,List.take_left];simp only[D9,K5,Option.some.injEq,Prod.mk.injEq,Tr.size,flat_len,Int.natCast_add,List.append_cancel_left_eq,List.cons.injEq,and_true];refine⟨trivial,by omega⟩
 | .ite x y z,ps,op,h=>by
  obtain⟨hx,hy,hz⟩:=h;have ex:=Ia hrn x ps op hx;have ey:=Ia hrn y (ps++Ca x ps.length) (op++[(ps.length:Int)+x.size - 1]) hy;rw[List.length_append,flat_len] at ey;have ez:=Ia hrn z (ps++Ca x ps.length++Ca y (ps.length+x.size)) (op++[(ps.length:Int)+x.size - 1]++[((ps.length+x.size:Nat):Int)+y.size - 1]) hz;rw[List.length_append,List.length_append,flat_len,flat_len] at ez;simp only[Ca,List.map_append];rw[H8,ex];simp only;rw[H8,ey];simp only;rw[H8,ez];simp only[List.map_cons,List.map_nil];rw[Gv (by decide)]
  have key:Et rn (CE 8)=some ⟨8,-1,-1,-1,0⟩:=by
   unfold Et;rw[Fj (by decide) (by decide),if_pos (by decide)]
  have hb:(AE (⟨8,-1,-1,-1,0⟩:At)).length=3:=rfl;unfold D9 Dx;rw[key];simp only[hb];rw[if_neg (by simp)];simp only[List.append_assoc,List.cons_append,List.nil_append,List.length_append,List.length_cons,List.length_nil];rw[show op.length+(0+1+1+1) - 3=op.length by omega,List.drop_left,List.take_left];simp only[D9,K5,Option.some.injEq,Prod.mk.injEq,Tr.size,flat_len,Int.natCast_add,List.append_cancel_left_eq,List.cons.injEq,and_true];refine⟨trivial,by omega⟩
theorem Ky:∀ (ts:List Tr)(b i:Nat),(∀ t ∈ ts,t.fine)->i<b->(AQ (C6 ts b)).count (i:Int)=0
 | [],_,_,_,_=>rfl
 | t :: ts,b,i,h,hi=>by
  simp only[C6];rw[Fk,List.count_append,Cx t b i (h t (by simp)),if_neg (by omega),Ky ts (b+t.size) i (fun x hx=>h x (by simp[hx])) (by omega)]
theorem Qb {ts:List Tr}{m:Int}(hok:∀ t ∈ ts,t.ok m)(hv:AU (C6 ts 0)=true):∃ t,ts=[t]:=by
 cases ts with
 | nil=>exact absurd hv (by decide)
 | cons t us =>
  cases us with
  | nil=>exact⟨t,rfl⟩
  | cons u us =>
   exfalso
   have hc:=Jx hv (t.size - 1);have p1:=C_ t;have p2:=C_ u;rw[if_pos (by simp[FE];omega)] at hc;simp only[C6] at hc;have hf:=(hok t (by simp)).fine;rw[Fk,List.count_append,Cx t 0 _ hf,if_neg (by omega)] at hc;have:=Ky (u :: us) t.size (t.size - 1) (fun x hx=>(hok x (by simp[List.mem_cons] at hx ⊢;exact .inr hx)).fine) (by omega);simp only[C6] at this;simp only[Nat.zero_add] at hc;omega
theorem I_:∀ (t:Tr)(b:Nat){m:Int},t.ok m->(∀ p ∈ Ca t b,C8 p=true)->t.good
 | .leaf k n,b,m,h,ha=>by
  have:=ha _ (List.mem_singleton.2 rfl);unfold C8 at this;rcases h with ⟨rfl,h0,-⟩ | ⟨rfl,h0,-⟩
  ·refine .inl ⟨rfl,h0,?_⟩;simp[BZ] at this
   exact this.2
  ·refine .inr ⟨rfl,h0,?_⟩;simp[BZ] at this
   exact this.2
 | .bin k x y,b,m,h,ha=>⟨h.1,h.2.1,I_ x b h.2.2.1 (fun p hp=>ha p (by simp[Ca,hp])),I_ y (b+x.size) h.2.2.2 (fun p hp=>ha p (by simp[Ca,hp]))⟩
 | .ite x y z,b,m,h,ha=>⟨I_ x b h.1 (fun p hp=>ha p (by simp[Ca,hp])),I_ y (b+x.size) h.2.1 (fun p hp=>ha p (by simp[Ca,hp])),I_ z (b+x.size+y.size) h.2.2 (fun p hp=>ha p (by simp[Ca,hp]))⟩
theorem On {f:List At}(h:AU f=true):∀ p ∈ f,C8 p=true:=fun p hp=>by
 obtain⟨i,hi,rfl⟩:=List.getElem_of_mem hp;have:=Da h i _ (List.getElem?_eq_getElem hi);unfold A_ at this;rw[Bool.and_eq_true] at this;exact this.1
theorem Sb (t:Tr):C6 [t] 0=Ca t 0:=by simp[C6]
theorem ML {rn:AR->Option Nat}{m:Nat}(hrn:∀ l n,rn l=some n->l=BB n/\n<=m){ws:List AR}{f:List At}{o:List Int}(h:D9 rn ws ([],[])=some (f,o))(hv:AU f=true) :
  ∃ t:Tr,f=Ca t 0/\t.good/\t.size<=12/\f.map CB=ws:=by
 obtain⟨us,e,h1,h2⟩:=LE hrn ws (ts:=[]) (fun _ h=>by cases h) h;simp only[Prod.mk.injEq] at e;obtain⟨rfl,rfl⟩:=e;obtain⟨t,rfl⟩:=Qb h1 hv;rw[Sb] at hv h2 ⊢;have hl:=Cn hv;rw[flat_len] at hl;exact⟨t,rfl,I_ t 0 (h1 t (by simp)) (On hv),hl.2,by simpa[C6] using h2⟩
theorem TA (l:AR)(n:Nat)(h:CR l=some n):l=BB n/\n<=9223372036854775807:=⟨(Ga h).1,by have:=(Ga h).2;omega⟩
theorem Oo {rn:AR->Option Nat}(hrn:∀ n,n<=99->rn (BB n)=some n){t:Tr}(h:t.good):D9 rn ((Ca t 0).map CB) ([],[])=some (Ca t 0,[(t.size:Int) - 1]):=by
 have:=Ia (m:=99) hrn t [] [] h.ok;simpa using this
theorem Qc (p:At)(h:(p.kind=0\/p.kind=1\/(2<=p.kind/\p.kind<=8))):(32:UInt8) ∉ CB p/\(10:UInt8) ∉ CB p:=by
 have hd:=Es p.n.toNat;have h1:(32:UInt8) ∉ BB p.n.toNat:=fun e=>by have:=hd _ e;revert this;decide
 have h2:(10:UInt8) ∉ BB p.n.toNat:=fun e=>by have:=hd _ e;revert this;decide
 unfold CB;split
 ·exact⟨h1,h2⟩
 ·split
  ·exact⟨by simp[h1],by simp[h2]⟩
  ·have:p.kind=2\/p.kind=3\/p.kind=4\/p.kind=5\/p.kind=6\/p.kind=7\/p.kind=8:=by omega
   rcases this with e | e | e | e | e | e | e <;> rw[e] <;> exact⟨by decide,by decide⟩
theorem Fl:∀ (t:Tr)(b:Nat),t.fine->∀ p ∈ Ca t b,p.kind=0\/p.kind=1\/(2<=p.kind/\p.kind<=8)
 | .leaf k n,b,h,p,hp=>by
  rw[Ca,List.mem_singleton] at hp;subst hp;rcases h with h | h
  ·exact .inl h
  ·exact .inr (.inl h)
 | .bin k x y,b,h,p,hp=>by
  simp only[Ca,List.mem_append,List.mem_singleton] at hp;rcases hp with hp | hp | rfl
  ·exact Fl x _ h.2.2.1 p hp
  ·exact Fl y _ h.2.2.2 p hp
  ·exact .inr (.inr ⟨h.1,by have:=h.2.1;simp only;omega⟩)
 | .ite x y z,b,h,p,hp=>by
  simp only[Ca,List.mem_append,List.mem_singleton] at hp;rcases hp with hp | hp | hp | rfl
  ·exact Fl x _ h.1 p hp
  ·exact Fl y _ h.2.1 p hp
  ·exact Fl z _ h.2.2 p hp
  ·exact .inr (.inr ⟨show (2:Int)<=8 by decide,show (8:Int)<=8 by decide⟩)
theorem TB {t:Tr}(b:Nat):(Ca t b).map CB≠[]:=fun e=>by
 have:=congrArg List.length e;have:=C_ t;simp at *
 omega
theorem Kz {t:Tr}(h:t.fine):AB 32 (DG 32 ((Ca t 0).map CB))=(Ca t 0).map CB:=by
 refine Kw _ (TB 0) fun p hp=>?_;obtain⟨q,hq,rfl⟩:=List.mem_map.1 hp;exact(Qc q (Fl t 0 h q hq)).1
theorem Oq {t:Tr}(h:t.good)(hs:t.size<=12):FM (Ca t 0)=DG 32 ((Ca t 0).map CB):=by
 unfold FM;rw[if_pos (In h hs),FP h hs]
theorem Ig {s:AR}{f:List At}(h:Ej s=some f):AU f=true/\BY f=f/\FM f=s/\∃ t:Tr,f=Ca t 0/\t.good/\t.size<=12:=by
 unfold Ej Cw at h;split at h
 ·rename_i f' o hr
  split at h
  ·rename_i hc
   simp only[Option.some.injEq] at h;subst h;obtain⟨t,rfl,hg,hs,hw⟩:=ML (fun l n h=>Tz h) hr hc.2;exact⟨hc.2,FP hg hs,by rw[Oq hg hs,hw,GM],t,rfl,hg,hs⟩
  ·cases h
 ·cases h
theorem Qd {t:Tr}(h:t.good)(hs:t.size<=12):Ej (DG 32 ((Ca t 0).map CB))=some (Ca t 0):=by
 unfold Ej Cw;rw[Kz h.fine,Oo (fun n hn=>Uy (by omega)) h];simp only;rw[if_pos ⟨rfl,In h hs⟩]
theorem TC:∀ (ws:List AR)(st st':List At × List Int),IL ws st=some st'->D9 CR ws st=some st'
 | [],_,_,h=>h
 | w :: ws,st,st',h=>by
  unfold IL at h;unfold D9;cases hs:Dx CR st w with
  | none=>rw[hs] at h;cases h
  | some s1 =>
   rw[hs] at h;simp only at h ⊢;split at h
   ·cases h
   ·exact TC ws s1 st' h
theorem TD {rn:AR->Option Nat}{st st':List At × List Int}{w:AR}(h:Dx rn st w=some st'):st'.1.length=st.1.length+1:=by
 unfold Dx at h;split at h
 ·cases h
 ·split at h
  ·cases h
  ·simp only[Option.some.injEq] at h;subst h;simp
theorem TE:∀ (ws:List AR)(st st':List At × List Int),D9 CR ws st=some st'->st.1.length+ws.length<=12->IL ws st=some st'
 | [],_,_,h,_=>h
 | w :: ws,st,st',h,hl=>by
  unfold D9 at h;unfold IL;cases hs:Dx CR st w with
  | none=>rw[hs] at h;cases h
  | some s1 =>
   rw[hs] at h;simp only[List.length_cons] at h hl ⊢;have:=TD hs;rw[if_neg (by omega)];exact TE ws s1 st' h (by omega)
theorem Gb (s:AR):Cr s=Ej s:=by
 have key:∀ f,Cr s=some f->Ej s=some f:=fun f h=>by
  unfold Cr at h;split at h
  ·rename_i f' o hr
   split at h
   ·rename_i hc
    simp only[Option.some.injEq] at h;obtain⟨t,rfl,hg,hs,hw⟩:=ML TA (TC _ _ _ hr) hc.1;rw[FP hg hs] at h;subst h;have:=Qd hg hs;rw[hw,GM] at this;exact this
   ·cases h
  ·cases h
 have key2:∀ f,Ej s=some f->Cr s=some f:=fun f h=>by
  obtain⟨hv,ho,hf,t,rfl,hg,hs⟩:=Ig h;have hw:AB 32 s=(Ca t 0).map CB:=by rw[<- hf,Oq hg hs,Kz hg.fine]
  unfold Cr;rw[hw,TE _ _ _ (Oo (fun n hn=>N9 (by omega)) hg) (by simp;omega)];simp only;rw[if_pos ⟨hv,hf⟩,ho]
 cases h1:Cr s with
 | some f=>rw[key f h1]
 | none =>
  cases h2:Ej s with
  | none=>rfl
  | some f=>rw[key2 f h2] at h1;cases h1
end Sg
