/- Parts of one proof, joined. Own graphs among own things: a node more. Conditions: none. -/
import Derived.Test.YthibllkleakiiaaGreatDoorPlN
import Derived.Test.YthibllkleakiiaaGreatDoorSepP
import Derived.Laws.Strings3
namespace Sg
def CM (k:Int):AO :=
 if k=2 then [97,100,100] else if k=3 then [115,117,98] else if k=4 then [109,117,108] else if k=5 then [109,105,110] else if k=6 then [109,97,120] else if k=7 then [108,101,115,115] else if k=8 then [105,102] else []
def Cp (p:At):AO:=if p.kind=0 then BE p.n.toNat else if p.kind=1 then 114 :: BE p.n.toNat else CM p.kind
theorem JB (a b c:Int)(n:Nat):Cp ⟨0,a,b,c,n⟩=BE n:=by simp[Cp]
theorem IP (a b c:Int)(n:Nat):Cp ⟨1,a,b,c,n⟩=114 :: BE n:=by simp[Cp]
def EY (f:List At):AO:=if AR f=true then DT 32 ((Bv f).map Cp) else []
def C9 (s:AO):Int :=
 if s=CM 2 then 2 else if s=CM 3 then 3 else if s=CM 4 then 4 else if s=CM 5 then 5 else if s=CM 6 then 6 else if s=CM 7 then 7 else if s=CM 8 then 8 else -1
theorem Fz {k:Int}(h:2<=k)(h':k<=8):C9 (CM k)=k:=by
 have:k=2\/k=3\/k=4\/k=5\/k=6\/k=7\/k=8:=by omega
 rcases this with rfl | rfl | rfl | rfl | rfl | rfl | rfl <;> decide
theorem EJ (s:AO):C9 s = -1\/(2<=C9 s/\C9 s<=8/\s=CM (C9 s)):=by
 unfold C9;repeat' split
 all_goals first | exact .inl rfl | (rename_i h;exact .inr ⟨by decide,by decide,h⟩)
theorem Mh {b:UInt8}{r:AO}(h:b≠97/\b≠115/\b≠109/\b≠108/\b≠105):C9 (b :: r) = -1:=by
 rcases EJ (b :: r) with e | ⟨h2,h8,e⟩
 ·exact e
 ·generalize C9 (b :: r)=k at *;exfalso
  have:k=2\/k=3\/k=4\/k=5\/k=6\/k=7\/k=8:=by omega
  rcases this with rfl | rfl | rfl | rfl | rfl | rfl | rfl <;> (injection e with e _;first | exact h.1 e | exact h.2.1 e | exact h.2.2.1 e | exact h.2.2.2.1 e | exact h.2.2.2.2 e)
theorem TG (n:Nat):C9 (BE n) = -1:=by
 have hd:=ED n;cases hl:BE n with
 | nil=>exact absurd hl (Kd n)
 | cons b r =>
  rw[hl] at hd;have:=hd b (by simp);refine Mh ⟨?_,?_,?_,?_,?_⟩ <;> (rintro rfl;revert this;decide)
theorem Tx:C9 [] = -1:=by decide
def EF (rn:AO->Option Nat)(s:AO):Option At :=
 if C9 s≠-1 then some ⟨C9 s,-1,-1,-1,0⟩
 else if s.head? = some 114 then (rn s.tail).map fun (n:Nat)=>(⟨1,-1,-1,-1,(n:Int)⟩:At) else (rn s).map fun (n:Nat)=>(⟨0,-1,-1,-1,(n:Int)⟩:At)
def LK (p:At):List Int->At
 | [x,y]=>{ p with a:=x,b:=y }
 | [x,y,z]=>{ p with a:=x,b:=y,c:=z }
 | _=>p
def DM (rn:AO->Option Nat)(st:List At × List Int)(w:AO):Option (List At × List Int) :=
 match EF rn w with
 | none=>none
 | some p=>if st.2.length<(AD p).length then none else
  some (st.1++[LK p (st.2.drop (st.2.length - (AD p).length))],st.2.take (st.2.length - (AD p).length)++[(st.1.length:Int)])
def Ej (rn:AO->Option Nat):List AO->List At × List Int->Option (List At × List Int)
 | [],st=>some st
 | w :: ws,st=>match DM rn st w with
  | none=>none
  | some st'=>Ej rn ws st'
theorem Ix (rn:AO->Option Nat):∀ (a b:List AO) (st:List At × List Int),Ej rn (a++b) st=match Ej rn a st with
  | none=>none
  | some st'=>Ej rn b st'
 | [],_,_=>rfl
 | w :: a,b,st=>by
  simp only[List.cons_append,Ej];cases DM rn st w with
  | none=>rfl
  | some st'=>exact Ix rn a b st'
def K9 (l:AO):Option Nat:=if AV l = -1 then none else some (AV l).toNat
def CD (ws:List AO):Option (List At):=match Ej K9 ws ([],[]) with
 | some (f,o)=>if o.length=1/\AR f=true then some f else none
 | none=>none
def Es (s:AO):Option (List At):=CD (AC 32 s)
def Jh:List AO->List At × List Int->Option (List At × List Int)
 | [],st=>some st
 | w :: ws,st=>match DM C4 st w with
  | none=>none
  | some st'=>if st.1.length=12 then none else Jh ws st'
def Cz (s:AO):Option (List At):=match Jh (AC 32 s) ([],[]) with
 | some (f,_)=>if AR f=true/\EY f=s then some (Bv f) else none
 | none=>none
theorem UO {l:AO}{n:Nat}(h:K9 l=some n):l=BE n/\n<=999:=by
 unfold K9 at h;split at h
 ·cases h
 ·rename_i hr
  obtain⟨m,h1,h2,h3⟩:=II hr;rw[h3] at h;simp only[Int.toNat_natCast,Option.some.injEq] at h;subst h;exact⟨h2,h1⟩
theorem VV {n:Nat}(h:n<=999):K9 (BE n)=some n:=by
 unfold K9;rw[NK h,if_neg (by omega)];rfl
def Dg:List Tr->Nat->List At
 | [],_=>[]
 | t :: ts,b=>Ce t b++Dg ts (b+t.size)
def F4:List Tr->Nat
 | []=>0
 | t :: ts=>t.size+F4 ts
def JL:List Tr->Nat->List Int
 | [],_=>[]
 | t :: ts,b=>((b:Int)+t.size - 1) :: JL ts (b+t.size)
@[simp] theorem flats_len:∀ (ts:List Tr) (b:Nat),(Dg ts b).length=F4 ts
 | [],_=>rfl
 | t :: ts,b=>by simp[Dg,F4,flats_len ts]
@[simp] theorem ends_len:∀ (ts:List Tr) (b:Nat),(JL ts b).length=ts.length
 | [],_=>rfl
 | t :: ts,b=>by simp[JL,ends_len ts]
theorem KS:∀ (a b:List Tr),F4 (a++b)=F4 a+F4 b
 | [],b=>by simp[F4]
 | t :: a,b=>by simp[F4,KS a b];omega
theorem Dw:∀ (a b:List Tr)(k:Nat),Dg (a++b) k=Dg a k++Dg b (k+F4 a)
 | [],b,k=>by simp[Dg,F4]
 | t :: a,b,k=>by simp[Dg,F4,Dw a b,Nat.add_assoc]
theorem Iy:∀ (a b:List Tr)(k:Nat),JL (a++b) k=JL a k++JL b (k+F4 a)
 | [],b,k=>by simp[JL,F4]
 | t :: a,b,k=>by simp[JL,F4,Iy a b,Nat.add_assoc]
theorem Mi {α:Type}(l:List α)(h:1<=l.length):∃ a x,l=a++[x]:=⟨l.dropLast,l.getLast (by intro e;subst e;simp at h),(List.dropLast_concat_getLast _).symm⟩
theorem PL {α:Type}(l:List α)(h:2<=l.length):∃ a x y,l=a++[x,y]:=by
 obtain⟨a,y,rfl⟩:=Mi l (by omega);obtain⟨b,x,rfl⟩:=Mi a (by simp at h;omega);exact⟨b,x,y,by simp⟩
theorem Rp {α:Type}(l:List α)(h:3<=l.length):∃ a x y z,l=a++[x,y,z]:=by
 obtain⟨a,y,z,rfl⟩:=PL l (by omega);obtain⟨b,x,rfl⟩:=Mi a (by simp at h;omega);exact⟨b,x,y,z,by simp⟩
theorem Rq {rn:AO->Option Nat}{m:Nat}(hrn:∀ l n,rn l=some n->l=BE n/\n<=m){w:AO}{p:At}(h:EF rn w=some p) :
  (∃ n:Nat,n<=m/\(p=⟨0,-1,-1,-1,n⟩\/p=⟨1,-1,-1,-1,n⟩)/\Cp p=w)\/(2<=p.kind/\p.kind<=8/\p=⟨p.kind,-1,-1,-1,0⟩/\w=CM p.kind):=by
 unfold EF at h;by_cases hk:C9 w≠-1
 ·rw[if_pos hk] at h;simp only[Option.some.injEq] at h;subst h;rcases EJ w with e | ⟨h2,h8,e⟩
  ·exact absurd e hk
  ·exact .inr ⟨h2,h8,rfl,e⟩
 ·rw[if_neg hk] at h;left
  by_cases hr:w.head? = some 114
  ·rw[if_pos hr] at h;cases hn:rn w.tail with
   | none=>rw[hn] at h;cases h
   | some n =>
    rw[hn] at h;simp only[Option.map_some,Option.some.injEq] at h;subst h;obtain⟨h1,h2⟩:=hrn _ _ hn;refine⟨n,h2,.inr rfl,?_⟩;rw[IP];cases w with
    | nil=>cases hr
    | cons b r =>
     simp only[List.head?_cons,Option.some.injEq] at hr;simp only[List.tail_cons] at h1;subst hr;rw[h1]
  ·rw[if_neg hr] at h;cases hn:rn w with
   | none=>rw[hn] at h;cases h
   | some n =>
    rw[hn] at h;simp only[Option.map_some,Option.some.injEq] at h;subst h;obtain⟨h1,h2⟩:=hrn _ _ hn;refine⟨n,h2,.inl rfl,?_⟩;rw[JB,h1]
theorem FA {k:Int}(h:2<=k)(x y z n:Int):Cp ⟨k,x,y,z,n⟩=CM k:=by
 unfold Cp;rw[if_neg (by simp only;omega),if_neg (by simp only;omega)]
theorem PM {rn:AO->Option Nat}{m:Nat}(hrn:∀ l n,rn l=some n->l=BE n/\n<=m){ts:List Tr}(hok:∀ t ∈ ts,t.ok m){w:AO}{st:List At × List Int}(h:DM rn (Dg ts 0,JL ts 0) w=some st):∃ us:List Tr,st=(Dg us 0,JL us 0)/\(∀ t ∈ us,t.ok m)/\(Dg us 0).map Cp=(Dg ts 0).map Cp++[w]:=by
 unfold DM at h;cases hp:EF rn w with
 | none=>rw[hp] at h;cases h
 | some p =>
  rw[hp] at h;simp only[ends_len,flats_len] at h;split at h
  ·cases h
  ·rename_i hlen
   simp only[Option.some.injEq] at h;rcases Rq hrn hp with ⟨n,hn,hpp,hw⟩ | ⟨h2,h8,hpe,hw⟩
   ·have hb:AD p=[]:=by rcases hpp with rfl | rfl <;> rfl
    have hs:LK p []=p:=rfl;rw[hb] at h;simp only[List.length_nil,Nat.sub_zero] at h;rw[List.drop_eq_nil_of_le (by simp),List.take_of_length_le (by simp),hs] at h;refine⟨ts++[.leaf p.kind n],?_,?_,?_⟩
    ·rw[<- h,Dw,Iy];rcases hpp with rfl | rfl <;> simp[Dg,Ce,JL,Tr.size]
    ·intro t ht;rcases List.mem_append.1 ht with ht | ht
     ·exact hok t ht
     ·rw[List.mem_singleton.1 ht];rcases hpp with rfl | rfl
      ·exact .inl ⟨rfl,by omega,by omega⟩
      ·exact .inr ⟨rfl,by omega,by omega⟩
    ·rw[Dw,List.map_append,<- hw];rcases hpp with rfl | rfl <;> rfl
   ·by_cases h8':p.kind=8
    ·have hb:(AD p).length=3:=by unfold AD;rw[if_pos h8'];rfl
     rw[hb] at h hlen;obtain⟨us,x,y,z,rfl⟩:=Rp ts (by omega);have hx:=hok x (by simp);have hy:=hok y (by simp);have hz:=hok z (by simp);refine⟨us++[.ite x y z],?_,?_,?_⟩
     ·rw[<- h,Dw,Iy,Dw,Iy];rw[List.drop_append,List.take_append];simp only[List.length_append,List.length_cons,List.length_nil,ends_len];rw[List.drop_eq_nil_of_le (by simp),List.take_of_length_le (by simp),show us.length+(0+1+1+1) - 3 - us.length=0 by omega];rw[hpe];simp only[JL,Dg,Ce,List.nil_append,List.drop_zero,List.take_zero,List.append_nil,LK,h8',KS,F4,Tr.size,List.append_assoc];simp only[Prod.mk.injEq,List.append_cancel_left_eq,List.cons.injEq,and_true];refine⟨?_,?_⟩
      ·simp only[Nat.zero_add,Int.natCast_add,Int.add_assoc,Nat.add_assoc]
      ·simp only[Int.natCast_add];omega
     ·intro t ht;rcases List.mem_append.1 ht with ht | ht
      ·exact hok t (by simp[ht])
      ·rw[List.mem_singleton.1 ht];exact⟨hx,hy,hz⟩
     ·rw[Dw,Dw];simp only[Dg,Ce,List.map_append,List.append_nil,List.append_assoc,List.map_cons,List.map_nil,List.append_cancel_left_eq,Nat.add_assoc];rw[FA (by decide),hw,h8']
    ·have hk:2<=p.kind/\p.kind<=7:=⟨h2,by omega⟩;have hb:(AD p).length=2:=by unfold AD;rw[if_neg h8',if_pos hk];rfl
     rw[hb] at h hlen;obtain⟨us,x,y,rfl⟩:=PL ts (by omega);have hx:=hok x (by simp);have hy:=hok y (by simp);refine⟨us++[.bin p.kind x y],?_,?_,?_⟩
     ·rw[<- h,Dw,Iy,Dw,Iy];rw[List.drop_append,List.take_append];simp only[List.length_append,List.length_cons,List.length_nil,ends_len];rw[List.drop_eq_nil_of_le (by simp),List.take_of_length_le (by simp),show us.length+(0+1+1) - 2 - us.length=0 by omega];generalize p.kind=pk at *;rw[hpe];simp only[JL,Dg,Ce,List.nil_append,List.drop_zero,List.take_zero,List.append_nil,LK,KS,F4,Tr.size,List.append_assoc];simp only[Prod.mk.injEq,List.append_cancel_left_eq,List.cons.injEq,and_true];refine⟨?_,?_⟩
      ·simp only[Nat.zero_add,Int.natCast_add,Int.add_assoc]
      ·simp only[Int.natCast_add];omega
     ·intro t ht;rcases List.mem_append.1 ht with ht | ht
      ·exact hok t (by simp[ht])
      ·rw[List.mem_singleton.1 ht];exact⟨hk.1,hk.2,hx,hy⟩
     ·rw[Dw,Dw];simp only[Dg,Ce,List.map_append,List.append_nil,List.append_assoc,List.map_cons,List.map_nil,List.append_cancel_left_eq,Nat.add_assoc];rw[FA hk.1,hw]
theorem Mj {rn:AO->Option Nat}{m:Nat}(hrn:∀ l n,rn l=some n->l=BE n/\n<=m):∀ (ws:List AO) {ts:List Tr} (_:∀ t ∈ ts,t.ok m) {st:List At × List Int},
  Ej rn ws (Dg ts 0,JL ts 0)=some st->∃ us:List Tr,st=(Dg us 0,JL us 0)/\(∀ t ∈ us,t.ok m)/\(Dg us 0).map Cp=(Dg ts 0).map Cp++ws
 | [],ts,hok,st,h=>by
  simp only[Ej,Option.some.injEq] at h;exact⟨ts,h.symm,hok,by simp⟩
 | w :: ws,ts,hok,st,h=>by
  unfold Ej at h;cases hs:DM rn (Dg ts 0,JL ts 0) w with
  | none=>rw[hs] at h;cases h
  | some st' =>
   rw[hs] at h;obtain⟨us,rfl,h1,h2⟩:=PM hrn hok hs;obtain⟨vs,e,h3,h4⟩:=Mj hrn ws h1 h;exact⟨vs,e,h3,by rw[h4,h2];simp⟩
theorem Iz {rn:AO->Option Nat}{m:Nat}(hrn:∀ n,n<=m->rn (BE n)=some n):∀ (t:Tr) (ps:List At) (op:List Int),t.ok m ->
  Ej rn ((Ce t ps.length).map Cp) (ps,op)=some (ps++Ce t ps.length,op++[(ps.length:Int)+t.size - 1])
 | .leaf k n,ps,op,h=>by
  have key:EF rn (Cp ⟨k,-1,-1,-1,n⟩)=some ⟨k,-1,-1,-1,n⟩:=by
   unfold EF;rcases h with ⟨rfl,h0,h1⟩ | ⟨rfl,h0,h1⟩
   ·obtain⟨n,rfl⟩:=Int.eq_ofNat_of_zero_le h0;rw[JB,if_neg (by rw[TG];simp),if_neg,hrn n (by omega)]
    ·rfl
    ·intro e;have hd:=ED n;cases hl:BE n with
     | nil=>exact Kd n hl
     | cons b r =>
      rw[hl] at e hd;simp only[List.head?_cons,Option.some.injEq] at e;subst e;have:=hd 114 (by simp);revert this;decide
   ·obtain⟨n,rfl⟩:=Int.eq_ofNat_of_zero_le h0;rw[IP,if_neg (by rw[Mh (by decide)];simp),List.head?_cons,if_pos rfl,List.tail_cons,hrn n (by omega)];rfl
  have hb:AD (⟨k,-1,-1,-1,n⟩:At)=[]:=by rcases h with ⟨rfl,_⟩ | ⟨rfl,_⟩ <;> rfl
  show Ej rn [Cp _] _=_;unfold Ej DM;rw[key];simp only[hb,List.length_nil,Nat.not_lt_zero,if_false,Nat.sub_zero];rw[List.drop_eq_nil_of_le (Nat.le_refl _),List.take_of_length_le (Nat.le_refl _)];simp[Ej,LK,Ce,Tr.size]
 | .bin k x y,ps,op,h=>by
  obtain⟨h2,h7,hx,hy⟩:=h;have ex:=Iz hrn x ps op hx;have ey:=Iz hrn y (ps++Ce x ps.length) (op++[(ps.length:Int)+x.size - 1]) hy;rw[List.length_append,flat_len] at ey;simp only[Ce,List.map_append];rw[Ix,ex];simp only;rw[Ix,ey];simp only[List.map_cons,List.map_nil];rw[FA h2]
  have key:EF rn (CM k)=some ⟨k,-1,-1,-1,0⟩:=by
   unfold EF;rw[Fz h2 (by omega),if_pos (by omega)]
  have hb:(AD (⟨k,-1,-1,-1,0⟩:At)).length=2:=by unfold AD;rw[if_neg (by simp only;omega),if_pos ⟨h2,h7⟩];rfl
  unfold Ej DM;rw[key];simp only[hb];rw[if_neg (by simp)];simp only[List.append_assoc,List.singleton_append,List.length_append,List.length_cons,List.length_nil];rw[show op.length+(0+1+1) - 2=op.length by omega,List.drop_left,List.take_left];simp only[Ej,LK,Option.some.injEq,Prod.mk.injEq,Tr.size,flat_len,Int.natCast_add,List.append_cancel_left_eq,List.cons.injEq,and_true];refine⟨trivial,by omega⟩
 | .ite x y z,ps,op,h=>by
  obtain⟨hx,hy,hz⟩:=h;have ex:=Iz hrn x ps op hx;have ey:=Iz hrn y (ps++Ce x ps.length) (op++[(ps.length:Int)+x.size - 1]) hy;rw[List.length_append,flat_len] at ey;have ez:=Iz hrn z (ps++Ce x ps.length++Ce y (ps.length+x.size)) (op++[(ps.length:Int)+x.size - 1]++[((ps.length+x.size:Nat):Int)+y.size - 1]) hz;rw[List.length_append,List.length_append,flat_len,flat_len] at ez;simp only[Ce,List.map_append];rw[Ix,ex];simp only;rw[Ix,ey];simp only;rw[Ix,ez];simp only[List.map_cons,List.map_nil];rw[FA (by decide)]
  have key:EF rn (CM 8)=some ⟨8,-1,-1,-1,0⟩:=by
   unfold EF;rw[Fz (by decide) (by decide),if_pos (by decide)]
  have hb:(AD (⟨8,-1,-1,-1,0⟩:At)).length=3:=rfl;unfold Ej DM;rw[key];simp only[hb];rw[if_neg (by simp)];simp only[List.append_assoc,List.cons_append,List.nil_append,List.length_append,List.length_cons,List.length_nil];rw[show op.length+(0+1+1+1) - 3=op.length by omega,List.drop_left,List.take_left];simp only[Ej,LK,Option.some.injEq,Prod.mk.injEq,Tr.size,flat_len,Int.natCast_add,List.append_cancel_left_eq,List.cons.injEq,and_true];refine⟨trivial,by omega⟩
theorem Lb:∀ (ts:List Tr)(b i:Nat),(∀ t ∈ ts,t.fine)->i<b->(AQ (Dg ts b)).count (i:Int)=0
 | [],_,_,_,_=>rfl
 | t :: ts,b,i,h,hi=>by
  simp only[Dg];rw[FB,List.count_append,CE t b i (h t (by simp)),if_neg (by omega),Lb ts (b+t.size) i (fun x hx=>h x (by simp[hx])) (by omega)]
theorem Rr {ts:List Tr}{m:Int}(hok:∀ t ∈ ts,t.ok m)(hv:AR (Dg ts 0)=true):∃ t,ts=[t]:=by
 cases ts with
 | nil=>exact absurd hv (by decide)
 | cons t us =>
  cases us with
  | nil=>exact⟨t,rfl⟩
  | cons u us =>
   exfalso
   have hc:=J2 hv (t.size - 1);have p1:=Dk t;have p2:=Dk u;rw[if_pos (by simp[F4];omega)] at hc;simp only[Dg] at hc;have hf:=(hok t (by simp)).fine;rw[FB,List.count_append,CE t 0 _ hf,if_neg (by omega)] at hc;have:=Lb (u :: us) t.size (t.size - 1) (fun x hx=>(hok x (by simp[List.mem_cons] at hx ⊢;exact .inr hx)).fine) (by omega);simp only[Dg] at this;simp only[Nat.zero_add] at hc;omega
theorem JC:∀ (t:Tr)(b:Nat){m:Int},t.ok m->(∀ p ∈ Ce t b,Di p=true)->t.good
 | .leaf k n,b,m,h,ha=>by
  have:=ha _ (List.mem_singleton.2 rfl);unfold Di at this;rcases h with ⟨rfl,h0,-⟩ | ⟨rfl,h0,-⟩
  ·refine .inl ⟨rfl,h0,?_⟩;simp[Cb] at this
   exact this.2
  ·refine .inr ⟨rfl,h0,?_⟩;simp[Cb] at this
   exact this.2
 | .bin k x y,b,m,h,ha=>⟨h.1,h.2.1,JC x b h.2.2.1 (fun p hp=>ha p (by simp[Ce,hp])),JC y (b+x.size) h.2.2.2 (fun p hp=>ha p (by simp[Ce,hp]))⟩
 | .ite x y z,b,m,h,ha=>⟨JC x b h.1 (fun p hp=>ha p (by simp[Ce,hp])),JC y (b+x.size) h.2.1 (fun p hp=>ha p (by simp[Ce,hp])),JC z (b+x.size+y.size) h.2.2 (fun p hp=>ha p (by simp[Ce,hp]))⟩
theorem PN {f:List At}(h:AR f=true):∀ p ∈ f,Di p=true:=fun p hp=>by
 obtain⟨i,hi,rfl⟩:=List.getElem_of_mem hp;have:=CY h i _ (List.getElem?_eq_getElem hi);unfold AZ at this;rw[Bool.and_eq_true] at this;exact this.1
theorem TH (t:Tr):Dg [t] 0=Ce t 0:=by simp[Dg]
theorem NT {rn:AO->Option Nat}{m:Nat}(hrn:∀ l n,rn l=some n->l=BE n/\n<=m){ws:List AO}{f:List At}{o:List Int}(h:Ej rn ws ([],[])=some (f,o))(hv:AR f=true) :
  ∃ t:Tr,f=Ce t 0/\t.good/\t.size<=12/\f.map Cp=ws:=by
 obtain⟨us,e,h1,h2⟩:=Mj hrn ws (ts:=[]) (fun _ h=>by cases h) h;simp only[Prod.mk.injEq] at e;obtain⟨rfl,rfl⟩:=e;obtain⟨t,rfl⟩:=Rr h1 hv;rw[TH] at hv h2 ⊢;have hl:=Cg hv;rw[flat_len] at hl;exact⟨t,rfl,JC t 0 (h1 t (by simp)) (PN hv),hl.2,by simpa[Dg] using h2⟩
theorem UP (l:AO)(n:Nat)(h:C4 l=some n):l=BE n/\n<=9223372036854775807:=⟨(Gx h).1,by have:=(Gx h).2;omega⟩
theorem PO {rn:AO->Option Nat}(hrn:∀ n,n<=99->rn (BE n)=some n){t:Tr}(h:t.good):Ej rn ((Ce t 0).map Cp) ([],[])=some (Ce t 0,[(t.size:Int) - 1]):=by
 have:=Iz (m:=99) hrn t [] [] h.ok;simpa using this
theorem Rs (p:At)(h:(p.kind=0\/p.kind=1\/(2<=p.kind/\p.kind<=8))):(32:UInt8) ∉ Cp p/\(10:UInt8) ∉ Cp p:=by
 have hd:=ED p.n.toNat;have h1:(32:UInt8) ∉ BE p.n.toNat:=fun e=>by have:=hd _ e;revert this;decide
 have h2:(10:UInt8) ∉ BE p.n.toNat:=fun e=>by have:=hd _ e;revert this;decide
 unfold Cp;split
 ·exact⟨h1,h2⟩
 ·split
  ·exact⟨by simp[h1],by simp[h2]⟩
  ·have:p.kind=2\/p.kind=3\/p.kind=4\/p.kind=5\/p.kind=6\/p.kind=7\/p.kind=8:=by omega
   rcases this with e | e | e | e | e | e | e <;> rw[e] <;> exact⟨by decide,by decide⟩
theorem FC:∀ (t:Tr)(b:Nat),t.fine->∀ p ∈ Ce t b,p.kind=0\/p.kind=1\/(2<=p.kind/\p.kind<=8)
 | .leaf k n,b,h,p,hp=>by
  rw[Ce,List.mem_singleton] at hp;subst hp;rcases h with h | h
  ·exact .inl h
  ·exact .inr (.inl h)
 | .bin k x y,b,h,p,hp=>by
  simp only[Ce,List.mem_append,List.mem_singleton] at hp;rcases hp with hp | hp | rfl
  ·exact FC x _ h.2.2.1 p hp
  ·exact FC y _ h.2.2.2 p hp
  ·exact .inr (.inr ⟨h.1,by have:=h.2.1;simp only;omega⟩)
 | .ite x y z,b,h,p,hp=>by
  simp only[Ce,List.mem_append,List.mem_singleton] at hp;rcases hp with hp | hp | hp | rfl
  ·exact FC x _ h.1 p hp
  ·exact FC y _ h.2.1 p hp
  ·exact FC z _ h.2.2 p hp
  ·exact .inr (.inr ⟨show (2:Int)<=8 by decide,show (8:Int)<=8 by decide⟩)
theorem UQ {t:Tr}(b:Nat):(Ce t b).map Cp≠[]:=fun e=>by
 have:=congrArg List.length e;have:=Dk t;simp at *
 omega
theorem Lc {t:Tr}(h:t.fine):AC 32 (DT 32 ((Ce t 0).map Cp))=(Ce t 0).map Cp:=by
 refine K_ _ (UQ 0) fun p hp=>?_;obtain⟨q,hq,rfl⟩:=List.mem_map.1 hp;exact(Rs q (FC t 0 h q hq)).1
theorem PQ {t:Tr}(h:t.good)(hs:t.size<=12):EY (Ce t 0)=DT 32 ((Ce t 0).map Cp):=by
 unfold EY;rw[if_pos (IQ h hs),Gh h hs]
theorem IG {s:AO}{f:List At}(h:Es s=some f):AR f=true/\Bv f=f/\EY f=s/\∃ t:Tr,f=Ce t 0/\t.good/\t.size<=12:=by
 unfold Es CD at h;split at h
 ·rename_i f' o hr
  split at h
  ·rename_i hc
   simp only[Option.some.injEq] at h;subst h;obtain⟨t,rfl,hg,hs,hw⟩:=NT (fun l n h=>UO h) hr hc.2;exact⟨hc.2,Gh hg hs,by rw[PQ hg hs,hw,H7],t,rfl,hg,hs⟩
  ·cases h
 ·cases h
theorem Rt {t:Tr}(h:t.good)(hs:t.size<=12):Es (DT 32 ((Ce t 0).map Cp))=some (Ce t 0):=by
 unfold Es CD;rw[Lc h.fine,PO (fun n hn=>VV (by omega)) h];simp only;rw[if_pos ⟨rfl,IQ h hs⟩]
theorem UR:∀ (ws:List AO)(st st':List At × List Int),Jh ws st=some st'->Ej C4 ws st=some st'
 | [],_,_,h=>h
 | w :: ws,st,st',h=>by
  unfold Jh at h;unfold Ej;cases hs:DM C4 st w with
  | none=>rw[hs] at h;cases h
  | some s1 =>
   rw[hs] at h;simp only at h ⊢;split at h
   ·cases h
   ·exact UR ws s1 st' h
theorem US {rn:AO->Option Nat}{st st':List At × List Int}{w:AO}(h:DM rn st w=some st'):st'.1.length=st.1.length+1:=by
 unfold DM at h;split at h
 ·cases h
 ·split at h
  ·cases h
  ·simp only[Option.some.injEq] at h;subst h;simp
theorem UT:∀ (ws:List AO)(st st':List At × List Int),Ej C4 ws st=some st'->st.1.length+ws.length<=12->Jh ws st=some st'
 | [],_,_,h,_=>h
 | w :: ws,st,st',h,hl=>by
  unfold Ej at h;unfold Jh;cases hs:DM C4 st w with
  | none=>rw[hs] at h;cases h
  | some s1 =>
   rw[hs] at h;simp only[List.length_cons] at h hl ⊢;have:=US hs;rw[if_neg (by omega)];exact UT ws s1 st' h (by omega)
theorem Gy (s:AO):Cz s=Es s:=by
 have key:∀ f,Cz s=some f->Es s=some f:=fun f h=>by
  unfold Cz at h;split at h
  ·rename_i f' o hr
   split at h
   ·rename_i hc
    simp only[Option.some.injEq] at h;obtain⟨t,rfl,hg,hs,hw⟩:=NT UP (UR _ _ _ hr) hc.1;rw[Gh hg hs] at h;subst h;have:=Rt hg hs;rw[hw,H7] at this;exact this
   ·cases h
  ·cases h
 have key2:∀ f,Es s=some f->Cz s=some f:=fun f h=>by
  obtain⟨hv,ho,hf,t,rfl,hg,hs⟩:=IG h;have hw:AC 32 s=(Ce t 0).map Cp:=by rw[<- hf,PQ hg hs,Lc hg.fine]
  unfold Cz;rw[hw,UT _ _ _ (PO (fun n hn=>Py (by omega)) hg) (by simp;omega)];simp only;rw[if_pos ⟨hv,hf⟩,ho]
 cases h1:Cz s with
 | some f=>rw[key f h1]
 | none =>
  cases h2:Es s with
  | none=>rfl
  | some f=>rw[key2 f h2] at h1;cases h1
end Sg
namespace Go.Proofs.YthibllkleakiiaaGreatDoor
open Go.RowKit
abbrev tx (s:ByteArray):Sg.AO:=s.data.toList
abbrev ts (l:Sg.AO):ByteArray:=⟨l.toArray⟩
theorem Fm (l:Sg.AO):tx (ts l)=l:=rfl
theorem Ti (s:ByteArray):ts (tx s)=s:=by cases s;rfl
theorem K2 {a b:ByteArray}(h:tx a=tx b):a=b:=by rw[<- Ti a,<- Ti b,h]
theorem DU (s:ByteArray):s.size=(tx s).length:=by cases s;rfl
theorem BB (l:Sg.AO):(ts l).size=l.length:=rfl
theorem XI (a b:ByteArray):tx (a++b)=tx a++tx b:=by simp[tx,ByteArray.data_append]
theorem OQ (s:ByteArray)(i j:Nat):tx (s.extract i j)=((tx s).drop i).take (j - i):=by simp[tx,ByteArray.data_extract]
theorem Qf (s:ByteArray)(i:Nat):s[i]? = (tx s)[i]? := by
 by_cases h:i<s.size
 ·rw[ByteArray.getElem?_lt' s i h];have h2:i<(tx s).length:=by rw[<- DU];exact h
  rw[gg h2];rfl
 ·rw[ByteArray.getElem?_ge' s i h,List.getElem?_eq_none (by rw[<- DU];omega)]
theorem YE (s:ByteArray):s.toList=tx s:=ByteArray.toList_eq s
theorem BY (a b:Sg.AO):ts a++ts b=ts (a++b):=K2 (XI _ _)
theorem K8 {a b:Sg.AO}:ts a=ts b↔a=b:=⟨fun h=>by rw[<- Fm a,<- Fm b,h],fun h=>by rw[h]⟩
def Bh (ls:List ByteArray):List Value:=ls.map Value.string
@[simp] theorem length_strs (ls:List ByteArray):(Bh ls).length=ls.length:=by simp[Bh]
theorem Pj (ls:List ByteArray)(i:Nat):(Bh ls)[i]? = ls[i]?.map Value.string:=by simp[Bh]
theorem FK (ls:List ByteArray)(s:ByteArray):Bh ls++[.string s]=Bh (ls++[s]):=by simp[Bh]
theorem IX (s:ByteArray):∀ u ∈ [Value.string s],u.oneCell'=true:=by intro u hu;rw[List.mem_singleton] at hu;subst hu;rfl
theorem Rd.lenT {w:World}{A:Option Addr}{n:Nat}{l:List ByteArray}(h:Rd w 1 A n (Bh l)):l.length=n:=by have:=h.1;simp at this;omega
theorem Rd.atT {w:World}{A:Option Addr}{n:Nat}{l:List ByteArray}(h:Rd w 1 A n (Bh l)){k:Nat}(hk:k<n) :
  ∃ b o s,A=some ⟨b,o,none⟩/\l[k]? = some s/\w.cell? ⟨b,o+k,none⟩=some (.string s):=by
 have hl:=h.lenT;obtain⟨h1,_,h2⟩:=h;obtain⟨b,o,rfl,h3⟩:=h2 (by omega);have hx:l[k]? = some l[k]:=gg (by omega);exact⟨b,o,_,rfl,hx,h3 k _ (by rw[Pj,hx];rfl)⟩
theorem Lr:EI Tryz.prog 22 9 1 16 (.string ByteArray.empty):=⟨Tryz.underlying22,by kernel_rfl,rfl,by decide⟩
theorem Y1 (s:ByteArray)(i j:Int)(h0:0<=i)(h1:i<=j)(h2:j<=s.size)(w:World):(Instr.slice 9 (.string s) (some (.int .i64 i)) (some (.int .i64 j)) none).run Tryz.prog w= .ok (.string (s.extract i.toNat j.toNat)) w :=
 run_slice_string w 9 s .i64 .i64 i j Tryz.underlying9 h0 h1 h2
end Go.Proofs.YthibllkleakiiaaGreatDoor
namespace Sg
open Go
def De:AO:=[99,101,108,108]
def EZ:AO:=[100,101,114,105,118,101,100]
def E_:AO:=[101,102,102,101,99,116]
def Gk (n:BV)(x:Int):AO:=if n.kind=0 then De++32 :: BE x.toNat else if n.kind=1 then EZ++32 :: EY n.f else E_++32 :: EY n.f
def Ij:Ae->List Int->AO
 | n :: g,x :: c=>Gk n x++10 :: Ij g c
 | _,_=>[]
def Ht (g:Ae)(c:List Int):AO:=if AG g=true/\AT g c=true then Ij g c else []
def DB (l:AO):Option (BV × Int):=match AC 32 l with
 | []=>none
 | w :: ws =>
  if w=De/\ws.length=1 then (if AV (ws.getD 0 []) = -1 then none else some (⟨0,[]⟩,AV (ws.getD 0 [])))
  else if w=EZ then (CD ws).map fun f=>(⟨1,f⟩,0)
  else if w=E_ then (CD ws).map fun f=>(⟨2,f⟩,0)
  else none
def DS (l:AO):Option (BV × Int) :=
 let w:=(Lib.cut l [32]).1
 let t:=(Lib.cut l [32]).2.1
 if w=De then (C4 t).map fun (n:Nat)=>((⟨0,[]⟩:BV),(n:Int))
 else if w=EZ then (Cz t).map fun f=>(⟨1,f⟩,0)
 else if w=E_ then (Cz t).map fun f=>(⟨2,f⟩,0)
 else none
def Ed (f:AO->Option (BV × Int)):List AO->Option (Ae × List Int)
 | []=>some ([],[])
 | l :: ls=>match f l with
  | none=>none
  | some (n,x)=>match Ed f ls with
   | none=>none
   | some (g,c)=>some (n :: g,x :: c)
def Do (s:AO):Option (Ae × List Int):=match Ed DB (AC 10 s).dropLast with
 | some (g,c)=>if (AC 10 s).getLastD []=[]/\AG g=true/\AT g c=true then some (g,c) else none
 | none=>none
def Dc (s:AO):Option (Ae × List Int):=match Ed DS (AC 10 s).dropLast with
 | some (g,c)=>if (AC 10 s).getLastD []=[]/\AG g=true/\AT g c=true/\Ht g c=s then some (g,c) else none
 | none=>none
theorem LY (n:Nat):(32:UInt8) ∉ BE n/\(10:UInt8) ∉ BE n:=by
 have hd:=ED n;exact⟨fun e=>by have:=hd _ e;revert this;decide,fun e=>by have:=hd _ e;revert this;decide⟩
theorem Px:C4 []=none:=by
 cases h:C4 [] with
 | none=>rfl
 | some n=>exact absurd (Gx h).1.symm (Kd n)
theorem QZ {l:AO}(h:(32:UInt8) ∈ l):C4 l=none:=by
 cases hd:C4 l with
 | none=>rfl
 | some n=>rw[(Gx hd).1] at h;exact absurd h (LY n).1
theorem Tw:AV [] = -1:=by decide
theorem LZ:Es []=none:=by
 unfold Es CD
 have:EF K9 []=none:=by
  unfold EF;rw[Tx,if_neg (by simp),if_neg (by simp)];unfold K9;rw[Tw,if_pos rfl];rfl
 show (match Ej K9 [[]] ([],[]) with | some (f,o)=>if o.length=1/\AR f=true then some f else none | none=>none)=none;unfold Ej DM;rw[this]
theorem Q8:CD []=none:=rfl
theorem VR (l:AO):DB l=match DS l with
  | some (n,x)=>if x<=999 then some (n,x) else none
  | none=>none:=by
 by_cases h:(32:UInt8) ∈ l
 ·obtain⟨p,r,rfl,hp⟩:=GK l h;unfold DB DS;rw[Eq p r hp,LO p r hp];simp only;by_cases hc:p=De
  ·rw[if_pos hc];by_cases hr:(32:UInt8) ∈ r
   ·rw[QZ hr];obtain⟨q,t,rfl,hq⟩:=GK r hr;have hne:=CC 32 t
    have hlen:1<=(AC 32 t).length:=by cases hs:AC 32 t with
     | nil=>exact absurd hs hne
     | cons a b=>simp
    rw[Eq q t hq,if_neg (by simp only[List.length_cons];omega),if_neg (by rw[hc];decide),if_neg (by rw[hc];decide)];rfl
   ·rw[DX r hr,if_pos ⟨hc,rfl⟩];simp only[List.getD_cons_zero];rw[NI];cases hd:C4 r with
    | none=>rfl
    | some n =>
     simp only[Option.map_some];by_cases hn:n<=999
     ·rw[if_pos hn,if_neg (by omega),if_pos (by omega)]
     ·rw[if_neg hn,if_pos rfl,if_neg (by omega)]
  ·rw[if_neg (fun e=>hc e.1),if_neg hc];by_cases hd:p=EZ
   ·rw[if_pos hd,if_pos hd,Gy];unfold Es;cases CD (AC 32 r) <;> rfl
   ·rw[if_neg hd,if_neg hd];by_cases he:p=E_
    ·rw[if_pos he,if_pos he,Gy];unfold Es;cases CD (AC 32 r) <;> rfl
    ·rw[if_neg he,if_neg he]
 ·unfold DB DS;rw[DX l h,Ke l h];simp only;rw[if_neg (by simp),Px,Gy,LZ,Q8];by_cases hc:l=De
  ·rw[if_pos hc,if_neg (by rw[hc];decide),if_neg (by rw[hc];decide)];rfl
  ·rw[if_neg hc];by_cases hd:l=EZ
   ·rw[if_pos hd];rfl
   ·rw[if_neg hd];by_cases he:l=E_
    ·rw[if_pos he];rfl
    ·rw[if_neg he]
theorem Ty {l:AO}{n:BV}{x:Int}(h:DS l=some (n,x)):Gk n x=l/\0<=x/\((n.kind=0/\n.f=[])\/((n.kind=1\/n.kind=2)/\x=0/\AR n.f=true/\Bv n.f=n.f)):=by
 have hcut:(32:UInt8) ∈ l/\∃ p r,l=p++32 :: r/\(32:UInt8) ∉ p:=by
  by_cases hm:(32:UInt8) ∈ l
  ·exact⟨hm,GK l hm⟩
  ·exfalso
   unfold DS at h;rw[Ke l hm] at h;simp only at h;rw[Px,Gy,LZ] at h;split at h
   ·cases h
   ·split at h
    ·cases h
    ·split at h <;> cases h
 obtain⟨-,p,r,rfl,hp⟩:=hcut;unfold DS at h;rw[LO p r hp] at h;simp only at h;by_cases hc:p=De
 ·rw[if_pos hc] at h;cases hd:C4 r with
  | none=>rw[hd] at h;cases h
  | some k =>
   rw[hd] at h;simp only[Option.map_some,Option.some.injEq,Prod.mk.injEq] at h;obtain⟨rfl,rfl⟩:=h;refine⟨?_,by omega,.inl ⟨rfl,rfl⟩⟩;unfold Gk;rw[if_pos rfl,hc,(Gx hd).1];simp
 ·rw[if_neg hc,Gy] at h;by_cases hd:p=EZ
  ·rw[if_pos hd] at h;cases hf:Es r with
   | none=>rw[hf] at h;cases h
   | some f =>
    rw[hf] at h;simp only[Option.map_some,Option.some.injEq,Prod.mk.injEq] at h;obtain⟨rfl,rfl⟩:=h;obtain⟨h1,h2,h3,-⟩:=IG hf;refine⟨?_,by omega,.inr ⟨.inl rfl,rfl,h1,h2⟩⟩;unfold Gk;rw[if_neg (by simp),if_pos rfl,hd,h3]
  ·rw[if_neg hd] at h;by_cases he:p=E_
   ·rw[if_pos he] at h;cases hf:Es r with
    | none=>rw[hf] at h;cases h
    | some f =>
     rw[hf] at h;simp only[Option.map_some,Option.some.injEq,Prod.mk.injEq] at h;obtain⟨rfl,rfl⟩:=h;obtain⟨h1,h2,h3,-⟩:=IG hf;refine⟨?_,by omega,.inr ⟨.inr rfl,rfl,h1,h2⟩⟩;unfold Gk;rw[if_neg (by simp),if_neg (by simp),he,h3]
   ·rw[if_neg he] at h;cases h
theorem L0:∀ (ls:List AO){g:Ae}{c:List Int},Ed DS ls=some (g,c)->Ij g c=DT 10 (ls++[[]])
 | [],g,c,h=>by
  simp only[Ed,Option.some.injEq,Prod.mk.injEq] at h;obtain⟨rfl,rfl⟩:=h;rw[List.nil_append,DN];rfl
 | l :: ls,g,c,h=>by
  unfold Ed at h;split at h
  ·cases h
  ·rename_i n x hl
   split at h
   ·cases h
   ·rename_i g' c' hm
    simp only[Option.some.injEq,Prod.mk.injEq] at h;obtain⟨rfl,rfl⟩:=h;have hb:=(Ty hl).1;have ih:=L0 ls hm;show Gk n x++10 :: Ij g' c'=DT 10 (l :: (ls++[[]]));rw[hb,ih];cases ls with
    | nil=>exact(Dp 10 l [] []).symm
    | cons a t=>exact(Dp 10 l a (t++[[]])).symm
theorem Kf:∀ (ls:List AO){g:Ae}{c:List Int},Ed DB ls=some (g,c)↔(Ed DS ls=some (g,c)/\∀ x ∈ c,x<=999)
 | [],g,c=>by
  simp only[Ed,Option.some.injEq,Prod.mk.injEq];refine⟨fun h=>⟨h,fun x hx=>by rw[<- h.2] at hx;cases hx⟩,And.left⟩
 | l :: ls,g,c=>by
  unfold Ed;rw[VR l];cases hl:DS l with
  | none=>simp
  | some y =>
   obtain⟨n,x⟩:=y;simp only;by_cases hx:x<=999
   ·rw[if_pos hx];simp only;constructor
    ·intro h;split at h
     ·cases h
     ·rename_i g' c' hm
      simp only[Option.some.injEq,Prod.mk.injEq] at h;obtain⟨rfl,rfl⟩:=h;obtain⟨h1,h2⟩:=(Kf ls).1 hm;rw[h1];exact⟨rfl,fun y hy=>(List.mem_cons.1 hy).elim (fun e=>e ▸ hx) (h2 y)⟩
    ·rintro ⟨h,h2⟩;split at h
     ·cases h
     ·rename_i g' c' hm
      simp only[Option.some.injEq,Prod.mk.injEq] at h;obtain⟨rfl,rfl⟩:=h;rw[(Kf ls).2 ⟨hm,fun y hy=>h2 y (List.mem_cons_of_mem _ hy)⟩]
   ·rw[if_neg hx];simp only;refine⟨fun h=>(by cases h),fun ⟨h,h2⟩=>?_⟩;exfalso
    split at h
    ·cases h
    ·simp only[Option.some.injEq,Prod.mk.injEq] at h;obtain⟨-,rfl⟩:=h;exact hx (h2 x (by simp))
theorem Tz {g:Ae}{c:List Int}(h:AT g c=true):∀ x ∈ c,0<=x/\x<=999:=by
 intro x hx;obtain⟨i,hi,rfl⟩:=List.getElem_of_mem hx;unfold AT at h;rw[Bool.and_eq_true,List.all_eq_true] at h;have:=h.2 i (List.mem_range.2 hi);unfold Gg at this;simp only[Bool.and_eq_true,Cb,decide_eq_true_eq,List.getD_eq_getElem?_getD,List.getElem?_eq_getElem hi,Option.getD_some] at this;exact this.1
theorem Q_ (s:AO)(h:(AC 10 s).getLastD []=[]):AC 10 s=(AC 10 s).dropLast++[[]]:=by
 have hne:=CC 10 s;have:=List.dropLast_concat_getLast hne;rw[List.getLastD_eq_getLast?,List.getLast?_eq_some_getLast hne,Option.getD_some] at h;rw[<- this,h];simp
theorem NJ (s:AO):Dc s=Do s:=by
 have key:∀ g c,Dc s=some (g,c)↔Do s=some (g,c):=fun g c=>by
  unfold Dc Do;constructor
  ·intro h;split at h
   ·rename_i g' c' hm
    split at h
    ·rename_i hc
     simp only[Option.some.injEq,Prod.mk.injEq] at h;obtain⟨rfl,rfl⟩:=h;rw[(Kf _).2 ⟨hm,fun x hx=>(Tz hc.2.2.1 x hx).2⟩];simp only;rw[if_pos ⟨hc.1,hc.2.1,hc.2.2.1⟩]
    ·cases h
   ·cases h
  ·intro h;split at h
   ·rename_i g' c' hm
    split at h
    ·rename_i hc
     simp only[Option.some.injEq,Prod.mk.injEq] at h;obtain⟨rfl,rfl⟩:=h;have hm':=((Kf _).1 hm).1;have hb:=L0 _ hm'
     have hfm:Ht g' c'=s:=by
      unfold Ht;rw[if_pos hc.2,hb,<- Q_ s hc.1,H7]
     rw[hm'];simp only;rw[if_pos ⟨hc.1,hc.2.1,hc.2.2,hfm⟩]
    ·cases h
   ·cases h
 cases h1:Dc s with
 | some y=>rw[(key y.1 y.2).1 h1]
 | none =>
  cases h2:Do s with
  | none=>rfl
  | some y=>rw[(key y.1 y.2).2 h2] at h1;cases h1
theorem Jb {s:AO}{g:Ae}{c:List Int}(h:Do s=some (g,c)):AG g=true/\AT g c=true/\Ht g c=s:=by
 rw[<- NJ] at h;unfold Dc at h;split at h
 ·split at h
  ·rename_i hc
   simp only[Option.some.injEq,Prod.mk.injEq] at h;obtain⟨rfl,rfl⟩:=h;exact hc.2
  ·cases h
 ·cases h
open Go
def Cj (l:List Int):AO:=DT 32 (l.map fun n=>BE n.toNat)
structure Ii (σ:Type) where
 vals:σ->List Int
 stale:σ->List Int
 set:σ->Nat->Int->σ × List Int
 get:σ->Nat->σ × List Int
def Ds:AO:=[118,97,108,117,101,115]
def Gf:AO:=[115,116,97,108,101]
def LF:AO:=[115,101,116]
def JK:AO:=[103,101,116]
def Eh:AO:=[119,104,97,116]
def UZ:AO:=[119,114,111,110,103]
def CZ {σ:Type}(M:Ii σ)(g:Ae)(st:σ)(line:AO):σ × AO :=
 if line=Ds then (st,Cj (M.vals st))
 else if line=Gf then (st,Cj (M.stale st))
 else match AC 32 line with
  | [w,a,b]=>if w=LF/\BA g (AV a)=true/\0<=AV b then ((M.set st (AV a).toNat (AV b)).1,Cj (M.set st (AV a).toNat (AV b)).2) else (st,Eh)
  | [w,a]=>if w=JK/\0<=AV a/\AV a<(g.length:Int) then ((M.get st (AV a).toNat).1,Cj (M.get st (AV a).toNat).2) else (st,Eh)
  | _=>(st,Eh)
def Fu:List AO->Option (List Int)
 | []=>some []
 | a :: aq=>match C4 a with
  | none=>none
  | some n=>(Fu aq).map fun l=>(n:Int) :: l
def KH {σ:Type}(M:Ii σ)(g:Ae)(st:σ)(line:AO):σ × AO :=
 if line=Ds then (st,Cj (M.vals st))
 else if line=Gf then (st,Cj (M.stale st))
 else match Fu (AC 32 line).tail with
  | none=>(st,Eh)
  | some ns=>if (AC 32 line).headD []=LF/\ns.length=2/\BA g (ns.getD 0 0)=true/\ns.getD 1 0<=999 then ((M.set st (ns.getD 0 0).toNat (ns.getD 1 0)).1,Cj (M.set st (ns.getD 0 0).toNat (ns.getD 1 0)).2)
   else if (AC 32 line).headD []=JK/\ns.length=1/\ns.getD 0 0<(g.length:Int) then ((M.get st (ns.getD 0 0).toNat).1,Cj (M.get st (ns.getD 0 0).toNat).2) else (st,Eh)
theorem Kc:∀ (aq:List AO){l:List Int},Fu aq=some l->l.length=aq.length/\∀ x ∈ l,0<=x
 | [],l,h=>by
  simp only[Fu,Option.some.injEq] at h;subst h;exact⟨rfl,fun x hx=>by cases hx⟩
 | a :: aq,l,h=>by
  unfold Fu at h;cases hd:C4 a with
  | none=>rw[hd] at h;cases h
  | some n =>
   rw[hd] at h;cases hs:Fu aq with
   | none=>rw[hs] at h;cases h
   | some m =>
    rw[hs] at h;simp only[Option.map_some,Option.some.injEq] at h;subst h;obtain⟨h1,h2⟩:=Kc aq hs;refine⟨by simp[h1],fun x hx=>?_⟩;rcases List.mem_cons.1 hx with rfl | hx
    ·omega
    ·exact h2 x hx
theorem MH (a:AO):(C4 a=none/\AV a = -1)\/∃ n:Nat,C4 a=some n/\((n<=999/\AV a=n)\/(999<n/\AV a = -1)):=by
 have h:=NI a;cases hd:C4 a with
 | none=>rw[hd] at h;exact .inl ⟨rfl,h⟩
 | some n =>
  rw[hd] at h;simp only at h;refine .inr ⟨n,rfl,?_⟩;by_cases hn:n<=999
  ·rw[if_pos hn] at h;exact .inl ⟨hn,h⟩
  ·rw[if_neg hn] at h;exact .inr ⟨by omega,h⟩
theorem IU {g:Ae}{n:Int}(h:BA g n=true):0<=n/\n<(g.length:Int):=by
 unfold BA at h;simp only[Bool.and_eq_true,Cb,decide_eq_true_eq] at h;omega
theorem Xg {σ:Type}(M:Ii σ){g:Ae}(hg:g.length<=10)(st:σ)(line:AO):KH M g st line=CZ M g st line:=by
 unfold KH CZ;split
 ·rfl
 ·split
  ·rfl
  ·have hne:=CC 32 line;match hs:AC 32 line with
   | []=>exact absurd hs hne
   | [w] =>
    show (if _/\(0:Nat)=2/\_ then _ else if _/\(0:Nat)=1/\_ then _ else (st,Eh))=(st,Eh);rw[if_neg (fun h=>by cases h.2.1),if_neg (fun h=>by cases h.2.1)]
   | [w,a] =>
    simp only[List.tail_cons,Fu,List.headD_cons];rcases MH a with ⟨h1,h2⟩ | ⟨n,h1,h2⟩
    ·rw[h1,h2];simp only;rw[if_neg (by omega)]
    ·rw[h1];simp only[Option.map_some,List.length_cons,List.length_nil,List.getD_cons_zero];rw[if_neg (fun h=>by cases h.2.1)];rcases h2 with ⟨h3,h4⟩ | ⟨h3,h4⟩
     ·rw[h4];have e:(w=JK/\True/\(n:Int)<(g.length:Int))↔(w=JK/\0<=(n:Int)/\(n:Int)<(g.length:Int)):=⟨fun h=>⟨h.1,by omega,h.2.2⟩,fun h=>⟨h.1,trivial,h.2.2⟩⟩;simp only[e]
     ·rw[h4,if_neg (fun h=>by have:=h.2.2;omega),if_neg (fun h=>by have:=h.2.1;omega)]
   | [w,a,b] =>
    simp only[List.tail_cons,Fu,List.headD_cons];have hno:∀ x:Int,x = -1->BA g x=true->False:=fun x hx h=>by have:=IU h;omega
    rcases MH a with ⟨h1,h2⟩ | ⟨n,h1,h2⟩
    ·rw[h1,h2];simp only;rw[if_neg (fun h=>hno _ rfl h.2.1)]
    ·rw[h1];rcases MH b with ⟨k1,k2⟩ | ⟨m,k1,k2⟩
     ·rw[k1,k2];simp only[Option.map_none];rw[if_neg (fun h=>by have:=h.2.2;omega)]
     ·rw[k1];simp only[Option.map_some,List.length_cons,List.length_nil,List.getD_cons_zero,List.getD_cons_succ]
      have hng:∀ (x y z:σ × AO) (P Q:Prop) [Decidable P] [Decidable (w=JK/\0+1+1=1/\Q)],(if P then x else if w=JK/\0+1+1=1/\Q then y else z)=if P then x else z:=fun x y z P Q _ _=>by
       have:¬ (w=JK/\0+1+1=1/\Q):=fun h=>by cases h.2.1
       rw[if_neg this]
      rw[hng];rcases h2 with ⟨h3,h4⟩ | ⟨h3,h4⟩
      ·rcases k2 with ⟨k3,k4⟩ | ⟨k3,k4⟩
       ·rw[h4,k4];have e:(w=LF/\True/\BA g (n:Int)=true/\(m:Int)<=999)↔(w=LF/\BA g (n:Int)=true/\0<=(m:Int)):=⟨fun h=>⟨h.1,h.2.2.1,by omega⟩,fun h=>⟨h.1,trivial,h.2.1,by omega⟩⟩;simp only[e]
       ·rw[k4,if_neg (fun h=>by have:=h.2.2.2;omega),if_neg (fun h=>by have:=h.2.2;omega)]
      ·rw[h4,if_neg (fun h=>by have:=IU h.2.2.1;omega),if_neg (fun h=>hno _ rfl h.2.1)]
   | w :: a :: b :: c :: ws =>
    simp only[List.tail_cons,List.headD_cons];cases hd:Fu (a :: b :: c :: ws) with
    | none=>rfl
    | some l =>
     have:=(Kc _ hd).1;simp only[List.length_cons] at this;have e2:¬ l.length=2:=by omega
     have e1:¬ l.length=1:=by omega
     simp only[e1,e2,false_and,and_false,if_false]
def JP {σ:Type}(M:Ii σ)(g:Ae):σ->List AO->AO
 | _,[]=>[]
 | st,l :: ls=>(CZ M g st l).2++10 :: JP M g (CZ M g st l).1 ls
def CR:List AO->AO
 | []=>[]
 | _ :: ls=>UZ++10 :: CR ls
theorem RZ (l:List Int):(10:UInt8) ∉ Cj l:=by
 unfold Cj;induction l with
 | nil=>show (10:UInt8) ∉ ([]:AO);simp
 | cons n l ih =>
  cases l with
  | nil=>exact(DN 32 _).symm ▸ (LY _).2
  | cons m l =>
   simp only[List.map_cons];rw[Dp,List.mem_append,List.mem_cons];rintro (e | e | e)
   ·exact(LY _).2 e
   ·revert e;decide
   ·exact ih e
theorem U0 {σ:Type}(M:Ii σ)(g:Ae)(st:σ)(line:AO):(10:UInt8) ∉ (CZ M g st line).2:=by
 unfold CZ;repeat' split
 all_goals first | exact RZ _ | exact(by decide:(10:UInt8) ∉ Eh)
theorem MF {σ:Type}(M:Ii σ)(g:Ae):∀ (ls:List AO) (st:σ),(JP M g st ls).count 10=ls.length
 | [],_=>rfl
 | l :: ls,st=>by
  unfold JP;rw[List.count_append,List.count_cons_self,List.count_eq_zero_of_not_mem (U0 M g st l),MF M g ls];simp
theorem ME {σ:Type}(M:Ii σ)(g:Ae):∀ (ls:List AO) (k:Nat) (st:σ),JP M g st (ls.take k) <+: JP M g st ls
 | [],k,st=>by rw[List.take_nil];exact List.prefix_refl _
 | l :: ls,0,st=>List.nil_prefix
 | l :: ls,k+1,st=>by
  rw[List.take_succ_cons];unfold JP;obtain⟨t,ht⟩:=ME M g ls k (CZ M g st l).1;exact⟨t,by rw[<- ht];simp⟩
theorem Ln:∀ (ls:List AO),(CR ls).count 10=ls.length
 | []=>rfl
 | l :: ls=>by
  unfold CR;rw[List.count_append,List.count_cons_self,Ln ls];have:UZ.count 10=0:=by decide
  simp[this]
theorem Lm:∀ (ls:List AO)(k:Nat),CR (ls.take k) <+: CR ls
 | [],k=>by rw[List.take_nil];exact List.prefix_refl _
 | l :: ls,0=>List.nil_prefix
 | l :: ls,k+1=>by
  rw[List.take_succ_cons];unfold CR;obtain⟨t,ht⟩:=Lm ls k;exact⟨t,by rw[<- ht];simp⟩
open Go
theorem Ml {g:Ae}(h:AG g=true){i:Nat}{n:BV}(hn:g[i]? = some n):(n.kind=0/\n.f=[])\/((n.kind=1\/n.kind=2)/\AR n.f=true):=by
 have hi:=(List.getElem?_eq_some_iff.1 hn).1;have hgn:=Dh h i hi;unfold Ck at hgn;rw[List.getD_eq_getElem?_getD,hn] at hgn;simp only[Option.getD_some] at hgn;split at hgn
 ·rename_i h0
  exact .inl ⟨h0,by simpa using hgn⟩
 ·split at hgn
  ·rename_i h12
   rw[Bool.and_eq_true] at hgn;exact .inr ⟨h12,hgn.1⟩
  ·cases hgn
def Yl (p:At):Prop:=(p.kind=0\/p.kind=1)/\0<=p.n/\p.n<=999\/2<=p.kind/\p.kind<=8
theorem J3 (c:UInt8):∀ (ls:List AO) (p:AO),ls≠[]->DT c (ls++[p])=DT c ls++c :: p
 | [],_,h=>absurd rfl h
 | [q],p,_=>by rw[List.singleton_append,Dp,DN,DN]
 | q :: r :: t,p,_=>by
  have:=J3 c (r :: t) p (by simp);rw[List.cons_append,List.cons_append,Dp,<- List.cons_append,this,Dp,List.append_assoc];rfl
theorem VW {f:List At}(h:I8 f){p:At}(hp:p ∈ f):Yl p:=by
 obtain⟨i,hi⟩:=List.getElem?_of_mem hp;rcases FG h hi with ⟨h8,-⟩ | ⟨h2,h7,-⟩ | ⟨h0,-⟩
 ·exact .inr ⟨by omega,by omega⟩
 ·exact .inr ⟨h2,by omega⟩
 ·rcases h0 with ⟨h1,h2,h3⟩ | ⟨h1,h2,h3⟩
  ·exact .inl ⟨.inl h1,h2,by omega⟩
  ·exact .inl ⟨.inr h1,h2,by omega⟩
theorem PU {f:List At}(h:AR f=true):AR (Bv f)=true:=by
 rw[J4 h];exact IQ (RE h) (by rw[JE h];exact(Cg h).2)
theorem JF {f:List At}(h:AR f=true):(Bv f).length=f.length:=by
 rw[J4 h,flat_len,JE h]
theorem Km {f:List At}(h:AR f=true):∀ p ∈ Bv f,Yl p:=fun _ hp=>VW (CY (PU h)) hp
theorem GQ {n:Nat}(h:n<=999):(BE n).length<=3:=by
 by_cases h1:n<10
 ·rw[CQ h1];simp
 ·rw[Fa h1];by_cases h2:n / 10<10
  ·rw[CQ h2];simp
  ·rw[Fa h2,CQ (n:=n / 10 / 10) (by omega)];simp
theorem TL (k:Int):(CM k).length<=4:=by
 unfold CM;repeat' split
 all_goals decide
theorem KU {p:At}(h:Yl p):(Cp p).length<=5:=by
 unfold Cp;rcases h with ⟨hk,h0,h9⟩ | ⟨h2,h8⟩
 ·have:=GQ (n:=p.n.toNat) (by omega);rcases hk with hk | hk <;> simp[hk] <;> omega
 ·rw[if_neg (by omega),if_neg (by omega)];have:=TL p.kind;omega
def EL (f:List At)(j:Nat):AO:=DT 32 ((f.take j).map Cp)
theorem RG (f:List At):EL f 0=[]:=rfl
theorem NY {f:List At}{p:At}(h:f[0]? = some p):EL f 1=Cp p:=by
 cases f with
 | nil=>simp at h
 | cons q t =>
  simp at h
  subst h;unfold EL;simp[DN]
theorem Ms {f:List At}{j:Nat}{p:At}(h:f[j]? = some p)(h0:0<j):EL f (j+1)=EL f j++[32]++Cp p:=by
 have hj:=(List.getElem?_eq_some_iff.1 h).1;unfold EL;rw[List.take_add_one,h,List.map_append];simp only[Option.toList,List.map_cons,List.map_nil];rw[J3 _ _ _ (by intro e;have:=congrArg List.length e;rw[List.length_map,List.length_take,List.length_nil] at this;omega)];simp
theorem KV {f:List At}(h:∀ p ∈ f,Yl p):∀ j,(EL f j).length<=6 * j
 | 0=>by simp[RG]
 | j+1=>by
  have ih:=KV h j;cases hp:f[j]? with
  | none =>
   have e:EL f (j+1)=EL f j:=by unfold EL;rw[List.take_add_one,hp];simp
   rw[e];omega
  | some p =>
   have hl:=KU (h p (List.mem_of_getElem? hp));by_cases h0:0<j
   ·rw[Ms hp h0];simp;omega
   ·obtain rfl:j=0:=by omega
    rw[NY hp];omega
theorem SQ {f:List At}(h:AR f=true):EY f=EL (Bv f) (Bv f).length:=by
 unfold EY EL;rw[if_pos h,List.take_length]
theorem Kk (f:List At):(EY f).length<=72:=by
 by_cases h:AR f=true
 ·rw[SQ h];have:=KV (Km h) (Bv f).length;have:=(Cg h).2;have:=JF h;omega
 ·unfold EY;rw[if_neg h];simp
def DH (g:Ae)(c:List Int)(j:Nat):AO:=Ij (g.take j) (c.take j)
theorem OG (g:Ae)(c:List Int):DH g c 0=[]:=rfl
theorem Le:∀ (g:Ae)(c:List Int)(n:BV)(x:Int),g.length=c.length->Ij (g++[n]) (c++[x])=Ij g c++Gk n x++[10]
 | [],[],n,x,_=>by simp[Ij]
 | _ :: _,[],_,_,h=>by simp at h
 | [],_ :: _,_,_,h=>by simp at h
 | m :: g,y :: c,n,x,h=>by
  simp only[List.cons_append,Ij];rw[Le g c n x (by simpa using h)];simp
theorem IR {g:Ae}{c:List Int}(hl:c.length=g.length){j:Nat}{n:BV}{x:Int}(hn:g[j]? = some n)(hx:c[j]? = some x):DH g c (j+1)=DH g c j++Gk n x++[10]:=by
 unfold DH;rw[List.take_add_one,hn,List.take_add_one,hx];exact Le _ _ _ _ (by simp[hl])
theorem TM (n:BV){x:Int}(h:x<=999):(Gk n x).length<=90:=by
 have h1:=GQ (n:=x.toNat) (by omega);have h2:=Kk n.f;unfold Gk;repeat' split
 all_goals simp[De,EZ,E_];omega
theorem Ie {g:Ae}{c:List Int}(hl:c.length=g.length)(hr:∀ x ∈ c,x<=999):∀ j,(DH g c j).length<=91 * j
 | 0=>by simp[OG]
 | j+1=>by
  have ih:=Ie hl hr j;cases hn:g[j]? with
  | none =>
   have hc:c[j]? = none:=by rw[List.getElem?_eq_none_iff] at hn ⊢;omega
   have e:DH g c (j+1)=DH g c j:=by unfold DH;rw[List.take_add_one,hn,List.take_add_one,hc];simp
   rw[e];omega
  | some n =>
   have hj:=(List.getElem?_eq_some_iff.1 hn).1;have hx:c[j]? = some c[j]:=List.getElem?_eq_getElem (by omega);have:=TM n (hr _ (List.mem_of_getElem? hx));rw[IR hl hn hx];simp;omega
theorem PV {g:Ae}{c:List Int}(hl:c.length=g.length):DH g c g.length=Ij g c:=by
 unfold DH;rw[List.take_length,<- hl,List.take_length]
theorem Mk {g:Ae}{c:List Int}(h:AG g=true)(hc:AT g c=true):Ht g c=DH g c g.length:=by
 unfold Ht;rw[if_pos ⟨h,hc⟩,PV (Cu hc)]
theorem LP {g:Ae}{c:List Int}(h:(AG g && AT g c)=false):Ht g c=[]:=by
 unfold Ht;rw[if_neg];rintro ⟨h1,h2⟩;rw[h1,h2] at h;cases h
theorem FE {g:Ae}(h:AG g=true):g.length<=10:=by
 unfold AG at h;simp only[Bool.and_eq_true,decide_eq_true_eq] at h;exact h.2
theorem Mm {n:BV}(h:n.kind=0)(x:Int):Gk n x=De++[32]++BE x.toNat:=by simp[Gk,h]
theorem NU {n:BV}(h:n.kind=1)(x:Int):Gk n x=EZ++[32]++EY n.f:=by simp[Gk,h]
theorem NV {n:BV}(h:n.kind=2)(x:Int):Gk n x=E_++[32]++EY n.f:=by simp[Gk,h]
open Go
def Fs (s:AO):Option (Ae × List Int):=match Ed DS (AC 10 s).dropLast with
 | some (g,c)=>if (AC 10 s).getLastD []=[] then some (g,c) else none
 | none=>none
theorem TQ:Fs []=some ([],[]):=rfl
theorem RI {l:AO}(h:(10:UInt8) ∉ l)(h0:l≠[]):Fs l=none:=by
 unfold Fs;rw[DX l h];show (if l=[] then _ else none)=none;rw[if_neg h0]
theorem N6 {p r:AO}(h:(10:UInt8) ∉ p):Fs (p++10 :: r)=match DS p with
  | none=>none
  | some (n,x)=>(Fs r).map fun y=>(n :: y.1,x :: y.2):=by
 unfold Fs;rw[Eq p r h];have hne:=CC 10 r
 have e1:(p :: AC 10 r).dropLast=p :: (AC 10 r).dropLast:=by
  cases hs:AC 10 r with
  | nil=>exact absurd hs hne
  | cons a t=>rfl
 have e2:(p :: AC 10 r).getLastD []=(AC 10 r).getLastD []:=by
  cases hs:AC 10 r with
  | nil=>exact absurd hs hne
  | cons a t=>rfl
 rw[e1,e2,Ed];cases DS p with
 | none=>rfl
 | some nx =>
  obtain⟨n,x⟩:=nx;simp only;cases Ed DS (AC 10 r).dropLast with
  | none=>rfl
  | some gc =>
   obtain⟨g,c⟩:=gc;simp only;split <;> rfl
theorem Mx {p r:AO}(h:(10:UInt8) ∉ p)(hn:DS p=none):Fs (p++10 :: r)=none:=by rw[N6 h,hn]
theorem Kq (s:AO):Dc s=match Fs s with
  | some (g,c)=>if AG g=true/\AT g c=true/\Ht g c=s then some (g,c) else none
  | none=>none:=by
 unfold Dc Fs;cases Ed DS (AC 10 s).dropLast with
 | none=>rfl
 | some gc =>
  obtain⟨g,c⟩:=gc;simp only;by_cases h:(AC 10 s).getLastD []=[]
  ·rw[if_pos h];simp only;by_cases h2:AG g=true/\AT g c=true/\Ht g c=s
   ·rw[if_pos h2,if_pos ⟨h,h2⟩]
   ·rw[if_neg h2,if_neg (fun e=>h2 e.2)]
  ·rw[if_neg h,if_neg (fun e=>h e.1)]
theorem TR {s p r:AO}{g:Ae}{c:List Int}{n:BV}{x:Int}(h:(10:UInt8) ∉ p)(hn:DS p=some (n,x))(hi:Fs s=(Fs (p++10 :: r)).map fun y=>(g++y.1,c++y.2)) :
  Fs s=(Fs r).map fun y=>((g++[n])++y.1,(c++[x])++y.2):=by
 rw[hi,N6 h,hn];simp only[Option.map_map];congr 1
 funext y
 simp
theorem SR (l:AO):((10:UInt8) ∉ l/\Lib.cut l [10]=(l,[],false))\/∃ p r,(10:UInt8) ∉ p/\l=p++10 :: r/\Lib.cut l [10]=(p,r,true):=by
 by_cases h:(10:UInt8) ∈ l
 ·obtain⟨p,r,rfl,hp⟩:=GK l h;exact .inr ⟨p,r,hp,rfl,LO p r hp⟩
 ·exact .inl ⟨h,Ke l h⟩
theorem ST {f:AO->Option (BV × Int)}{ls:List AO}{i:Nat}{l:AO}(h:ls[i]? = some l):Ed f (ls.drop i)=match f l with
  | none=>none
  | some (n,x)=>(Ed f (ls.drop (i+1))).map fun y=>(n :: y.1,x :: y.2):=by
 obtain⟨hl,he⟩:=List.getElem?_eq_some_iff.1 h;rw[List.drop_eq_getElem_cons hl,he,Ed];cases f l with
 | none=>rfl
 | some nx =>
  obtain⟨n,x⟩:=nx;simp only;cases Ed f (ls.drop (i+1)) with
  | none=>rfl
  | some gc=>obtain⟨g,c⟩:=gc;rfl
theorem TS {f:AO->Option (BV × Int)}{ls:List AO}{i:Nat}{l:AO}{g:Ae}{c:List Int}{n:BV}{x:Int}(h:ls[i]? = some l)(hn:f l=some (n,x))(hi:Ed f ls=(Ed f (ls.drop i)).map fun y=>(g++y.1,c++y.2)) :
  Ed f ls=(Ed f (ls.drop (i+1))).map fun y=>((g++[n])++y.1,(c++[x])++y.2):=by
 rw[hi,ST h,hn];simp only[Option.map_map];congr 1
 funext y
 simp
theorem UV {f:AO->Option (BV × Int)}{ls:List AO}{i:Nat}{l:AO}{g:Ae}{c:List Int}(h:ls[i]? = some l)(hn:f l=none)(hi:Ed f ls=(Ed f (ls.drop i)).map fun y=>(g++y.1,c++y.2)):Ed f ls=none:=by
 rw[hi,ST h,hn];rfl
def Ff (o:Option (Ae × List Int)):Ae × List Int × Bool:=match o with
 | none=>([],[],false)
 | some (g,c)=>(g,c,true)
end Sg
namespace Go.Proofs.YthibllkleakiiaaGreatDoor
open Go.RowKit
def Th.ownN (B:Nat)(A:Option Addr)(c:Nat)(g:Sg.Ae)(hs:List (Option Addr × Nat)):Th B:=⟨Gi A hs,fun W=>Gj W B A c g hs,fun _ _ h hk=>Bj.fr h hk,fun _ _ h hb=>Bj.lt h hb⟩
def Th.both {B:Nat}(s t:Th B):Th B:=⟨fun b=>s.fp b\/t.fp b,fun W=>s.ok W/\t.ok W,fun _ _ h hk=>⟨s.fr _ _ h.1 fun b hb=>hk b (.inl hb),t.fr _ _ h.2 fun b hb=>hk b (.inr hb)⟩,
 fun _ _ h hb=>hb.elim (fun hb=>s.lt _ _ h.1 hb) (fun hb=>t.lt _ _ h.2 hb)⟩
theorem Ai.both {B:Nat}{s t:Th B}{ts:List (Th B)}{W:World}(h:Ai (s :: ts) W){i:Nat}(ht:ts[i]? = some t):Ai (ts.set i (Th.both s t)) W:=by
 induction ts generalizing i with
 | nil=>simp at ht
 | cons x ts ih =>
  obtain⟨hs,hd,hx,hxd,hr⟩:=h;cases i with
  | zero =>
   simp at ht
   subst ht;simp only[List.set_cons_zero];exact⟨⟨hs,hx⟩,fun u hu b hb hb'=>hb.elim (fun hb=>hd u (by simp[hu]) b hb hb') (fun hb=>hxd u hu b hb hb'),hr⟩
  | succ i =>
   simp at ht
   simp only[List.set_cons_succ];refine⟨hx,fun u hu b hb hb'=>?_,ih ⟨hs,fun u hu=>hd u (by simp[hu]),hr⟩ ht⟩;rcases List.mem_or_eq_of_mem_set hu with hu | rfl
   ·exact hxd u hu b hb hb'
   ·rcases hb' with hb' | hb'
    ·exact hd x (by simp) b hb' hb
    ·exact hxd t (List.mem_of_getElem? ht) b hb hb'
theorem Bj.snocD {w1 w2:World}{B eo so ei si c c':Nat}{A A':Option Addr}{its:List It}{hs:List (Option Addr × Nat)}(k:Bj w1 B eo so ei si A c its hs){it:It}{A0:Option Addr}{c0:Nat}(hS:∀ b,AE A0=some b->¬ Gi A hs b)(own:Au w1 B ei si A0 it.n c0 it.xs)(out:Au w2 B eo so A' (its.length+1) c' (A_ its hs++Nv it (A0,c0)))(hg:w1.grownBy w2 (AE A))(hat:AE A'=AE A\/∃ g,AE A'=some g/\w1.heap.size<=g) :
  Bj w2 B eo so ei si A' c' (its++[it]) (hs++[(A0,c0)]):=by
 have key:∀ (i:Nat) (h:Option Addr × Nat),(hs++[(A0,c0)])[i]? = some h->(i<hs.length/\hs[i]? = some h)\/(i=hs.length/\h=(A0,c0)):=by
  intro i h hh;by_cases hik:i<hs.length
  ·rw[List.getElem?_append_left hik] at hh;exact .inl ⟨hik,hh⟩
  ·have h1:=(ge_.1 hh).1;simp at h1
   obtain rfl:i=hs.length:=by omega
   rw[List.getElem?_append_right (Nat.le_refl _)] at hh;simp at hh
   exact .inr ⟨rfl,hh.symm⟩
 refine⟨by simp[k.len],by simpa[J8 _ _ k.len] using out,?_,?_,?_⟩
 ·intro i it' h hi hh;rcases key i h hh with ⟨hik,hh⟩ | ⟨rfl,rfl⟩
  ·rw[List.getElem?_append_left (by rw[<- k.len];exact hik)] at hi;have o1:=k.inn i it' h hi hh;exact o1.keep fun b hb=>hg.block b (o1.lt hb).2 (fun e=>k.dio i h hh b e.symm hb)
  ·rw[List.getElem?_append_right (by rw[k.len];exact Nat.le_refl _),k.len,Nat.sub_self] at hi;simp at hi
   subst hi;exact own.keep fun b hb=>hg.block b (own.lt hb).2 (fun e=>hS b hb (.inl e.symm))
 ·intro i j h h' hij hh hh' b hb hb';rcases key i h hh with ⟨_,hh⟩ | ⟨rfl,rfl⟩
  ·rcases key j h' hh' with ⟨_,hh'⟩ | ⟨rfl,rfl⟩
   ·exact k.dis i j h h' hij hh hh' b hb hb'
   ·exact hS b hb' (.inr ⟨h,List.mem_of_getElem? hh,hb⟩)
  ·have:=(ge_.1 hh').1;simp at this
   omega
 ·intro i h hh b hb hb';rcases hat with hat | ⟨g,hg',hle⟩
  ·rw[hat] at hb;rcases key i h hh with ⟨_,hh⟩ | ⟨rfl,rfl⟩
   ·exact k.dio i h hh b hb hb'
   ·exact hS b hb' (.inl hb)
  ·rw[hg'] at hb;injection hb with hb;subst hb;rcases key i h hh with ⟨_,hh⟩ | ⟨rfl,rfl⟩
   ·have h1:=(k.lt (.inr ⟨h,List.mem_of_getElem? hh,hb'⟩)).2;omega
   ·have h1:=(own.lt hb').2;omega
theorem Ai.node {B:Nat}{ts:List (Th B)}{W W':World}{A A' Af:Option Addr}{c c' cf:Nat}{g:Sg.Ae}{hs:List (Option Addr × Nat)}{f:List Sg.At}(kd:Int)(h:Ai (Th.own B 111 5 Af f.length cf (AH f) :: ts) W)(i:Nat)(ht:ts[i]? = some (Th.ownN B A c g hs))(ho:Au W' B 70 2 A' (g.length+1) c' (A_ (Dl g) hs++[.int .i64 kd,.slice Af f.length cf]))(hg:W.grownBy W' (AE A))(hat:AE A'=AE A\/∃ g,AE A'=some g/\W.heap.size<=g) :
  Ai (ts.set i (Th.ownN B A' c' (g++[⟨kd,f⟩]) (hs++[(Af,cf)]))) W':=by
 have k:Gj W B A c g hs:=Ai.get h (i+1) (show (Th.own B 111 5 Af f.length cf (AH f) :: ts)[i+1]? = _ from ht);have own:Au W B 111 5 Af f.length cf (AH f):=h.1;have hS:∀ b,AE Af=some b->¬ Gi A hs b:=fun b hb=>h.2.1 _ (List.mem_of_getElem? ht) b hb;have hsn:=Bj.snocD (it:=⟨[.int .i64 kd],f.length,AH f⟩) k hS own (by simpa[Nv] using ho) hg hat;have hits:Dl (g++[⟨kd,f⟩])=Dl g++[⟨[.int .i64 kd],f.length,AH f⟩]:=by simp[Dl]
 rw[<- hits] at hsn;have h1:=Ai.both h ht;have hil:=(ge_.1 ht).1
 have h2:=Ai.set (F:=fun b=>AE A=some b) h1 i (t:=Th.both (Th.own B 111 5 Af f.length cf (AH f)) (Th.ownN B A c g hs)) (by rw[List.getElem?_set_self hil]) ⟨hg.os,hg.tape,hg.output,hg.size,fun b hb hn=>hg.block b hb (fun e=>hn e.symm)⟩ (Th.ownN B A' c' (g++[(⟨kd,f⟩:Sg.BV)]) (hs++[(Af,cf)]))
  (fun b e=>Or.inl (Or.inr (Or.inl e))) hsn (fun b hb=>by
   rcases hb with hb | ⟨x,hx,hb⟩
   ·rcases hat with hat | ⟨q,hq,hle⟩
    ·rw[hat] at hb;exact Or.inl (Or.inr (Or.inl hb))
    ·rw[hq] at hb;injection hb with hb;exact Or.inr (by omega)
   ·rcases List.mem_append.1 hx with hx | hx
    ·exact Or.inl (Or.inr (Or.inr ⟨x,hx,hb⟩))
    ·simp at hx;subst hx;exact Or.inl (Or.inl hb))
 rwa [List.set_set] at h2
theorem Ai.addT {B:Nat}{ts:List (Th B)}{W W':World}(h:Ai ts W)(e:Aa W W')(s t:Th B)(hs:s.ok W')(ht:t.ok W')(hn:∀ b,s.fp b->W.heap.size<=b)(hn':∀ b,t.fp b->W.heap.size<=b)(hd:∀ b,s.fp b->¬ t.fp b):Ai (s :: t :: ts) W' :=
 ⟨hs,fun u hu b hb hb'=>by
  rcases List.mem_cons.1 hu with rfl | hu
  ·exact hd b hb hb'
  ·have h1:=hn b hb;have h2:=(h.lt hu hb').2;omega,ht,fun u hu b hb hb'=>by
  have h1:=hn' b hb;have h2:=(h.lt hu hb').2;omega,h.ext e⟩
theorem Gj.nil (w:World)(B:Nat):Gj w B none 0 [] []:=⟨rfl,Au.nil _ _ _ _,fun i it h hi=>by simp[Dl] at hi,fun i j h h' _ hh=>by simp at hh,fun i h hh=>by simp at hh⟩
end Go.Proofs.YthibllkleakiiaaGreatDoor
