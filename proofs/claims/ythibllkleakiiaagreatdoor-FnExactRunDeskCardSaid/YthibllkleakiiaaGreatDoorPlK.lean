/- Parts of one proof, joined. Parts in order, child by child: plain laws for the walks. Conditions: in the theorems. -/
import Derived.Test.YthibllkleakiiaaGreatDoorCore
namespace Sg
inductive Tr where
 | leaf (k n:Int)
 | bin (k:Int) (x y:Tr)
 | ite (x y z:Tr)
def Tr.size:Tr->Nat
 | .leaf _ _=>1
 | .bin _ x y=>x.size+y.size+1
 | .ite x y z=>x.size+y.size+z.size+1
def Ca:Tr->Nat->List At
 | .leaf k n,_=>[⟨k,-1,-1,-1,n⟩]
 | .bin k x y,b=>Ca x b++(Ca y (b+x.size)++[⟨k,(b:Int)+x.size - 1,(b:Int)+x.size+y.size - 1,-1,0⟩])
 | .ite x y z,b=>Ca x b++(Ca y (b+x.size)++(Ca z (b+x.size+y.size)++[⟨8,(b:Int)+x.size - 1,(b:Int)+x.size+y.size - 1,(b:Int)+x.size+y.size+z.size - 1,0⟩]))
theorem C_ (t:Tr):1<=t.size:=by cases t <;> simp[Tr.size]
@[simp] theorem flat_len:∀ (t:Tr) (b:Nat),(Ca t b).length=t.size
 | .leaf _ _,_=>rfl
 | .bin _ x y,b=>by simp[Ca,Tr.size,flat_len x,flat_len y];omega
 | .ite x y z,b=>by simp[Ca,Tr.size,flat_len x,flat_len y,flat_len z];omega
def Tr.ok (m:Int):Tr->Prop
 | .leaf k n=>(k=0/\0<=n/\n<=m)\/(k=1/\0<=n/\n<=m)
 | .bin k x y=>2<=k/\k<=7/\x.ok m/\y.ok m
 | .ite x y z=>x.ok m/\y.ok m/\z.ok m
def Tr.good:Tr->Prop
 | .leaf k n=>(k=0/\0<=n/\n<=99)\/(k=1/\0<=n/\n<=9)
 | .bin k x y=>2<=k/\k<=7/\x.good/\y.good
 | .ite x y z=>x.good/\y.good/\z.good
def Tr.fine:Tr->Prop
 | .leaf k _=>k=0\/k=1
 | .bin k x y=>2<=k/\k<=7/\x.fine/\y.fine
 | .ite x y z=>x.fine/\y.fine/\z.fine
theorem Tr.good.fine:∀ {t:Tr},t.good->t.fine
 | .leaf _ _,h=>h.imp And.left And.left
 | .bin _ _ _,h=>⟨h.1,h.2.1,h.2.2.1.fine,h.2.2.2.fine⟩
 | .ite _ _ _,h=>⟨h.1.fine,h.2.1.fine,h.2.2.fine⟩
theorem Tr.ok.fine {m:Int}:∀ {t:Tr},t.ok m->t.fine
 | .leaf _ _,h=>h.imp And.left And.left
 | .bin _ _ _,h=>⟨h.1,h.2.1,h.2.2.1.fine,h.2.2.2.fine⟩
 | .ite _ _ _,h=>⟨h.1.fine,h.2.1.fine,h.2.2.fine⟩
theorem Tr.good.ok:∀ {t:Tr},t.good->t.ok 99
 | .leaf k n,h=>by
  rcases h with h | h
  ·exact .inl ⟨h.1,h.2.1,by omega⟩
  ·exact .inr ⟨h.1,h.2.1,by omega⟩
 | .bin _ _ _,h=>⟨h.1,h.2.1,h.2.2.1.ok,h.2.2.2.ok⟩
 | .ite _ _ _,h=>⟨h.1.ok,h.2.1.ok,h.2.2.ok⟩
def BI (f:List At):Nat->Int->Tr
 | 0,_=>.leaf 0 0
 | k+1,i =>
  let p:=f.getD i.toNat default
  if p.kind=8 then .ite (BI f k p.a) (BI f k p.b) (BI f k p.c)
  else if 2<=p.kind/\p.kind<=7 then .bin p.kind (BI f k p.a) (BI f k p.b)
  else .leaf p.kind p.n
def Dk (f:List At):Nat->Int->List At->List At
 | 0,_,out=>out
 | k+1,i,out =>
  let p:=f.getD i.toNat default
  if p.kind=8 then
   let o1:=Dk f k p.a out
   let o2:=Dk f k p.b o1
   let o3:=Dk f k p.c o2
   o3++[⟨p.kind,(o1.length:Int) - 1,(o2.length:Int) - 1,(o3.length:Int) - 1,p.n⟩]
  else if 2<=p.kind/\p.kind<=7 then
   let o1:=Dk f k p.a out
   let o2:=Dk f k p.b o1
   o2++[⟨p.kind,(o1.length:Int) - 1,(o2.length:Int) - 1,p.c,p.n⟩]
  else out++[p]
def BY (f:List At):List At:=if AU f=true then Dk f f.length ((f.length:Int) - 1) [] else []
theorem Fm {f:List At}(h:∀ (i:Nat) (p:At),f[i]? = some p->A_ p i=true){i:Nat}{p:At}(hp:f[i]? = some p) :
  (p.kind=8/\p.n=0/\(0<=p.a/\p.a<i)/\(0<=p.b/\p.b<i)/\(0<=p.c/\p.c<i))\/(2<=p.kind/\p.kind<=7/\p.n=0/\p.c = -1/\(0<=p.a/\p.a<i)/\(0<=p.b/\p.b<i)) \/
  (((p.kind=0/\0<=p.n/\p.n<=99)\/(p.kind=1/\0<=p.n/\p.n<=9))/\p.a = -1/\p.b = -1/\p.c = -1):=by
 have hg:=h i p hp;have hb:=Cz hg;unfold A_ at hg;rw[Bool.and_eq_true] at hg;have ha:=hg.1;unfold C8 at ha;unfold AE at hb;by_cases h8:p.kind=8
 ·rw[if_pos h8] at hb;rw[if_neg (by omega),if_neg (by omega),if_pos h8] at ha;exact .inl ⟨h8,by simpa using ha,hb _ (by simp),hb _ (by simp),hb _ (by simp)⟩
 ·rw[if_neg h8] at hb;by_cases h27:2<=p.kind/\p.kind<=7
  ·rw[if_pos h27] at hb;rw[if_neg (by omega),if_neg (by omega),if_neg h8,if_pos h27] at ha;simp only[Bool.and_eq_true,beq_iff_eq] at ha;exact .inr (.inl ⟨h27.1,h27.2,ha.1,ha.2,hb _ (by simp),hb _ (by simp)⟩)
  ·right;right
   by_cases h0:p.kind=0
   ·rw[if_pos h0] at ha;simp only[BZ,Bool.and_eq_true,beq_iff_eq,decide_eq_true_eq] at ha;exact⟨.inl ⟨h0,ha.1.1.1⟩,ha.1.1.2,ha.1.2,ha.2⟩
   ·rw[if_neg h0] at ha;by_cases h1:p.kind=1
    ·rw[if_pos h1] at ha;simp only[BZ,Bool.and_eq_true,beq_iff_eq,decide_eq_true_eq] at ha;exact⟨.inr ⟨h1,ha.1.1.1⟩,ha.1.1.2,ha.1.2,ha.2⟩
    ·rw[if_neg h1,if_neg h8,if_neg h27] at ha;cases ha
def IO (f:List At):Prop:=∀ (i:Nat) (p:At),f[i]? = some p->A_ p i=true
theorem Id {f:List At}{i:Int}(h0:0<=i)(h:i<f.length):∃ (j:Nat) (p:At),i=j/\f[j]? = some p/\f.getD i.toNat default=p:=by
 obtain⟨j,rfl⟩:=Int.eq_ofNat_of_zero_le h0;have hj:j<f.length:=by omega
 exact⟨j,f[j],rfl,List.getElem?_eq_getElem hj,by simp[List.getD_eq_getElem?_getD,hj]⟩
theorem El {f:List At}(hf:IO f):∀ (k:Nat) (i:Int) (out:List At),0<=i->i<f.length->i<k->Dk f k i out=out++Ca (BI f k i) out.length
 | 0,i,out,h0,_,h=>by omega
 | k+1,i,out,h0,hl,h=>by
  obtain⟨j,p,rfl,hp,hd⟩:=Id h0 hl;unfold Dk BI;simp only[hd];rcases Fm hf hp with ⟨h8,hn,ha,hb,hc⟩ | ⟨h2,h7,hn,hc,ha,hb⟩ | ⟨hk,ha,hb,hc⟩
  ·rw[if_pos h8,if_pos h8,El hf k p.a out ha.1 (by omega) (by omega),El hf k p.b _ hb.1 (by omega) (by omega),El hf k p.c _ hc.1 (by omega) (by omega)];simp only[List.length_append,flat_len,Ca,List.append_assoc,h8,hn];simp only[<- Nat.add_assoc,Int.natCast_add]
  ·rw[if_neg (by omega),if_pos ⟨h2,h7⟩,if_neg (by omega),if_pos ⟨h2,h7⟩,El hf k p.a out ha.1 (by omega) (by omega),El hf k p.b _ hb.1 (by omega) (by omega)];simp only[List.length_append,flat_len,Ca,List.append_assoc,hn,hc,Int.natCast_add,Int.add_assoc]
  ·rw[if_neg (by omega),if_neg (by omega),if_neg (by omega),if_neg (by omega)];obtain⟨pk,pa,pb,pc,pn⟩:=p;simp only at ha hb hc;subst ha hb hc;rfl
theorem Ez {f:List At}(hf:IO f):∀ (k:Nat) (i:Int),0<=i->i<f.length->i<k->(BI f k i).good
 | 0,i,h0,_,h=>by omega
 | k+1,i,h0,hl,h=>by
  obtain⟨j,p,rfl,hp,hd⟩:=Id h0 hl;unfold BI;simp only[hd];rcases Fm hf hp with ⟨h8,hn,ha,hb,hc⟩ | ⟨h2,h7,hn,hc,ha,hb⟩ | ⟨hk,ha,hb,hc⟩
  ·rw[if_pos h8];exact⟨Ez hf k p.a ha.1 (by omega) (by omega),Ez hf k p.b hb.1 (by omega) (by omega),Ez hf k p.c hc.1 (by omega) (by omega)⟩
  ·rw[if_neg (by omega),if_pos ⟨h2,h7⟩];exact⟨h2,h7,Ez hf k p.a ha.1 (by omega) (by omega),Ez hf k p.b hb.1 (by omega) (by omega)⟩
  ·rw[if_neg (by omega),if_neg (by omega)];exact hk
theorem ED {f:List At}(hf:IO f):∀ (k m:Nat) (i:Int),0<=i->i<f.length->i<k->i<m->BI f k i=BI f m i
 | 0,_,i,h0,_,h,_=>by omega
 | _,0,i,h0,_,_,h=>by omega
 | k+1,m+1,i,h0,hl,h,h'=>by
  obtain⟨j,p,rfl,hp,hd⟩:=Id h0 hl;unfold BI;simp only[hd];rcases Fm hf hp with ⟨h8,hn,ha,hb,hc⟩ | ⟨h2,h7,hn,hc,ha,hb⟩ | ⟨hk,ha,hb,hc⟩
  ·rw[if_pos h8,if_pos h8,ED hf k m p.a ha.1 (by omega) (by omega) (by omega),ED hf k m p.b hb.1 (by omega) (by omega) (by omega),ED hf k m p.c hc.1 (by omega) (by omega) (by omega)]
  ·rw[if_neg (by omega),if_pos ⟨h2,h7⟩,if_neg (by omega),if_pos ⟨h2,h7⟩,ED hf k m p.a ha.1 (by omega) (by omega) (by omega),ED hf k m p.b hb.1 (by omega) (by omega) (by omega)]
  ·rw[if_neg (by omega),if_neg (by omega),if_neg (by omega),if_neg (by omega)]
def Ko (f:List At)(i:Int):Nat:=(BI f f.length i).size
def JU (f:List At)(l:List Int):Nat:=(l.map (Ko f)).sum
theorem Sm {f:List At}(hf:IO f){i:Nat}{p:At}(hp:f[i]? = some p):Ko f (i:Int)=1+JU f (AE p):=by
 have hi:=(List.getElem?_eq_some_iff.1 hp).1;obtain⟨j,q,e,hq,hd⟩:=Id (f:=f) (i:=(i:Int)) (by omega) (by omega);obtain rfl:i=j:=by omega
 rw[hp] at hq;injection hq with hq;subst hq;unfold Ko JU;obtain⟨k,hk⟩:∃ k,f.length=k+1:=⟨f.length - 1,by omega⟩;have e1:∀ x:Int,0<=x->x<i->BI f k x=BI f f.length x:=fun x h0 h1=>ED hf k f.length x h0 (by omega) (by omega) (by omega);rw[show BI f f.length (i:Int)=BI f (k+1) (i:Int) by rw[hk]];unfold BI;simp only[hd];unfold AE;rcases Fm hf hp with ⟨h8,hn,ha,hb,hc⟩ | ⟨h2,h7,hn,hc,ha,hb⟩ | ⟨hk,ha,hb,hc⟩
 ·rw[if_pos h8,if_pos h8,e1 _ ha.1 ha.2,e1 _ hb.1 hb.2,e1 _ hc.1 hc.2];simp[Tr.size,Ko];omega
 ·rw[if_neg (by omega),if_pos ⟨h2,h7⟩,if_neg (by omega),if_pos ⟨h2,h7⟩,e1 _ ha.1 ha.2,e1 _ hb.1 hb.2];simp[Tr.size,Ko];omega
 ·rw[if_neg (by omega),if_neg (by omega),if_neg (by omega),if_neg (by omega)];rfl
def Gz (n:Nat)(l:List Int):List Int:=((List.range n).map Int.ofNat).filter fun i=>decide (i ∉ l)
theorem Kp (f:List At)(p q:Int->Bool)(l:List Int)(h:∀ x ∈ l,p x=true->q x=true):JU f (l.filter q)=JU f (l.filter p)+JU f (l.filter fun x=>q x && !p x):=by
 induction l with
 | nil=>rfl
 | cons x l ih =>
  have ih:=ih (fun y hy=>h y (by simp[hy]));have hx:=h x (by simp);unfold JU at ih ⊢;cases hp:p x
  ·cases hq:q x
   ·simp[hp,hq,ih]
   ·simp[hp,hq,ih];omega
  ·have hq:=hx hp;simp[hp,hq,ih];omega
theorem Sn (f:List At){l m:List Int}(h:l.Perm m):JU f l=JU f m:=(h.map _).sum_nat
theorem TH {f:List At}(hf:IO f)(hu:∀ i:Nat,(AQ f).count (i:Int)<=1)(k:Nat)(hk:k<=f.length):JU f (Gz k (AQ (f.take k)))=k:=by
 induction k with
 | zero=>rfl
 | succ k ih =>
  have ih:=ih (by omega);have hp:f[k]? = some f[k]:=List.getElem?_eq_getElem (by omega);generalize f[k]=p at hp;have ht:f.take (k+1)=f.take k++[p]:=by rw[List.take_add_one,hp];rfl
  have hbel:AQ (f.take (k+1))=AQ (f.take k)++AE p:=by unfold AQ;rw[ht,List.flatMap_append];simp
  have hsz:=Sm hf hp;have hlt:=Cz (hf k p hp)
  have hcount:∀ i:Int,0<=i->(AQ (f.take k)).count i+(AE p).count i<=1:=fun i hi=>by
   obtain⟨j,rfl⟩:=Int.eq_ofNat_of_zero_le hi;have e:AQ f=AQ (f.take (k+1))++AQ (f.drop (k+1)):=by unfold AQ;rw[<- List.flatMap_append,List.take_append_drop]
   have:=hu j;rw[e,List.count_append,hbel,List.count_append] at this;omega
  have hbk:∀ x ∈ AQ (f.take k),0<=x/\x<(k:Int):=fun x hx=>by
   unfold AQ at hx;rw[List.mem_flatMap] at hx;obtain⟨q,hq,hx⟩:=hx;obtain⟨j,hj,e⟩:=List.getElem_of_mem hq;rw[List.getElem_take] at e;have hjk:j<k:=by rw[List.length_take] at hj;omega
   have:=Cz (hf j q (by rw[<- e];exact List.getElem?_eq_getElem (by omega))) x hx;omega
  have h1:Gz (k+1) (AQ (f.take (k+1)))=(Gz k (AQ (f.take k))).filter (fun i=>decide (i ∉ AE p))++[(k:Int)]:=by
   unfold Gz;rw[List.range_succ,List.map_append,List.filter_append,List.filter_filter,hbel];congr 1
   ·congr 1
    funext i
    simp[List.mem_append,not_or,Bool.and_comm]
   ·have h1:((k:Int)) ∉ AQ (f.take k):=fun e=>by have:=hbk _ e;omega
    have h2:((k:Int)) ∉ AE p:=fun e=>by have:=hlt _ e;omega
    simp[h1,h2]
  have h2:JU f (Gz k (AQ (f.take k)))=JU f ((Gz k (AQ (f.take k))).filter fun i=>decide (i ∉ AE p))+JU f (AE p):=by
   have hs:=Kp f (fun i=>decide (i ∉ AE p)) (fun _=>true) (Gz k (AQ (f.take k))) (fun _ _ _=>rfl);rw[List.filter_eq_self.2 (fun _ _=>rfl)] at hs;rw[hs];congr 1
   refine Sn f ?_
   have hnd:(AE p).Nodup:=List.nodup_iff_count.2 fun x=>by
    by_cases hx:x ∈ AE p
    ·have:=hcount x (hlt x hx).1;omega
    ·rw[List.count_eq_zero_of_not_mem hx];omega
   refine(List.perm_ext_iff_of_nodup ?_ hnd).2 fun x=>?_
   ·refine List.Nodup.sublist (List.filter_sublist) ?_;unfold Gz;refine List.Nodup.sublist (List.filter_sublist) ?_;rw[List.nodup_iff_pairwise_ne,List.pairwise_map];exact(List.nodup_iff_pairwise_ne.1 (List.nodup_range)).imp fun h e=>h (Int.ofNat.inj e)
   ·simp only[List.mem_filter,decide_not,Bool.not_not,Bool.true_and,decide_eq_true_eq];refine⟨fun h=>h.2,fun hx=>⟨?_,hx⟩⟩;have hr:=hlt x hx;obtain⟨j,rfl⟩:=Int.eq_ofNat_of_zero_le hr.1;unfold Gz;rw[List.mem_filter];refine⟨List.mem_map.2 ⟨j,List.mem_range.2 (by omega),rfl⟩,decide_eq_true fun e=>?_⟩;have:=hcount j hr.1;have c1:=List.count_pos_iff.2 e;have c2:=List.count_pos_iff.2 hx;omega
  rw[h1];unfold JU at *;rw[List.map_append,List.sum_append];simp only[List.map_cons,List.map_nil,List.sum_cons,List.sum_nil];omega
theorem Da {f:List At}(h:AU f=true):IO f:=IG h
theorem OB {f:List At}(h:AU f=true):IF f=true:=by
 unfold AU at h;simp only[Bool.and_eq_true] at h;exact h.2
theorem LO {f:List At}(hf:IO f){x:Int}(hx:x ∈ AQ f):0<=x/\x+1<(f.length:Int):=by
 unfold AQ at hx;rw[List.mem_flatMap] at hx;obtain⟨q,hq,hx⟩:=hx;obtain⟨j,hj,rfl⟩:=List.getElem_of_mem hq;have:=Cz (hf j _ (List.getElem?_eq_getElem hj)) x hx;omega
theorem Jx {f:List At}(h:AU f=true)(i:Nat):(AQ f).count (i:Int)=if i+1<f.length then 1 else 0:=by
 split
 ·rename_i hi
  have hu:=OB h;unfold IF at hu;rw[List.all_eq_true] at hu;simpa using hu i (List.mem_range.2 (by omega))
 ·rename_i hi
  refine List.count_eq_zero_of_not_mem fun e=>?_;have:=LO (Da h) e;omega
theorem Kl {f:List At}(h:AU f=true):(BI f f.length ((f.length:Int) - 1)).size=f.length:=by
 have hl:=Cn h;have hs:=TH (Da h) (fun i=>by rw[Jx h];split <;> omega) f.length (Nat.le_refl _);rw[List.take_length] at hs
 have e:Gz f.length (AQ f)=[((f.length - 1:Nat):Int)]:=by
  obtain⟨n,hn⟩:∃ n,f.length=n+1:=⟨f.length - 1,by omega⟩;unfold Gz;rw[hn,List.range_succ,List.map_append,List.filter_append]
  have h1:((List.range n).map Int.ofNat).filter (fun i=>decide (i ∉ AQ f))=[]:=by
   rw[List.filter_eq_nil_iff];intro x hx;obtain⟨j,hj,rfl⟩:=List.mem_map.1 hx;have hj:=List.mem_range.1 hj;have hc:=Jx h j;rw[if_pos (by omega)] at hc;have:=List.count_pos_iff.1 (show 0<(AQ f).count (j:Int) by omega);simpa using this
  have h2:((n:Nat):Int) ∉ AQ f:=fun e=>by
   have:=LO (Da h) e;omega
  rw[h1];simp[h2]
 rw[e] at hs;unfold JU Ko at hs;simp only[List.map_cons,List.map_nil,List.sum_cons,List.sum_nil,Nat.add_zero] at hs;rw[show ((f.length:Int) - 1)=((f.length - 1:Nat):Int) by omega];exact hs
theorem JA {f:List At}(h:AU f=true):BY f=Ca (BI f f.length ((f.length:Int) - 1)) 0:=by
 have hl:=Cn h;unfold BY;rw[if_pos h,El (Da h) _ _ _ (by omega) (by omega) (by omega)];rfl
theorem Qn {f:List At}(h:AU f=true):(BI f f.length ((f.length:Int) - 1)).good:=by
 have hl:=Cn h;exact Ez (Da h) _ _ (by omega) (by omega) (by omega)
theorem Fk (a b:List At):AQ (a++b)=AQ a++AQ b:=by unfold AQ;rw[List.flatMap_append]
theorem GA (p:At):AQ [p]=AE p:=by unfold AQ;simp
theorem Cx:∀ (t:Tr)(b i:Nat),t.fine->(AQ (Ca t b)).count (i:Int)=if b<=i/\i+1<b+t.size then 1 else 0
 | .leaf k n,b,i,h=>by
  have:AQ (Ca (.leaf k n) b)=[]:=by
   show AQ [_]=[];rw[GA];unfold AE;rcases h with rfl | rfl
   ·rfl
   ·rfl
  rw[this,if_neg (by simp only[Tr.size];omega)];rfl
 | .bin k x y,b,i,h=>by
  obtain⟨h2,h7,hx,hy⟩:=h;have px:=C_ x;have py:=C_ y
  have e:AE (⟨k,(b:Int)+x.size - 1,(b:Int)+x.size+y.size - 1,-1,0⟩:At)=[(b:Int)+x.size - 1,(b:Int)+x.size+y.size - 1]:=by
   unfold AE;rw[if_neg (by simp only;omega),if_pos ⟨h2,h7⟩]
  have hsz:(Tr.bin k x y).size=x.size+y.size+1:=rfl;by_cases hR:b<=i/\i+1<b+(Tr.bin k x y).size
  ·rw[if_pos hR];simp only[Ca,Fk,GA,e,List.count_append,Cx x b i hx,Cx y (b+x.size) i hy,List.count_cons,List.count_nil,beq_iff_eq];split <;> split <;> split <;> split <;> omega
  ·rw[if_neg hR];simp only[Ca,Fk,GA,e,List.count_append,Cx x b i hx,Cx y (b+x.size) i hy,List.count_cons,List.count_nil,beq_iff_eq];split <;> split <;> split <;> split <;> omega
 | .ite x y z,b,i,h=>by
  obtain⟨hx,hy,hz⟩:=h;have px:=C_ x;have py:=C_ y;have pz:=C_ z
  have e:AE (⟨8,(b:Int)+x.size - 1,(b:Int)+x.size+y.size - 1,(b:Int)+x.size+y.size+z.size - 1,0⟩:At)=[(b:Int)+x.size - 1,(b:Int)+x.size+y.size - 1,(b:Int)+x.size+y.size+z.size - 1]:=by
   unfold AE;rw[if_pos rfl]
  have hsz:(Tr.ite x y z).size=x.size+y.size+z.size+1:=rfl;by_cases hR:b<=i/\i+1<b+(Tr.ite x y z).size
  ·rw[if_pos hR];simp only[Ca,Fk,GA,e,List.count_append,Cx x b i hx,Cx y (b+x.size) i hy,Cx z (b+x.size+y.size) i hz,List.count_cons,List.count_nil,beq_iff_eq];split <;> split <;> split <;> split <;> split <;> split <;> omega
  ·rw[if_neg hR];simp only[Ca,Fk,GA,e,List.count_append,Cx x b i hx,Cx y (b+x.size) i hy,Cx z (b+x.size+y.size) i hz,List.count_cons,List.count_nil,beq_iff_eq];split <;> split <;> split <;> split <;> split <;> split <;> omega
theorem JV (a b:List At)(i:Nat):Bp i (a++b)=(Bp i a && Bp (i+a.length) b):=by
 induction a generalizing i with
 | nil=>simp[Bp]
 | cons p a ih=>simp[Bp,ih,Bool.and_assoc,Nat.add_comm,Nat.add_left_comm]
theorem Ip (p:At)(i:Nat):Bp i [p]=A_ p i:=by simp[Bp]
theorem Gf:∀ (t:Tr)(b:Nat),t.good->Bp b (Ca t b)=true
 | .leaf k n,b,h=>by
  show Bp b [_]=true;rw[Ip];unfold A_ C8 AE;rcases h with ⟨rfl,h⟩ | ⟨rfl,h⟩
  ·simp[BZ,h]
  ·simp[BZ,h]
 | .bin k x y,b,h=>by
  obtain⟨h2,h7,hx,hy⟩:=h;have px:=C_ x;have py:=C_ y;simp only[Ca,JV,Ip,flat_len,Gf x b hx,Gf y (b+x.size) hy,Bool.true_and];unfold A_ C8 AE;simp only;rw[if_neg (by omega),if_neg (by omega),if_neg (by omega),if_pos ⟨h2,h7⟩,if_neg (by omega),if_pos ⟨h2,h7⟩];simp only[List.all_cons,List.all_nil,BZ,Bool.and_true,Bool.and_eq_true,beq_self_eq_true,decide_eq_true_eq,true_and];omega
 | .ite x y z,b,h=>by
  obtain⟨hx,hy,hz⟩:=h;have px:=C_ x;have py:=C_ y;have pz:=C_ z;simp only[Ca,JV,Ip,flat_len,Gf x b hx,Gf y (b+x.size) hy,Gf z (b+x.size+y.size) hz,Bool.true_and];unfold A_ C8 AE;simp only;rw[if_neg (by omega),if_neg (by omega),if_pos trivial,if_pos trivial];simp only[List.all_cons,List.all_nil,BZ,Bool.and_true,Bool.and_eq_true,beq_self_eq_true,decide_eq_true_eq,true_and];omega
theorem In {t:Tr}(h:t.good)(hs:t.size<=12):AU (Ca t 0)=true:=by
 have hp:=C_ t;unfold AU;rw[Gf t 0 h,flat_len];simp only[Bool.and_true,Bool.and_eq_true];refine⟨by simp[BZ];omega,?_⟩;unfold IF;rw[List.all_eq_true];intro i hi;rw[flat_len] at hi;have hi:=List.mem_range.1 hi;rw[Cx t 0 i h.fine,if_pos (by omega)];rfl
theorem Gg:∀ (t:Tr)(b k:Nat)(f:List At)(n:Nat),t.good->f.length=n->b+t.size<=n->(∀ j p,(Ca t b)[j]? = some p->f[b+j]? = some p)->b+t.size<=k->BI f k ((b+t.size:Nat) - 1:Int)=t
 | .leaf c n,b,k,f,_,hg,rfl,hl,hf,hk=>by
  obtain⟨k,rfl⟩:∃ m,k=m+1:=⟨k - 1,by simp only[Tr.size] at hk;omega⟩;have h0:=hf 0 ⟨c,-1,-1,-1,n⟩ rfl;have e:(((b+(Tr.leaf c n).size:Nat):Int) - 1).toNat=b:=by simp only[Tr.size];omega
  unfold BI;simp only[e,List.getD_eq_getElem?_getD];rw[Nat.add_zero] at h0;rw[h0];simp only[Option.getD_some];rcases hg with ⟨rfl,-⟩ | ⟨rfl,-⟩
  ·rw[if_neg (by decide),if_neg (by decide)]
  ·rw[if_neg (by decide),if_neg (by decide)]
 | .bin c x y,b,k,f,_,hg,rfl,hl,hf,hk=>by
  obtain⟨h2,h7,hx,hy⟩:=hg;simp only[Tr.size] at hl hk;obtain⟨k,rfl⟩:∃ m,k=m+1:=⟨k - 1,by omega⟩;have lx:=flat_len x b;have ly:=flat_len y (b+x.size)
  have h0:=hf (x.size+y.size) ⟨c,(b:Int)+x.size - 1,(b:Int)+x.size+y.size - 1,-1,0⟩ (by
   simp only[Ca];rw[List.getElem?_append_right (by omega),List.getElem?_append_right (by omega),lx,ly,show x.size+y.size - x.size - y.size=0 by omega];rfl)
  have e:(((b+(Tr.bin c x y).size:Nat):Int) - 1).toNat=b+(x.size+y.size):=by simp only[Tr.size];omega
  unfold BI;simp only[e,List.getD_eq_getElem?_getD,h0,Option.getD_some];rw[if_neg (by omega),if_pos ⟨h2,h7⟩];have ex:=Gg x b k f _ hx rfl (by omega) (fun j p hj=>hf j p (by simp only[Ca];rw[List.getElem?_append_left (List.getElem?_eq_some_iff.1 hj).1];exact hj)) (by omega)
  have ey:=Gg y (b+x.size) k f _ hy rfl (by omega) (fun j p hj=>by
   have:=hf (x.size+j) p (by
    simp only[Ca];rw[List.getElem?_append_right (by omega),lx,show x.size+j - x.size=j by omega,List.getElem?_append_left (List.getElem?_eq_some_iff.1 hj).1];exact hj)
   rwa [<- Nat.add_assoc] at this) (by omega)
  rw[show (b:Int)+x.size - 1=((b+x.size:Nat):Int) - 1 by omega,ex,show (b:Int)+x.size+y.size - 1=((b+x.size+y.size:Nat):Int) - 1 by omega,ey]
 | .ite x y z,b,k,f,_,hg,rfl,hl,hf,hk=>by
  obtain⟨hx,hy,hz⟩:=hg;simp only[Tr.size] at hl hk;obtain⟨k,rfl⟩:∃ m,k=m+1:=⟨k - 1,by omega⟩;have lx:=flat_len x b;have ly:=flat_len y (b+x.size);have lz:=flat_len z (b+x.size+y.size)
  have h0:=hf (x.size+(y.size+z.size)) ⟨8,(b:Int)+x.size - 1,(b:Int)+x.size+y.size - 1,(b:Int)+x.size+y.size+z.size - 1,0⟩ (by
   simp only[Ca];rw[List.getElem?_append_right (by omega),List.getElem?_append_right (by omega),List.getElem?_append_right (by omega),lx,ly,lz,show x.size+(y.size+z.size) - x.size - y.size - z.size=0 by omega];rfl)
  have e:(((b+(Tr.ite x y z).size:Nat):Int) - 1).toNat=b+(x.size+(y.size+z.size)):=by simp only[Tr.size];omega
  unfold BI;simp only[e,List.getD_eq_getElem?_getD,h0,Option.getD_some];rw[if_pos trivial];have ex:=Gg x b k f _ hx rfl (by omega) (fun j p hj=>hf j p (by simp only[Ca];rw[List.getElem?_append_left (List.getElem?_eq_some_iff.1 hj).1];exact hj)) (by omega)
  have ey:=Gg y (b+x.size) k f _ hy rfl (by omega) (fun j p hj=>by
   have:=hf (x.size+j) p (by
    simp only[Ca];rw[List.getElem?_append_right (by omega),lx,show x.size+j - x.size=j by omega,List.getElem?_append_left (List.getElem?_eq_some_iff.1 hj).1];exact hj)
   rwa [<- Nat.add_assoc] at this) (by omega)
  have ez:=Gg z (b+x.size+y.size) k f _ hz rfl (by omega) (fun j p hj=>by
   have:=hf (x.size+(y.size+j)) p (by
    simp only[Ca];rw[List.getElem?_append_right (by omega),List.getElem?_append_right (by omega),lx,ly,show x.size+(y.size+j) - x.size - y.size=j by omega,List.getElem?_append_left (List.getElem?_eq_some_iff.1 hj).1];exact hj)
   rwa [<- Nat.add_assoc,<- Nat.add_assoc] at this) (by omega)
  rw[show (b:Int)+x.size - 1=((b+x.size:Nat):Int) - 1 by omega,ex,show (b:Int)+x.size+y.size - 1=((b+x.size+y.size:Nat):Int) - 1 by omega,ey,show (b:Int)+x.size+y.size+z.size - 1=((b+x.size+y.size+z.size:Nat):Int) - 1 by omega,ez]
theorem FP {t:Tr}(h:t.good)(hs:t.size<=12):BY (Ca t 0)=Ca t 0:=by
 rw[JA (In h hs)];have:=Gg t 0 (Ca t 0).length (Ca t 0) t.size h (by simp) (by omega) (fun j p hj=>by simpa using hj) (by simp);rw[Nat.zero_add] at this;rw[show (((Ca t 0).length:Nat):Int) - 1=(t.size:Int) - 1 by simp,this]
def FQ (f:List At)(k:Nat)(l:List Int)(out:List At):List At:=l.foldl (fun o x=>Dk f k x o) out
def UM (l:List At):Int:=(l.length:Int) - 1
def Oz (f:List At)(k:Nat)(p:At)(out:List At)(j:Nat):At :=
 ⟨p.kind,if 0<j then UM (FQ f k ((AE p).take 1) out) else p.a,if 1<j then UM (FQ f k ((AE p).take 2) out) else p.b,if 2<j then UM (FQ f k ((AE p).take 3) out) else p.c,p.n⟩
theorem Qq {f:List At}{k:Nat}{i:Int}{p:At}(hd:f.getD i.toNat default=p)(out:List At):Dk f (k+1) i out=FQ f k (AE p) out++[Oz f k p out (AE p).length]:=by
 unfold Dk;simp only[hd];unfold Oz AE FQ UM;by_cases h8:p.kind=8
 ·simp[h8]
 ·by_cases h27:2<=p.kind/\p.kind<=7
  ·simp[h8,h27]
  ·simp[h8,h27]
theorem OA {f:List At}{k:Nat}{l:List Int}{j:Nat}{x:Int}(h:l[j]? = some x)(out:List At):FQ f k (l.take (j+1)) out=Dk f k x (FQ f k (l.take j) out):=by
 unfold FQ;rw[List.take_add_one,h];simp
theorem Qr (f:List At)(k:Nat)(p:At)(out:List At):Oz f k p out 0=p:=by simp[Oz]
theorem MU {f:List At}(hf:IO f){k:Nat}{i:Int}(h0:0<=i)(hl:i<f.length)(hk:i<k)(out:List At):(Dk f k i out).length=out.length+(BI f k i).size:=by
 rw[El hf k i out h0 hl hk,List.length_append,flat_len]
theorem TG {f:List At}(hf:IO f){k:Nat}{i:Nat}{p:At}(hp:f[i]? = some p)(hk:i<k+1)(out:List At) :
  (FQ f k (AE p) out).length+1=out.length+(BI f (k+1) (i:Int)).size /\
  ∀ (j:Nat) (x:Int),(AE p)[j]? = some x->(FQ f k ((AE p).take j) out).length+(BI f k x).size+1<=out.length+(BI f (k+1) (i:Int)).size:=by
 have hi:=(List.getElem?_eq_some_iff.1 hp).1;obtain⟨j',q,e,hq,hd⟩:=Id (f:=f) (i:=(i:Int)) (by omega) (by omega);obtain rfl:i=j':=by omega
 rw[hp] at hq;injection hq with hq;subst hq;have hL:∀ (x:Int) (o:List At),0<=x->x<i->(Dk f k x o).length=o.length+(BI f k x).size:=fun x o h0 h1=>MU hf h0 (by omega) (by omega) o
 have eT:BI f (k+1) (i:Int)=if p.kind=8 then .ite (BI f k p.a) (BI f k p.b) (BI f k p.c) else if 2<=p.kind/\p.kind<=7 then .bin p.kind (BI f k p.a) (BI f k p.b) else .leaf p.kind p.n:=by
  rw[BI];simp only[hd]
 rw[eT];unfold AE FQ;rcases Fm hf hp with ⟨h8,hn,ha,hb,hc⟩ | ⟨h2,h7,hn,hc,ha,hb⟩ | ⟨hk,ha,hb,hc⟩
 ·rw[if_pos h8,if_pos h8];simp only[List.foldl_cons,List.foldl_nil,Tr.size];have e1:=hL p.a out ha.1 ha.2;have e2:=hL p.b (Dk f k p.a out) hb.1 hb.2;have e3:=hL p.c (Dk f k p.b (Dk f k p.a out)) hc.1 hc.2;refine⟨by omega,fun j x hx=>?_⟩;match j,hx with
  | 0,hx=>simp only[List.getElem?_cons_zero,Option.some.injEq] at hx;subst hx;simp;omega
  | 1,hx=>simp only[List.getElem?_cons_succ,List.getElem?_cons_zero,Option.some.injEq] at hx;subst hx;simp;omega
  | 2,hx=>simp only[List.getElem?_cons_succ,List.getElem?_cons_zero,Option.some.injEq] at hx;subst hx;simp;omega
  | j+3,hx=>simp at hx
 ·rw[if_neg (by omega:¬ p.kind=8),if_pos ⟨h2,h7⟩,if_neg (by omega:¬ p.kind=8),if_pos ⟨h2,h7⟩];simp only[List.foldl_cons,List.foldl_nil,Tr.size];have e1:=hL p.a out ha.1 ha.2;have e2:=hL p.b (Dk f k p.a out) hb.1 hb.2;refine⟨by omega,fun j x hx=>?_⟩;match j,hx with
  | 0,hx=>simp only[List.getElem?_cons_zero,Option.some.injEq] at hx;subst hx;simp;omega
  | 1,hx=>simp only[List.getElem?_cons_succ,List.getElem?_cons_zero,Option.some.injEq] at hx;subst hx;simp;omega
  | j+2,hx=>simp at hx
 ·rw[if_neg (by omega:¬ p.kind=8),if_neg (by omega:¬ (2<=p.kind/\p.kind<=7)),if_neg (by omega:¬ p.kind=8),if_neg (by omega:¬ (2<=p.kind/\p.kind<=7))];exact⟨rfl,fun j x hx=>by simp at hx⟩
end Sg
