/- Parts of one proof, joined. Sorting and striking doubles gives the nodes that may be read, ascending, and more. Conditions: in the theorems. -/
import Derived.Lib.SlicesCompact
import Derived.Test.YthibllkleakiiaaGreatDoorShelf
import Derived.Sort.OwnSortedInts
import Derived.Lib.RowBridge
import Derived.Test.YthibllkleakiiaaGreatDoorImplOne
import Derived.Test.YthibllkleakiiaaGreatDoorSpecTwo
namespace Sg
theorem MJ:∀ (l m:List Int),l.Pairwise (·<·)->m.Pairwise (·<·)->(∀ x,x ∈ l↔x ∈ m)->l=m
 | [],[],_,_,_=>rfl
 | [],y :: m,_,_,h=>absurd ((h y).2 (by simp)) (by simp)
 | x :: l,[],_,_,h=>absurd ((h x).1 (by simp)) (by simp)
 | x :: l,y :: m,hl,hm,h=>by
  rw[List.pairwise_cons] at hl hm
  have hxy:x=y:=by
   rcases List.mem_cons.1 ((h x).1 (by simp)) with e | e
   ·exact e
   ·rcases List.mem_cons.1 ((h y).2 (by simp)) with e' | e'
    ·exact e'.symm
    ·have:=hm.1 x e;have:=hl.1 y e';omega
  subst hxy;rw[MJ l m hl.2 hm.2 fun z=>⟨fun hz=>?_,fun hz=>?_⟩]
  ·rcases List.mem_cons.1 ((h z).1 (List.mem_cons_of_mem _ hz)) with e | e
   ·have:=hl.1 z hz;omega
   ·exact e
  ·rcases List.mem_cons.1 ((h z).2 (List.mem_cons_of_mem _ hz)) with e | e
   ·have:=hm.1 z hz;omega
   ·exact e
theorem Oi (f:List At):(AY f).Pairwise (·<·):=by
 unfold AY;refine List.Pairwise.filter _ ?_;rw[List.pairwise_map];refine List.Pairwise.imp ?_ (List.pairwise_lt_range (n:=10));intro a b h;exact Int.ofNat_lt.2 h
theorem K4 {f:List At}{x:Int}:x ∈ AY f↔(0<=x/\x<=9)/\∃ p ∈ f,p.kind=1/\p.n=x:=by
 unfold AY;rw[List.mem_filter,List.mem_map];constructor
 ·rintro ⟨⟨y,hy,rfl⟩,h⟩;rw[List.mem_range] at hy;unfold C9 at h;rw[List.any_eq_true] at h;obtain⟨p,hp,h⟩:=h;simp only[Bool.and_eq_true,beq_iff_eq] at h;exact⟨⟨by simp,by simp;omega⟩,p,hp,h⟩
 ·rintro ⟨⟨h0,h9⟩,p,hp,h⟩;refine⟨⟨x.toNat,by rw[List.mem_range];omega,by simp;omega⟩,?_⟩;unfold C9;rw[List.any_eq_true];exact⟨p,hp,by simp[h]⟩
def C1 (f:List At):List Int:=(f.filter fun p=>p.kind == 1).map (·.n)
theorem Lz (d:Array Int)(n:Nat)(_hn:n<=d.size)(hs:∀ i j,i<j->j<n->d[i]! <= d[j]!) :
  ∀ m,m<=n->(Go.Lib.compactUpTo d m).Pairwise (·<·)/\∀ x,x ∈ Go.Lib.compactUpTo d m↔∃ j,j<m/\d[j]! = x:=by
 intro m;induction m with
 | zero=>intro _;simp[Go.Lib.compactUpTo]
 | succ m ih =>
  intro hm;obtain⟨h1,h2⟩:=ih (by omega);rw[Go.Lib.compactUpTo_succ];by_cases hk:m=0\/d[m]! ≠ d[m - 1]!
  ·have hkeep:Go.Lib.keeps d m=true:=by simp[Go.Lib.keeps,hk]
   rw[if_pos hkeep];refine⟨?_,?_⟩
   ·rw[List.pairwise_append];refine⟨h1,List.pairwise_singleton _ _,?_⟩;intro x hx y hy;rw[List.mem_singleton] at hy;subst hy;obtain⟨j,hj,rfl⟩:=(h2 x).1 hx;rcases hk with hk | hk
    ·omega
    ·have hlast:=hs (m - 1) m (by omega) (by omega);rcases Nat.lt_or_ge j (m - 1) with hjm | hjm
     ·have:=hs j (m - 1) hjm (by omega);omega
     ·obtain rfl:j=m - 1:=by omega
      omega
   ·intro x;rw[List.mem_append,h2,List.mem_singleton];constructor
    ·rintro (⟨j,hj,rfl⟩ | rfl)
     ·exact⟨j,by omega,rfl⟩
     ·exact⟨m,by omega,rfl⟩
    ·rintro ⟨j,hj,rfl⟩;rcases Nat.lt_or_ge j m with h | h
     ·exact .inl ⟨j,h,rfl⟩
     ·obtain rfl:j=m:=by omega
      exact .inr rfl
  ·have hm0:¬ m=0:=fun e=>hk (.inl e);have heq:d[m]! = d[m - 1]! := Classical.byContradiction fun e=>hk (.inr e);have hkeep:¬ Go.Lib.keeps d m=true:=by simp[Go.Lib.keeps,hm0,heq]
   rw[if_neg hkeep,List.append_nil];refine⟨h1,fun x=>?_⟩;rw[h2];constructor
   ·rintro ⟨j,hj,rfl⟩;exact⟨j,by omega,rfl⟩
   ·rintro ⟨j,hj,rfl⟩;rcases Nat.lt_or_ge j m with h | h
    ·exact⟨j,h,rfl⟩
    ·obtain rfl:j=m:=by omega
     exact⟨j - 1,by omega,heq.symm⟩
theorem Nr (f:List At)(hv:∀ p ∈ f,p.kind=1->0<=p.n/\p.n<=9):Go.Lib.compact ((C1 f).mergeSort fun x y=>decide (x<=y))=AY f:=by
 have hsort:((C1 f).mergeSort fun x y=>decide (x<=y)).Pairwise (fun a b=>decide (a<=b)=true) :=
  List.pairwise_mergeSort (fun a b c h1 h2=>by simp at *;omega) (fun a b=>by simp;omega) _
 have hmem:∀ x,x ∈ ((C1 f).mergeSort fun x y=>decide (x<=y))↔x ∈ C1 f:=fun x=>List.mem_mergeSort;generalize ((C1 f).mergeSort fun x y=>decide (x<=y))=S at *
 have key:=Lz S.toArray S.length (by simp) (fun i j hij hj=>by
  have:=List.pairwise_iff_getElem.1 hsort i j (by omega) hj hij;simp only[decide_eq_true_eq] at this;simpa[show i<S.length by omega,hj] using this) S.length (Nat.le_refl _)
 refine MJ _ _ key.1 (Oi f) fun x=>?_;unfold Go.Lib.compact;rw[key.2,K4]
 have h1:(∃ j,j<S.length/\S.toArray[j]! = x)↔x ∈ S:=by
  rw[List.mem_iff_getElem];constructor
  ·rintro ⟨j,hj,h⟩;exact⟨j,hj,by simpa[hj] using h⟩
  ·rintro ⟨j,hj,h⟩;exact⟨j,hj,by simpa[hj] using h⟩
 rw[h1,hmem];unfold C1;rw[List.mem_map];constructor
 ·rintro ⟨p,hp,rfl⟩;rw[List.mem_filter] at hp;have hk:p.kind=1:=by simpa using hp.2
  exact⟨hv p hp.1 hk,p,hp.1,hk,rfl⟩
 ·rintro ⟨_,p,hp,hk,rfl⟩;exact⟨p,by rw[List.mem_filter];exact⟨hp,by simp[hk]⟩,rfl⟩
theorem Oj:Go.Lib.compact ([]:List Int)=[]:=rfl
end Sg
namespace Go.Proofs.YthibllkleakiiaaGreatDoor
open Go.RowKit Go.Sort
theorem AH.ofGrown {w w':World}{A:Option Addr}{g:Nat}(h:w.grownBy w' (some g))(hA:AD A=some g):AH (fun b=>AD A=some b) w w' :=
 ⟨h.os,h.tape,h.output,h.size,fun b hb hn=>h.block b hb fun e=>hn (by rw[hA,e])⟩
theorem VU {B:Nat}(A:Option Addr)(c:Nat)(l:List Int)(w:World)(h:AA w B 3 1 A l.length c (Ah l))(hl:l.length<=4194304) :
  Calls Tryz.prog 158 #[.slice A l.length c] w fun e w'=>e= .returned (.tuple #[])/\AA w' B 3 1 A l.length c (Ah (l.mergeSort fun x y=>decide (x<=y)))/\AH (fun b=>AD A=some b) w w':=by
 rcases Nat.eq_zero_or_pos l.length with h0 | h0
 ·have hn:l=[]:=List.eq_nil_of_length_eq_zero h0;subst hn;refine(Tryz.slices_Sort_int_none A c w).mono ?_;rintro e w' ⟨rfl,rfl⟩;exact⟨rfl,by simpa using h,AH.rfl' _ _⟩
 ·obtain⟨g,rfl,hB⟩:=h.at_ (by omega);obtain⟨hxl,hnc,hcm,hcase⟩:=h;rcases hcase with ⟨h1,_⟩ | ⟨g',cur,ha,_,hh,hcs,ht⟩
  ·cases h1
  simp only[Option.some.injEq,Addr.mk.injEq,and_true] at ha;subst ha;have hg:g<w.heap.size:=(Array.getElem?_eq_some_iff.1 hh).1;have hlen:(l.mergeSort fun x y=>decide (x<=y)).length=l.length:=List.length_mergeSort l;refine(Tryz.slices_Sort_int g 0 c l w (holds_of_blockI hh (by rw[Nat.mul_one] at ht;exact ht)) hg (by omega)).mono ?_;rintro e w' ⟨rfl,n,os,rfl⟩;refine⟨rfl,⟨by simp,hnc,hcm,.inr ⟨g,_,rfl,hB,heap_sortedI _ hh,by simpa[putCells] using hcs,?_⟩⟩,AH.ofGrown (grownBy_sortedI _) rfl⟩;rw[Nat.mul_one,<- hlen];exact take_putCellsI cur _ (by omega)
theorem SI {B:Nat}(A:Option Addr)(c:Nat)(l:List Int)(w:World)(h:AA w B 3 1 A l.length c (Ah l))(hl:l.length<=4194304) :
  Calls Tryz.prog 159 #[.slice A l.length c] w fun e w'=>e= .returned (.slice A (Go.Lib.compact l).length c)/\AA w' B 3 1 A (Go.Lib.compact l).length c (Ah (Go.Lib.compact l))/\AH (fun b=>AD A=some b) w w':=by
 rcases Nat.eq_zero_or_pos l.length with h0 | h0
 ·have hn:l=[]:=List.eq_nil_of_length_eq_zero h0;subst hn;refine(Tryz.slices_Compact_int_empty A c w).mono ?_;rintro e w' ⟨rfl,rfl⟩;exact⟨rfl,by rw[Sg.Oj];simpa using h,AH.rfl' _ _⟩
 ·obtain⟨g,rfl,hB⟩:=h.at_ (by omega);obtain⟨hxl,hnc,hcm,hcase⟩:=h;rcases hcase with ⟨h1,_⟩ | ⟨g',cur,ha,_,hh,hcs,ht⟩
  ·cases h1
  simp only[Option.some.injEq,Addr.mk.injEq,and_true] at ha;subst ha;have hle:=Go.Lib.compact_length_le l;refine(Tryz.slices_Compact_int g 0 c l w (holds_of_blockI hh (by rw[Nat.mul_one] at ht;exact ht)) (by omega) hnc).mono ?_;rintro e w' ⟨rfl,n,rfl⟩;have e1:putRow (Value.int .i64) (Sort.ahead w n) g 0 (Go.Lib.compact l++List.replicate (l.length - (Go.Lib.compact l).length) 0).toArray=grow (putRow (Value.int .i64) (Sort.ahead w n) g 0 (Go.Lib.compact l++List.replicate (l.length - (Go.Lib.compact l).length) 0).toArray) #[]:=by simp
  rw[e1];refine⟨rfl,⟨by simp,by omega,hcm,.inr ⟨g,_,rfl,hB,heap_sortedI _ hh,by simpa[putCells] using hcs,?_⟩⟩,AH.ofGrown (grownBy_sortedI _) rfl⟩;have hT:=take_putCellsI cur (Go.Lib.compact l++List.replicate (l.length - (Go.Lib.compact l).length) 0) (by simp;omega);rw[Nat.mul_one];have h2:=congrArg (List.take (Go.Lib.compact l).length) hT;rw[List.take_take,Nat.min_eq_left (by simp)] at h2;rw[h2,List.map_append,List.take_left' (by simp)];rfl
open Go.RowKit
theorem AA.clip {w:World}{B e size:Nat}{A:Option Addr}{n c:Nat}{xs:List Value}(h:AA w B e size A n c xs):AA w B e size A n n xs:=by
 obtain⟨h1,h2,h3,h4⟩:=h;refine⟨h1,Nat.le_refl _,by omega,?_⟩;rcases h4 with ⟨rfl,rfl⟩ | ⟨g,cur,rfl,hB,hh,hc,ht⟩
 ·exact .inl ⟨rfl,by omega⟩
 ·exact .inr ⟨g,cur,rfl,hB,hh,Nat.le_trans (Nat.mul_le_mul_right _ h2) hc,ht⟩
theorem NL (f:List Sg.At)(k:Nat){p:Sg.At}(h:f[k]? = some p):Sg.C1 (f.take (k+1))=if p.kind=1 then Sg.C1 (f.take k)++[p.n] else Sg.C1 (f.take k):=by
 rw[CU f k h];unfold Sg.C1;rw[List.filter_append,List.map_append];by_cases hk:p.kind=1
 ·rw[if_pos hk];simp[hk]
 ·rw[if_neg hk];simp[hk]
theorem Pf (f:List Sg.At)(k:Nat):(Sg.C1 (f.take k)).length<=k:=by
 unfold Sg.C1;rw[List.length_map];exact Nat.le_trans (List.length_filter_le _ _) (List.length_take_le _ _)
set_option maxRecDepth 100000 in
set_option maxHeartbeats 2000000 in
theorem Nd (A:Option Addr)(c:Nat)(f:List Sg.At)(w:World)(h:Rd w 5 A f.length (AL f))(hb:f.length<=1048576)(hv:∀ p ∈ f,p.kind=1->0<=p.n/\p.n<=9) :
  Calls Tryz.prog 124 #[.agg #[.slice A f.length c]] w fun e w'=>∃ A' c',e= .returned (.slice A' (Sg.AY f).length c')/\AA w' w.heap.size 3 1 A' (Sg.AY f).length c' (Ah (Sg.AY f))/\Aa w w':=by
 have HC:=lh (Sg.Nr f hv);clear hv;go_enter Tryz.func124,Tryz.ntmps124;go_wp2;go_loopw [3,9] (fun v i wr=>∃ (k:Nat) (A':Option Addr) (c':Nat),k<=f.length/\i= .int .i64 k/\v= .slice A' (Sg.C1 (f.take k)).length c'/\AA wr w.heap.size 3 1 A' (Sg.C1 (f.take k)).length c' (Ah (Sg.C1 (f.take k)))/\Aa w wr) (fun _ i _=>f.length - (intOf i).toNat)
 case atStart=>exact⟨0,none,0,Nat.zero_le _,rfl,rfl,AA.nil _ _ _ _,(Aa.rfl' w).al _⟩
 case round =>
  obtain⟨k,A',c',hk,rfl,rfl,hown,hext⟩:=hrel;have hrl:=Pf f k;by_cases hlt:k<f.length
  ·obtain⟨b,o,p,rfl,hp,hc0,hc1,hc2,hc3,hc4⟩:=(h.ext hext).atP hlt;have hbw:=Au hc0;have H:=lh (NL f k hp);clear hp;by_cases hk1:p.kind=1
   ·have e1:=H.out;rw[if_pos hk1] at e1;have E1:=lh e1;have b1:(p.kind == 1)=true:=by simp[hk1]
    clear e1 H hk1;have hownA:=hown.al (.cells #[.int .i64 p.kind,.int .i64 p.a,.int .i64 p.b,.int .i64 p.c,.int .i64 p.n] 111);have hextA:=hext.al (.cells #[.int .i64 p.kind,.int .i64 p.a,.int .i64 p.b,.int .i64 p.c,.int .i64 p.n] 111);go_wp2_with (at_builtin;refine J0 rfl rfl Bc rfl hownA rfl (by simp) rfl (B_ _ _) (by omega) (by omega) hextA.size ?_;intro A2 c2 w2 hown2 hg2 hat2)
    go_roundw
    case rel=>exact⟨k+1,A2,c2,by omega,by go_num,by rw[E1.out];simp,by rw[E1.out];simpa using hown2,hextA.gr hg2 fun g hg=>(hown.lt hg).1⟩
    case measure=>simp[intOf];omega
   ·have e1:=H.out;rw[if_neg hk1] at e1;have E1:=lh e1;have b1:(p.kind == 1)=false:=by simp[hk1]
    clear e1 H hk1;go_wp2;go_roundw
    case rel=>exact⟨k+1,A',c',by omega,by go_num,by rw[E1.out],by rw[E1.out];exact hown.al _,hext.al _⟩
    case measure=>simp[intOf];omega
  ·obtain rfl:k=f.length:=by omega
   rw[List.take_of_length_le (Nat.le_refl _)] at hown hrl;have hrl2:(Sg.C1 f).length<=4194304:=by omega
   have HT:=lh (List.take_of_length_le (Nat.le_refl f.length));have hms:((Sg.C1 f).mergeSort fun x y=>decide (x<=y)).length=(Sg.C1 f).length:=List.length_mergeSort _;have Hms:=lh hms;clear hms;rw[List.take_of_length_le (Nat.le_refl _)];go_wp2_with fail
   refine(VU _ _ _ _ hown hrl2).mono ?_;rintro e w1 ⟨rfl,ho1,hm1⟩;have he1:=hext.md hm1 (fun b hb=>(hown.lt hb).1);rw[<- Hms.out] at ho1;go_wp2_with fail
   rw[<- Hms.out];refine(SI _ _ _ _ ho1 (by rw[Hms.out];exact hrl2)).mono ?_;rintro e w2 ⟨rfl,ho2,hm2⟩;have he2:=he1.md hm2 (fun b hb=>(ho1.lt hb).1);rw[HC.out] at ho2;rw[HC.out];go_wp2_with (go_at_call 48;refine(JG _ _ _ _ ho2.2.1 ho2.2.2.1).mono ?_;rintro e w3 ⟨rfl,rfl⟩)
   go_ret;exact⟨_,_,rfl,AA.clip ho2,he2⟩
open Go.RowKit
structure VV (P:Program) (fid:Nat) (caps:List Value) (inv:World->Prop) (p:Int->Bool) (dom:Int->Prop):Prop where
 ent:∀ (args:Array Value) (w:World),(callFunc fid args).run P w= .ok (.enter fid args) w
 call:∀ (w:World) (n:Int),inv w->dom n->Calls P fid ((.int .i64 n :: caps).toArray) w fun e w'=>e= .returned (.bool (p n))/\Aa w w'
 ext:∀ (w w':World),inv w->Aa w w'->inv w'
def FJ (p:Int->Bool):Nat->List Int->Int
 | _,[]=>-1
 | k,x :: l=>if p x then k else FJ p (k+1) l
theorem NM (p:Int->Bool)(l:List Int)(k:Nat):(0<=FJ p k l)↔l.any p=true:=by
 induction l generalizing k with
 | nil=>simp[FJ]
 | cons x l ih =>
  simp only[FJ,List.any_cons];by_cases h:p x=true
  ·rw[if_pos h,h];simp
  ·rw[if_neg h,ih];simp[h]
set_option maxHeartbeats 1000000 in
theorem Pg {fid:Nat}{caps:List Value}{inv:World->Prop}{p:Int->Bool}{dom:Int->Prop}(C:VV Tryz.prog fid caps inv p dom)(A:Option Addr)(len c:Nat)(l:List Int)(w:World)(h:Rd w 1 A len (Ah l))(hi:inv w)(hd:∀ x ∈ l,dom x) :
  Calls Tryz.prog 134 #[.slice A len c,.func (.func fid) #[] caps.toArray] w fun e w'=>e= .returned (.int .i64 (FJ p 0 l))/\Aa w w':=by
 have hm:=h.big;obtain rfl:=h.len;have hent:=C.ent;have HC:=lh C;have HD:=lh hd;have HI:=lh hi;clear C hd hi;go_enter Tryz.func134,Tryz.ntmps134;go_wp2;go_loopw [8] (fun i wr=>∃ k:Nat,k<=l.length/\i= .int .i64 k/\Aa w wr/\FJ p k (l.drop k)=FJ p 0 l) (fun i _=>l.length - (intOf i).toNat)
 case atStart=>exact⟨0,Nat.zero_le _,rfl,Aa.rfl' _,rfl⟩
 case round =>
  obtain⟨k,hk,rfl,he,hpl⟩:=hrel;by_cases hlt:k<l.length
  ·obtain⟨b,o,x,rfl,hx,hc⟩:=(h.ext he).at1 hlt;have hdx:=HD.out x (List.mem_of_getElem? hx);rw[Dy l k hx,FJ] at hpl;have H:=lh hpl;have Hdx:=lh hdx;clear hpl hx hdx;cases hp:p x
   ·have Hp:=lh hp;clear hp;go_wp2_with fail
    refine(HC.out.call _ x (HC.out.ext _ _ HI.out he) Hdx.out).mono ?_;rw[Hp.out];rintro e w1 ⟨rfl,he1⟩;go_wp2;go_roundw
    case rel=>exact⟨k+1,by omega,by go_num,he.tr he1,by rw[<- H.out,if_neg (by rw[Hp.out];simp)]⟩
    case measure=>simp[intOf];omega
   ·have Hp:=lh hp;clear hp;go_wp2_with fail
    refine(HC.out.call _ x (HC.out.ext _ _ HI.out he) Hdx.out).mono ?_;rw[Hp.out];rintro e w1 ⟨rfl,he1⟩;go_wp2;go_ret;exact⟨EZ (by rw[<- H.out,if_pos Hp.out]),he.tr he1⟩
  ·have H:=lh hpl;clear hpl;go_wp2;go_ret;exact⟨EZ (by rw[<- H.out,List.drop_eq_nil_of_le (by omega)];rfl),he⟩
theorem GH {fid:Nat}{caps:List Value}{inv:World->Prop}{p:Int->Bool}{dom:Int->Prop}(C:VV Tryz.prog fid caps inv p dom)(A:Option Addr)(len c:Nat)(l:List Int)(w:World)(h:Rd w 1 A len (Ah l))(hi:inv w)(hd:∀ x ∈ l,dom x) :
  Calls Tryz.prog 96 #[.slice A len c,.func (.func fid) #[] caps.toArray] w fun e w'=>e= .returned (.bool (l.any p))/\Aa w w':=by
 have Hc:=lh (Pg C A len c l w h hi hd);have Hn:=lh (NM p l 0);clear C hi hd;go_enter Tryz.func96,Tryz.ntmps96;go_wp2_with (go_at_call 134;refine Hc.out.mono ?_;rintro e w1 ⟨rfl,he1⟩)
 go_ret;refine⟨Aj ?_,he1⟩;rw[Bool.eq_iff_iff,<- Hn.out];simp
theorem QU (n:Int)(w:World):Calls Tryz.prog 163 #[.int .i64 n] w fun e w'=>e= .returned (.bool (!Sg.BZ n 0 999))/\w=w':=by
 go_enter Tryz.func163,Tryz.ntmps163;go_wp2_with (go_at_call 57;refine(ID _ _ _ _).mono ?_;rintro e w' ⟨rfl,rfl⟩)
 go_ret;exact⟨rfl,rfl⟩
theorem NN:VV Tryz.prog 163 [] (fun _=>True) (fun n=>!Sg.BZ n 0 999) (fun _=>True) where
 ent:=GC Tryz.func163 rfl (by kernel_rfl)
 call:=fun w n _ _=>(QU n w).mono fun e w' ⟨h1,h2⟩=>⟨h1,by subst h2;exact Aa.rfl' _⟩
 ext:=fun _ _ _ _=>trivial
theorem SJ (A:Option Addr)(len c:Nat)(l:List Int)(w:World)(h:Rd w 1 A len (Ah l)) :
  Calls Tryz.prog 129 #[.slice A len c] w fun e w'=>e= .returned (.bool (l.all fun x=>Sg.BZ x 0 999))/\Aa w w':=by
 have Hc:=lh (GH NN A len c l w h trivial (fun _ _=>trivial))
 have hn:(!(l.any fun n=>!Sg.BZ n 0 999))=(l.all fun x=>Sg.BZ x 0 999):=by
  rw[Bool.eq_iff_iff];simp
 have Hn:=lh hn;clear hn;go_enter Tryz.func129,Tryz.ntmps129;go_wp2_with (go_at_call 96;refine Hc.out.mono ?_;rintro e w1 ⟨rfl,he1⟩)
 go_ret;exact⟨Aj Hn.out,he1⟩
open Go.RowKit
theorem NP {f:List Sg.At}(h:Sg.AU f=true):∀ p ∈ f,p.kind=1->0<=p.n/\p.n<=9:=by
 intro p hp hk;exact Sg.D_ (Sg.FB h hp hk)
set_option maxRecDepth 100000 in
set_option maxHeartbeats 4000000 in
theorem J2 (A:Option Addr)(c:Nat)(g:Sg.Ae)(w:World)(h:Eg w A g) :
  Calls Tryz.prog 86 #[.agg #[.slice A g.length c]] w fun e w'=>e= .returned (.bool (Sg.AG g))/\Aa w w':=by
 have hgl:=h.1;go_enter Tryz.func86,Tryz.ntmps86;go_wp2;go_loopw [10] (fun i wr=>∃ k:Nat,k<=g.length/\i= .int .i64 k/\Aa w wr/\wr.cell? ⟨w.heap.size,0,none⟩=some (.slice A g.length c)/\VG g k=true) (fun i _=>g.length - (intOf i).toNat)
 case atStart=>exact⟨0,Nat.zero_le _,rfl,(Aa.rfl' w).al _,by simp[go_sem],rfl⟩
 case round =>
  obtain⟨k,hk,rfl,he,hbox,hvg⟩:=hrel;have hbw:=Au hbox;have HV:=lh hvg;clear hvg;by_cases hlt:k<g.length
  ·obtain⟨⟨nk,nf⟩,b,o,Ap,cp,hn,rfl,hkc,hs,hf,hfl⟩:=(h.ext he).at_ hlt;dsimp only at *;have hbb:=Au hkc;have cases:nk=0\/(nk=1\/nk=2)\/(¬ nk=0/\¬ nk=1/\¬ nk=2):=by omega
   rcases cases with hz | hz | hz
   ·have hg:=lh (Jo hn hz);subst hz;clear hn;by_cases hl:0<nf.length
    ·go_wp2;go_ret;exact⟨Aj (by rw[Iw g k hlt (by rw[hg.out];simp;intro e;simp[e] at hl)]),he.al _⟩
    ·go_wp2;go_roundw
     case rel=>exact⟨k+1,by omega,by go_num,he.al _,((Aa.rfl' _).al _).cellE hbox,by rw[Ld,HV.out,hg.out];simp;exact List.length_eq_zero_iff.1 (by omega)⟩
     case measure=>simp[intOf];omega
   ·have hg:=lh (Jp hn hz);have HF:=lh (GI Ap cp nf);have hGR:Sg.Dh g k=(Sg.AY nf).all (Sg.Cd g k):=by unfold Sg.Dh;simp[hn]
    have HGR:=lh hGR;clear hn hGR;cases hv:Sg.AU nf
    ·have Hv:=lh hv;clear hv;rcases hz with rfl | rfl
     all_goals
      go_wp2_with (go_at_call 83;refine(HF.out _ (hf.ext ((Aa.rfl' _).al _)) hfl).mono ?_;rintro e w2 ⟨rfl,he2⟩;rw[Hv.out])
      go_ret;exact⟨Aj (by rw[Iw g k hlt (by rw[hg.out,Hv.out];rfl)]),(he.al _).tr he2⟩
    ·have Hv:=lh hv;have hr:∀ x ∈ Sg.AY nf,0<=x/\x<=9:=fun x hx=>Sg.D_ hx;have Hr:=lh hr;have HM:=lh (Nd Ap cp nf);clear hv hr;rcases hz with rfl | rfl
     all_goals
      go_wp2_with (first
       | (go_at_call 83;refine(HF.out _ (hf.ext ((Aa.rfl' _).al _)) hfl).mono ?_;rintro e w2 ⟨rfl,he2⟩;rw[Hv.out];obtain⟨bc,bf⟩:=FH he2;have ee2:=(he.al _).tr he2;have hbx2:=he2.cellE (((Aa.rfl' _).al _).cellE hbox))
       | (go_at_call 124;refine(HM.out _ ((hf.ext ((Aa.rfl' _).al _)).ext he2) hfl (NP Hv.out)).mono ?_;rintro e w3 ⟨A3,c3,rfl,ho3,he3⟩))
      have e3:=ee2.tr he3;have hbx3:=he3.cellE hbx2;have hL:Sg.AY nf=Sg.AY nf:=rfl;have hm3:=ho3.rd.big;clear bc bf hL;go_loopw [35] (fun j wi=>∃ j':Nat,j'<=(Sg.AY nf).length/\j= .int .i64 j'/\Aa w3 wi/\((Sg.AY nf).drop j').all (Sg.Cd g k)=(Sg.AY nf).all (Sg.Cd g k)) (fun j _=>(Sg.AY nf).length - (intOf j).toNat)
      case atStart=>exact⟨0,Nat.zero_le _,rfl,Aa.rfl' _,rfl⟩
      case round =>
       obtain⟨j,hj,rfl,hei,hall⟩:=hrel;have hbxi:=hei.cellE hbx3;by_cases hlj:j<(Sg.AY nf).length
       ·obtain⟨bl,ol,x,rfl,hx,hcx⟩:=(ho3.rd.ext hei).at1 hlj;have hxr:=Hr.out x (List.mem_of_getElem? hx);rw[Dy _ j hx,List.all_cons] at hall;have Hall:=lh hall;clear hall hx;obtain⟨X,rfl⟩:=Int.eq_ofNat_of_zero_le hxr.1;by_cases hge:(k:Int)<=(X:Int)
        ·have hge':k<=X:=by omega
         go_wp2;go_ret;refine⟨Aj ?_,e3.tr hei⟩;have:Sg.Cd g k X=false:=by unfold Sg.Cd;simp;omega
         rw[Iw g k hlt (by rw[hg.out,Hv.out,HGR.out,<- Hall.out,this];rfl)]
        ·have hlt':decide ((k:Int)<=(X:Int))=false:=by simpa using hge
         have hltN:decide (k<=X)=false:=by simp;omega
         have hXg:X<g.length:=by omega
         obtain⟨m,b',o',Ap',cp',hm,ha,hkx,_,_,_⟩:=(h.ext (e3.tr hei)).at_ hXg;simp only[Option.some.injEq,Addr.mk.injEq,and_true] at ha;obtain⟨rfl,rfl⟩:=ha;have hka:Sg.CL g X=m.kind:=by unfold Sg.CL;simp[hm]
         have Hka:=lh hka;clear hka hm;by_cases h2:m.kind=2
         ·have h2':(m.kind == 2)=true:=by simp[h2]
          have H2:=lh h2;clear h2;go_wp2;go_ret;refine⟨Aj ?_,e3.tr hei⟩;have:Sg.Cd g k X=false:=by unfold Sg.Cd;rw[Hka.out,H2.out];simp
          rw[Iw g k hlt (by rw[hg.out,Hv.out,HGR.out,<- Hall.out,this];rfl)]
         ·have h2':(m.kind == 2)=false:=by simp[h2]
          have H2:=lh h2;clear h2;go_wp2;go_roundw
          case rel =>
           refine⟨j+1,by omega,by go_num,hei,?_⟩;have:Sg.Cd g k X=true:=by unfold Sg.Cd;rw[Hka.out];simp;exact⟨by omega,H2.out⟩
           rw[<- Hall.out,this,Bool.true_and]
          case measure=>simp[intOf];omega
       ·have Hall:=lh hall;clear hall;go_wp2;go_roundw
        case rel=>exact⟨k+1,by omega,by go_num,e3.tr hei,hbxi,by rw[Ld,HV.out,hg.out,Hv.out,HGR.out,<- Hall.out,List.drop_eq_nil_of_le (by omega)];rfl⟩
        case measure=>simp[intOf];omega
   ·have hg:=lh (Jq hn hz);have z0:(nk == 0)=false:=by rw[beq_eq_false_iff_ne];omega
    have z1:(nk == 1)=false:=by rw[beq_eq_false_iff_ne];omega
    have z2:(nk == 2)=false:=by rw[beq_eq_false_iff_ne];omega
    clear hn hz;go_wp2;go_ret;exact⟨Aj (by rw[Iw g k hlt hg.out]),he.al _⟩
  ·obtain rfl:k=g.length:=by omega
   have hfin:Sg.AG g=decide (g.length<=10):=by
    unfold Sg.AG;have:=HV.out;unfold VG at this;rw[this];rfl
   have Hfin:=lh hfin;clear hfin;go_wp2;go_ret;exact⟨Aj (by rw[Hfin.out];simp;omega),he⟩
end Go.Proofs.YthibllkleakiiaaGreatDoor
