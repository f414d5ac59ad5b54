/- Parts of one proof, joined. The program's which, for any function value that answers: its contract. Conditions: bounds on lengths. -/
import Derived.Lib.SlicesCompact
import Derived.Test.YthibllkleakiiaaGreatDoorShelf
import Derived.Sort.OwnSortedInts
import Derived.Lib.RowBridge
import Derived.Test.YthibllkleakiiaaGreatDoorSepP
import Derived.Test.YthibllkleakiiaaGreatDoorSpecTwo
import Derived.Deep.RegionHeld3
import Derived.Deep.QuietTactic
import Derived.BigQuiet
import Derived.Test.YthibllkleakiiaaGreatDoorReg
import Derived.Test.YthibllkleakiiaaGreatDoorPlN
namespace Sg
theorem NR:∀ (l m:List Int),l.Pairwise (·<·)->m.Pairwise (·<·)->(∀ x,x ∈ l↔x ∈ m)->l=m
 | [],[],_,_,_=>rfl
 | [],y :: m,_,_,h=>absurd ((h y).2 (by simp)) (by simp)
 | x :: l,[],_,_,h=>absurd ((h x).1 (by simp)) (by simp)
 | x :: l,y :: m,hl,hm,h=>by
  rw[List.pairwise_cons] at hl hm
  have hxy:x=y:=by
   rcases List.mem_cons.1 ((h x).1 (by simp)) with e | e
   ·exact e
   ·rcases List.mem_cons.1 ((h y).2 (by simp)) with e' | e'
    ·exact e'.symm
    ·have:=hm.1 x e;have:=hl.1 y e';omega
  subst hxy;rw[NR l m hl.2 hm.2 fun z=>⟨fun hz=>?_,fun hz=>?_⟩]
  ·rcases List.mem_cons.1 ((h z).1 (List.mem_cons_of_mem _ hz)) with e | e
   ·have:=hl.1 z hz;omega
   ·exact e
  ·rcases List.mem_cons.1 ((h z).2 (List.mem_cons_of_mem _ hz)) with e | e
   ·have:=hm.1 z hz;omega
   ·exact e
theorem PI (f:List At):(AX f).Pairwise (·<·):=by
 unfold AX;refine List.Pairwise.filter _ ?_;rw[List.pairwise_map];refine List.Pairwise.imp ?_ (List.pairwise_lt_range (n:=10));intro a b h;exact Int.ofNat_lt.2 h
theorem LJ {f:List At}{x:Int}:x ∈ AX f↔(0<=x/\x<=9)/\∃ p ∈ f,p.kind=1/\p.n=x:=by
 unfold AX;rw[List.mem_filter,List.mem_map];constructor
 ·rintro ⟨⟨y,hy,rfl⟩,h⟩;rw[List.mem_range] at hy;unfold Dj at h;rw[List.any_eq_true] at h;obtain⟨p,hp,h⟩:=h;simp only[Bool.and_eq_true,beq_iff_eq] at h;exact⟨⟨by simp,by simp;omega⟩,p,hp,h⟩
 ·rintro ⟨⟨h0,h9⟩,p,hp,h⟩;refine⟨⟨x.toNat,by rw[List.mem_range];omega,by simp;omega⟩,?_⟩;unfold Dj;rw[List.any_eq_true];exact⟨p,hp,by simp[h]⟩
def Dd (f:List At):List Int:=(f.filter fun p=>p.kind == 1).map (·.n)
theorem Mg (d:Array Int)(n:Nat)(_hn:n<=d.size)(hs:∀ i j,i<j->j<n->d[i]! <= d[j]!) :
  ∀ m,m<=n->(Go.Lib.compactUpTo d m).Pairwise (·<·)/\∀ x,x ∈ Go.Lib.compactUpTo d m↔∃ j,j<m/\d[j]! = x:=by
 intro m;induction m with
 | zero=>intro _;simp[Go.Lib.compactUpTo]
 | succ m ih =>
  intro hm;obtain⟨h1,h2⟩:=ih (by omega);rw[Go.Lib.compactUpTo_succ];by_cases hk:m=0\/d[m]! ≠ d[m - 1]!
  ·have hkeep:Go.Lib.keeps d m=true:=by simp[Go.Lib.keeps,hk]
   rw[if_pos hkeep];refine⟨?_,?_⟩
   ·rw[List.pairwise_append];refine⟨h1,List.pairwise_singleton _ _,?_⟩;intro x hx y hy;rw[List.mem_singleton] at hy;subst hy;obtain⟨j,hj,rfl⟩:=(h2 x).1 hx;rcases hk with hk | hk
    ·omega
    ·have hlast:=hs (m - 1) m (by omega) (by omega);rcases Nat.lt_or_ge j (m - 1) with hjm | hjm
     ·have:=hs j (m - 1) hjm (by omega);omega
     ·obtain rfl:j=m - 1:=by omega
      omega
   ·intro x;rw[List.mem_append,h2,List.mem_singleton];constructor
    ·rintro (⟨j,hj,rfl⟩ | rfl)
     ·exact⟨j,by omega,rfl⟩
     ·exact⟨m,by omega,rfl⟩
    ·rintro ⟨j,hj,rfl⟩;rcases Nat.lt_or_ge j m with h | h
     ·exact .inl ⟨j,h,rfl⟩
     ·obtain rfl:j=m:=by omega
      exact .inr rfl
  ·have hm0:¬ m=0:=fun e=>hk (.inl e);have heq:d[m]! = d[m - 1]! := Classical.byContradiction fun e=>hk (.inr e);have hkeep:¬ Go.Lib.keeps d m=true:=by simp[Go.Lib.keeps,hm0,heq]
   rw[if_neg hkeep,List.append_nil];refine⟨h1,fun x=>?_⟩;rw[h2];constructor
   ·rintro ⟨j,hj,rfl⟩;exact⟨j,by omega,rfl⟩
   ·rintro ⟨j,hj,rfl⟩;rcases Nat.lt_or_ge j m with h | h
    ·exact⟨j,h,rfl⟩
    ·obtain rfl:j=m:=by omega
     exact⟨j - 1,by omega,heq.symm⟩
theorem OA (f:List At)(hv:∀ p ∈ f,p.kind=1->0<=p.n/\p.n<=9):Go.Lib.compact ((Dd f).mergeSort fun x y=>decide (x<=y))=AX f:=by
 have hsort:((Dd f).mergeSort fun x y=>decide (x<=y)).Pairwise (fun a b=>decide (a<=b)=true) :=
  List.pairwise_mergeSort (fun a b c h1 h2=>by simp at *;omega) (fun a b=>by simp;omega) _
 have hmem:∀ x,x ∈ ((Dd f).mergeSort fun x y=>decide (x<=y))↔x ∈ Dd f:=fun x=>List.mem_mergeSort;generalize ((Dd f).mergeSort fun x y=>decide (x<=y))=S at *
 have key:=Mg S.toArray S.length (by simp) (fun i j hij hj=>by
  have:=List.pairwise_iff_getElem.1 hsort i j (by omega) hj hij;simp only[decide_eq_true_eq] at this;simpa[show i<S.length by omega,hj] using this) S.length (Nat.le_refl _)
 refine NR _ _ key.1 (PI f) fun x=>?_;unfold Go.Lib.compact;rw[key.2,LJ]
 have h1:(∃ j,j<S.length/\S.toArray[j]! = x)↔x ∈ S:=by
  rw[List.mem_iff_getElem];constructor
  ·rintro ⟨j,hj,h⟩;exact⟨j,hj,by simpa[hj] using h⟩
  ·rintro ⟨j,hj,h⟩;exact⟨j,hj,by simpa[hj] using h⟩
 rw[h1,hmem];unfold Dd;rw[List.mem_map];constructor
 ·rintro ⟨p,hp,rfl⟩;rw[List.mem_filter] at hp;have hk:p.kind=1:=by simpa using hp.2
  exact⟨hv p hp.1 hk,p,hp.1,hk,rfl⟩
 ·rintro ⟨_,p,hp,hk,rfl⟩;exact⟨p,by rw[List.mem_filter];exact⟨hp,by simp[hk]⟩,rfl⟩
theorem PJ:Go.Lib.compact ([]:List Int)=[]:=rfl
end Sg
namespace Go.Proofs.YthibllkleakiiaaGreatDoor
open Go.RowKit Go.Sort
theorem AF.ofGrown {w w':World}{A:Option Addr}{g:Nat}(h:w.grownBy w' (some g))(hA:AE A=some g):AF (fun b=>AE A=some b) w w' :=
 ⟨h.os,h.tape,h.output,h.size,fun b hb hn=>h.block b hb fun e=>hn (by rw[hA,e])⟩
theorem Xu {B:Nat}(A:Option Addr)(c:Nat)(l:List Int)(w:World)(h:Au w B 3 1 A l.length c (Ah l))(hl:l.length<=4194304) :
  Calls Tryz.prog 158 #[.slice A l.length c] w fun e w'=>e= .returned (.tuple #[])/\Au w' B 3 1 A l.length c (Ah (l.mergeSort fun x y=>decide (x<=y)))/\AF (fun b=>AE A=some b) w w':=by
 rcases Nat.eq_zero_or_pos l.length with h0 | h0
 ·have hn:l=[]:=List.eq_nil_of_length_eq_zero h0;subst hn;refine(Tryz.slices_Sort_int_none A c w).mono ?_;rintro e w' ⟨rfl,rfl⟩;exact⟨rfl,by simpa using h,AF.rfl' _ _⟩
 ·obtain⟨g,rfl,hB⟩:=h.at_ (by omega);obtain⟨hxl,hnc,hcm,hcase⟩:=h;rcases hcase with ⟨h1,_⟩ | ⟨g',cur,ha,_,hh,hcs,ht⟩
  ·cases h1
  simp only[Option.some.injEq,Addr.mk.injEq,and_true] at ha;subst ha;have hg:g<w.heap.size:=(Array.getElem?_eq_some_iff.1 hh).1;have hlen:(l.mergeSort fun x y=>decide (x<=y)).length=l.length:=List.length_mergeSort l;refine(Tryz.slices_Sort_int g 0 c l w (holds_of_blockI hh (by rw[Nat.mul_one] at ht;exact ht)) hg (by omega)).mono ?_;rintro e w' ⟨rfl,n,os,rfl⟩;refine⟨rfl,⟨by simp,hnc,hcm,.inr ⟨g,_,rfl,hB,heap_sortedI _ hh,by simpa[putCells] using hcs,?_⟩⟩,AF.ofGrown (grownBy_sortedI _) rfl⟩;rw[Nat.mul_one,<- hlen];exact take_putCellsI cur _ (by omega)
theorem Ub {B:Nat}(A:Option Addr)(c:Nat)(l:List Int)(w:World)(h:Au w B 3 1 A l.length c (Ah l))(hl:l.length<=4194304) :
  Calls Tryz.prog 159 #[.slice A l.length c] w fun e w'=>e= .returned (.slice A (Go.Lib.compact l).length c)/\Au w' B 3 1 A (Go.Lib.compact l).length c (Ah (Go.Lib.compact l))/\AF (fun b=>AE A=some b) w w':=by
 rcases Nat.eq_zero_or_pos l.length with h0 | h0
 ·have hn:l=[]:=List.eq_nil_of_length_eq_zero h0;subst hn;refine(Tryz.slices_Compact_int_empty A c w).mono ?_;rintro e w' ⟨rfl,rfl⟩;exact⟨rfl,by rw[Sg.PJ];simpa using h,AF.rfl' _ _⟩
 ·obtain⟨g,rfl,hB⟩:=h.at_ (by omega);obtain⟨hxl,hnc,hcm,hcase⟩:=h;rcases hcase with ⟨h1,_⟩ | ⟨g',cur,ha,_,hh,hcs,ht⟩
  ·cases h1
  simp only[Option.some.injEq,Addr.mk.injEq,and_true] at ha;subst ha;have hle:=Go.Lib.compact_length_le l;refine(Tryz.slices_Compact_int g 0 c l w (holds_of_blockI hh (by rw[Nat.mul_one] at ht;exact ht)) (by omega) hnc).mono ?_;rintro e w' ⟨rfl,n,rfl⟩;have e1:putRow (Value.int .i64) (Sort.ahead w n) g 0 (Go.Lib.compact l++List.replicate (l.length - (Go.Lib.compact l).length) 0).toArray=grow (putRow (Value.int .i64) (Sort.ahead w n) g 0 (Go.Lib.compact l++List.replicate (l.length - (Go.Lib.compact l).length) 0).toArray) #[]:=by simp
  rw[e1];refine⟨rfl,⟨by simp,by omega,hcm,.inr ⟨g,_,rfl,hB,heap_sortedI _ hh,by simpa[putCells] using hcs,?_⟩⟩,AF.ofGrown (grownBy_sortedI _) rfl⟩;have hT:=take_putCellsI cur (Go.Lib.compact l++List.replicate (l.length - (Go.Lib.compact l).length) 0) (by simp;omega);rw[Nat.mul_one];have h2:=congrArg (List.take (Go.Lib.compact l).length) hT;rw[List.take_take,Nat.min_eq_left (by simp)] at h2;rw[h2,List.map_append,List.take_left' (by simp)];rfl
open Go.RowKit
theorem Au.clip {w:World}{B e size:Nat}{A:Option Addr}{n c:Nat}{xs:List Value}(h:Au w B e size A n c xs):Au w B e size A n n xs:=by
 obtain⟨h1,h2,h3,h4⟩:=h;refine⟨h1,Nat.le_refl _,by omega,?_⟩;rcases h4 with ⟨rfl,rfl⟩ | ⟨g,cur,rfl,hB,hh,hc,ht⟩
 ·exact .inl ⟨rfl,by omega⟩
 ·exact .inr ⟨g,cur,rfl,hB,hh,Nat.le_trans (Nat.mul_le_mul_right _ h2) hc,ht⟩
theorem O9 (f:List Sg.At)(k:Nat){p:Sg.At}(h:f[k]? = some p):Sg.Dd (f.take (k+1))=if p.kind=1 then Sg.Dd (f.take k)++[p.n] else Sg.Dd (f.take k):=by
 rw[C6 f k h];unfold Sg.Dd;rw[List.filter_append,List.map_append];by_cases hk:p.kind=1
 ·rw[if_pos hk];simp[hk]
 ·rw[if_neg hk];simp[hk]
theorem Qo (f:List Sg.At)(k:Nat):(Sg.Dd (f.take k)).length<=k:=by
 unfold Sg.Dd;rw[List.length_map];exact Nat.le_trans (List.length_filter_le _ _) (List.length_take_le _ _)
set_option maxRecDepth 100000 in
set_option maxHeartbeats 2000000 in
theorem Oh (A:Option Addr)(c:Nat)(f:List Sg.At)(w:World)(h:Rd w 5 A f.length (AH f))(hb:f.length<=1048576)(hv:∀ p ∈ f,p.kind=1->0<=p.n/\p.n<=9) :
  Calls Tryz.prog 124 #[.agg #[.slice A f.length c]] w fun e w'=>∃ A' c',e= .returned (.slice A' (Sg.AX f).length c')/\Au w' w.heap.size 3 1 A' (Sg.AX f).length c' (Ah (Sg.AX f))/\Aa w w':=by
 have HC:=lh (Sg.OA f hv);clear hv;go_enter Tryz.func124,Tryz.ntmps124;go_wp2;go_loopw [3,9] (fun v i wr=>∃ (k:Nat) (A':Option Addr) (c':Nat),k<=f.length/\i= .int .i64 k/\v= .slice A' (Sg.Dd (f.take k)).length c'/\Au wr w.heap.size 3 1 A' (Sg.Dd (f.take k)).length c' (Ah (Sg.Dd (f.take k)))/\Aa w wr) (fun _ i _=>f.length - (intOf i).toNat)
 case atStart=>exact⟨0,none,0,Nat.zero_le _,rfl,rfl,Au.nil _ _ _ _,(Aa.rfl' w).al _⟩
 case round =>
  obtain⟨k,A',c',hk,rfl,rfl,hown,hext⟩:=hrel;have hrl:=Qo f k;by_cases hlt:k<f.length
  ·obtain⟨b,o,p,rfl,hp,hc0,hc1,hc2,hc3,hc4⟩:=(h.ext hext).atP hlt;have hbw:=AA hc0;have H:=lh (O9 f k hp);clear hp;by_cases hk1:p.kind=1
   ·have e1:=H.out;rw[if_pos hk1] at e1;have E1:=lh e1;have b1:(p.kind == 1)=true:=by simp[hk1]
    clear e1 H hk1;have hownA:=hown.al (.cells #[.int .i64 p.kind,.int .i64 p.a,.int .i64 p.b,.int .i64 p.c,.int .i64 p.n] 111);have hextA:=hext.al (.cells #[.int .i64 p.kind,.int .i64 p.a,.int .i64 p.b,.int .i64 p.c,.int .i64 p.n] 111);go_wp2_with (at_builtin;refine Ku rfl rfl Bc rfl hownA rfl (by simp) rfl (Bn _ _) (by omega) (by omega) hextA.size ?_;intro A2 c2 w2 hown2 hg2 hat2)
    go_roundw
    case rel=>exact⟨k+1,A2,c2,by omega,by go_num,by rw[E1.out];simp,by rw[E1.out];simpa using hown2,hextA.gr hg2 fun g hg=>(hown.lt hg).1⟩
    case measure=>simp[intOf];omega
   ·have e1:=H.out;rw[if_neg hk1] at e1;have E1:=lh e1;have b1:(p.kind == 1)=false:=by simp[hk1]
    clear e1 H hk1;go_wp2;go_roundw
    case rel=>exact⟨k+1,A',c',by omega,by go_num,by rw[E1.out],by rw[E1.out];exact hown.al _,hext.al _⟩
    case measure=>simp[intOf];omega
  ·obtain rfl:k=f.length:=by omega
   rw[List.take_of_length_le (Nat.le_refl _)] at hown hrl;have hrl2:(Sg.Dd f).length<=4194304:=by omega
   have HT:=lh (List.take_of_length_le (Nat.le_refl f.length));have hms:((Sg.Dd f).mergeSort fun x y=>decide (x<=y)).length=(Sg.Dd f).length:=List.length_mergeSort _;have Hms:=lh hms;clear hms;rw[List.take_of_length_le (Nat.le_refl _)];go_wp2_with fail
   refine(Xu _ _ _ _ hown hrl2).mono ?_;rintro e w1 ⟨rfl,ho1,hm1⟩;have he1:=hext.md hm1 (fun b hb=>(hown.lt hb).1);rw[<- Hms.out] at ho1;go_wp2_with fail
   rw[<- Hms.out];refine(Ub _ _ _ _ ho1 (by rw[Hms.out];exact hrl2)).mono ?_;rintro e w2 ⟨rfl,ho2,hm2⟩;have he2:=he1.md hm2 (fun b hb=>(ho1.lt hb).1);rw[HC.out] at ho2;rw[HC.out];go_wp2_with (go_at_call 48;refine(J9 _ _ _ _ ho2.2.1 ho2.2.2.1).mono ?_;rintro e w3 ⟨rfl,rfl⟩)
   go_ret;exact⟨_,_,rfl,Au.clip ho2,he2⟩
open Go.RowKit
structure Xv (P:Program) (fid:Nat) (caps:List Value) (inv:World->Prop) (p:Int->Bool) (dom:Int->Prop):Prop where
 ent:∀ (args:Array Value) (w:World),(callFunc fid args).run P w= .ok (.enter fid args) w
 call:∀ (w:World) (n:Int),inv w->dom n->Calls P fid ((.int .i64 n :: caps).toArray) w fun e w'=>e= .returned (.bool (p n))/\Aa w w'
 ext:∀ (w w':World),inv w->Aa w w'->inv w'
def Gc (p:Int->Bool):Nat->List Int->Int
 | _,[]=>-1
 | k,x :: l=>if p x then k else Gc p (k+1) l
theorem O_ (p:Int->Bool)(l:List Int)(k:Nat):(0<=Gc p k l)↔l.any p=true:=by
 induction l generalizing k with
 | nil=>simp[Gc]
 | cons x l ih =>
  simp only[Gc,List.any_cons];by_cases h:p x=true
  ·rw[if_pos h,h];simp
  ·rw[if_neg h,ih];simp[h]
set_option maxHeartbeats 1000000 in
theorem Qp {fid:Nat}{caps:List Value}{inv:World->Prop}{p:Int->Bool}{dom:Int->Prop}(C:Xv Tryz.prog fid caps inv p dom)(A:Option Addr)(len c:Nat)(l:List Int)(w:World)(h:Rd w 1 A len (Ah l))(hi:inv w)(hd:∀ x ∈ l,dom x) :
  Calls Tryz.prog 134 #[.slice A len c,.func (.func fid) #[] caps.toArray] w fun e w'=>e= .returned (.int .i64 (Gc p 0 l))/\Aa w w':=by
 have hm:=h.big;obtain rfl:=h.len;have hent:=C.ent;have HC:=lh C;have HD:=lh hd;have HI:=lh hi;clear C hd hi;go_enter Tryz.func134,Tryz.ntmps134;go_wp2;go_loopw [8] (fun i wr=>∃ k:Nat,k<=l.length/\i= .int .i64 k/\Aa w wr/\Gc p k (l.drop k)=Gc p 0 l) (fun i _=>l.length - (intOf i).toNat)
 case atStart=>exact⟨0,Nat.zero_le _,rfl,Aa.rfl' _,rfl⟩
 case round =>
  obtain⟨k,hk,rfl,he,hpl⟩:=hrel;by_cases hlt:k<l.length
  ·obtain⟨b,o,x,rfl,hx,hc⟩:=(h.ext he).at1 hlt;have hdx:=HD.out x (List.mem_of_getElem? hx);rw[DO l k hx,Gc] at hpl;have H:=lh hpl;have Hdx:=lh hdx;clear hpl hx hdx;cases hp:p x
   ·have Hp:=lh hp;clear hp;go_wp2_with fail
    refine(HC.out.call _ x (HC.out.ext _ _ HI.out he) Hdx.out).mono ?_;rw[Hp.out];rintro e w1 ⟨rfl,he1⟩;go_wp2;go_roundw
    case rel=>exact⟨k+1,by omega,by go_num,he.tr he1,by rw[<- H.out,if_neg (by rw[Hp.out];simp)]⟩
    case measure=>simp[intOf];omega
   ·have Hp:=lh hp;clear hp;go_wp2_with fail
    refine(HC.out.call _ x (HC.out.ext _ _ HI.out he) Hdx.out).mono ?_;rw[Hp.out];rintro e w1 ⟨rfl,he1⟩;go_wp2;go_ret;exact⟨Fk (by rw[<- H.out,if_pos Hp.out]),he.tr he1⟩
  ·have H:=lh hpl;clear hpl;go_wp2;go_ret;exact⟨Fk (by rw[<- H.out,List.drop_eq_nil_of_le (by omega)];rfl),he⟩
theorem Ha {fid:Nat}{caps:List Value}{inv:World->Prop}{p:Int->Bool}{dom:Int->Prop}(C:Xv Tryz.prog fid caps inv p dom)(A:Option Addr)(len c:Nat)(l:List Int)(w:World)(h:Rd w 1 A len (Ah l))(hi:inv w)(hd:∀ x ∈ l,dom x) :
  Calls Tryz.prog 96 #[.slice A len c,.func (.func fid) #[] caps.toArray] w fun e w'=>e= .returned (.bool (l.any p))/\Aa w w':=by
 have Hc:=lh (Qp C A len c l w h hi hd);have Hn:=lh (O_ p l 0);clear C hi hd;go_enter Tryz.func96,Tryz.ntmps96;go_wp2_with (go_at_call 134;refine Hc.out.mono ?_;rintro e w1 ⟨rfl,he1⟩)
 go_ret;refine⟨Aj ?_,he1⟩;rw[Bool.eq_iff_iff,<- Hn.out];simp
theorem Sl (n:Int)(w:World):Calls Tryz.prog 163 #[.int .i64 n] w fun e w'=>e= .returned (.bool (!Sg.Cb n 0 999))/\w=w':=by
 go_enter Tryz.func163,Tryz.ntmps163;go_wp2_with (go_at_call 57;refine(I_ _ _ _ _).mono ?_;rintro e w' ⟨rfl,rfl⟩)
 go_ret;exact⟨rfl,rfl⟩
theorem Pa:Xv Tryz.prog 163 [] (fun _=>True) (fun n=>!Sg.Cb n 0 999) (fun _=>True) where
 ent:=GZ Tryz.func163 rfl (by kernel_rfl)
 call:=fun w n _ _=>(Sl n w).mono fun e w' ⟨h1,h2⟩=>⟨h1,by subst h2;exact Aa.rfl' _⟩
 ext:=fun _ _ _ _=>trivial
theorem Uc (A:Option Addr)(len c:Nat)(l:List Int)(w:World)(h:Rd w 1 A len (Ah l)) :
  Calls Tryz.prog 129 #[.slice A len c] w fun e w'=>e= .returned (.bool (l.all fun x=>Sg.Cb x 0 999))/\Aa w w':=by
 have Hc:=lh (Ha Pa A len c l w h trivial (fun _ _=>trivial))
 have hn:(!(l.any fun n=>!Sg.Cb n 0 999))=(l.all fun x=>Sg.Cb x 0 999):=by
  rw[Bool.eq_iff_iff];simp
 have Hn:=lh hn;clear hn;go_enter Tryz.func129,Tryz.ntmps129;go_wp2_with (go_at_call 96;refine Hc.out.mono ?_;rintro e w1 ⟨rfl,he1⟩)
 go_ret;exact⟨Aj Hn.out,he1⟩
open Go.RowKit
theorem Pb {f:List Sg.At}(h:Sg.AR f=true):∀ p ∈ f,p.kind=1->0<=p.n/\p.n<=9:=by
 intro p hp hk;exact Sg.Ek (Sg.FX h hp hk)
set_option maxRecDepth 100000 in
set_option maxHeartbeats 4000000 in
theorem Kw (A:Option Addr)(c:Nat)(g:Sg.Ae)(w:World)(h:Eg w A g) :
  Calls Tryz.prog 86 #[.agg #[.slice A g.length c]] w fun e w'=>e= .returned (.bool (Sg.AG g))/\Aa w w':=by
 have hgl:=h.1;go_enter Tryz.func86,Tryz.ntmps86;go_wp2;go_loopw [10] (fun i wr=>∃ k:Nat,k<=g.length/\i= .int .i64 k/\Aa w wr/\wr.cell? ⟨w.heap.size,0,none⟩=some (.slice A g.length c)/\VG g k=true) (fun i _=>g.length - (intOf i).toNat)
 case atStart=>exact⟨0,Nat.zero_le _,rfl,(Aa.rfl' w).al _,by simp[go_sem],rfl⟩
 case round =>
  obtain⟨k,hk,rfl,he,hbox,hvg⟩:=hrel;have hbw:=AA hbox;have HV:=lh hvg;clear hvg;by_cases hlt:k<g.length
  ·obtain⟨⟨nk,nf⟩,b,o,Ap,cp,hn,rfl,hkc,hs,hf,hfl⟩:=(h.ext he).at_ hlt;dsimp only at *;have hbb:=AA hkc;have cases:nk=0\/(nk=1\/nk=2)\/(¬ nk=0/\¬ nk=1/\¬ nk=2):=by omega
   rcases cases with hz | hz | hz
   ·have hg:=lh (JT hn hz);subst hz;clear hn;by_cases hl:0<nf.length
    ·go_wp2;go_ret;exact⟨Aj (by rw[I0 g k hlt (by rw[hg.out];simp;intro e;simp[e] at hl)]),he.al _⟩
    ·go_wp2;go_roundw
     case rel=>exact⟨k+1,by omega,by go_num,he.al _,(xr.al _).cellE hbox,by rw[LW,HV.out,hg.out];simp;exact List.length_eq_zero_iff.1 (by omega)⟩
     case measure=>simp[intOf];omega
   ·have hg:=lh (JU hn hz);have HF:=lh (Hh Ap cp nf);have hGR:Sg.Du g k=(Sg.AX nf).all (Sg.Ci g k):=by unfold Sg.Du;simp[hn]
    have HGR:=lh hGR;clear hn hGR;cases hv:Sg.AR nf
    ·have Hv:=lh hv;clear hv;rcases hz with rfl | rfl
     all_goals
      go_wp2_with (go_at_call 83;refine(HF.out _ (hf.ext (xr.al _)) hfl).mono ?_;rintro e w2 ⟨rfl,he2⟩;rw[Hv.out])
      go_ret;exact⟨Aj (by rw[I0 g k hlt (by rw[hg.out,Hv.out];rfl)]),(he.al _).tr he2⟩
    ·have Hv:=lh hv;have hr:∀ x ∈ Sg.AX nf,0<=x/\x<=9:=fun x hx=>Sg.Ek hx;have Hr:=lh hr;have HM:=lh (Oh Ap cp nf);clear hv hr;rcases hz with rfl | rfl
     all_goals
      go_wp2_with (first
       | (go_at_call 83;refine(HF.out _ (hf.ext (xr.al _)) hfl).mono ?_;rintro e w2 ⟨rfl,he2⟩;rw[Hv.out];obtain⟨bc,bf⟩:=Ga he2;have ee2:=(he.al _).tr he2;have hbx2:=he2.cellE ((xr.al _).cellE hbox))
       | (go_at_call 124;refine(HM.out _ ((hf.ext (xr.al _)).ext he2) hfl (Pb Hv.out)).mono ?_;rintro e w3 ⟨A3,c3,rfl,ho3,he3⟩))
      have e3:=ee2.tr he3;have hbx3:=he3.cellE hbx2;have hL:Sg.AX nf=Sg.AX nf:=rfl;have hm3:=ho3.rd.big;clear bc bf hL;go_loopw [35] (fun j wi=>∃ j':Nat,j'<=(Sg.AX nf).length/\j= .int .i64 j'/\Aa w3 wi/\((Sg.AX nf).drop j').all (Sg.Ci g k)=(Sg.AX nf).all (Sg.Ci g k)) (fun j _=>(Sg.AX nf).length - (intOf j).toNat)
      case atStart=>exact⟨0,Nat.zero_le _,rfl,Aa.rfl' _,rfl⟩
      case round =>
       obtain⟨j,hj,rfl,hei,hall⟩:=hrel;have hbxi:=hei.cellE hbx3;by_cases hlj:j<(Sg.AX nf).length
       ·obtain⟨bl,ol,x,rfl,hx,hcx⟩:=(ho3.rd.ext hei).at1 hlj;have hxr:=Hr.out x (List.mem_of_getElem? hx);rw[DO _ j hx,List.all_cons] at hall;have Hall:=lh hall;clear hall hx;obtain⟨X,rfl⟩:=Int.eq_ofNat_of_zero_le hxr.1;by_cases hge:(k:Int)<=(X:Int)
        ·have hge':k<=X:=by omega
         go_wp2;go_ret;refine⟨Aj ?_,e3.tr hei⟩;have:Sg.Ci g k X=false:=by unfold Sg.Ci;simp;omega
         rw[I0 g k hlt (by rw[hg.out,Hv.out,HGR.out,<- Hall.out,this];rfl)]
        ·have hlt':decide ((k:Int)<=(X:Int))=false:=by simpa using hge
         have hltN:decide (k<=X)=false:=by simp;omega
         have hXg:X<g.length:=by omega
         obtain⟨m,b',o',Ap',cp',hm,ha,hkx,_,_,_⟩:=(h.ext (e3.tr hei)).at_ hXg;simp only[Option.some.injEq,Addr.mk.injEq,and_true] at ha;obtain⟨rfl,rfl⟩:=ha;have hka:Sg.CU g X=m.kind:=by unfold Sg.CU;simp[hm]
         have Hka:=lh hka;clear hka hm;by_cases h2:m.kind=2
         ·have h2':(m.kind == 2)=true:=by simp[h2]
          have H2:=lh h2;clear h2;go_wp2;go_ret;refine⟨Aj ?_,e3.tr hei⟩;have:Sg.Ci g k X=false:=by unfold Sg.Ci;rw[Hka.out,H2.out];simp
          rw[I0 g k hlt (by rw[hg.out,Hv.out,HGR.out,<- Hall.out,this];rfl)]
         ·have h2':(m.kind == 2)=false:=by simp[h2]
          have H2:=lh h2;clear h2;go_wp2;go_roundw
          case rel =>
           refine⟨j+1,by omega,by go_num,hei,?_⟩;have:Sg.Ci g k X=true:=by unfold Sg.Ci;rw[Hka.out];simp;exact⟨by omega,H2.out⟩
           rw[<- Hall.out,this,Bool.true_and]
          case measure=>simp[intOf];omega
       ·have Hall:=lh hall;clear hall;go_wp2;go_roundw
        case rel=>exact⟨k+1,by omega,by go_num,e3.tr hei,hbxi,by rw[LW,HV.out,hg.out,Hv.out,HGR.out,<- Hall.out,List.drop_eq_nil_of_le (by omega)];rfl⟩
        case measure=>simp[intOf];omega
   ·have hg:=lh (JV hn hz);have z0:(nk == 0)=false:=by rw[beq_eq_false_iff_ne];omega
    have z1:(nk == 1)=false:=by rw[beq_eq_false_iff_ne];omega
    have z2:(nk == 2)=false:=by rw[beq_eq_false_iff_ne];omega
    clear hn hz;go_wp2;go_ret;exact⟨Aj (by rw[I0 g k hlt hg.out]),he.al _⟩
  ·obtain rfl:k=g.length:=by omega
   have hfin:Sg.AG g=decide (g.length<=10):=by
    unfold Sg.AG;have:=HV.out;unfold VG at this;rw[this];rfl
   have Hfin:=lh hfin;clear hfin;go_wp2;go_ret;exact⟨Aj (by rw[Hfin.out];simp;omega),he⟩
open Go.RowKit
theorem GJ:∀ (n:Nat)(l:List Int),l.Nodup->(∀ x ∈ l,0<=x/\x<n)->l.length<=n
 | 0,l,_,h=>by
  cases l with
  | nil=>simp
  | cons x l=>have:=h x (by simp);omega
 | n+1,l,hd,h=>by
  by_cases hn:(n:Int) ∈ l
  ·have hle:=GJ n (l.erase n) (hd.erase _) fun x hx=>by
    rw[List.Nodup.mem_erase_iff hd] at hx;have:=h x hx.2;have:=hx.1;omega
   have:=List.length_erase_of_mem hn;omega
  ·have:=GJ n l hd fun x hx=>by
    have h1:=h x hx;have:x≠n:=fun e=>hn (e ▸ hx);omega
   omega
structure Vi (B1 B2 fid:Nat) (caps:List Value) {σ:Type} (inv:σ->(Nat->Prop)->World->Prop) (l:List Int) (s:σ) (F:Nat->Prop) (w:World) (F0:Nat->Prop) (A:Option Addr) (c:Nat):Prop where
 i:inv s F0 w
 r:w.heap[B2]? = some (.cells #[.slice A l.length c] 36 (0,0))
 o:Au w (B2+1) 3 1 A l.length c (Ah l)
 v:w.cell? ⟨B1,0,none⟩=some (.func (.func fid) #[] caps.toArray)
 n1:¬ F0 B1
 n2:¬ F0 B2
 nA:∀ b,AE A=some b->¬ F0 b
 nd:l.Nodup
 rg:∀ x ∈ l,0<=x/\x<(10:Nat)
 fe:∀ b,F b↔(F0 b\/b=B2\/AE A=some b)
def Sq (B1 B2 fid:Nat)(caps:List Value){σ:Type}(inv:σ->(Nat->Prop)->World->Prop)(t:List Int × σ)(F:Nat->Prop)(w:World):Prop :=
 ∃ F0 A c,Vi B1 B2 fid caps inv t.1 t.2 F w F0 A c
theorem Ky {w:World}{b:Nat}{v:Value}{t:Nat}(h:w.heap[b]? = some (.cells #[v] t (0,0))):w.cell? ⟨b,0,none⟩=some v:=by rw[cell_of_row w b 0 _ _ _ h];rfl
theorem Kz {w:World}{b:Nat}{v:Value}{t:Nat}(h:w.heap[b]? = some (.cells #[v] t (0,0))):w.frozen? ⟨b,0,none⟩=false:=by simp[World.frozen?,h]
set_option maxRecDepth 100000 in
set_option maxHeartbeats 2000000 in
theorem XA {fid:Nat}{caps:List Value}{σ:Type}{inv:σ->(Nat->Prop)->World->Prop}{val:σ->Int->Int}{nxt:σ->Int->σ}{dom:Int->Prop}{L:Nat}(C:U_ Tryz.prog fid caps σ inv val nxt dom L)(hdom:∀ n,dom n->0<=n/\n<=9)(B1 B2:Nat)(h12:B1<B2)(hLB:L<=B1)(l:List Int)(s:σ)(F:Nat->Prop)(w:World)(n:Int)(F0:Nat->Prop)(A:Option Addr)(c:Nat)(R:Vi B1 B2 fid caps inv l s F w F0 A c)(hn:dom n) :
  Calls Tryz.prog 126 #[.int .i64 n,.pointer (some ⟨B2,0,none⟩),.pointer (some ⟨B1,0,none⟩)] w fun e w' =>
   e= .returned (.int .i64 (val s n))/\∃ F',Sq B1 B2 fid caps inv (Sg.C5 l n,nxt s n) F' w'/\AF F w w'/\∀ b,F' b->F b\/w.heap.size<=b:=by
 have hent:=C.ent;have hr:=Ky R.r;have hfz:=Kz R.r;have hv:=R.v;have hl:=GJ 10 l R.nd R.rg;have hB2:B2<w.heap.size:=AA hr;have hlt1:=AA hv;have HR:=lh R;have HC:=lh C;have Hn:=lh hn;have Hcon:=lh (Ez A l.length c l n w R.o.rd);clear R C hn;by_cases hm:n ∈ l
 ·have hd:decide (n ∈ l)=true:=by simp[hm]
  have Hd:=lh hd;have Hm:=lh hm;clear hd hm;go_enter Tryz.func126,Tryz.ntmps126;go_wp2_with fail
  refine Hcon.out.mono ?_;rw[Hd.out];rintro e w1 ⟨rfl,he1⟩;have hv1:=he1.cellE hv;go_wp2_with fail
  refine(HC.out.call s F0 _ n (HC.out.ext _ _ _ _ HR.out.i he1) Hn.out).mono ?_;rintro e w2 ⟨rfl,F1,hi2,hm2,hF1⟩;go_wp2_with fail
  go_ret;have R:=HR.out;have hon:Sg.C5 l n=l:=by unfold Sg.C5;rw[if_pos Hm.out]
  have nF1:∀ b,b<w.heap.size->¬ F0 b->¬ F1 b:=fun b hb hn0 hf=>(hF1 b hf).elim hn0 fun e=>by have:=he1.size;omega
  have hAw:∀ b,AE A=some b->b<w.heap.size:=fun b hb=>(R.o.lt hb).2;have hB1F:¬ F0 B1:=R.n1;refine⟨rfl,fun b=>F1 b\/b=B2\/AE A=some b,⟨F1,A,c,?_⟩,?_,?_⟩
  ·rw[hon];refine⟨hi2,?_,?_,hm2.cellE hv1 hB1F,nF1 _ hlt1 R.n1,nF1 _ hB2 R.n2,fun b hb=>nF1 b (hAw b hb) (R.nA b hb),R.nd,R.rg,fun b=>Iff.rfl⟩
   ·rw[hm2.block _ (Nat.lt_of_lt_of_le hB2 he1.size) R.n2,he1.block _ hB2];exact R.r
   ·exact(R.o.ext he1).mod hm2 fun b hb=>R.nA b hb
  ·exact(AF.of he1).tr' (hm2.mono fun b _ hb=>(R.fe b).2 (.inl hb))
  ·intro b hb;rcases hb with hb | hb | hb
   ·rcases hF1 b hb with hb | hb
    ·exact .inl ((R.fe b).2 (.inl hb))
    ·exact .inr (Nat.le_trans he1.size hb)
   ·exact .inl ((R.fe b).2 (.inr (.inl hb)))
   ·exact .inl ((R.fe b).2 (.inr (.inr hb)))
 ·have hd:decide (n ∈ l)=false:=by simp[hm]
  have Hd:=lh hd;have Hm:=lh hm;have hne:¬ B2=B1:=by omega
  have hne':¬ B1=B2:=by omega
  clear hd hm;go_enter Tryz.func126,Tryz.ntmps126;go_wp2_with fail
  refine Hcon.out.mono ?_;rw[Hd.out];rintro e w1 ⟨rfl,he1⟩;have hv1:=he1.cellE hv;have hr1:=he1.cellE hr;have ho1:=HR.out.o.ext he1;have hw1:=AA hr1;have hAB:AE A≠some B2:=fun e=>by have:=(HR.out.o.lt e).1;omega
  have hAB1:AE A≠some B1:=fun e=>by have:=(HR.out.o.lt e).1;omega
  have HAB:=lh hAB;have HAB1:=lh hAB1;have Hhe1:=lh he1;clear hr hfz hv hAB hAB1 he1;go_wp2_with (at_builtin;refine AB rfl rfl Bc rfl ho1 rfl rfl (Bn _ _) (by omega) (by omega) (by omega) ?_;intro A2 c2 w2 ho2 hg2 hat2;have q2:=(World.cell?_of_block (a:=⟨B2,0,none⟩) (hg2.block B2 hw1 (fun e=>HAB.out e.symm))).trans hr1;have q1:=(World.cell?_of_block (a:=⟨B1,0,none⟩) (hg2.block B1 (by omega) (fun e=>HAB1.out e.symm))).trans hv1;have qf:w2.frozen? ⟨B2,0,none⟩=false:=(World.frozen?_of_block (a:=⟨B2,0,none⟩) (hg2.block B2 hw1 (fun e=>HAB.out e.symm))).trans (Kz ((Hhe1.out.block _ hB2).trans HR.out.r)))
  have R:=HR.out;have he1:=Hhe1.out;obtain⟨W3,hW3⟩:∃ W3,W3=w2.setCell ⟨B2,0,none⟩ (.slice A2 (l.length+1) c2):=⟨_,rfl⟩;rw[<- hW3];have m12:AF (fun b=>AE A=some b) w1 w2:=⟨hg2.os,hg2.tape,hg2.output,hg2.size,fun b hb hn=>hg2.block b hb fun e=>hn e.symm⟩;have m23:AF (fun b=>b=B2) w2 W3:=⟨by rw[hW3];rfl,by rw[hW3];rfl,by rw[hW3];rfl,by rw[hW3];simp[World.setCell],fun b _ hn=>by rw[hW3];exact Below.heap_setCell _ _ _ _ hn⟩;have m13:AF (fun b=>AE A=some b\/b=B2) w1 W3:=(m12.mono fun b _ e=>.inl e).tr' (m23.mono fun b _ e=>.inr e);have hi3:=HC.out.md s F0 _ w1 W3 (HC.out.ext _ _ _ _ R.i he1) m13 (fun b hb hG=>hG.elim (fun e=>R.nA b e hb) (fun e=>R.n2 (e ▸ hb))) (fun b hb hG=>hG.elim (fun e=>by have:=(R.o.lt e).1;omega) (fun e=>by omega));have hold:=HC.out.old s F0 w;have h2h:w2.heap[B2]? = some (.cells #[.slice A l.length c] 36 (0,0)):=(hg2.block B2 hw1 (fun e=>HAB.out e.symm)).trans ((he1.block _ hB2).trans R.r);have h3h:W3.heap[B2]? = some (.cells #[.slice A2 (l.length+1) c2] 36 (0,0)):=by rw[hW3];simp[World.setCell,Array.getElem?_modify,h2h]
  have hA2B:AE A2≠some B2:=fun e=>by have:=(ho2.lt e).1;omega
  have ho3:Au W3 (B2+1) 3 1 A2 (l.length+1) c2 (Ah l++[.int .i64 n]):=by rw[hW3];exact ho2.set hA2B _
  have hv3:W3.cell? ⟨B1,0,none⟩=some (.func (.func fid) #[] caps.toArray):=by rw[hW3,co];exact q1
  have hnA2:∀ b,AE A2=some b->¬ F0 b:=by
   intro b hb hf;rcases hat2 with e | ⟨g,e,hg⟩
   ·exact R.nA b (by rw[<- e];exact hb) hf
   ·rw[e] at hb;injection hb with hb;have:=hold b R.i hf;have:=he1.size;omega
  have hsz13:=m13.size;have hsz1:=he1.size;clear q1 q2 qf hr1 hv1;refine(HC.out.call s F0 _ n hi3 Hn.out).mono ?_;rintro e w4 ⟨rfl,F1,hi4,hm4,hF1⟩;have Hfin:=lh (And.intro hi4 (And.intro hm4 hF1));clear hi4 hm4 hF1;go_wp2_with fail
  go_ret;obtain⟨hi4,hm4,hF1⟩:=Hfin.out;have hon:Sg.C5 l n=l++[n]:=by unfold Sg.C5;rw[if_neg Hm.out]
  have nF1:∀ b,b<W3.heap.size->¬ F0 b->¬ F1 b:=fun b hb hn0 hf=>(hF1 b hf).elim hn0 fun e=>by omega
  refine⟨rfl,fun b=>F1 b\/b=B2\/AE A2=some b,⟨F1,A2,c2,?_⟩,?_,?_⟩
  ·rw[hon];have hdn:=hdom n Hn.out;refine⟨hi4,?_,?_,hm4.cellE hv3 R.n1,nF1 _ (AA hv3) R.n1,nF1 _ (by omega) R.n2,fun b hb=>nF1 b (ho3.lt hb).2 (hnA2 b hb),?_,?_,fun b=>Iff.rfl⟩
   ·rw[hm4.block _ (by omega) R.n2,h3h];simp
   ·have:=ho3.mod hm4 hnA2;simpa using this
   ·rw[List.nodup_append];exact⟨R.nd,by simp,fun a ha b hb=>by simp at hb;subst hb;exact fun e=>Hm.out (e ▸ ha)⟩
   ·intro x hx;rcases List.mem_append.1 hx with hx | hx
    ·exact R.rg x hx
    ·simp at hx;subst hx;omega
  ·refine(AF.of he1).tr' ((m13.mono fun b _ hb=>(R.fe b).2 (hb.elim (fun e=>.inr (.inr e)) (fun e=>.inr (.inl e)))).tr' (hm4.mono fun b _ hb=>(R.fe b).2 (.inl hb)))
  ·intro b hb;rcases hb with hb | hb | hb
   ·rcases hF1 b hb with hb | hb
    ·exact .inl ((R.fe b).2 (.inl hb))
    ·exact .inr (by omega)
   ·exact .inl ((R.fe b).2 (.inr (.inl hb)))
   ·rcases hat2 with e | ⟨g,e,hg⟩
    ·exact .inl ((R.fe b).2 (.inr (.inr (by rw[<- e];exact hb))))
    ·rw[e] at hb;injection hb with hb;exact .inr (by omega)
theorem Wk {fid:Nat}{caps:List Value}{σ:Type}{inv:σ->(Nat->Prop)->World->Prop}{val:σ->Int->Int}{nxt:σ->Int->σ}{dom:Int->Prop}{L:Nat}(C:U_ Tryz.prog fid caps σ inv val nxt dom L)(hdom:∀ n,dom n->0<=n/\n<=9)(B1 B2:Nat)(h12:B1<B2)(hLB:L<=B1) :
  U_ Tryz.prog 126 [.pointer (some ⟨B2,0,none⟩),.pointer (some ⟨B1,0,none⟩)] (List Int × σ) (Sq B1 B2 fid caps inv) (fun t n=>val t.2 n) (fun t n=>(Sg.C5 t.1 n,nxt t.2 n)) dom (B1+1) where
 ent:=GZ Tryz.func126 rfl (by kernel_rfl)
 call:=fun t F w n h hn=>by
  obtain⟨F0,A,c,R⟩:=h;exact XA C hdom B1 B2 h12 hLB t.1 t.2 F w n F0 A c R hn
 old:=fun t F w b h hb=>by
  obtain⟨F0,A,c,R⟩:=h;rcases (R.fe b).1 hb with hb | hb | hb
  ·exact C.old _ _ _ _ R.i hb
  ·subst hb;exact(Array.getElem?_eq_some_iff.1 R.r).1
  ·exact(R.o.lt hb).2
 md:=fun t F G w w' h hm h1 h2=>by
  obtain⟨F0,A,c,R⟩:=h;have g1:∀ b,F0 b->¬ G b:=fun b hb=>h1 b ((R.fe b).2 (.inl hb));refine⟨F0,A,c,C.md _ _ G _ _ R.i hm g1 (fun b hb=>h2 b (by omega)),?_,?_,hm.cellE R.v (h2 _ (by omega)),R.n1,R.n2,R.nA,R.nd,R.rg,R.fe⟩
  ·rw[hm.block _ (Array.getElem?_eq_some_iff.1 R.r).1 (h1 _ ((R.fe _).2 (.inr (.inl rfl))))];exact R.r
  ·exact R.o.mod hm fun b hb=>h1 b ((R.fe b).2 (.inr (.inr hb)))
 ran:=fun t F w n h hn=>by
  obtain⟨F0,A,c,R⟩:=h;exact C.ran _ _ _ _ R.i hn
end Go.Proofs.YthibllkleakiiaaGreatDoor
namespace Sg
def Je {σ:Type}(f:List At)(val:σ->Int->Int)(Pr:σ->Int->σ)(s:σ):Int × (List Int × σ) :=
 Ct f (fun (t:List Int × σ) n=>val t.2 n) (fun t n=>(C5 t.1 n,Pr t.2 n)) f.length ((f.length:Int) - 1) ([],s)
end Sg
namespace Go.Proofs.YthibllkleakiiaaGreatDoor
open Go.RowKit
set_option maxRecDepth 100000 in
set_option maxHeartbeats 2000000 in
theorem Td {fid:Nat}{caps:List Value}{σ:Type}{inv:σ->(Nat->Prop)->World->Prop}{val:σ->Int->Int}{nxt:σ->Int->σ}{dom:Int->Prop}{L:Nat}(C:U_ Tryz.prog fid caps σ inv val nxt dom L)(hdom:∀ n,dom n->0<=n/\n<=9)(Af:Option Addr)(cf:Nat)(f:List Sg.At)(ok:Sg.Yv f dom)(s:σ)(F:Nat->Prop)(w:World)(hL:L<=w.heap.size)(hinv:inv s F w)(hf:Rd w 5 Af f.length (AH f))(hoff:Nk F Af) :
  Calls Tryz.prog 87 #[.agg #[.slice Af f.length cf],.func (.func fid) #[] caps.toArray] w fun e w' =>
   ∃ A' F',e= .returned (.tuple #[.int .i64 (Sg.Je f val nxt s).1,.slice A' (Sg.Je f val nxt s).2.1.length (Sg.Je f val nxt s).2.1.length]) /\
    Au w' w.heap.size 3 1 A' (Sg.Je f val nxt s).2.1.length (Sg.Je f val nxt s).2.1.length (Ah (Sg.Je f val nxt s).2.1) /\
    inv (Sg.Je f val nxt s).2.2 F' w'/\AF F w w'/\(∀ b,F' b->F b\/w.heap.size<=b)/\Nk F' A'/\0<=(Sg.Je f val nxt s).1/\(Sg.Je f val nxt s).1<=999:=by
 have hlen:=ok.len;have hone:=ok.one;obtain⟨n,hn⟩:∃ n:Nat,n=f.length - 1:=⟨_,rfl⟩;have hcast:((f.length:Int) - 1)=(n:Int):=by omega
 have C':=Wk C hdom (w.heap.size+1) (w.heap.size+1+1) (by omega) (by omega);have Hev:=XB C' Af cf f ok f.length;have hdef:Sg.Je f val nxt s=Sg.Ct f (fun (t:List Int × σ) n=>val t.2 n) (fun t n=>(Sg.C5 t.1 n,nxt t.2 n)) f.length n ([],s):=by unfold Sg.Je;rw[hcast]
 rw[hdef];generalize hr:Sg.Ct f (fun (t:List Int × σ) n=>val t.2 n) (fun t n=>(Sg.C5 t.1 n,nxt t.2 n)) f.length n ([],s)=r at *;obtain⟨v,l,s'⟩:=r;obtain⟨W0,hW0⟩:∃ W0,W0=((w.alloc (.cells #[.slice Af f.length cf] 68)).alloc (.cells #[.func (.func fid) #[] caps.toArray] 107)).alloc (.cells #[.slice none 0 0] 36):=⟨_,rfl⟩;have e0:Aa w W0:=by rw[hW0];exact(((Aa.rfl' w).al _).al _).al _
 have hz0:W0.heap.size=w.heap.size+1+1+1:=by rw[hW0];simp
 have hq0:W0.cell? ⟨w.heap.size,0,none⟩=some (.slice Af f.length cf):=by rw[hW0];simp[go_sem]
 have hq1:W0.cell? ⟨w.heap.size+1,0,none⟩=some (.func (.func fid) #[] caps.toArray):=by rw[hW0];simp[go_sem]
 have hq2:W0.heap[w.heap.size+1+1]? = some (.cells #[.slice none 0 0] 36 (0,0)):=by
  rw[hW0];have:=heap_alloc_new ((w.alloc (.cells #[.slice Af f.length cf] 68)).alloc (.cells #[.func (.func fid) #[] caps.toArray] 107)) (.cells #[.slice none 0 0] 36);simpa using this
 have hold:∀ b,F b->b<w.heap.size:=fun b=>C.old s F w b hinv
 have hinit:∀ W,Aa W0 W->Sq (w.heap.size+1) (w.heap.size+1+1) fid caps inv ([],s) (fun b=>F b\/b=w.heap.size+1+1\/AE none=some b) W:=by
  intro W e;refine⟨F,none,0,C.ext _ _ _ _ hinv (e0.tr e),?_,Au.nil _ _ _ _,e.cellE hq1,fun h=>?_,fun h=>?_,fun b h=>?_,List.nodup_nil,fun x hx=>?_,fun b=>Iff.rfl⟩
  ·rw[e.block _ (by omega)];exact hq2
  ·have:=hold _ h;omega
  ·have:=hold _ h;omega
  ·simp[AE] at h
  ·cases hx
 have Hinit:=lh hinit
 have hoffB:Nk (fun b=>F b\/b=w.heap.size+1+1\/AE none=some b) Af:=by
  intro b hb h;rcases h with h | h | h
  ·exact hoff b hb h
  ·have hfl:0<f.length * 5:=by omega
   obtain⟨b',o',ha,hcell⟩:=hf.2.2 hfl;have hlt:=AA (hcell 0 _ (gg (by rw[hf.1];exact hfl)));rw[ha] at hb;simp[AE] at hb
   omega
  ·simp[AE] at h
 have HoffB:=lh hoffB;have Hold:=lh hold
 have hnB:¬ (fun b=>F b\/b=w.heap.size+1+1\/AE none=some b) w.heap.size:=by
  intro h;rcases h with h | h | h
  ·have:=hold _ h;omega
  ·omega
  ·simp[AE] at h
 have HnB:=lh hnB;clear hnB;have He0:=lh e0;have Hq0:=lh hq0;clear hinit hoffB hq0 hq1 hq2 hold e0 hz0;have HC:=lh C;have HI:=lh hinv;have HO:=lh hoff;have Hr:=lh hr;have Hn:=lh hn;have Hc:=lh hcast;have HE:=lh Hev;dsimp only at *;clear C C' hinv hoff hr hn hcast Hev hdef hdom ok;go_enter Tryz.func87,Tryz.ntmps87;go_wp2;rw[<- hW0];have HW:=lh hW0;clear hW0;have q0:=Hq0.out
 go_region_held3 (fun W=>W.cell? ⟨w.heap.size,0,none⟩=some (.slice Af f.length cf)) (first | exact k1 | go_keep)
  (first
   | (go_at_call 123;refine(Vj Af f.length cf _ hone (by omega)).mono ?_;rintro e w1 ⟨rfl,he1⟩;have e1:=((Aa.rfl' W0).dr).tr he1;have k1:=e1.cellE q0)
   | (go_at_call 125;rw[Hc.out];refine(HE.out n ([],s) _ _ (by have:=Hn.out;omega) (by have:=Hn.out;omega) hlen (Hinit.out _ e1) ((hf.ext He0.out).ext e1) HoffB.out).mono ?_;rw[Hr.out];rintro e w2 ⟨rfl,⟨F2,hi2,hm2,hF2⟩,hx0,hx1⟩;have k1:=hm2.cellE k1 HnB.out))
 go_goals
 all_goals
  obtain⟨F0,A2,c2,R⟩:=hi2;dsimp only at R;have hq:=Ky R.r;have hle:=R.o.2.1;have hmx:=R.o.2.2.1;have HR:=lh R;have H2:=lh (And.intro hm2 (And.intro hF2 (And.intro hx0 (And.intro hx1 e1))));clear R hm2 hF2 hx0 hx1 e1;go_wp2_with (go_at_call 48;refine(J9 A2 l.length c2 _ hle hmx).mono ?_;rintro e w3 ⟨rfl,hw3⟩;subst hw3)
  go_ret2;obtain⟨hm2,hF2,hx0,hx1,e1⟩:=H2.out;have R:=HR.out;have hsz:=e1.size;have hsz0:W0.heap.size=w.heap.size+1+1+1:=by rw[HW.out];simp
  have hold:=Hold.out;refine⟨A2,F0,rfl,R.o.clip.mono (by omega),R.i,⟨hm2.os.trans (e1.os.trans He0.out.os),hm2.tape.trans (e1.tape.trans He0.out.tape),hm2.output.trans (e1.output.trans He0.out.output),by have:=hm2.size;omega,?_⟩,?_,R.nA,hx0,hx1⟩
  ·intro b hb hnF;refine(hm2.block b (by omega) ?_).trans ((e1.block b (by omega)).trans (He0.out.block b hb));intro h;rcases h with h | h | h
   ·exact hnF h
   ·omega
   ·simp[AE] at h
  ·intro b hb;rcases hF2 b ((R.fe b).2 (.inl hb)) with h | h
   ·rcases h with h | h | h
    ·exact .inl h
    ·exact .inr (by omega)
    ·simp[AE] at h
   ·exact .inr (by omega)
end Go.Proofs.YthibllkleakiiaaGreatDoor
namespace Sg
theorem Rw (f:List At)(vals:List Int):∀ (k:Nat) (i:Int) (l:List Int),
  Ct f (fun (_:List Int × Unit) n=>rd vals n) (fun t n=>(C5 t.1 n,())) k i (l,())=((Cq f vals k i).1,((Cq f vals k i).2.foldl C5 l,())):=by
 intro k;induction k with
 | zero=>intro i l;rfl
 | succ k ih =>
  intro i l;simp only[Ct,Cq];generalize f.getD i.toNat default=p;by_cases h0:p.kind=0
  ·simp[h0]
  ·by_cases h1:p.kind=1
   ·simp[h1]
   ·by_cases h8:p.kind=8
    ·simp[h8,ih,List.foldl_append]
    ·simp[h0,h1,h8,ih,List.foldl_append]
theorem KT (f:List At)(vals:List Int):Je f (fun (_:Unit) n=>rd vals n) (fun _ _=>()) ()=((AJ f vals).1,((AJ f vals).2,())):=by
 unfold Je AJ AU;exact Rw f vals _ _ _
end Sg
namespace Go.Proofs.YthibllkleakiiaaGreatDoor
open Go.RowKit
theorem Ef (A:Option Addr)(n c:Nat)(w:World):Calls Tryz.prog 51 #[.agg #[.slice A n c]] w fun e w'=>e= .returned (.int .i64 n)/\Aa w w':=by
 go_enter Tryz.func51,Tryz.ntmps51;go_wp2;go_ret;exact⟨rfl,(Aa.rfl' w).al _⟩
set_option maxHeartbeats 1000000 in
theorem Wm (A B:Option Addr)(ca cb:Nat)(a b:List Int)(w:World)(h:Rd w 1 A a.length (Ah a))(k:Rd w 1 B b.length (Ah b)) :
  Calls Tryz.prog 185 #[.slice A a.length ca,.slice B b.length cb] w fun e w'=>e= .returned (.bool (decide (a=b)))/\Aa w w':=by
 have hk:=k.big;have hh:=h.big;by_cases hab:a.length=b.length
 ·have h1:((a.length:Int) != (b.length:Int))=false:=by simp[hab]
  have Hab:=lh hab;clear hab;go_enter Tryz.func185,Tryz.ntmps185;go_wp2;go_loopw [13] (fun i wr=>∃ n:Nat,n<=a.length/\i= .int .i64 n/\a.take n=b.take n/\Aa w wr) (fun i _=>a.length - (intOf i).toNat)
  case atStart=>exact⟨0,Nat.zero_le _,rfl,rfl,Aa.rfl' w⟩
  case round =>
   obtain⟨n,hn,rfl,htk,hext⟩:=hrel;have Htk:=lh htk;clear htk;by_cases hlt:n<a.length
   ·have hlt2:n<b.length:=by have:=Hab.out;omega
    obtain⟨ba,oa,x,rfl,hx,hcx⟩:=(h.ext hext).at1 hlt;obtain⟨bb,ob,y,rfl,hy,hcy⟩:=(k.ext hext).at1 hlt2;have Hx:=lh hx;have Hy:=lh hy;clear hx hy;by_cases hxy:x=y
    ·have hb1:(x != y)=false:=by simp[hxy]
     have Hxy:=lh hxy;clear hxy;go_wp2;go_quiet (fail)
     go_wp2;go_roundw
     case rel=>exact⟨n+1,by omega,by go_num,by rw[List.take_add_one,List.take_add_one,Htk.out,Hx.out,Hy.out,Hxy.out],hext.drN _⟩
     case measure=>simp[intOf];omega
    ·have hb1:(x != y)=true:=by simp[hxy]
     have Hxy:=lh hxy;clear hxy;go_wp2;go_quiet (fail)
     go_wp2;go_ret;refine⟨Aj ?_,hext.drN _⟩;symm
     rw[decide_eq_false_iff_not];intro e;have hx:=Hx.out;have hy:=Hy.out;rw[e,hy] at hx;injection hx with hx;exact Hxy.out hx.symm
   ·obtain rfl:n=a.length:=by omega
    go_wp2;go_ret;refine⟨Aj ?_,hext⟩;have htk:=Htk.out;rw[List.take_length,Hab.out,List.take_length] at htk;simp[htk]
 ·have h1:((a.length:Int) != (b.length:Int))=true:=by simp;omega
  have Hab:=lh hab;clear hab;go_enter Tryz.func185,Tryz.ntmps185;go_wp2;go_ret;refine⟨Aj ?_,Aa.rfl' w⟩;symm
  rw[decide_eq_false_iff_not];exact fun e=>Hab.out (by rw[e])
structure XD (B:Nat) (Av:Option Addr) (cv:Nat) (v:List Int) (F:Nat->Prop) (w:World):Prop where
 b:w.cell? ⟨B,0,none⟩=some (.slice Av v.length cv)
 r:Rd w 1 Av v.length (Ah v)
 e:∀ b,¬ F b
theorem Rd.mod0 {F:Nat->Prop}{w w':World}{size n:Nat}{A:Option Addr}{xs:List Value}(h:Rd w size A n xs)(k:AF F w w')(hF:0<n * size->Nk F A):Rd w' size A n xs :=
 ⟨h.1,h.2.1,fun hn=>let ⟨b,o,ha,hc⟩:=h.2.2 hn;⟨b,o,ha,fun j u hu=>k.cellE (hc j u hu) (hF hn b (by rw[ha];rfl))⟩⟩
theorem Uf (B:Nat)(Av:Option Addr)(cv:Nat)(v:List Int)(L:Nat)(hB:B<L)(hA:0<v.length->∀ b,AE Av=some b->b<L)(hv:Sg.Bq v) :
  U_ Tryz.prog 184 [.pointer (some ⟨B,0,none⟩)] Unit (fun _=>XD B Av cv v) (fun _ n=>Sg.rd v n) (fun _ _=>()) (fun n=>0<=n/\n<v.length/\n<=9) L where
 ent:=GZ Tryz.func184 rfl (by kernel_rfl)
 call:=fun s F w n h hn=>by
  obtain⟨hb,hr,he⟩:=h;obtain⟨hn0,hn1,hn2⟩:=hn;obtain⟨k,rfl⟩:∃ k:Nat,n=k:=⟨n.toNat,by omega⟩;obtain⟨ba,oa,x,rfl,hx,hcx⟩:=hr.at1 (show k<v.length by omega);have Hx:=lh hx;have HI:=lh (And.intro hb (And.intro hr he));have hr0:=hr.big;clear hx hr he;go_enter Tryz.func184,Tryz.ntmps184;go_wp2;go_ret;refine⟨by simp[Sg.rd,Hx.out],F,⟨HI.out.1,HI.out.2.1,HI.out.2.2⟩,AF.rfl' _ _,fun b hb=>.inl hb⟩
 old:=fun s F w b h hb=>absurd hb (h.e b)
 md:=fun s F G w w' h hm h1 h2=>⟨hm.cellE h.b (h2 _ hB),h.r.mod0 hm (fun h0 b hb=>h2 b (hA (by omega) b hb)),h.e⟩
 ran:=fun s F w n h hn=>by
  have:n.toNat<v.length:=by omega
  have hm:=hv (v[n.toNat]) (List.getElem_mem this);simp only[Sg.rd,g_d,gg this,Option.getD_some];exact hm
theorem Sr {f:List Sg.At}{k:Nat}(h:Sg.TA f k)(L:Nat)(hk:k<=L):Sg.Yv f (fun n=>0<=n/\n<(L:Int)/\n<=9):=by
 refine⟨h.good,h.len,h.one,fun p hp hk1=>?_⟩;obtain⟨i,hi⟩:=List.getElem?_of_mem hp;have h1:=h.good i p hi;have h2:=h.reads p hp hk1;simp[Sg.AZ,Sg.Di,Sg.Cb,hk1] at h1
 omega
set_option maxHeartbeats 1000000 in
theorem Te (A Av Al:Option Addr)(c cv cl:Nat)(g:Sg.Ae)(v l:List Int)(k:Nat)(n:Sg.BV)(x:Int)(w:World)(h:Eg w A g)(hv:Rd w 1 Av v.length (Ah v))(hl:Rd w 1 Al l.length (Ah l))(hn:g[k]? = some n)(hx:v[k]? = some x)(hok:Sg.TA n.f k)(hin:Sg.Bq v) :
  Calls Tryz.prog 164 #[.agg #[.slice A g.length c],.int .i64 k,.slice Av v.length cv,.slice Al l.length cl] w fun e w' =>
   e= .returned (.bool (decide ((Sg.AJ n.f v).1=x) && decide ((Sg.AJ n.f v).2=l)))/\Aa w w':=by
 have hkg:k<g.length:=(ge_.1 hn).1;have hkv:k<v.length:=(ge_.1 hx).1;have hgl:=h.1;have hvl:=hv.big;obtain⟨⟨nk,nf⟩,b,o,Ap,cp,hn',rfl,hkc,hs,hf,hfl⟩:=h.at_ hkg;rw[hn] at hn';injection hn' with hn';subst hn';obtain⟨bv,ov,x',rfl,hx',hxc⟩:=hv.at1 hkv;rw[hx] at hx';injection hx' with hx';subst hx';dsimp only at *;have e0:=((Aa.rfl' w).al (.cells #[.slice (some ⟨b,o,none⟩) g.length c] 35)).al (.cells #[.slice (some ⟨bv,ov,none⟩) v.length cv] 36);have hbv:=AA hxc;have C:=Uf (w.heap.size+1) (some ⟨bv,ov,none⟩) cv v (w.heap.size+1+1) (by omega) (fun _ b hb=>by simp[AE] at hb;omega) hin
 have HR:=Td C (fun n hn=>⟨hn.1,hn.2.2⟩) Ap cp nf (Sr hok v.length (by omega)) () (fun _=>False)
  ((w.alloc (.cells #[.slice (some ⟨b,o,none⟩) g.length c] 35)).alloc (.cells #[.slice (some ⟨bv,ov,none⟩) v.length cv] 36)) (by simp)
  ⟨by simp[go_sem],hv.ext e0,fun _ h=>h⟩ (hf.ext e0) (fun _ _ h=>h)
 rw[Sg.KT] at HR;dsimp only at HR
 have HR:Calls Tryz.prog 87 #[.agg #[.slice Ap nf.length cp],.func (.func 184) #[] #[.pointer (some ⟨w.heap.size+1,0,none⟩)]]
  ((w.alloc (.cells #[.slice (some ⟨b,o,none⟩) g.length c] 35)).alloc (.cells #[.slice (some ⟨bv,ov,none⟩) v.length cv] 36)) fun e w' =>
   ∃ A',e= .returned (.tuple #[.int .i64 (Sg.AJ nf v).1,.slice A' (Sg.AJ nf v).2.length (Sg.AJ nf v).2.length])/\Rd w' 1 A' (Sg.AJ nf v).2.length (Ah (Sg.AJ nf v).2) /\
    Aa ((w.alloc (.cells #[.slice (some ⟨b,o,none⟩) g.length c] 35)).alloc (.cells #[.slice (some ⟨bv,ov,none⟩) v.length cv] 36)) w':=by
  refine HR.mono ?_;rintro e w1 ⟨A',F',rfl,ho,hi,hm,hF,hfo,hx0,hx1⟩;exact⟨A',rfl,ho.rd,hm.ext fun _=>id⟩
 have HR:=lh HR;have Heq:=lh (fun A c w h=>Wm A Al c cl (Sg.AJ nf v).2 l w h);have hbs:=AA hs;have H0:=lh e0;have KX:=lh (e0.cellE hxc);have KB0:(((w.alloc (.cells #[.slice (some ⟨b,o,none⟩) g.length c] 35)).alloc (.cells #[.slice (some ⟨bv,ov,none⟩) v.length cv] 36)).cell? ⟨w.heap.size+1,0,none⟩=some (.slice (some ⟨bv,ov,none⟩) v.length cv)):=by simp[go_sem]
 have KB:=lh KB0;clear KB0;have HL:=lh hl;clear hn hx hok hin C e0 hl hv hf h;by_cases hxe:(Sg.AJ nf v).1=x
 ·have hb0:((Sg.AJ nf v).1 == x)=true:=by simp[hxe]
  have Hxe:=lh hxe;clear hxe;by_cases hle:(Sg.AJ nf v).2=l
  ·have hd:decide ((Sg.AJ nf v).2=l)=true:=by simp[hle]
   have Hd:=lh hd;clear hd hle;go_enter Tryz.func164,Tryz.ntmps164
   go_wp2_with (first
    | (go_at_call 87;refine HR.out.mono ?_;rintro e w1 ⟨A',rfl,ho,he1⟩;have k1:=he1.cellE KB.out;have k2:=he1.cellE KX.out)
    | (go_at_call 185;refine(Heq.out A' _ w1 ho (HL.out.ext (H0.out.tr he1))).mono ?_;rintro e w2 ⟨rfl,he2⟩;rw[Hd.out]))
   go_ret;exact⟨Aj (by rw[Hd.out];simp[Hxe.out]),(H0.out.tr he1).tr he2⟩
  ·have hd:decide ((Sg.AJ nf v).2=l)=false:=by simp[hle]
   have Hd:=lh hd;clear hd hle;go_enter Tryz.func164,Tryz.ntmps164
   go_wp2_with (first
    | (go_at_call 87;refine HR.out.mono ?_;rintro e w1 ⟨A',rfl,ho,he1⟩;have k1:=he1.cellE KB.out;have k2:=he1.cellE KX.out)
    | (go_at_call 185;refine(Heq.out A' _ w1 ho (HL.out.ext (H0.out.tr he1))).mono ?_;rintro e w2 ⟨rfl,he2⟩;rw[Hd.out]))
   go_ret;exact⟨Aj (by rw[Hd.out];simp),(H0.out.tr he1).tr he2⟩
 ·have hb0:((Sg.AJ nf v).1 == x)=false:=by simp[hxe]
  have Hxe:=lh hxe;clear hxe;go_enter Tryz.func164,Tryz.ntmps164;go_wp2_with (go_at_call 87;refine HR.out.mono ?_;rintro e w1 ⟨A',rfl,ho,he1⟩;have k1:=he1.cellE KB.out;have k2:=he1.cellE KX.out)
  go_ret;exact⟨Aj (by simp[Hxe.out]),H0.out.tr he1⟩
open Go.RowKit
open Go.RowKit
set_option maxHeartbeats 1000000 in
theorem Wy {fid:Nat}{caps:List Value}{inv:World->Prop}{p:Int->Bool}{dom:Int->Prop}(C:Xv Tryz.prog fid caps inv p dom)(A:Option Addr)(n c:Nat)(w:World)(hi:inv w)(hd:∀ k:Nat,k<n->dom k)(hn:n<=1048576) :
  Calls Tryz.prog 93 #[.agg #[.slice A n c],.func (.func fid) #[] caps.toArray] w fun e w'=>∃ A',e= .returned (.slice A' (Sg.Cm (fun i=>p i) n).length (Sg.Cm (fun i=>p i) n).length) /\
   Au w' w.heap.size 3 1 A' (Sg.Cm (fun i=>p i) n).length (Sg.Cm (fun i=>p i) n).length (Ah (Sg.Cm (fun i=>p i) n))/\Aa w w':=by
 have hent:=C.ent;have HC:=lh C;have HD:=lh hd;have e0:=(Aa.rfl' w).al (.cells #[.slice A n c] 35);have HI:=lh (C.ext _ _ hi e0);have HE:=lh e0;have hq:∀ k,Sg.Cm (fun i=>p i) (k+1)=if p k=true then Sg.Cm (fun i=>p i) k++[(k:Int)] else Sg.Cm (fun i=>p i) k:=fun k=>Sg.DC _ k
 have hL:∀ k,(Sg.Cm (fun i=>p i) k).length<=k:=fun k=>Sg.FI _ k;have h0:Sg.Cm (fun i=>p i) 0=[]:=rfl;generalize Sg.Cm (fun i=>p i)=V at *;have HQ:=lh hq;have HL:=lh hL;have H0:=lh h0;clear C hd hi e0 hq hL h0;go_enter Tryz.func93,Tryz.ntmps93;go_wp2;go_loopw [5,10] (fun v i wr=>∃ (k:Nat) (A':Option Addr) (c':Nat),k<=n/\i= .int .i64 k/\v= .slice A' (V k).length c'/\Au wr (w.heap.size+1) 3 1 A' (V k).length c' (Ah (V k))/\Aa (w.alloc (.cells #[.slice A n c] 35)) wr) (fun _ i _=>n - (intOf i).toNat)
 case atStart=>exact⟨0,none,0,Nat.zero_le _,rfl,by rw[H0.out];rfl,by rw[H0.out];exact Au.nil _ _ _ _,Aa.rfl' _⟩
 case round =>
  obtain⟨k,A',c',hk,rfl,rfl,hown,he⟩:=hrel;have hl:=HL.out k;have He:=lh he;have Ho:=lh hown;have hcm:=And.intro hown.2.1 hown.2.2.1;clear he hown;by_cases hlt:k<n
  ·have hq:=HQ.out k;cases hp:p (k:Int)
   ·rw[hp] at hq;simp only[Bool.false_eq_true,if_false] at hq;have Hq:=lh hq;have Hp:=lh hp;clear hp hq;go_wp2_with fail
    refine(HC.out.call _ (k:Int) (HC.out.ext _ _ HI.out He.out) (HD.out k hlt)).mono ?_;rw[Hp.out];rintro e w1 ⟨rfl,he1⟩;go_wp2;go_roundw
    case rel=>exact⟨k+1,A',c',by omega,by go_num,by rw[Hq.out],by rw[Hq.out];exact Ho.out.ext he1,He.out.tr he1⟩
    case measure=>simp[intOf];omega
   ·rw[hp] at hq;simp only[if_true] at hq;have Hq:=lh hq;have Hp:=lh hp;clear hp hq;go_wp2_with fail
    refine(HC.out.call _ (k:Int) (HC.out.ext _ _ HI.out He.out) (HD.out k hlt)).mono ?_;rw[Hp.out];rintro e w1 ⟨rfl,he1⟩;have Ho1:=lh (Ho.out.ext he1);have s1:=(He.out.tr he1).size;simp only[World.size_alloc] at s1;go_wp2_with (at_builtin;refine AB rfl rfl Bc rfl Ho1.out rfl rfl (Bn _ _) (by omega) (by omega) (by omega) ?_;intro A2 c2 w9 hown2 hg2 hat2)
    go_roundw
    case rel=>exact⟨k+1,A2,c2,by omega,by go_num,by rw[Hq.out];simp,by rw[Hq.out];simpa using hown2,(He.out.tr he1).gr hg2 fun x hx=>(by have:=(Ho1.out.lt hx).1;simpa using this)⟩
    case measure=>simp[intOf];omega
  ·obtain rfl:k=n:=by omega
   go_wp2_with (go_at_call 48;refine(J9 _ _ _ _ hcm.1 hcm.2).mono ?_;rintro e w' ⟨rfl,rfl⟩)
   go_ret;exact⟨A',rfl,Ho.out.clip.mono (by omega),HE.out.tr He.out⟩
end Go.Proofs.YthibllkleakiiaaGreatDoor
