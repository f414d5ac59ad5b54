/- Parts of one proof, joined. Parts of one proof, joined. A block of the call's own that is known whole: laws, and more. Conditions: in the theorems. -/
import Derived.Test.YthibllkleakiiaaGreatDoorCore
namespace Go.Proofs.YthibllkleakiiaaGreatDoor
open Go.RowKit
theorem Cx (n lo hi:Int)(w:World):Calls Tryz.prog 39 #[.int .i64 n,.int .i64 lo,.int .i64 hi] w fun e w'=>e= .returned (.bool (Sg.Cb n lo hi))/\w=w':=by
 by_cases h1:lo<=n
 ·by_cases h2:n<=hi
  ·go_enter Tryz.func39,Tryz.ntmps39;go_wp2;go_ret;exact⟨Aj (by simp[Sg.Cb,h1,h2]),rfl⟩
  ·go_enter Tryz.func39,Tryz.ntmps39;go_wp2;go_ret;exact⟨Aj (by simp[Sg.Cb,h2]),rfl⟩
 ·go_enter Tryz.func39,Tryz.ntmps39;go_wp2;go_ret;exact⟨Aj (by simp[Sg.Cb];omega),rfl⟩
def D_ (n:Int):Nat->List Int->Int
 | _,[]=>-1
 | k,x :: l=>if x=n then k else D_ n (k+1) l
def Dm (l:List Int)(n:Int):Int:=D_ n 0 l
theorem NE (n:Int)(l:List Int)(k:Nat):D_ n k l<0↔n ∉ l:=by
 induction l generalizing k with
 | nil=>simp[D_]
 | cons x l ih =>
  simp only[D_];by_cases h:x=n
  ·simp[h]
  ·rw[if_neg h,ih];simp;exact fun _=>fun e=>h e.symm
theorem EV (l:List Int)(n:Int):Dm l n<0↔n ∉ l:=NE n l 0
theorem JJ (A:Option Addr)(len c:Nat)(l:List Int)(n:Int)(w:World)(h:Rd w 1 A len (Ah l)) :
  Calls Tryz.prog 112 #[.slice A len c,.int .i64 n] w fun e w'=>e= .returned (.int .i64 (Dm l n))/\w=w':=by
 have hm:=h.big;obtain rfl:=h.len;go_enter Tryz.func112,Tryz.ntmps112;go_wp2;go_loop [5] (fun i=>∃ k:Nat,k<=l.length/\i= .int .i64 k/\D_ n k (l.drop k)=Dm l n) (fun i=>l.length - (intOf i).toNat)
 case atStart=>exact⟨0,Nat.zero_le _,rfl,rfl⟩
 case round =>
  obtain⟨k,hk,rfl,hpl⟩:=hrel;by_cases hlt:k<l.length
  ·obtain⟨b,o,x,rfl,hx,hc⟩:=h.at1 hlt;rw[DO l k hx,D_] at hpl;have H:=lh hpl;clear hpl hx;go_wp2
   ·have hn:x=n:=by simpa using ‹(x == n)=true›
    go_ret;exact⟨Fk (by rw[<- H.out,if_pos hn]),rfl⟩
   ·have hn:¬ x=n:=by simpa using ‹(x == n)=false›
    go_round
    case rel=>exact⟨k+1,by omega,by go_num,by rw[<- H.out,if_neg hn]⟩
    case measure=>simp[intOf];omega
  ·have H:=lh hpl;clear hpl;go_wp2;go_ret;exact⟨Fk (by rw[<- H.out,List.drop_eq_nil_of_le (by omega)];rfl),rfl⟩
theorem DZ (A:Option Addr)(len c:Nat)(l:List Int)(w:World)(h:Rd w 1 A len (Ah l))(hb:len<=4194304) :
  Calls Tryz.prog 33 #[.slice A len c] w fun e w'=>∃ A' c',e= .returned (.slice A' len c')/\Au w' w.heap.size 3 1 A' len c' (Ah l)/\Aa w w':=by
 have hs:=(h.ext ((Aa.rfl' w).al (.cells #[] 3)));go_enter Tryz.func33,Tryz.ntmps33;go_wp2_with (at_builtin;refine C1 rfl rfl Bc rfl (Au.new w 3 1 #[] 0 (Nat.le_refl _) (by unfold maxLen;omega) rfl) rfl hs (En l) (by unfold maxLen;omega) (by omega) (by simp) ?_;intro A2 c2 w2 hown2 hg2 hat2)
 go_ret;exact⟨A2,c2,by simp,by simpa using hown2,((Aa.rfl' w).al _).gr hg2 (by simp[AE])⟩
theorem Tn (A:Option Addr)(len c:Nat)(l:List Int)(lo hi:Int)(w:World)(h:Rd w 1 A len (Ah l)) :
  Calls Tryz.prog 110 #[.slice A len c,.int .i64 lo,.int .i64 hi] w fun e w'=>e= .returned (.bool (l.all fun x=>Sg.Cb x lo hi))/\w=w':=by
 have hm:=h.big;obtain rfl:=h.len;go_enter Tryz.func110,Tryz.ntmps110;go_wp2;go_loop [7] (fun i=>∃ k:Nat,k<=l.length/\i= .int .i64 k/\((l.drop k).all fun x=>Sg.Cb x lo hi)=(l.all fun x=>Sg.Cb x lo hi)) (fun i=>l.length - (intOf i).toNat)
 case atStart=>exact⟨0,Nat.zero_le _,rfl,rfl⟩
 case round =>
  obtain⟨k,hk,rfl,hpl⟩:=hrel;by_cases hlt:k<l.length
  ·obtain⟨b,o,x,rfl,hx,hc⟩:=h.at1 hlt;rw[DO l k hx,List.all_cons] at hpl;have H:=lh hpl;clear hpl hx;cases hr:Sg.Cb x lo hi
   ·have Hr:=lh hr;clear hr;go_wp2_with (go_at_call 39;refine(Cx _ _ _ _).mono ?_;rintro e w' ⟨rfl,rfl⟩;rw[Hr.out])
    go_ret;exact⟨Aj (by rw[<- H.out,Hr.out];rfl),rfl⟩
   ·have Hr:=lh hr;clear hr;go_wp2_with (go_at_call 39;refine(Cx _ _ _ _).mono ?_;rintro e w' ⟨rfl,rfl⟩;rw[Hr.out])
    go_round
    case rel=>exact⟨k+1,by omega,by go_num,by rw[<- H.out,Hr.out,Bool.true_and]⟩
    case measure=>simp[intOf];omega
  ·have H:=lh hpl;clear hpl;go_wp2;go_ret;exact⟨Aj (by rw[<- H.out,List.drop_eq_nil_of_le (by omega)];rfl),rfl⟩
def FO (l:List Int)(k:Nat):List Int:=Sg.AU (l.take k)
theorem WO (l:List Int)(k:Nat){x:Int}(h:l[k]? = some x):FO l (k+1)=if Dm (FO l k) x<0 then FO l k++[x] else FO l k:=by
 unfold FO Sg.AU;rw[C6 l k h,List.foldl_append];simp only[List.foldl_cons,List.foldl_nil,Sg.C5,EV];split <;> rename_i h1 <;> simp_all
theorem VH (out:List Int)(x:Int):(Sg.C5 out x).length<=out.length+1:=by
 unfold Sg.C5;split <;> simp
theorem Nd (l out:List Int):(l.foldl Sg.C5 out).length<=out.length+l.length:=by
 induction l generalizing out with
 | nil=>simp
 | cons x l ih=>have:=ih (Sg.C5 out x);have:=VH out x;simp;omega
theorem JX (l:List Int):(Sg.AU l).length<=l.length:=by have:=Nd l [];unfold Sg.AU;simpa using this
theorem X1 (l:List Int)(k:Nat):(FO l k).length<=k:=by
 have:=JX (l.take k);simp at this;unfold FO;omega
theorem X2 (l:List Int)(k:Nat)(h:l.length<=k):FO l k=Sg.AU l:=by unfold FO;rw[List.take_of_length_le h]
set_option maxHeartbeats 400000 in
theorem Ju (A:Option Addr)(len c:Nat)(l:List Int)(w:World)(h:Rd w 1 A len (Ah l))(hb:len<=4194304) :
  Calls Tryz.prog 109 #[.slice A len c] w fun e w'=>∃ A' c',e= .returned (.slice A' (Sg.AU l).length c')/\Au w' w.heap.size 3 1 A' (Sg.AU l).length c' (Ah (Sg.AU l))/\Aa w w':=by
 obtain rfl:=h.len;go_enter Tryz.func109,Tryz.ntmps109;go_wp2;go_loopw [3,4] (fun v i wr=>∃ (k:Nat) (A':Option Addr) (c':Nat),k<=l.length/\i= .int .i64 k/\v= .slice A' (FO l k).length c'/\Au wr w.heap.size 3 1 A' (FO l k).length c' (Ah (FO l k))/\Aa w wr) (fun _ i _=>l.length - (intOf i).toNat)
 case atStart=>exact⟨0,_,_,Nat.zero_le _,rfl,rfl,Au.new w 3 1 #[] 0 (Nat.le_refl _) (by unfold maxLen;omega) rfl,(Aa.rfl' w).al _⟩
 case round =>
  obtain⟨k,A',c',hk,rfl,rfl,hown,hext⟩:=hrel;by_cases hlt:k<l.length
  ·obtain⟨b,o,x,rfl,hx,hc⟩:=(h.ext hext).at1 hlt;have hfl:=X1 l k;have H:=lh (WO l k hx);clear hx
   go_wp2_with (first
    | (go_at_call 112;refine(JJ _ _ _ _ _ _ hown.rd).mono ?_;rintro e w' ⟨rfl,rfl⟩)
    | (at_builtin;refine AB rfl rfl Bc rfl hown rfl rfl (Bn _ _) (by omega) (by omega) hext.size ?_;intro A2 c2 w2 hown2 hg2 hat2))
   ·have h1:Dm (FO l k) x<0:=by assumption
    have e1:=H.out;rw[if_pos h1] at e1;go_roundw
    case rel=>exact⟨k+1,A2,c2,by omega,by go_num,by rw[e1];simp,by rw[e1];simpa using hown2,hext.gr hg2 fun g hg=>(hown.lt hg).1⟩
    case measure=>simp[intOf];omega
   ·have h1:¬ Dm (FO l k) x<0:=by
     have:0<=Dm (FO l k) x:=by assumption
     omega
    have e1:=H.out;rw[if_neg h1] at e1;go_roundw
    case rel=>exact⟨k+1,_,c',by omega,by go_num,by rw[e1],by rw[e1];exact hown,hext⟩
    case measure=>simp[intOf];omega
  ·have H:=lh (X2 l k (by omega));go_wp2;go_ret;exact⟨A',c',T_ (by rw[H.out]),by rw[<- H.out];exact hown,hext⟩
def Fn (k:Int):Int:=if k=0\/k=1 then 0 else if 2<=k/\k<=7 then 2 else if k=8 then 3 else -1
set_option maxHeartbeats 800000 in
theorem Gw (k:Int)(w:World):Calls Tryz.prog 69 #[.int .i64 k] w fun e w'=>e= .returned (.int .i64 (Fn k))/\w=w':=by
 have cases:k=0\/k=1\/k=2\/k=3\/k=4\/k=5\/k=6\/k=7\/k=8\/(k<0\/8<k):=by omega
 rcases cases with rfl | rfl | rfl | rfl | rfl | rfl | rfl | rfl | rfl | h
 all_goals
  go_enter Tryz.func69,Tryz.ntmps69;go_wp2;go_ret;exact⟨Fk (by unfold Fn;first | rfl | (rw[if_neg (by omega),if_neg (by omega),if_neg (by omega)])),rfl⟩
set_option maxHeartbeats 800000 in
theorem Qt (k x y:Int)(w:World)(hx:0<=x)(hx':x<=999)(hy:0<=y)(hy':y<=999) :
  Calls Tryz.prog 144 #[.int .i64 k,.int .i64 x,.int .i64 y] w fun e w'=>e= .returned (.int .i64 (Sg.Fw k x y))/\w=w':=by
 have hxy:0<=x * y:=Int.mul_nonneg hx hy;have hxy':x * y<=999 * 999:=Int.mul_le_mul hx' hy' hy (by omega);have cases:k=2\/k=3\/k=4\/k=5\/k=6\/(k<2\/6<k):=by omega
 rcases cases with rfl | rfl | rfl | rfl | rfl | h
 all_goals
  go_enter Tryz.func144,Tryz.ntmps144;go_wp2
  all_goals (go_ret;exact⟨Fk (by simp[Sg.Fw] <;> omega),rfl⟩)
theorem QR (k:Int):(Fn k=0/\(k=0\/k=1))\/(Fn k=2/\2<=k/\k<=7)\/(Fn k=3/\k=8)\/(Fn k = -1/\(k<0\/8<k)):=by
 unfold Fn;split
 ·left;omega
 ·split
  ·right;left;omega
  ·split
   ·right;right;left;omega
   ·right;right;right;omega
theorem ze1{p:Prop}(h:p:=by
 have hb:Sg.AD p=[]:=by unfold Sg.AD;rw[if_neg (by omega),if_neg (by omega)]
 rw[hb];exact⟨_,_,rfl,finish [] [] _ hb rfl (by simp)⟩):p:=h
set_option maxHeartbeats 800000 in
theorem Tj (p:Sg.At)(w:World):Calls Tryz.prog 106 #[pv p] w fun e w'=>∃ A' c',e= .returned (.slice A' (Sg.AD p).length c')/\Au w' w.heap.size 3 1 A' (Sg.AD p).length c' (Ah (Sg.AD p))/\Aa w w':=by
 have finish:∀ (l:List Int) (cs:List Value) (o:Obj),Sg.AD p=l->cs=Ah l->l.length<=3 ->
   Au ((w.alloc o).alloc (.cells cs.toArray 3)) w.heap.size 3 1 (some ⟨w.heap.size+1,0,none⟩) l.length l.length (Ah l)/\Aa w ((w.alloc o).alloc (.cells cs.toArray 3)):=by
  rintro l cs o _ rfl hl;refine⟨?_,((Aa.rfl' w).al _).al _⟩;have:=Au.new (w.alloc o) (B:=w.heap.size) 3 1 (Ah l).toArray l.length (by simp) (by unfold maxLen;omega) (by simp);simpa using this
 rcases QR p.kind with ⟨h,hk⟩ | ⟨h,hk⟩ | ⟨h,hk⟩ | ⟨h,hk⟩
 all_goals
  have H:=lh h;have Hk:=lh hk;clear h hk;go_enter Tryz.func106,Tryz.ntmps106;go_wp2_with (go_at_call 69;refine(Gw _ _).mono ?_;rintro e w' ⟨rfl,rfl⟩;rw[H.out])
  go_ret;have hk:=Hk.out
 ·exact ze1
 ·have hb:Sg.AD p=[p.a,p.b]:=by unfold Sg.AD;rw[if_neg (by omega),if_pos (by omega)]
  rw[hb];exact⟨_,_,rfl,finish [p.a,p.b] _ _ hb rfl (by simp)⟩
 ·have hb:Sg.AD p=[p.a,p.b,p.c]:=by unfold Sg.AD;rw[if_pos (by omega)]
  rw[hb];exact⟨_,_,rfl,finish [p.a,p.b,p.c] _ _ hb rfl (by simp)⟩
 ·exact ze1
theorem VI {p:Sg.At}(h:p.kind=0\/p.kind=1):Sg.AD p=[]:=by unfold Sg.AD;rw[if_neg (by omega),if_neg (by omega)]
theorem VJ {p:Sg.At}(h:2<=p.kind/\p.kind<=7):Sg.AD p=[p.a,p.b]:=by unfold Sg.AD;rw[if_neg (by omega),if_pos (by omega)]
theorem VK {p:Sg.At}(h:p.kind=8):Sg.AD p=[p.a,p.b,p.c]:=by unfold Sg.AD;rw[if_pos (by omega)]
theorem SZ {p:Sg.At}(i:Nat)(h:p.kind=0):Sg.AZ p i=(p.a == -1 && p.b == -1 && p.c == -1 && Sg.Cb p.n 0 99):=by
 unfold Sg.AZ Sg.Di;rw[VI (.inl h),if_pos h];simp only[List.all_nil,Bool.and_true];cases Sg.Cb p.n 0 99 <;> simp
theorem Ve {p:Sg.At}(i:Nat)(h:p.kind=1):Sg.AZ p i=(p.a == -1 && p.b == -1 && p.c == -1 && Sg.Cb p.n 0 9):=by
 unfold Sg.AZ Sg.Di;rw[VI (.inr h),if_neg (by omega),if_pos h];simp only[List.all_nil,Bool.and_true];cases Sg.Cb p.n 0 9 <;> simp
theorem S_ {p:Sg.At}(i:Nat)(h:2<=p.kind/\p.kind<=7):Sg.AZ p i=(Sg.Cb p.a 0 ((i:Int) - 1) && Sg.Cb p.b 0 ((i:Int) - 1) && p.c == -1 && p.n == 0):=by
 unfold Sg.AZ Sg.Di;rw[VJ h,if_neg (by omega),if_neg (by omega),if_neg (by omega),if_pos h];simp only[List.all_nil,List.all_cons,Bool.and_true];cases Sg.Cb p.a 0 ((i:Int) - 1) <;> cases Sg.Cb p.b 0 ((i:Int) - 1) <;> simp[Bool.and_comm]
theorem Ta {p:Sg.At}(i:Nat)(h:p.kind=8):Sg.AZ p i=(Sg.Cb p.a 0 ((i:Int) - 1) && Sg.Cb p.b 0 ((i:Int) - 1) && Sg.Cb p.c 0 ((i:Int) - 1) && p.n == 0):=by
 unfold Sg.AZ Sg.Di;rw[VK h,if_neg (by omega),if_neg (by omega),if_pos h];simp only[List.all_nil,List.all_cons,Bool.and_true];cases Sg.Cb p.a 0 ((i:Int) - 1) <;> cases Sg.Cb p.b 0 ((i:Int) - 1) <;> cases Sg.Cb p.c 0 ((i:Int) - 1) <;> simp
theorem Tb {p:Sg.At}(i:Nat)(h:p.kind<0\/8<p.kind):Sg.AZ p i=false:=by
 unfold Sg.AZ Sg.Di;rw[if_neg (by omega),if_neg (by omega),if_neg (by omega),if_neg (by omega)];rfl
theorem zd1{p:Prop}(h:p:=by
 go_wp2_with (first
  | (go_at_call 69;refine(Gw _ _).mono ?_;rintro e w' ⟨rfl,rfl⟩;rw[H.out])
  | (go_at_call 39;refine(Cx _ _ _ _).mono ?_;rintro e w' ⟨rfl,rfl⟩))
 all_goals (go_ret;exact⟨Aj (by rw[hg.out];simp_all),(Aa.rfl' w).al _⟩)):p:=h
set_option maxHeartbeats 1000000 in
theorem Nf (p:Sg.At)(i:Nat)(w:World)(hi:i<=4194304):Calls Tryz.prog 105 #[pv p,.int .i64 i] w fun e w'=>e= .returned (.bool (Sg.AZ p i))/\Aa w w':=by
 obtain⟨k,a,b,c,n⟩:=p;have cases:k=0\/k=1\/(2<=k/\k<=7)\/k=8\/(k<0\/8<k):=by omega
 rcases cases with h | h | h | h | h
 ·have hg:=lh (SZ (p:=⟨k,a,b,c,n⟩) i h);have H:=lh (show Fn k=0 by subst h;rfl);have h0:(k == 1)=false:=by simp[h]
  clear h;go_enter Tryz.func105,Tryz.ntmps105
  exact zd1
 ·have hg:=lh (Ve (p:=⟨k,a,b,c,n⟩) i h);have H:=lh (show Fn k=0 by subst h;rfl);have h0:(k == 1)=true:=by simp[h]
  clear h;go_enter Tryz.func105,Tryz.ntmps105
  exact zd1
 ·have hg:=lh (S_ (p:=⟨k,a,b,c,n⟩) i h);have H:=lh (show Fn k=2 by unfold Fn;rw[if_neg (by omega),if_pos h]);clear h;go_enter Tryz.func105,Tryz.ntmps105
  exact zd1
 ·have hg:=lh (Ta (p:=⟨k,a,b,c,n⟩) i h);have H:=lh (show Fn k=3 by subst h;rfl);clear h;go_enter Tryz.func105,Tryz.ntmps105
  exact zd1
 ·have hg:=lh (Tb (p:=⟨k,a,b,c,n⟩) i h);have H:=lh (show Fn k = -1 by unfold Fn;rw[if_neg (by omega),if_neg (by omega),if_neg (by omega)]);clear h;go_enter Tryz.func105,Tryz.ntmps105
  go_wp2_with (first
   | (go_at_call 69;refine(Gw _ _).mono ?_;rintro e w' ⟨rfl,rfl⟩;rw[H.out])
   | (go_at_call 39;refine(Cx _ _ _ _).mono ?_;rintro e w' ⟨rfl,rfl⟩))
  all_goals (go_ret;exact⟨Aj (by rw[hg.out]),(Aa.rfl' w).al _⟩)
theorem Lz (f:List Sg.At)(k:Nat){p:Sg.At}(h:f[k]? = some p):Sg.AQ (f.take (k+1))=Sg.AQ (f.take k)++Sg.AD p:=by
 rw[C6 f k h];simp[Sg.AQ]
theorem IF (f:List Sg.At)(k:Nat){p:Sg.At}(h:f[k]? = some p):Sg.Bz 0 (f.take (k+1))=(Sg.Bz 0 (f.take k) && Sg.AZ p k):=by
 have hk:k<f.length:=(ge_.1 h).1;rw[C6 f k h,Sg.Nl,List.length_take,Nat.zero_add,Nat.min_eq_left (by omega)]
theorem Hj (f:List Sg.At)(k j:Nat)(h:Sg.Bz j (f.take k)=false):Sg.Bz j f=false:=by
 induction f generalizing k j with
 | nil=>simpa using h
 | cons p f ih =>
  cases k with
  | zero=>simp[Sg.Bz] at h
  | succ k =>
   simp only[List.take_succ_cons,Sg.Bz,Bool.and_eq_false_iff] at h ⊢;rcases h with h | h
   ·exact .inl h
   ·exact .inr (ih k (j+1) h)
def Ng (U:List Int)(i:Nat):Prop:=∀ m,m<i->U.getD m 0=1
theorem LA (U:List Int):Ng U 0:=fun m h=>absurd h (by omega)
theorem LC {U:List Int}{i:Nat}(h:Ng U i)(hu:U.getD i 0=1):Ng U (i+1):=fun m hm=>by
 rcases Nat.lt_or_ge m i with h1 | h1
 ·exact h m h1
 ·obtain rfl:m=i:=by omega
  exact hu
set_option maxRecDepth 100000 in
set_option maxHeartbeats 2000000 in
theorem Fl (A:Option Addr)(c:Nat)(f:List Sg.At)(w:World)(h:Rd w 5 A f.length (AH f))(hb:f.length<=1048576) :
  Calls Tryz.prog 70 #[.agg #[.slice A f.length c]] w fun e w'=>e= .returned (.bool (Sg.AR f))/\Aa w w':=by
 go_enter Tryz.func70,Tryz.ntmps70;go_wp2_with (at_make;refine ID rfl rfl Bc (B:=w.heap.size+1) rfl rfl (by omega) (by omega) (by simp) ?_;intro w1 hown hext)
 obtain⟨W0,hW0⟩:∃ W0,W0=w.alloc (.cells #[.slice A f.length c] 68):=⟨_,rfl⟩;have hsz:W0.heap.size=w.heap.size+1:=by rw[hW0];simp
 have hW:Aa w W0:=by rw[hW0];exact(Aa.rfl' w).al _
 have hbox:W0.cell? ⟨w.heap.size,0,none⟩=some (.slice A f.length c):=by rw[hW0];simp[go_sem]
 rw[<- hW0] at hext;rw[Fj _ _ rfl,show w.heap.size+1=W0.heap.size from hsz.symm] at hown;rw[show (w.alloc (Obj.cells #[Value.slice A f.length c] 68)).heap.size=w.heap.size+1 from by simp] at hown;have hu0:List.replicate f.length (Value.int .i64 0)=Ah (Sg.KJ f.length (Sg.AQ (f.take 0))):=by simp[Sg.AQ,Sg.KJ,Ah]
 rw[hu0] at hown;clear hu0 hW0;go_loopw [4] (fun i wr=>∃ (k:Nat),k<=f.length/\i= .int .i64 k/\Aa W0 wr/\Au wr W0.heap.size 3 1 (some ⟨w.heap.size+1,0,none⟩) f.length f.length (Ah (Sg.KJ f.length (Sg.AQ (f.take k))))/\Sg.Bz 0 (f.take k)=true) (fun i _=>f.length - (intOf i).toNat)
 case atStart=>exact⟨0,Nat.zero_le _,rfl,hext,hown,by simp[Sg.Bz]⟩
 case round =>
  clear hown hext;obtain⟨k,hk,rfl,he,hown,hgood⟩:=hrel;have hbx:=he.cellE hbox;have Hsz:=lh hsz;clear hbox hsz;have hwr:w.heap.size+1<wr.heap.size:=by have:=(hown.lt (g:=w.heap.size+1) rfl).2;omega
  by_cases hlt:k<f.length
  ·obtain⟨b,o,p,rfl,hp,hc0,hc1,hc2,hc3,hc4⟩:=(h.ext (hW.tr he)).atP hlt;cases hgp:Sg.AZ p k
   ·have Hg:=lh hgp;have Hp:=lh hp;have Hgood:=lh hgood;clear hgp hp hgood;go_wp2_with (go_at_call 105;refine(Nf p k _ (by omega)).mono ?_;rintro e w2 ⟨rfl,he2⟩;rw[Hg.out])
    go_ret;refine⟨Aj ?_,(hW.tr he).tr he2⟩;have:=Hj f (k+1) 0 (by rw[IF f k Hp.out,Hg.out,Bool.and_false]);simp[Sg.AR,this]
   ·have Hg:=lh hgp;have Hp:=lh hp;have Hgood:=lh hgood;clear hgp hp hgood
    go_wp2_with (first
     | (go_at_call 105;refine(Nf p k _ (by omega)).mono ?_;rintro e w2 ⟨rfl,he2⟩;rw[Hg.out];have hbx2:=he2.cellE hbx;have d0:=he2.cellE hc0;have d1:=he2.cellE hc1;have d2:=he2.cellE hc2;have d3:=he2.cellE hc3;have d4:=he2.cellE hc4)
     | (go_at_call 106;refine(Tj p _).mono ?_;rintro e w3 ⟨A3,c3,rfl,hown3,he3⟩))
    have he03:=(he.tr he2).tr he3;have hown0:=(hown.ext he2).ext he3;have hsz2:=he2.size;have hsz3:=he3.size;clear hbx2 d0 d1 d2 d3 d4 hbx hc0 hc1 hc2 hc3 hc4 hown he
    go_loopw [6] (fun j wi=>∃ (j':Nat),j'<=(Sg.AD p).length/\j= .int .i64 j'/\Aa W0 wi/\Au wi w2.heap.size 3 1 A3 (Sg.AD p).length c3 (Ah (Sg.AD p)) /\
     Au wi W0.heap.size 3 1 (some ⟨w.heap.size+1,0,none⟩) f.length f.length (Ah (Sg.KJ f.length (Sg.AQ (f.take k)++(Sg.AD p).take j')))) (fun j _=>(Sg.AD p).length - (intOf j).toNat)
    case atStart=>exact⟨0,Nat.zero_le _,rfl,he03,hown3,by simpa using hown0⟩
    case round =>
     clear hown3 hown0 he03 he2 he3;obtain⟨j,hj,rfl,hei,hl,hU⟩:=hrel;have hb3:=Sg.GA p;by_cases hlj:j<(Sg.AD p).length
     ·obtain⟨bl,ol,x,rfl,hx,hcx⟩:=hl.rd.at1 hlj;have hxr:=Sg.Cw Hg.out x (List.mem_of_getElem? hx);obtain⟨X,rfl⟩:=Int.eq_ofNat_of_zero_le hxr.1;have hXn:X<f.length:=by omega
      obtain⟨U,hUd⟩:∃ U,U=Sg.KJ f.length (Sg.AQ (f.take k)++(Sg.AD p).take j):=⟨_,rfl⟩
      have hpos:∀ y ∈ Sg.AQ (f.take k)++(Sg.AD p).take j,0<=y:=by
       intro y hy;rcases List.mem_append.1 hy with hy | hy
       ·exact Sg.FM f k 0 Hgood.out y hy
       ·exact(Sg.Cw Hg.out y (List.mem_of_mem_take hy)).1
      have hlenU:U.length=f.length:=by rw[hUd,Sg.IJ]
      have hux:U[X]? = some (U.getD X 0):=by rw[g_d,gg (by omega)];rfl
      have hub:=Sg.UK f.length _ X hpos hXn;rw[<- hUd] at hub hU;have hbl:=Sg.L9 (f.take k);have htl:((Sg.AD p).take j).length<=3:=Nat.le_trans (List.length_take_le _ _) (by omega);have htk:(f.take k).length<=k:=List.length_take_le _ _;rw[List.length_append] at hub
      have hnext:Sg.KJ f.length (Sg.AQ (f.take k)++(Sg.AD p).take (j+1))=U.set X (U.getD X 0+1):=by
       rw[C6 _ _ hx,<- List.append_assoc,Sg.PC,<- hUd];rfl
      obtain⟨u,hu⟩:∃ u,u=U.getD X 0:=⟨_,rfl⟩;rw[<- hu] at hub hnext hux;have hcu:=hU.cell (j:=X) (u := .int .i64 u) (by rw[CB,hux];rfl);have hfu:=hU.free X;have hub1:0<=u:=hub.1;have hub2:u<=4194304:=by have:=hub.2;omega
      have H1:=lh hnext;have H2:=lh hx;clear hnext hx hu hux hUd hlenU hpos hub hbl htl htk;go_wp2;go_region
      go_wp2;go_roundw
      case rel =>
       have hU':=(hU.st X (.int .i64 (u+1))).dr;rw[Dz,<- H1.out] at hU';exact⟨j+1,by omega,by go_num,(hei.set (by have:=Hsz.out;simp;omega) _).dr,(hl.set (by simp[AE];have:=(hl.lt (g:=bl) rfl).1;omega) _).dr,hU'⟩
      case measure=>simp[intOf];omega
     ·obtain rfl:j=(Sg.AD p).length:=by omega
      go_wp2;go_roundw
      case rel =>
       refine⟨k+1,by omega,by go_num,hei,?_,?_⟩
       ·rw[Lz f k Hp.out];simpa using hU
       ·rw[IF f k Hp.out,Hg.out,Hgood.out];rfl
      case measure=>simp[intOf];omega
  ·obtain rfl:k=f.length:=by omega
   rw[List.take_of_length_le (Nat.le_refl _)] at hgood hown;have hpos:=Sg.FM f f.length 0 (by rw[List.take_of_length_le (Nat.le_refl _)];exact hgood);rw[List.take_of_length_le (Nat.le_refl _)] at hpos;have Hgood:=lh hgood;have Hpos:=lh hpos;clear hgood hpos;go_wp2;go_loop [7] (fun i=>∃ k:Nat,k<=f.length/\i= .int .i64 k/\Ng (Sg.KJ f.length (Sg.AQ f)) k) (fun i=>f.length - (intOf i).toNat)
   case atStart=>exact⟨0,Nat.zero_le _,rfl,LA _⟩
   case round =>
    obtain⟨k,hk,rfl,hfi⟩:=hrel;by_cases hlk:k+1<f.length
    ·obtain⟨U,hUd⟩:∃ U,U=Sg.KJ f.length (Sg.AQ f):=⟨_,rfl⟩;rw[<- hUd] at hown hfi;have hlenU:U.length=f.length:=by rw[hUd,Sg.IJ]
     obtain⟨u,hu⟩:∃ u,u=U.getD k 0:=⟨_,rfl⟩;have hux:U[k]? = some u:=by rw[hu,g_d,gg (by omega)];rfl
     have hcu:=hown.cell (j:=k) (u := .int .i64 u) (by rw[CB,hux];rfl);have Hu:=lh hu;have HU:=lh hUd;clear hu hux hlenU hUd;go_wp2
     ·have hne:¬ u=1:=by simpa using ‹(u != 1)=true›
      go_ret;refine⟨Aj ?_,hW.tr he⟩;have:=Sg.L_ f Hpos.out k hlk (by rw[<- HU.out,<- Hu.out];exact hne);simp[Sg.AR,this]
     ·have heq:u=1:=by simpa using ‹(u != 1)=false›
      go_round
      case rel=>exact⟨k+1,by omega,by go_num,by rw[<- HU.out];exact LC hfi (by rw[<- Hu.out,heq])⟩
      case measure=>simp[intOf];omega
    ·have Hfi:=lh hfi;clear hfi;go_wp2_with (go_at_call 39;refine(Cx _ _ _ _).mono ?_;rintro e w4 ⟨rfl,rfl⟩)
     go_ret;refine⟨Aj ?_,hW.tr he⟩;have:=Sg.NP f Hpos.out (fun i hi=>Hfi.out i (by omega));simp[Sg.AR,this,Hgood.out]
open Go.RowKit
def Bx (w:World)(b:Nat)(cs:List Value):Prop:=∃ e,w.heap[b]? = some (.cells cs.toArray e (0,0))
theorem Bx.new (w:World)(cs:Array Value)(e:Nat):Bx (w.alloc (.cells cs e)) w.heap.size cs.toList:=⟨e,by simpa using heap_alloc_new w (.cells cs e)⟩
theorem Bx.lt {w:World}{b:Nat}{cs:List Value}(h:Bx w b cs):b<w.heap.size:=by obtain⟨e,h⟩:=h;exact(Array.getElem?_eq_some_iff.1 h).1
theorem Bx.keep {w w':World}{b:Nat}{cs:List Value}(h:Bx w b cs)(hk:w'.heap[b]? = w.heap[b]?):Bx w' b cs:=by obtain⟨e,h⟩:=h;exact⟨e,hk.trans h⟩
theorem Bx.ext {w w':World}{b:Nat}{cs:List Value}(h:Bx w b cs)(e:Aa w w'):Bx w' b cs:=h.keep (e.block b h.lt)
theorem Bx.al {w:World}{b:Nat}{cs:List Value}(h:Bx w b cs)(o:Obj):Bx (w.alloc o) b cs:=h.ext ((Aa.rfl' w).al o)
theorem Bx.mod {F:Nat->Prop}{w w':World}{b:Nat}{cs:List Value}(h:Bx w b cs)(m:AF F w w')(hF:¬ F b):Bx w' b cs:=h.keep (m.block b h.lt hF)
theorem Bx.set {w:World}{b:Nat}{cs:List Value}(h:Bx w b cs)(j:Nat)(u:Value):Bx (w.setCell ⟨b,j,none⟩ u) b (cs.set j u):=by
 obtain⟨e,h⟩:=h;refine⟨e,?_⟩;simp[World.setCell,Array.getElem?_modify,h]
theorem Bx.oth {w:World}{b:Nat}{cs:List Value}(h:Bx w b cs){p:Addr}(hne:p.block≠b)(u:Value):Bx (w.setCell p u) b cs:=h.keep (Below.heap_setCell w p u b (fun e=>hne e.symm))
theorem Bx.cell {w:World}{b:Nat}{cs:List Value}(h:Bx w b cs){j:Nat}{u:Value}(hj:cs[j]? = some u):w.cell? ⟨b,j,none⟩=some u:=by
 obtain⟨e,h⟩:=h;rw[cell_of_row w b j _ e (0,0) h];simpa using hj
theorem Bx.free {w:World}{b:Nat}{cs:List Value}(h:Bx w b cs)(j:Nat):w.frozen? ⟨b,j,none⟩=false:=by
 obtain⟨e,h⟩:=h;simp[World.frozen?,h]
def Ex (w:World)(A:Option Addr)(ll:List (List Int)):Prop :=
 ll.length<=1048576/\∀ (i:Nat) (l:List Int),ll[i]? = some l->∃ b o Al cl,A=some ⟨b,o,none⟩/\w.cell? ⟨b,o+i,none⟩=some (.slice Al l.length cl)/\Rd w 1 Al l.length (Ah l)/\l.length<=1048576/\l.length<=cl/\cl<=maxLen
theorem Ex.ext {w w':World}{A:Option Addr}{ll:List (List Int)}(h:Ex w A ll)(e:Aa w w'):Ex w' A ll :=
 ⟨h.1,fun i l hl=>let ⟨b,o,Al,cl,ha,h1,h2,h3,h4⟩:=h.2 i l hl;⟨b,o,Al,cl,ha,e.cellE h1,h2.ext e,h3,h4⟩⟩
theorem Ex.rdL {w:World}{A:Option Addr}{ll:List (List Int)}(h:Ex w A ll):Lq w A ll :=
 ⟨h.1,fun i l hl=>let ⟨b,o,Al,cl,ha,h1,h2,h3,_⟩:=h.2 i l hl;⟨b,o,Al,cl,ha,h1,h2,h3⟩⟩
theorem Ex.at_ {w:World}{A:Option Addr}{ll:List (List Int)}(h:Ex w A ll){i:Nat}(hi:i<ll.length):∃ l b o Al cl,ll[i]? = some l/\A=some ⟨b,o,none⟩/\w.cell? ⟨b,o+i,none⟩=some (.slice Al l.length cl)/\Rd w 1 Al l.length (Ah l)/\l.length<=1048576/\l.length<=cl/\cl<=maxLen:=by
 have hx:ll[i]? = some ll[i]:=gg hi;obtain⟨b,o,Al,cl,r⟩:=h.2 i _ hx;exact⟨_,b,o,Al,cl,hx,r⟩
theorem MJ (its:List It):∀ (hs:List (Option Addr × Nat)) (i:Nat) (it:It) (A0:Option Addr) (c0:Nat),(∀ x ∈ its,x.pre=[])->it.pre=[]->hs.length=its.length->i<its.length ->
  (A_ its hs).set i (.slice A0 it.n c0)=A_ (its.set i it) (hs.set i (A0,c0)):=by
 induction its with
 | nil=>intro hs i it A0 c0 _ _ _ hi;simp at hi
 | cons x its ih =>
  intro hs i it A0 c0 ha hp hl hi;cases hs with
  | nil=>simp at hl
  | cons h hs =>
   have hx:=ha x (by simp);cases i with
   | zero=>simp[A_,Nv,hx,hp]
   | succ i =>
    simp only[List.set_cons_succ,A_];rw[<- ih hs i it A0 c0 (fun y hy=>ha y (by simp[hy])) hp (by simpa using hl) (by simpa using hi)];simp[Nv,hx]
theorem CG.put {w w1:World}{B c:Nat}{A:Option Addr}{ll:List (List Int)}{hs:List (Option Addr × Nat)}(k:CG w B A c ll hs)(e:Aa w w1)(hB:B<=w.heap.size){i:Nat}(hi:i<ll.length)(l:List Int){A0:Option Addr}{c0:Nat}(own:Au w1 w.heap.size 3 1 A0 l.length c0 (Ah l)){g:Nat}(hA:A=some ⟨g,0,none⟩):CG (w1.setCell ⟨g,i,none⟩ (.slice A0 l.length c0)) B A c (ll.set i l) (hs.set i (A0,c0)):=by
 subst hA;have hlen:hs.length=ll.length:=by have:=k.len;simpa using this
 have hout:=k.out.ext e;have hgl:g<w.heap.size:=(k.out.lt (g:=g) rfl).2;have hits:AK (ll.set i l)=(AK ll).set i ⟨[],l.length,Ah l⟩:=by simp[AK,List.map_set]
 have hpre:∀ x ∈ AK ll,x.pre=[]:=by
  intro x hx;unfold AK at hx;rw[List.mem_map] at hx;obtain⟨y,_,rfl⟩:=hx;rfl
 have hother:∀ b,b≠g->(w1.setCell ⟨g,i,none⟩ (.slice A0 l.length c0)).heap[b]? = w1.heap[b]? := fun b hb=>Below.heap_setCell _ _ _ _ hb;refine⟨by simp[hlen],?_,?_,?_,?_⟩
 ·have h1:=hout.st i (.slice A0 l.length c0);rw[MJ (AK ll) hs i ⟨[],l.length,Ah l⟩ A0 c0 hpre rfl (by simpa using hlen) (by simpa using hi)] at h1;rw[hits];simpa using h1
 ·intro j it h hj hh;rw[hits] at hj;by_cases hij:j=i
  ·subst hij;rw[List.getElem?_set_self (by simpa using hi)] at hj;rw[List.getElem?_set_self (by omega)] at hh;injection hj with hj;injection hh with hh;subst hj;subst hh;refine(own.keep fun b hb=>hother b (fun e2=>?_)).mono hB;have:=(own.lt hb).1;omega
  ·rw[List.getElem?_set_ne (fun e=>hij e.symm)] at hj hh;have o1:=(k.inn j it h hj hh).ext e;refine o1.keep fun b hb=>hother b (fun e2=>?_);subst e2;exact k.dio j h hh b rfl hb
 ·intro a b h h' hab hh hh' x hx hx';by_cases h1:a=i
  ·subst h1;rw[List.getElem?_set_self (by omega)] at hh;injection hh with hh;subst hh;rw[List.getElem?_set_ne (by omega)] at hh';have h3:=(own.lt hx).1;have h4:=(Bj.lt k (.inr ⟨h',List.mem_of_getElem? hh',hx'⟩)).2;omega
  ·rw[List.getElem?_set_ne (fun e=>h1 e.symm)] at hh;by_cases h2:b=i
   ·subst h2;rw[List.getElem?_set_self (by omega)] at hh';injection hh' with hh';subst hh';have h3:=(own.lt hx').1;have h4:=(Bj.lt k (.inr ⟨h,List.mem_of_getElem? hh,hx⟩)).2;omega
   ·rw[List.getElem?_set_ne (fun e=>h2 e.symm)] at hh';exact k.dis a b h h' hab hh hh' x hx hx'
 ·intro a h hh b hb hb';by_cases h1:a=i
  ·subst h1;rw[List.getElem?_set_self (by omega)] at hh;injection hh with hh;subst hh;have h3:=(own.lt hb').1;simp[AE] at hb
   omega
  ·rw[List.getElem?_set_ne (fun e=>h1 e.symm)] at hh;exact k.dio a h hh b hb hb'
structure Th (B:Nat) where
 fp:Nat->Prop
 ok:World->Prop
 fr:∀ W W',ok W->(∀ b,fp b->W'.heap[b]? = W.heap[b]?)->ok W'
 lt:∀ W b,ok W->fp b->B<=b/\b<W.heap.size
def Th.own (B e size:Nat)(A:Option Addr)(n c:Nat)(xs:List Value):Th B:=⟨fun b=>AE A=some b,fun W=>Au W B e size A n c xs,fun _ _ h hk=>h.keep hk,fun _ _ h hb=>h.lt hb⟩
def Th.ownL (B:Nat)(A:Option Addr)(c:Nat)(ll:List (List Int))(hs:List (Option Addr × Nat)):Th B:=⟨Gi A hs,fun W=>CG W B A c ll hs,fun _ _ h hk=>Bj.fr h hk,fun _ _ h hb=>Bj.lt h hb⟩
def Th.box (B b:Nat)(cs:List Value):Th B:=⟨fun x=>x=b,fun W=>Bx W b cs/\B<=b,fun _ _ h hk=>⟨h.1.keep (hk b rfl),h.2⟩,fun _ _ h hb=>by subst hb;exact⟨h.2,h.1.lt⟩⟩
def Ai {B:Nat}:List (Th B)->World->Prop
 | [],_=>True
 | t :: ts,W=>t.ok W/\(∀ s ∈ ts,∀ b,t.fp b->¬ s.fp b)/\Ai ts W
section
variable {B:Nat} {ts:List (Th B)} {W W':World}
theorem Ai.mem (h:Ai ts W){t:Th B}(ht:t ∈ ts):t.ok W:=by
 induction ts with
 | nil=>cases ht
 | cons s ts ih =>
  rcases List.mem_cons.1 ht with rfl | ht
  ·exact h.1
  ·exact ih h.2.2 ht
theorem Ai.get (h:Ai ts W)(i:Nat){t:Th B}(ht:ts[i]? = some t):t.ok W:=h.mem (List.mem_of_getElem? ht)
theorem Ai.fr (h:Ai ts W)(hk:∀ t ∈ ts,∀ b,t.fp b->W'.heap[b]? = W.heap[b]?):Ai ts W':=by
 induction ts with
 | nil=>trivial
 | cons s ts ih=>exact⟨s.fr _ _ h.1 (hk s (by simp)),h.2.1,ih h.2.2 (fun t ht=>hk t (by simp[ht]))⟩
theorem Ai.lt (h:Ai ts W){t:Th B}(ht:t ∈ ts){b:Nat}(hb:t.fp b):B<=b/\b<W.heap.size:=t.lt _ _ (h.mem ht) hb
theorem Ai.ext (h:Ai ts W)(e:Aa W W'):Ai ts W':=h.fr fun _ ht b hb=>e.block b (h.lt ht hb).2
theorem Ai.mod {F:Nat->Prop}(h:Ai ts W)(m:AF F W W')(hF:∀ b,F b->b<B):Ai ts W':=h.fr fun _ ht b hb=>m.block b (h.lt ht hb).2 (fun e=>by have:=hF b e;have:=(h.lt ht hb).1;omega)
theorem Ai.add (h:Ai ts W)(e:Aa W W')(t:Th B)(ht:t.ok W')(hn:∀ b,t.fp b->W.heap.size<=b):Ai (t :: ts) W' :=
 ⟨ht,fun _ hs b hb hb'=>by have:=hn b hb;have:=(h.lt hs hb').2;omega,h.ext e⟩
theorem Ai.set {F:Nat->Prop}(h:Ai ts W)(i:Nat){t:Th B}(ht:ts[i]? = some t)(m:AF F W W')(t':Th B)(hF:∀ b,F b->t.fp b\/W.heap.size<=b)(hok:t'.ok W')(hfp:∀ b,t'.fp b->t.fp b\/W.heap.size<=b):Ai (ts.set i t') W':=by
 induction ts generalizing i with
 | nil=>simp at ht
 | cons s ts ih =>
  cases i with
  | zero =>
   simp at ht
   subst ht;simp only[List.set_cons_zero];refine⟨hok,fun u hu b hb hb'=>?_,h.2.2.fr fun u hu b hb=>m.block b (h.2.2.lt hu hb).2 (fun e=>?_)⟩
   ·rcases hfp b hb with hb | hb
    ·exact h.2.1 u hu b hb hb'
    ·have:=(h.2.2.lt hu hb').2;omega
   ·rcases hF b e with hb2 | hb2
    ·exact h.2.1 u hu b hb2 hb
    ·have:=(h.2.2.lt hu hb).2;omega
  | succ i =>
   simp at ht
   simp only[List.set_cons_succ];have htm:=List.mem_of_getElem? ht;refine⟨s.fr _ _ h.1 fun b hb=>m.block b (s.lt _ _ h.1 hb).2 (fun e=>?_),fun u hu b hb hb'=>?_,ih h.2.2 i ht⟩
   ·rcases hF b e with hb2 | hb2
    ·exact h.2.1 t htm b hb hb2
    ·have:=(s.lt _ _ h.1 hb).2;omega
   ·rcases List.mem_or_eq_of_mem_set hu with hu | rfl
    ·exact h.2.1 u hu b hb hb'
    ·rcases hfp b hb' with hb2 | hb2
     ·exact h.2.1 t htm b hb hb2
     ·have:=(s.lt _ _ h.1 hb).2;omega
theorem Ai.tail {t:Th B}(h:Ai (t :: ts) W):Ai ts W:=h.2.2
theorem Ai.st (h:Ai ts W)(i:Nat){t:Th B}(ht:ts[i]? = some t)(p:Addr)(u:Value)(hp:t.fp p.block)(t':Th B)(hok:t'.ok (W.setCell p u))(hfp:∀ b,t'.fp b->t.fp b):Ai (ts.set i t') (W.setCell p u) :=
 h.set i ht (AF.set (F:=fun b=>b=p.block) (AF.rfl' _ W) (.inl rfl) u) t' (fun b e=>.inl (by rw[e];exact hp)) hok (fun b e=>.inl (hfp b e))
theorem Ai.app (h:Ai ts W)(i:Nat){e size n c n' c':Nat}{A A':Option Addr}{xs xs':List Value}(ht:ts[i]? = some (Th.own B e size A n c xs))(ho:Au W' B e size A' n' c' xs')(hg:W.grownBy W' (AE A))(hat:AE A'=AE A\/∃ g,AE A'=some g/\W.heap.size<=g) :
  Ai (ts.set i (Th.own B e size A' n' c' xs')) W':=by
 refine h.set (F:=fun b=>AE A=some b) i ht ⟨hg.os,hg.tape,hg.output,hg.size,fun b hb hn=>hg.block b hb (fun e=>hn e.symm)⟩ _ (fun b e=>.inl e) ho (fun b hb=>?_);rcases hat with hat | ⟨g,hg',hle⟩
 ·exact .inl (by show AE A=some b;rw[<- hat];exact hb)
 ·right
  have hb':AE A'=some b:=hb;rw[hg'] at hb';injection hb' with hb';omega
theorem Ai.old {a:World}{F:Nat->Prop}(h:Aa a W)(hB:a.heap.size<=B){t:Th B}(ht:t.ok W)(m:AF F W W')(hF:∀ b,F b->t.fp b\/W.heap.size<=b):Aa a W' :=
 Aa.md h m fun b hb=>by
  rcases hF b hb with h1 | h1
  ·have:=(t.lt _ _ ht h1).1;omega
  ·have:=h.size;omega
end
def WS (B N N1 N2:Nat)(k0 k1 k2:List Value)(Av:Option Addr)(cv:Nat)(v:List Int)(Ar:Option Addr)(cr:Nat)(r:List (List Int))(hs:List (Option Addr × Nat))(ec:Nat)(Ac:Option Addr)(nc cc:Nat)(xs:List Value)(Ad:Option Addr)(cd:Nat)(rn:List Int)(ts:List (Th B))(W:World):Prop :=
 Ai (Th.own B 3 1 Ad rn.length cd (Ah rn) :: Th.own B ec 1 Ac nc cc xs :: Th.box B N2 k2 :: Th.box B N1 k1 :: Th.box B N k0 :: Th.own B 3 1 Av v.length cv (Ah v) :: Th.ownL B Ar cr r hs :: ts) W
section
variable {B N N1 N2 cv cr ec nc cc cd:Nat} {k0 k1 k2 xs:List Value} {Av Ar Ac Ad:Option Addr} {v rn:List Int} {r:List (List Int)} {hs:List (Option Addr × Nat)} {W W':World} {ts:List (Th B)}
theorem WS.d (h:WS B N N1 N2 k0 k1 k2 Av cv v Ar cr r hs ec Ac nc cc xs Ad cd rn ts W):Au W B 3 1 Ad rn.length cd (Ah rn):=Ai.get h 0 rfl
theorem WS.c (h:WS B N N1 N2 k0 k1 k2 Av cv v Ar cr r hs ec Ac nc cc xs Ad cd rn ts W):Au W B ec 1 Ac nc cc xs:=Ai.get h 1 rfl
theorem WS.b2 (h:WS B N N1 N2 k0 k1 k2 Av cv v Ar cr r hs ec Ac nc cc xs Ad cd rn ts W):Bx W N2 k2:=(Ai.get h 2 rfl).1
theorem WS.b1 (h:WS B N N1 N2 k0 k1 k2 Av cv v Ar cr r hs ec Ac nc cc xs Ad cd rn ts W):Bx W N1 k1:=(Ai.get h 3 rfl).1
theorem WS.b0 (h:WS B N N1 N2 k0 k1 k2 Av cv v Ar cr r hs ec Ac nc cc xs Ad cd rn ts W):Bx W N k0:=(Ai.get h 4 rfl).1
theorem WS.vv (h:WS B N N1 N2 k0 k1 k2 Av cv v Ar cr r hs ec Ac nc cc xs Ad cd rn ts W):Au W B 3 1 Av v.length cv (Ah v):=Ai.get h 5 rfl
theorem WS.rr (h:WS B N N1 N2 k0 k1 k2 Av cv v Ar cr r hs ec Ac nc cc xs Ad cd rn ts W):CG W B Ar cr r hs:=Ai.get h 6 rfl
theorem WS.ext (h:WS B N N1 N2 k0 k1 k2 Av cv v Ar cr r hs ec Ac nc cc xs Ad cd rn ts W)(e:Aa W W'):WS B N N1 N2 k0 k1 k2 Av cv v Ar cr r hs ec Ac nc cc xs Ad cd rn ts W':=Ai.ext h e
theorem WS.setV {g:Nat}(h:WS B N N1 N2 k0 k1 k2 (some ⟨g,0,none⟩) cv v Ar cr r hs ec Ac nc cc xs Ad cd rn ts W)(j:Nat)(x:Int):WS B N N1 N2 k0 k1 k2 (some ⟨g,0,none⟩) cv (v.set j x) Ar cr r hs ec Ac nc cc xs Ad cd rn ts (W.setCell ⟨g,j,none⟩ (.int .i64 x)):=by
 have o:=h.vv.st j (.int .i64 x);rw[Dz] at o;exact Ai.st h 5 rfl ⟨g,j,none⟩ (.int .i64 x) rfl (Th.own B 3 1 (some ⟨g,0,none⟩) (v.set j x).length cv (Ah (v.set j x))) (by show Au _ _ _ _ _ _ _ _;rw[List.length_set];exact o) (fun b e=>e)
theorem WS.setC {g:Nat}(h:WS B N N1 N2 k0 k1 k2 Av cv v Ar cr r hs ec (some ⟨g,0,none⟩) nc cc xs Ad cd rn ts W)(j:Nat)(u:Value):WS B N N1 N2 k0 k1 k2 Av cv v Ar cr r hs ec (some ⟨g,0,none⟩) nc cc (xs.set j u) Ad cd rn ts (W.setCell ⟨g,j,none⟩ u) :=
 Ai.st h 1 rfl ⟨g,j,none⟩ u rfl (Th.own B ec 1 (some ⟨g,0,none⟩) nc cc (xs.set j u)) (h.c.st j u) (fun _ e=>e)
theorem WS.pushC {n' c':Nat}{A':Option Addr}{xs':List Value}(h:WS B N N1 N2 k0 k1 k2 Av cv v Ar cr r hs ec Ac nc cc xs Ad cd rn ts W)(ho:Au W' B ec 1 A' n' c' xs')(hg:W.grownBy W' (AE Ac))(hat:AE A'=AE Ac\/∃ g,AE A'=some g/\W.heap.size<=g) :
  WS B N N1 N2 k0 k1 k2 Av cv v Ar cr r hs ec A' n' c' xs' Ad cd rn ts W':=Ai.app h 1 rfl ho hg hat
theorem WS.pushD {c':Nat}{A':Option Addr}{rn':List Int}(h:WS B N N1 N2 k0 k1 k2 Av cv v Ar cr r hs ec Ac nc cc xs Ad cd rn ts W)(ho:Au W' B 3 1 A' rn'.length c' (Ah rn'))(hg:W.grownBy W' (AE Ad))(hat:AE A'=AE Ad\/∃ g,AE A'=some g/\W.heap.size<=g) :
  WS B N N1 N2 k0 k1 k2 Av cv v Ar cr r hs ec Ac nc cc xs A' c' rn' ts W':=Ai.app h 0 rfl ho hg hat
theorem WS.newD {c':Nat}{A':Option Addr}{rn':List Int}(h:WS B N N1 N2 k0 k1 k2 Av cv v Ar cr r hs ec Ac nc cc xs Ad cd rn ts W)(e:Aa W W')(ho:Au W' B 3 1 A' rn'.length c' (Ah rn'))(hn:∀ b,AE A'=some b->W.heap.size<=b) :
  WS B N N1 N2 k0 k1 k2 Av cv v Ar cr r hs ec Ac nc cc xs A' c' rn' ts W' :=
 Ai.set h 0 rfl (F:=fun _=>False) (AF.of e) (Th.own B 3 1 A' rn'.length c' (Ah rn')) (fun _=>False.elim) ho (fun b hb=>.inr (hn b hb))
theorem WS.newC {n' c':Nat}{A':Option Addr}{xs':List Value}(h:WS B N N1 N2 k0 k1 k2 Av cv v Ar cr r hs ec Ac nc cc xs Ad cd rn ts W)(e:Aa W W')(ho:Au W' B ec 1 A' n' c' xs')(hn:∀ b,AE A'=some b->W.heap.size<=b) :
  WS B N N1 N2 k0 k1 k2 Av cv v Ar cr r hs ec A' n' c' xs' Ad cd rn ts W' :=
 Ai.set h 1 rfl (F:=fun _=>False) (AF.of e) (Th.own B ec 1 A' n' c' xs') (fun _=>False.elim) ho (fun b hb=>.inr (hn b hb))
theorem WS.putR {g i:Nat}(h:WS B N N1 N2 k0 k1 k2 Av cv v (some ⟨g,0,none⟩) cr r hs ec Ac nc cc xs Ad cd rn ts W)(hB:B<=W.heap.size){W1:World}(e:Aa W W1)(hi:i<r.length)(l:List Int){A0:Option Addr}{c0:Nat}(own:Au W1 W.heap.size 3 1 A0 l.length c0 (Ah l)) :
  WS B N N1 N2 k0 k1 k2 Av cv v (some ⟨g,0,none⟩) cr (r.set i l) (hs.set i (A0,c0)) ec Ac nc cc xs Ad cd rn ts (W1.setCell ⟨g,i,none⟩ (.slice A0 l.length c0)):=by
 have hr:=h.rr;refine Ai.set h 6 rfl (F:=fun b=>b=g) (AF.set (F:=fun b=>b=g) (AF.of (F:=fun b=>b=g) e) (p:=⟨g,i,none⟩) (.inl rfl) (.slice A0 l.length c0)) (Th.ownL B (some ⟨g,0,none⟩) cr (r.set i l) (hs.set i (A0,c0))) (fun b hb=>.inl (.inl (by rw[hb];rfl))) (CG.put hr e hB hi l own rfl) (fun b hb=>?_);rcases hb with hb | ⟨x,hx,hb⟩
 ·exact .inl (.inl hb)
 ·rcases List.mem_or_eq_of_mem_set hx with hx | rfl
  ·exact .inl (.inr ⟨x,hx,hb⟩)
  ·exact .inr (own.lt hb).1
theorem WS.start {A1:Option Addr}{c1:Nat}{hs1:List (Option Addr × Nat)}(h:Ai (Th.own B 3 1 Av v.length cv (Ah v) :: Th.ownL B A1 c1 r hs1 :: ts) W)(hB:B<=W.heap.size)(k0 k1 k2:Array Value)(t0 t1 t2 ec:Nat) :
  WS B W.heap.size (W.heap.size+1) (W.heap.size+2) k0.toList k1.toList k2.toList Av cv v A1 c1 r hs1 ec none 0 0 [] none 0 [] ts (((W.alloc (.cells k0 t0)).alloc (.cells k1 t1)).alloc (.cells k2 t2)):=by
 have b0:=Bx.new W k0 t0;have b1:=Bx.new (W.alloc (.cells k0 t0)) k1 t1;have b2:=Bx.new ((W.alloc (.cells k0 t0)).alloc (.cells k1 t1)) k2 t2;simp only[World.size_alloc] at b1 b2;have s0:=Ai.add h ((Aa.rfl' W).al (.cells k0 t0)) (Th.box B W.heap.size k0.toList) ⟨b0,hB⟩ (fun b e=>by subst e;exact Nat.le_refl _);have s1:=Ai.add s0 (xr.al (.cells k1 t1)) (Th.box B (W.heap.size+1) k1.toList) ⟨b1,by omega⟩ (fun b e=>by subst e;simp);have s2:=Ai.add s1 (xr.al (.cells k2 t2)) (Th.box B (W.heap.size+2) k2.toList) ⟨b2,by omega⟩ (fun b e=>by subst e;simp);have s3:=Ai.add s2 xr (Th.own B ec 1 none 0 0 []) (Au.nil _ _ _ _) (fun b e=>by cases e);exact Ai.add s3 xr (Th.own B 3 1 none ([]:List Int).length 0 (Ah [])) (by show Au _ _ _ _ _ _ _ _;simpa[Ah] using Au.nil _ B 3 1) (fun b e=>by cases e)
theorem Ai.swap {x y:Th B}{ts:List (Th B)}(h:Ai (x :: y :: ts) W):Ai (y :: x :: ts) W :=
 ⟨h.2.2.1,fun s hs b hb hb'=>by
  rcases List.mem_cons.1 hs with rfl | hs
  ·exact h.2.1 y (by simp) b hb' hb
  ·exact h.2.2.2.1 s hs b hb hb',h.1,fun s hs b hb=>h.2.1 s (by simp[hs]) b hb,h.2.2.2.2⟩
theorem WS.startI {A1:Option Addr}{c1 n:Nat}{hs1:List (Option Addr × Nat)}(h:Ai (Th.own B 3 1 Av v.length cv (Ah v) :: Th.ownL B A1 c1 r hs1 :: ts) W)(hB:B<=W.heap.size)(k0 k1:Array Value)(t0 t1 t2 ec:Nat){W3 W4:World}(e3:Aa ((W.alloc (.cells k0 t0)).alloc (.cells k1 t1)) W3)(e4:Aa W3 W4)(ho:Au W4 W3.heap.size ec 1 Ac n cc xs)(k2:Array Value) :
  WS B W.heap.size (W.heap.size+1) W4.heap.size k0.toList k1.toList k2.toList Av cv v A1 c1 r hs1 ec Ac n cc xs none 0 [] ts (W4.alloc (.cells k2 t2)):=by
 have b0:=Bx.new W k0 t0;have b1:=Bx.new (W.alloc (.cells k0 t0)) k1 t1;have b2:=Bx.new W4 k2 t2;simp only[World.size_alloc] at b1;have hs3:=e3.size;simp only[World.size_alloc] at hs3;have hs4:=e4.size;have s0:=Ai.add h ((Aa.rfl' W).al (.cells k0 t0)) (Th.box B W.heap.size k0.toList) ⟨b0,hB⟩ (fun b e=>by subst e;exact Nat.le_refl _);have s1:=Ai.add s0 (xr.al (.cells k1 t1)) (Th.box B (W.heap.size+1) k1.toList) ⟨b1,by omega⟩ (fun b e=>by subst e;simp);have s2:=Ai.add (Ai.ext s1 e3) e4 (Th.own B ec 1 Ac n cc xs) (ho.mono (by omega)) (fun b e=>(ho.lt e).1);have s3:=Ai.add s2 (xr.al (.cells k2 t2)) (Th.box B W4.heap.size k2.toList) ⟨b2,by omega⟩ (fun b e=>by subst e;exact Nat.le_refl _);exact Ai.add (Ai.swap s3) xr (Th.own B 3 1 none ([]:List Int).length 0 (Ah [])) (by show Au _ _ _ _ _ _ _ _;simpa[Ah] using Au.nil _ B 3 1) (fun b e=>by cases e)
theorem WS.vr (h:WS B N N1 N2 k0 k1 k2 Av cv v Ar cr r hs ec Ac nc cc xs Ad cd rn ts W):∀ b,AE Av=some b->¬ Gi Ar hs b:=fun b hb hb'=>h.2.2.2.2.2.2.2.2.2.2.2.1 (Th.ownL B Ar cr r hs) (by simp) b hb hb'
theorem WS.cv_ (h:WS B N N1 N2 k0 k1 k2 Av cv v Ar cr r hs ec Ac nc cc xs Ad cd rn ts W):∀ b,AE Ac=some b->AE Av≠some b:=fun b hb=>h.2.2.2.1 (Th.own B 3 1 Av v.length cv (Ah v)) (by simp) b hb
theorem WS.cN2 (h:WS B N N1 N2 k0 k1 k2 Av cv v Ar cr r hs ec Ac nc cc xs Ad cd rn ts W):∀ b,AE Ac=some b->N2≠b:=fun b hb e=>h.2.2.2.1 (Th.box B N2 k2) (by simp) b hb e.symm
theorem WS.cN1 (h:WS B N N1 N2 k0 k1 k2 Av cv v Ar cr r hs ec Ac nc cc xs Ad cd rn ts W):∀ b,AE Ac=some b->N1≠b:=fun b hb e=>h.2.2.2.1 (Th.box B N1 k1) (by simp) b hb e.symm
theorem WS.cN (h:WS B N N1 N2 k0 k1 k2 Av cv v Ar cr r hs ec Ac nc cc xs Ad cd rn ts W):∀ b,AE Ac=some b->N≠b:=fun b hb e=>h.2.2.2.1 (Th.box B N k0) (by simp) b hb e.symm
theorem WS.vN2 (h:WS B N N1 N2 k0 k1 k2 Av cv v Ar cr r hs ec Ac nc cc xs Ad cd rn ts W):∀ b,AE Av=some b->N2≠b:=fun b hb e=>h.2.2.2.2.2.1 (Th.own B 3 1 Av v.length cv (Ah v)) (by simp) b e.symm hb
theorem WS.vN1 (h:WS B N N1 N2 k0 k1 k2 Av cv v Ar cr r hs ec Ac nc cc xs Ad cd rn ts W):∀ b,AE Av=some b->N1≠b:=fun b hb e=>h.2.2.2.2.2.2.2.1 (Th.own B 3 1 Av v.length cv (Ah v)) (by simp) b e.symm hb
theorem WS.vN (h:WS B N N1 N2 k0 k1 k2 Av cv v Ar cr r hs ec Ac nc cc xs Ad cd rn ts W):∀ b,AE Av=some b->N≠b:=fun b hb e=>h.2.2.2.2.2.2.2.2.2.1 (Th.own B 3 1 Av v.length cv (Ah v)) (by simp) b e.symm hb
theorem WS.rN2 (h:WS B N N1 N2 k0 k1 k2 Av cv v Ar cr r hs ec Ac nc cc xs Ad cd rn ts W):∀ b,Gi Ar hs b->N2≠b:=fun b hb e=>h.2.2.2.2.2.1 (Th.ownL B Ar cr r hs) (by simp) b e.symm hb
theorem WS.rN1 (h:WS B N N1 N2 k0 k1 k2 Av cv v Ar cr r hs ec Ac nc cc xs Ad cd rn ts W):∀ b,Gi Ar hs b->N1≠b:=fun b hb e=>h.2.2.2.2.2.2.2.1 (Th.ownL B Ar cr r hs) (by simp) b e.symm hb
theorem WS.rN (h:WS B N N1 N2 k0 k1 k2 Av cv v Ar cr r hs ec Ac nc cc xs Ad cd rn ts W):∀ b,Gi Ar hs b->N≠b:=fun b hb e=>h.2.2.2.2.2.2.2.2.2.1 (Th.ownL B Ar cr r hs) (by simp) b e.symm hb
theorem WS.dN2 (h:WS B N N1 N2 k0 k1 k2 Av cv v Ar cr r hs ec Ac nc cc xs Ad cd rn ts W):∀ b,AE Ad=some b->N2≠b:=fun b hb e=>h.2.1 (Th.box B N2 k2) (by simp) b hb e.symm
theorem WS.dN1 (h:WS B N N1 N2 k0 k1 k2 Av cv v Ar cr r hs ec Ac nc cc xs Ad cd rn ts W):∀ b,AE Ad=some b->N1≠b:=fun b hb e=>h.2.1 (Th.box B N1 k1) (by simp) b hb e.symm
theorem WS.dN (h:WS B N N1 N2 k0 k1 k2 Av cv v Ar cr r hs ec Ac nc cc xs Ad cd rn ts W):∀ b,AE Ad=some b->N≠b:=fun b hb e=>h.2.1 (Th.box B N k0) (by simp) b hb e.symm
theorem WS.dc_ (h:WS B N N1 N2 k0 k1 k2 Av cv v Ar cr r hs ec Ac nc cc xs Ad cd rn ts W):∀ b,AE Ad=some b->AE Ac≠some b:=fun b hb=>h.2.1 (Th.own B ec 1 Ac nc cc xs) (by simp) b hb
theorem WS.dr_ (h:WS B N N1 N2 k0 k1 k2 Av cv v Ar cr r hs ec Ac nc cc xs Ad cd rn ts W):∀ b,AE Ad=some b->¬ Gi Ar hs b:=fun b hb=>h.2.1 (Th.ownL B Ar cr r hs) (by simp) b hb
theorem WS.cr_ (h:WS B N N1 N2 k0 k1 k2 Av cv v Ar cr r hs ec Ac nc cc xs Ad cd rn ts W):∀ b,AE Ac=some b->¬ Gi Ar hs b:=fun b hb=>h.2.2.2.1 (Th.ownL B Ar cr r hs) (by simp) b hb
theorem WS.tN2 (h:WS B N N1 N2 k0 k1 k2 Av cv v Ar cr r hs ec Ac nc cc xs Ad cd rn ts W):∀ x ∈ ts,∀ b,x.fp b->N2≠b:=fun x hx b hb e=>h.2.2.2.2.2.1 x (by simp[hx]) b e.symm hb
theorem WS.fin (h:WS B N N1 N2 k0 k1 k2 Av cv v Ar cr r hs ec Ac nc cc xs Ad cd rn ts W):Ai (Th.own B 3 1 Ad rn.length cd (Ah rn) :: Th.own B 3 1 Av v.length cv (Ah v) :: Th.ownL B Ar cr r hs :: ts) W :=
 ⟨h.1,fun s hs b hb=>h.2.1 s (by simp at hs ⊢;rcases hs with rfl | rfl | hs <;> simp[*]) b hb,h.2.2.2.2.2.2.2.2.2.2⟩
theorem WS.set2 (h:WS B N N1 N2 k0 k1 k2 Av cv v Ar cr r hs ec Ac nc cc xs Ad cd rn ts W)(j:Nat)(u:Value):WS B N N1 N2 k0 k1 (k2.set j u) Av cv v Ar cr r hs ec Ac nc cc xs Ad cd rn ts (W.setCell ⟨N2,j,none⟩ u) :=
 Ai.st h 2 rfl ⟨N2,j,none⟩ u rfl (Th.box B N2 (k2.set j u)) ⟨h.b2.set j u,(Ai.get h 2 rfl).2⟩ (fun _ e=>e)
theorem Qe (w:World){b c:Nat}(i j:Nat)(u v:Value)(h:b≠c):(w.setCell ⟨b,i,none⟩ u).setCell ⟨c,j,none⟩ v=(w.setCell ⟨c,j,none⟩ v).setCell ⟨b,i,none⟩ u:=by
 unfold World.setCell;congr 1
 apply Array.ext_getElem?;intro k;simp only[Array.getElem?_modify];by_cases h1:c=k
 ·subst h1;simp[h]
 ·by_cases h2:b=k
  ·subst h2;simp[h1]
  ·simp[h1,h2]
theorem WS.clipD (h:WS B N N1 N2 k0 k1 k2 Av cv v Ar cr r hs ec Ac nc cc xs Ad cd rn ts W)(ho:Au W B 3 1 Ad rn.length rn.length (Ah rn)):WS B N N1 N2 k0 k1 k2 Av cv v Ar cr r hs ec Ac nc cc xs Ad rn.length rn ts W :=
 Ai.set h 0 rfl (F:=fun _=>False) (AF.of (Aa.rfl' W)) (Th.own B 3 1 Ad rn.length rn.length (Ah rn)) (fun _=>False.elim) ho (fun _ hb=>.inl hb)
end
end Go.Proofs.YthibllkleakiiaaGreatDoor
