/- Parts of one proof, joined. The reference's small functions: contracts, and more. Conditions: in the theorems. -/
import Derived.Test.YthibllkleakiiaaGreatDoorCore
namespace Go.Proofs.YthibllkleakiiaaGreatDoor
open Go.RowKit
theorem Cp (n lo hi:Int)(w:World):Calls Tryz.prog 39 #[.int .i64 n,.int .i64 lo,.int .i64 hi] w fun e w'=>e= .returned (.bool (Sg.BZ n lo hi))/\w=w':=by
 by_cases h1:lo<=n
 ·by_cases h2:n<=hi
  ·go_enter Tryz.func39,Tryz.ntmps39;go_wp2;go_ret;exact⟨Aj (by simp[Sg.BZ,h1,h2]),rfl⟩
  ·go_enter Tryz.func39,Tryz.ntmps39;go_wp2;go_ret;exact⟨Aj (by simp[Sg.BZ,h2]),rfl⟩
 ·go_enter Tryz.func39,Tryz.ntmps39;go_wp2;go_ret;exact⟨Aj (by simp[Sg.BZ];omega),rfl⟩
def DT (n:Int):Nat->List Int->Int
 | _,[]=>-1
 | k,x :: l=>if x=n then k else DT n (k+1) l
def Db (l:List Int)(n:Int):Int:=DT n 0 l
theorem Mx (n:Int)(l:List Int)(k:Nat):DT n k l<0↔n ∉ l:=by
 induction l generalizing k with
 | nil=>simp[DT]
 | cons x l ih =>
  simp only[DT];by_cases h:x=n
  ·simp[h]
  ·rw[if_neg h,ih];simp;exact fun _=>fun e=>h e.symm
theorem EK (l:List Int)(n:Int):Db l n<0↔n ∉ l:=Mx n l 0
theorem Je (A:Option Addr)(len c:Nat)(l:List Int)(n:Int)(w:World)(h:Rd w 1 A len (Ah l)) :
  Calls Tryz.prog 112 #[.slice A len c,.int .i64 n] w fun e w'=>e= .returned (.int .i64 (Db l n))/\w=w':=by
 have hm:=h.big;obtain rfl:=h.len;go_enter Tryz.func112,Tryz.ntmps112;go_wp2;go_loop [5] (fun i=>∃ k:Nat,k<=l.length/\i= .int .i64 k/\DT n k (l.drop k)=Db l n) (fun i=>l.length - (intOf i).toNat)
 case atStart=>exact⟨0,Nat.zero_le _,rfl,rfl⟩
 case round =>
  obtain⟨k,hk,rfl,hpl⟩:=hrel;by_cases hlt:k<l.length
  ·obtain⟨b,o,x,rfl,hx,hc⟩:=h.at1 hlt;rw[Dy l k hx,DT] at hpl;have H:=lh hpl;clear hpl hx;go_wp2
   ·have hn:x=n:=by simpa using ‹(x == n)=true›
    go_ret;exact⟨EZ (by rw[<- H.out,if_pos hn]),rfl⟩
   ·have hn:¬ x=n:=by simpa using ‹(x == n)=false›
    go_round
    case rel=>exact⟨k+1,by omega,by go_num,by rw[<- H.out,if_neg hn]⟩
    case measure=>simp[intOf];omega
  ·have H:=lh hpl;clear hpl;go_wp2;go_ret;exact⟨EZ (by rw[<- H.out,List.drop_eq_nil_of_le (by omega)];rfl),rfl⟩
theorem DL (A:Option Addr)(len c:Nat)(l:List Int)(w:World)(h:Rd w 1 A len (Ah l))(hb:len<=4194304) :
  Calls Tryz.prog 33 #[.slice A len c] w fun e w'=>∃ A' c',e= .returned (.slice A' len c')/\AA w' w.heap.size 3 1 A' len c' (Ah l)/\Aa w w':=by
 have hs:=(h.ext ((Aa.rfl' w).al (.cells #[] 3)));go_enter Tryz.func33,Tryz.ntmps33;go_wp2_with (at_builtin;refine CP rfl rfl Bc rfl (AA.new w 3 1 #[] 0 (Nat.le_refl _) (by unfold maxLen;omega) rfl) rfl hs (Ed l) (by unfold maxLen;omega) (by omega) (by simp) ?_;intro A2 c2 w2 hown2 hg2 hat2)
 go_ret;exact⟨A2,c2,by simp,by simpa using hown2,((Aa.rfl' w).al _).gr hg2 (by simp[AD])⟩
theorem RL (A:Option Addr)(len c:Nat)(l:List Int)(lo hi:Int)(w:World)(h:Rd w 1 A len (Ah l)) :
  Calls Tryz.prog 110 #[.slice A len c,.int .i64 lo,.int .i64 hi] w fun e w'=>e= .returned (.bool (l.all fun x=>Sg.BZ x lo hi))/\w=w':=by
 have hm:=h.big;obtain rfl:=h.len;go_enter Tryz.func110,Tryz.ntmps110;go_wp2;go_loop [7] (fun i=>∃ k:Nat,k<=l.length/\i= .int .i64 k/\((l.drop k).all fun x=>Sg.BZ x lo hi)=(l.all fun x=>Sg.BZ x lo hi)) (fun i=>l.length - (intOf i).toNat)
 case atStart=>exact⟨0,Nat.zero_le _,rfl,rfl⟩
 case round =>
  obtain⟨k,hk,rfl,hpl⟩:=hrel;by_cases hlt:k<l.length
  ·obtain⟨b,o,x,rfl,hx,hc⟩:=h.at1 hlt;rw[Dy l k hx,List.all_cons] at hpl;have H:=lh hpl;clear hpl hx;cases hr:Sg.BZ x lo hi
   ·have Hr:=lh hr;clear hr;go_wp2_with (go_at_call 39;refine(Cp _ _ _ _).mono ?_;rintro e w' ⟨rfl,rfl⟩;rw[Hr.out])
    go_ret;exact⟨Aj (by rw[<- H.out,Hr.out];rfl),rfl⟩
   ·have Hr:=lh hr;clear hr;go_wp2_with (go_at_call 39;refine(Cp _ _ _ _).mono ?_;rintro e w' ⟨rfl,rfl⟩;rw[Hr.out])
    go_round
    case rel=>exact⟨k+1,by omega,by go_num,by rw[<- H.out,Hr.out,Bool.true_and]⟩
    case measure=>simp[intOf];omega
  ·have H:=lh hpl;clear hpl;go_wp2;go_ret;exact⟨Aj (by rw[<- H.out,List.drop_eq_nil_of_le (by omega)];rfl),rfl⟩
def FO (l:List Int)(k:Nat):List Int:=Sg.AV (l.take k)
theorem Vn (l:List Int)(k:Nat){x:Int}(h:l[k]? = some x):FO l (k+1)=if Db (FO l k) x<0 then FO l k++[x] else FO l k:=by
 unfold FO Sg.AV;rw[CU l k h,List.foldl_append];simp only[List.foldl_cons,List.foldl_nil,Sg.CT,EK];split <;> rename_i h1 <;> simp_all
theorem Uk (out:List Int)(x:Int):(Sg.CT out x).length<=out.length+1:=by
 unfold Sg.CT;split <;> simp
theorem Me (l out:List Int):(l.foldl Sg.CT out).length<=out.length+l.length:=by
 induction l generalizing out with
 | nil=>simp
 | cons x l ih=>have:=ih (Sg.CT out x);have:=Uk out x;simp;omega
theorem Jr (l:List Int):(Sg.AV l).length<=l.length:=by have:=Me l [];unfold Sg.AV;simpa using this
theorem Wo (l:List Int)(k:Nat):(FO l k).length<=k:=by
 have:=Jr (l.take k);simp at this;unfold FO;omega
theorem Wp (l:List Int)(k:Nat)(h:l.length<=k):FO l k=Sg.AV l:=by unfold FO;rw[List.take_of_length_le h]
set_option maxHeartbeats 400000 in
theorem I0 (A:Option Addr)(len c:Nat)(l:List Int)(w:World)(h:Rd w 1 A len (Ah l))(hb:len<=4194304) :
  Calls Tryz.prog 109 #[.slice A len c] w fun e w'=>∃ A' c',e= .returned (.slice A' (Sg.AV l).length c')/\AA w' w.heap.size 3 1 A' (Sg.AV l).length c' (Ah (Sg.AV l))/\Aa w w':=by
 obtain rfl:=h.len;go_enter Tryz.func109,Tryz.ntmps109;go_wp2;go_loopw [3,4] (fun v i wr=>∃ (k:Nat) (A':Option Addr) (c':Nat),k<=l.length/\i= .int .i64 k/\v= .slice A' (FO l k).length c'/\AA wr w.heap.size 3 1 A' (FO l k).length c' (Ah (FO l k))/\Aa w wr) (fun _ i _=>l.length - (intOf i).toNat)
 case atStart=>exact⟨0,_,_,Nat.zero_le _,rfl,rfl,AA.new w 3 1 #[] 0 (Nat.le_refl _) (by unfold maxLen;omega) rfl,(Aa.rfl' w).al _⟩
 case round =>
  obtain⟨k,A',c',hk,rfl,rfl,hown,hext⟩:=hrel;by_cases hlt:k<l.length
  ·obtain⟨b,o,x,rfl,hx,hc⟩:=(h.ext hext).at1 hlt;have hfl:=Wo l k;have H:=lh (Vn l k hx);clear hx
   go_wp2_with (first
    | (go_at_call 112;refine(Je _ _ _ _ _ _ hown.rd).mono ?_;rintro e w' ⟨rfl,rfl⟩)
    | (at_builtin;refine AF rfl rfl Bc rfl hown rfl rfl (B_ _ _) (by omega) (by omega) hext.size ?_;intro A2 c2 w2 hown2 hg2 hat2))
   ·have h1:Db (FO l k) x<0:=by assumption
    have e1:=H.out;rw[if_pos h1] at e1;go_roundw
    case rel=>exact⟨k+1,A2,c2,by omega,by go_num,by rw[e1];simp,by rw[e1];simpa using hown2,hext.gr hg2 fun g hg=>(hown.lt hg).1⟩
    case measure=>simp[intOf];omega
   ·have h1:¬ Db (FO l k) x<0:=by
     have:0<=Db (FO l k) x:=by assumption
     omega
    have e1:=H.out;rw[if_neg h1] at e1;go_roundw
    case rel=>exact⟨k+1,_,c',by omega,by go_num,by rw[e1],by rw[e1];exact hown,hext⟩
    case measure=>simp[intOf];omega
  ·have H:=lh (Wp l k (by omega));go_wp2;go_ret;exact⟨A',c',SG (by rw[H.out]),by rw[<- H.out];exact hown,hext⟩
def E_ (k:Int):Int:=if k=0\/k=1 then 0 else if 2<=k/\k<=7 then 2 else if k=8 then 3 else -1
set_option maxHeartbeats 800000 in
theorem F_ (k:Int)(w:World):Calls Tryz.prog 69 #[.int .i64 k] w fun e w'=>e= .returned (.int .i64 (E_ k))/\w=w':=by
 have cases:k=0\/k=1\/k=2\/k=3\/k=4\/k=5\/k=6\/k=7\/k=8\/(k<0\/8<k):=by omega
 rcases cases with rfl | rfl | rfl | rfl | rfl | rfl | rfl | rfl | rfl | h
 all_goals
  go_enter Tryz.func69,Tryz.ntmps69;go_wp2;go_ret;exact⟨EZ (by unfold E_;first | rfl | (rw[if_neg (by omega),if_neg (by omega),if_neg (by omega)])),rfl⟩
set_option maxHeartbeats 800000 in
theorem Pj (k x y:Int)(w:World)(hx:0<=x)(hx':x<=999)(hy:0<=y)(hy':y<=999) :
  Calls Tryz.prog 144 #[.int .i64 k,.int .i64 x,.int .i64 y] w fun e w'=>e= .returned (.int .i64 (Sg.Fg k x y))/\w=w':=by
 have hxy:0<=x * y:=Int.mul_nonneg hx hy;have hxy':x * y<=999 * 999:=Int.mul_le_mul hx' hy' hy (by omega);have cases:k=2\/k=3\/k=4\/k=5\/k=6\/(k<2\/6<k):=by omega
 rcases cases with rfl | rfl | rfl | rfl | rfl | h
 all_goals
  go_enter Tryz.func144,Tryz.ntmps144;go_wp2
  all_goals (go_ret;exact⟨EZ (by simp[Sg.Fg] <;> omega),rfl⟩)
theorem PF (k:Int):(E_ k=0/\(k=0\/k=1))\/(E_ k=2/\2<=k/\k<=7)\/(E_ k=3/\k=8)\/(E_ k = -1/\(k<0\/8<k)):=by
 unfold E_;split
 ·left;omega
 ·split
  ·right;left;omega
  ·split
   ·right;right;left;omega
   ·right;right;right;omega
set_option maxHeartbeats 800000 in
theorem Vo (p:Sg.At)(w:World):Calls Tryz.prog 106 #[pv p] w fun e w'=>∃ A' c',e= .returned (.slice A' (Sg.AE p).length c')/\AA w' w.heap.size 3 1 A' (Sg.AE p).length c' (Ah (Sg.AE p))/\Aa w w':=by
 have finish:∀ (l:List Int) (cs:List Value) (o:Obj),Sg.AE p=l->cs=Ah l->l.length<=3 ->
   AA ((w.alloc o).alloc (.cells cs.toArray 3)) w.heap.size 3 1 (some ⟨w.heap.size+1,0,none⟩) l.length l.length (Ah l)/\Aa w ((w.alloc o).alloc (.cells cs.toArray 3)):=by
  rintro l cs o _ rfl hl;refine⟨?_,((Aa.rfl' w).al _).al _⟩;have:=AA.new (w.alloc o) (B:=w.heap.size) 3 1 (Ah l).toArray l.length (by simp) (by unfold maxLen;omega) (by simp);simpa using this
 rcases PF p.kind with ⟨h,hk⟩ | ⟨h,hk⟩ | ⟨h,hk⟩ | ⟨h,hk⟩
 all_goals
  have H:=lh h;have Hk:=lh hk;clear h hk;go_enter Tryz.func106,Tryz.ntmps106;go_wp2_with (go_at_call 69;refine(F_ _ _).mono ?_;rintro e w' ⟨rfl,rfl⟩;rw[H.out])
  go_ret;have hk:=Hk.out
 ·have hb:Sg.AE p=[]:=by unfold Sg.AE;rw[if_neg (by omega),if_neg (by omega)]
  rw[hb];exact⟨_,_,rfl,finish [] [] _ hb rfl (by simp)⟩
 ·have hb:Sg.AE p=[p.a,p.b]:=by unfold Sg.AE;rw[if_neg (by omega),if_pos (by omega)]
  rw[hb];exact⟨_,_,rfl,finish [p.a,p.b] _ _ hb rfl (by simp)⟩
 ·have hb:Sg.AE p=[p.a,p.b,p.c]:=by unfold Sg.AE;rw[if_pos (by omega)]
  rw[hb];exact⟨_,_,rfl,finish [p.a,p.b,p.c] _ _ hb rfl (by simp)⟩
 ·have hb:Sg.AE p=[]:=by unfold Sg.AE;rw[if_neg (by omega),if_neg (by omega)]
  rw[hb];exact⟨_,_,rfl,finish [] [] _ hb rfl (by simp)⟩
theorem Ul {p:Sg.At}(h:p.kind=0\/p.kind=1):Sg.AE p=[]:=by unfold Sg.AE;rw[if_neg (by omega),if_neg (by omega)]
theorem Um {p:Sg.At}(h:2<=p.kind/\p.kind<=7):Sg.AE p=[p.a,p.b]:=by unfold Sg.AE;rw[if_neg (by omega),if_pos (by omega)]
theorem Un {p:Sg.At}(h:p.kind=8):Sg.AE p=[p.a,p.b,p.c]:=by unfold Sg.AE;rw[if_pos (by omega)]
theorem Rx {p:Sg.At}(i:Nat)(h:p.kind=0):Sg.A_ p i=(p.a == -1 && p.b == -1 && p.c == -1 && Sg.BZ p.n 0 99):=by
 unfold Sg.A_ Sg.C8;rw[Ul (.inl h),if_pos h];simp only[List.all_nil,Bool.and_true];cases Sg.BZ p.n 0 99 <;> simp
theorem TT {p:Sg.At}(i:Nat)(h:p.kind=1):Sg.A_ p i=(p.a == -1 && p.b == -1 && p.c == -1 && Sg.BZ p.n 0 9):=by
 unfold Sg.A_ Sg.C8;rw[Ul (.inr h),if_neg (by omega),if_pos h];simp only[List.all_nil,Bool.and_true];cases Sg.BZ p.n 0 9 <;> simp
theorem Ry {p:Sg.At}(i:Nat)(h:2<=p.kind/\p.kind<=7):Sg.A_ p i=(Sg.BZ p.a 0 ((i:Int) - 1) && Sg.BZ p.b 0 ((i:Int) - 1) && p.c == -1 && p.n == 0):=by
 unfold Sg.A_ Sg.C8;rw[Um h,if_neg (by omega),if_neg (by omega),if_neg (by omega),if_pos h];simp only[List.all_nil,List.all_cons,Bool.and_true];cases Sg.BZ p.a 0 ((i:Int) - 1) <;> cases Sg.BZ p.b 0 ((i:Int) - 1) <;> simp[Bool.and_comm]
theorem Rz {p:Sg.At}(i:Nat)(h:p.kind=8):Sg.A_ p i=(Sg.BZ p.a 0 ((i:Int) - 1) && Sg.BZ p.b 0 ((i:Int) - 1) && Sg.BZ p.c 0 ((i:Int) - 1) && p.n == 0):=by
 unfold Sg.A_ Sg.C8;rw[Un h,if_neg (by omega),if_neg (by omega),if_pos h];simp only[List.all_nil,List.all_cons,Bool.and_true];cases Sg.BZ p.a 0 ((i:Int) - 1) <;> cases Sg.BZ p.b 0 ((i:Int) - 1) <;> cases Sg.BZ p.c 0 ((i:Int) - 1) <;> simp
theorem RA {p:Sg.At}(i:Nat)(h:p.kind<0\/8<p.kind):Sg.A_ p i=false:=by
 unfold Sg.A_ Sg.C8;rw[if_neg (by omega),if_neg (by omega),if_neg (by omega),if_neg (by omega)];rfl
set_option maxHeartbeats 1000000 in
theorem Mf (p:Sg.At)(i:Nat)(w:World)(hi:i<=4194304):Calls Tryz.prog 105 #[pv p,.int .i64 i] w fun e w'=>e= .returned (.bool (Sg.A_ p i))/\Aa w w':=by
 obtain⟨k,a,b,c,n⟩:=p;have cases:k=0\/k=1\/(2<=k/\k<=7)\/k=8\/(k<0\/8<k):=by omega
 rcases cases with h | h | h | h | h
 ·have hg:=lh (Rx (p:=⟨k,a,b,c,n⟩) i h);have H:=lh (show E_ k=0 by subst h;rfl);have h0:(k == 1)=false:=by simp[h]
  clear h;go_enter Tryz.func105,Tryz.ntmps105
  go_wp2_with (first
   | (go_at_call 69;refine(F_ _ _).mono ?_;rintro e w' ⟨rfl,rfl⟩;rw[H.out])
   | (go_at_call 39;refine(Cp _ _ _ _).mono ?_;rintro e w' ⟨rfl,rfl⟩))
  all_goals (go_ret;exact⟨Aj (by rw[hg.out];simp_all),(Aa.rfl' w).al _⟩)
 ·have hg:=lh (TT (p:=⟨k,a,b,c,n⟩) i h);have H:=lh (show E_ k=0 by subst h;rfl);have h0:(k == 1)=true:=by simp[h]
  clear h;go_enter Tryz.func105,Tryz.ntmps105
  go_wp2_with (first
   | (go_at_call 69;refine(F_ _ _).mono ?_;rintro e w' ⟨rfl,rfl⟩;rw[H.out])
   | (go_at_call 39;refine(Cp _ _ _ _).mono ?_;rintro e w' ⟨rfl,rfl⟩))
  all_goals (go_ret;exact⟨Aj (by rw[hg.out];simp_all),(Aa.rfl' w).al _⟩)
 ·have hg:=lh (Ry (p:=⟨k,a,b,c,n⟩) i h);have H:=lh (show E_ k=2 by unfold E_;rw[if_neg (by omega),if_pos h]);clear h;go_enter Tryz.func105,Tryz.ntmps105
  go_wp2_with (first
   | (go_at_call 69;refine(F_ _ _).mono ?_;rintro e w' ⟨rfl,rfl⟩;rw[H.out])
   | (go_at_call 39;refine(Cp _ _ _ _).mono ?_;rintro e w' ⟨rfl,rfl⟩))
  all_goals (go_ret;exact⟨Aj (by rw[hg.out];simp_all),(Aa.rfl' w).al _⟩)
 ·have hg:=lh (Rz (p:=⟨k,a,b,c,n⟩) i h);have H:=lh (show E_ k=3 by subst h;rfl);clear h;go_enter Tryz.func105,Tryz.ntmps105
  go_wp2_with (first
   | (go_at_call 69;refine(F_ _ _).mono ?_;rintro e w' ⟨rfl,rfl⟩;rw[H.out])
   | (go_at_call 39;refine(Cp _ _ _ _).mono ?_;rintro e w' ⟨rfl,rfl⟩))
  all_goals (go_ret;exact⟨Aj (by rw[hg.out];simp_all),(Aa.rfl' w).al _⟩)
 ·have hg:=lh (RA (p:=⟨k,a,b,c,n⟩) i h);have H:=lh (show E_ k = -1 by unfold E_;rw[if_neg (by omega),if_neg (by omega),if_neg (by omega)]);clear h;go_enter Tryz.func105,Tryz.ntmps105
  go_wp2_with (first
   | (go_at_call 69;refine(F_ _ _).mono ?_;rintro e w' ⟨rfl,rfl⟩;rw[H.out])
   | (go_at_call 39;refine(Cp _ _ _ _).mono ?_;rintro e w' ⟨rfl,rfl⟩))
  all_goals (go_ret;exact⟨Aj (by rw[hg.out]),(Aa.rfl' w).al _⟩)
theorem KW (f:List Sg.At)(k:Nat){p:Sg.At}(h:f[k]? = some p):Sg.AQ (f.take (k+1))=Sg.AQ (f.take k)++Sg.AE p:=by
 rw[CU f k h];simp[Sg.AQ]
theorem If (f:List Sg.At)(k:Nat){p:Sg.At}(h:f[k]? = some p):Sg.Bp 0 (f.take (k+1))=(Sg.Bp 0 (f.take k) && Sg.A_ p k):=by
 have hk:k<f.length:=(List.getElem?_eq_some_iff.1 h).1;rw[CU f k h,Sg.Mk,List.length_take,Nat.zero_add,Nat.min_eq_left (by omega)]
theorem GK (f:List Sg.At)(k j:Nat)(h:Sg.Bp j (f.take k)=false):Sg.Bp j f=false:=by
 induction f generalizing k j with
 | nil=>simpa using h
 | cons p f ih =>
  cases k with
  | zero=>simp[Sg.Bp] at h
  | succ k =>
   simp only[List.take_succ_cons,Sg.Bp,Bool.and_eq_false_iff] at h ⊢;rcases h with h | h
   ·exact .inl h
   ·exact .inr (ih k (j+1) h)
def Mg (U:List Int)(i:Nat):Prop:=∀ m,m<i->U.getD m 0=1
theorem KY (U:List Int):Mg U 0:=fun m h=>absurd h (by omega)
theorem KZ {U:List Int}{i:Nat}(h:Mg U i)(hu:U.getD i 0=1):Mg U (i+1):=fun m hm=>by
 rcases Nat.lt_or_ge m i with h1 | h1
 ·exact h m h1
 ·obtain rfl:m=i:=by omega
  exact hu
set_option maxRecDepth 100000 in
set_option maxHeartbeats 2000000 in
theorem GJ (A:Option Addr)(c:Nat)(f:List Sg.At)(w:World)(h:Rd w 5 A f.length (AL f))(hb:f.length<=1048576) :
  Calls Tryz.prog 70 #[.agg #[.slice A f.length c]] w fun e w'=>e= .returned (.bool (Sg.AU f))/\Aa w w':=by
 go_enter Tryz.func70,Tryz.ntmps70;go_wp2_with (at_make;refine Ie rfl rfl Bc (B:=w.heap.size+1) rfl rfl (by omega) (by omega) (by simp) ?_;intro w1 hown hext)
 obtain⟨W0,hW0⟩:∃ W0,W0=w.alloc (.cells #[.slice A f.length c] 68):=⟨_,rfl⟩;have hsz:W0.heap.size=w.heap.size+1:=by rw[hW0];simp
 have hW:Aa w W0:=by rw[hW0];exact(Aa.rfl' w).al _
 have hbox:W0.cell? ⟨w.heap.size,0,none⟩=some (.slice A f.length c):=by rw[hW0];simp[go_sem]
 rw[<- hW0] at hext;rw[AJ _ _ rfl,show w.heap.size+1=W0.heap.size from hsz.symm] at hown;rw[show (w.alloc (Obj.cells #[Value.slice A f.length c] 68)).heap.size=w.heap.size+1 from by simp] at hown;have hu0:List.replicate f.length (Value.int .i64 0)=Ah (Sg.Kb f.length (Sg.AQ (f.take 0))):=by simp[Sg.AQ,Sg.Kb,Ah]
 rw[hu0] at hown;clear hu0 hW0;go_loopw [4] (fun i wr=>∃ (k:Nat),k<=f.length/\i= .int .i64 k/\Aa W0 wr/\AA wr W0.heap.size 3 1 (some ⟨w.heap.size+1,0,none⟩) f.length f.length (Ah (Sg.Kb f.length (Sg.AQ (f.take k))))/\Sg.Bp 0 (f.take k)=true) (fun i _=>f.length - (intOf i).toNat)
 case atStart=>exact⟨0,Nat.zero_le _,rfl,hext,hown,by simp[Sg.Bp]⟩
 case round =>
  clear hown hext;obtain⟨k,hk,rfl,he,hown,hgood⟩:=hrel;have hbx:=he.cellE hbox;have Hsz:=lh hsz;clear hbox hsz;have hwr:w.heap.size+1<wr.heap.size:=by have:=(hown.lt (g:=w.heap.size+1) rfl).2;omega
  by_cases hlt:k<f.length
  ·obtain⟨b,o,p,rfl,hp,hc0,hc1,hc2,hc3,hc4⟩:=(h.ext (hW.tr he)).atP hlt;cases hgp:Sg.A_ p k
   ·have Hg:=lh hgp;have Hp:=lh hp;have Hgood:=lh hgood;clear hgp hp hgood;go_wp2_with (go_at_call 105;refine(Mf p k _ (by omega)).mono ?_;rintro e w2 ⟨rfl,he2⟩;rw[Hg.out])
    go_ret;refine⟨Aj ?_,(hW.tr he).tr he2⟩;have:=GK f (k+1) 0 (by rw[If f k Hp.out,Hg.out,Bool.and_false]);simp[Sg.AU,this]
   ·have Hg:=lh hgp;have Hp:=lh hp;have Hgood:=lh hgood;clear hgp hp hgood
    go_wp2_with (first
     | (go_at_call 105;refine(Mf p k _ (by omega)).mono ?_;rintro e w2 ⟨rfl,he2⟩;rw[Hg.out];have hbx2:=he2.cellE hbx;have d0:=he2.cellE hc0;have d1:=he2.cellE hc1;have d2:=he2.cellE hc2;have d3:=he2.cellE hc3;have d4:=he2.cellE hc4)
     | (go_at_call 106;refine(Vo p _).mono ?_;rintro e w3 ⟨A3,c3,rfl,hown3,he3⟩))
    have he03:=(he.tr he2).tr he3;have hown0:=(hown.ext he2).ext he3;have hsz2:=he2.size;have hsz3:=he3.size;clear hbx2 d0 d1 d2 d3 d4 hbx hc0 hc1 hc2 hc3 hc4 hown he
    go_loopw [6] (fun j wi=>∃ (j':Nat),j'<=(Sg.AE p).length/\j= .int .i64 j'/\Aa W0 wi/\AA wi w2.heap.size 3 1 A3 (Sg.AE p).length c3 (Ah (Sg.AE p)) /\
     AA wi W0.heap.size 3 1 (some ⟨w.heap.size+1,0,none⟩) f.length f.length (Ah (Sg.Kb f.length (Sg.AQ (f.take k)++(Sg.AE p).take j')))) (fun j _=>(Sg.AE p).length - (intOf j).toNat)
    case atStart=>exact⟨0,Nat.zero_le _,rfl,he03,hown3,by simpa using hown0⟩
    case round =>
     clear hown3 hown0 he03 he2 he3;obtain⟨j,hj,rfl,hei,hl,hU⟩:=hrel;have hb3:=Sg.Hw p;by_cases hlj:j<(Sg.AE p).length
     ·obtain⟨bl,ol,x,rfl,hx,hcx⟩:=hl.rd.at1 hlj;have hxr:=Sg.Cz Hg.out x (List.mem_of_getElem? hx);obtain⟨X,rfl⟩:=Int.eq_ofNat_of_zero_le hxr.1;have hXn:X<f.length:=by omega
      obtain⟨U,hUd⟩:∃ U,U=Sg.Kb f.length (Sg.AQ (f.take k)++(Sg.AE p).take j):=⟨_,rfl⟩
      have hpos:∀ y ∈ Sg.AQ (f.take k)++(Sg.AE p).take j,0<=y:=by
       intro y hy;rcases List.mem_append.1 hy with hy | hy
       ·exact Sg.Fs f k 0 Hgood.out y hy
       ·exact(Sg.Cz Hg.out y (List.mem_of_mem_take hy)).1
      have hlenU:U.length=f.length:=by rw[hUd,Sg.Ii]
      have hux:U[X]? = some (U.getD X 0):=by rw[List.getD_eq_getElem?_getD,List.getElem?_eq_getElem (by omega)];rfl
      have hub:=Sg.Tv f.length _ X hpos hXn;rw[<- hUd] at hub hU;have hbl:=Sg.Lr (f.take k);have htl:((Sg.AE p).take j).length<=3:=Nat.le_trans (List.length_take_le _ _) (by omega);have htk:(f.take k).length<=k:=List.length_take_le _ _;rw[List.length_append] at hub
      have hnext:Sg.Kb f.length (Sg.AQ (f.take k)++(Sg.AE p).take (j+1))=U.set X (U.getD X 0+1):=by
       rw[CU _ _ hx,<- List.append_assoc,Sg.Oc,<- hUd];rfl
      obtain⟨u,hu⟩:∃ u,u=U.getD X 0:=⟨_,rfl⟩;rw[<- hu] at hub hnext hux;have hcu:=hU.cell (j:=X) (u := .int .i64 u) (by rw[Ct,hux];rfl);have hfu:=hU.free X;have hub1:0<=u:=hub.1;have hub2:u<=4194304:=by have:=hub.2;omega
      have H1:=lh hnext;have H2:=lh hx;clear hnext hx hu hux hUd hlenU hpos hub hbl htl htk;go_wp2;go_region
      go_wp2;go_roundw
      case rel =>
       have hU':=(hU.st X (.int .i64 (u+1))).dr;rw[Do,<- H1.out] at hU';exact⟨j+1,by omega,by go_num,(hei.set (by have:=Hsz.out;simp;omega) _).dr,(hl.set (by simp[AD];have:=(hl.lt (g:=bl) rfl).1;omega) _).dr,hU'⟩
      case measure=>simp[intOf];omega
     ·obtain rfl:j=(Sg.AE p).length:=by omega
      go_wp2;go_roundw
      case rel =>
       refine⟨k+1,by omega,by go_num,hei,?_,?_⟩
       ·rw[KW f k Hp.out];simpa using hU
       ·rw[If f k Hp.out,Hg.out,Hgood.out];rfl
      case measure=>simp[intOf];omega
  ·obtain rfl:k=f.length:=by omega
   rw[List.take_of_length_le (Nat.le_refl _)] at hgood hown;have hpos:=Sg.Fs f f.length 0 (by rw[List.take_of_length_le (Nat.le_refl _)];exact hgood);rw[List.take_of_length_le (Nat.le_refl _)] at hpos;have Hgood:=lh hgood;have Hpos:=lh hpos;clear hgood hpos;go_wp2;go_loop [7] (fun i=>∃ k:Nat,k<=f.length/\i= .int .i64 k/\Mg (Sg.Kb f.length (Sg.AQ f)) k) (fun i=>f.length - (intOf i).toNat)
   case atStart=>exact⟨0,Nat.zero_le _,rfl,KY _⟩
   case round =>
    obtain⟨k,hk,rfl,hfi⟩:=hrel;by_cases hlk:k+1<f.length
    ·obtain⟨U,hUd⟩:∃ U,U=Sg.Kb f.length (Sg.AQ f):=⟨_,rfl⟩;rw[<- hUd] at hown hfi;have hlenU:U.length=f.length:=by rw[hUd,Sg.Ii]
     obtain⟨u,hu⟩:∃ u,u=U.getD k 0:=⟨_,rfl⟩;have hux:U[k]? = some u:=by rw[hu,List.getD_eq_getElem?_getD,List.getElem?_eq_getElem (by omega)];rfl
     have hcu:=hown.cell (j:=k) (u := .int .i64 u) (by rw[Ct,hux];rfl);have Hu:=lh hu;have HU:=lh hUd;clear hu hux hlenU hUd;go_wp2
     ·have hne:¬ u=1:=by simpa using ‹(u != 1)=true›
      go_ret;refine⟨Aj ?_,hW.tr he⟩;have:=Sg.Ls f Hpos.out k hlk (by rw[<- HU.out,<- Hu.out];exact hne);simp[Sg.AU,this]
     ·have heq:u=1:=by simpa using ‹(u != 1)=false›
      go_round
      case rel=>exact⟨k+1,by omega,by go_num,by rw[<- HU.out];exact KZ hfi (by rw[<- Hu.out,heq])⟩
      case measure=>simp[intOf];omega
    ·have Hfi:=lh hfi;clear hfi;go_wp2_with (go_at_call 39;refine(Cp _ _ _ _).mono ?_;rintro e w4 ⟨rfl,rfl⟩)
     go_ret;refine⟨Aj ?_,hW.tr he⟩;have:=Sg.MH f Hpos.out (fun i hi=>Hfi.out i (by omega));simp[Sg.AU,this,Hgood.out]
end Go.Proofs.YthibllkleakiiaaGreatDoor
