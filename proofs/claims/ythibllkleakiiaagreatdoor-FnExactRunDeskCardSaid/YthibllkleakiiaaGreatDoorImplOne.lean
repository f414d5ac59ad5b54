/- Parts of one proof, joined. The program's functions on one part: contracts, and more. Conditions: in the theorems. -/
import Derived.Test.YthibllkleakiiaaGreatDoorSpecOne
namespace Go.Proofs.YthibllkleakiiaaGreatDoor
open Go.RowKit
theorem ID (n lo hi:Int)(w:World):Calls Tryz.prog 57 #[.int .i64 n,.int .i64 lo,.int .i64 hi] w fun e w'=>e= .returned (.bool (Sg.BZ n lo hi))/\w=w':=by
 by_cases h1:lo<=n
 ·by_cases h2:n<=hi
  ·go_enter Tryz.func57,Tryz.ntmps57;go_wp2;go_ret;exact⟨Aj (by simp[Sg.BZ,h1,h2]),rfl⟩
  ·go_enter Tryz.func57,Tryz.ntmps57;go_wp2;go_ret;exact⟨Aj (by simp[Sg.BZ,h2]),rfl⟩
 ·go_enter Tryz.func57,Tryz.ntmps57;go_wp2;go_ret;exact⟨Aj (by simp[Sg.BZ];omega),rfl⟩
theorem Aa.al2 (w:World)(o:Obj)(cs:Array Value)(e:TypeId):Aa w ((w.alloc o).alloc (.cells cs e)):=((Aa.rfl' w).al _).al _
theorem PG (w:World)(o:Obj)(l:List Int)(cs:Array Value)(hc:cs.toList=Ah l)(hl:l.length<=4194304) :
  AA ((w.alloc o).alloc (.cells cs 3)) w.heap.size 3 1 (some ⟨w.heap.size+1,0,none⟩) l.length l.length (Ah l):=by
 rw[<- hc];have:cs.size=l.length:=by rw[<- Array.length_toList,hc];simp
 have:=AA.new (w.alloc o) (B:=w.heap.size) 3 1 cs l.length (by simp) (by unfold maxLen;omega) (by omega);simpa using this
set_option maxHeartbeats 800000 in
theorem NT (p:Sg.At)(w:World):Calls Tryz.prog 81 #[pv p] w fun e w'=>∃ A' c',e= .returned (.slice A' (Sg.AE p).length c')/\AA w' w.heap.size 3 1 A' (Sg.AE p).length c' (Ah (Sg.AE p))/\Aa w w':=by
 by_cases h8:p.kind=8
 ·have hb:=lh (Un h8);have b8:(p.kind == 8)=true:=by simp[h8]
  clear h8;go_enter Tryz.func81,Tryz.ntmps81;go_wp2;go_ret;rw[hb.out];exact⟨_,_,rfl,PG w _ [p.a,p.b,p.c] _ rfl (by simp),Aa.al2 _ _ _ _⟩
 ·have b8:(p.kind == 8)=false:=by simp[h8]
  by_cases h2:2<=p.kind/\p.kind<=7
  ·have hb:=lh (Um h2);have hr:Sg.BZ p.kind 2 7=true:=by simp[Sg.BZ,h2]
   have Hr:=lh hr;clear h2 hr h8;go_enter Tryz.func81,Tryz.ntmps81;go_wp2_with (go_at_call 57;refine(ID _ _ _ _).mono ?_;rintro e w' ⟨rfl,rfl⟩;rw[Hr.out])
   go_ret;rw[hb.out];exact⟨_,_,rfl,PG w _ [p.a,p.b] _ rfl (by simp),Aa.al2 _ _ _ _⟩
  ·have hb:Sg.AE p=[]:=by unfold Sg.AE;rw[if_neg h8,if_neg h2]
   have Hb:=lh hb;have hr:Sg.BZ p.kind 2 7=false:=by simp[Sg.BZ];omega
   have Hr:=lh hr;clear h2 hr h8 hb;go_enter Tryz.func81,Tryz.ntmps81;go_wp2_with (go_at_call 57;refine(ID _ _ _ _).mono ?_;rintro e w' ⟨rfl,rfl⟩;rw[Hr.out])
   go_ret;rw[Hb.out];exact⟨none,0,rfl,AA.nil _ _ _ _,(Aa.rfl' w).al _⟩
theorem Ws {p:Sg.At}(h:p.kind=0):Sg.C8 p=(Sg.BZ p.n 0 99 && p.a == -1 && p.b == -1 && p.c == -1):=by unfold Sg.C8;rw[if_pos h]
theorem Wt {p:Sg.At}(h:p.kind=1):Sg.C8 p=(Sg.BZ p.n 0 9 && p.a == -1 && p.b == -1 && p.c == -1):=by unfold Sg.C8;rw[if_neg (by omega),if_pos h]
theorem Wu {p:Sg.At}(h:p.kind=8):Sg.C8 p=(p.n == 0):=by unfold Sg.C8;rw[if_neg (by omega),if_neg (by omega),if_pos h]
theorem Wv {p:Sg.At}(h:2<=p.kind/\p.kind<=7):Sg.C8 p=(p.n == 0 && p.c == -1):=by unfold Sg.C8;rw[if_neg (by omega),if_neg (by omega),if_neg (by omega),if_pos h]
theorem Ww {p:Sg.At}(h:p.kind<0\/8<p.kind):Sg.C8 p=false:=by unfold Sg.C8;rw[if_neg (by omega),if_neg (by omega),if_neg (by omega),if_neg (by omega)]
set_option maxRecDepth 100000 in
set_option maxHeartbeats 1000000 in
theorem RM (p:Sg.At)(w:World):Calls Tryz.prog 120 #[pv p] w fun e w'=>e= .returned (.bool (Sg.C8 p))/\Aa w w':=by
 obtain⟨k,a,b,c,n⟩:=p;have cases:k=0\/k=1\/k=8\/(2<=k/\k<=7)\/(k<0\/8<k):=by omega
 rcases cases with h | h | h | h | h
 ·have hg:=lh (Ws (p:=⟨k,a,b,c,n⟩) h);subst h;cases hr:Sg.BZ n 0 99
  all_goals
   have Hr:=lh hr;clear hr;go_enter Tryz.func120,Tryz.ntmps120;go_wp2_with (go_at_call 57;refine(ID _ _ _ _).mono ?_;rintro e w' ⟨rfl,rfl⟩;rw[Hr.out])
   all_goals (go_ret;exact⟨Aj (by rw[hg.out,Hr.out];simp_all),(Aa.rfl' w).al _⟩)
 ·have hg:=lh (Wt (p:=⟨k,a,b,c,n⟩) h);subst h;cases hr:Sg.BZ n 0 9
  all_goals
   have Hr:=lh hr;clear hr;go_enter Tryz.func120,Tryz.ntmps120;go_wp2_with (go_at_call 57;refine(ID _ _ _ _).mono ?_;rintro e w' ⟨rfl,rfl⟩;rw[Hr.out])
   all_goals (go_ret;exact⟨Aj (by rw[hg.out,Hr.out];simp_all),(Aa.rfl' w).al _⟩)
 ·have hg:=lh (Wu (p:=⟨k,a,b,c,n⟩) h);subst h;go_enter Tryz.func120,Tryz.ntmps120;go_wp2;go_ret;exact⟨Aj (by rw[hg.out]),(Aa.rfl' w).al _⟩
 ·have hg:=lh (Wv (p:=⟨k,a,b,c,n⟩) h);have hr:Sg.BZ k 2 7=true:=by simp[Sg.BZ,h]
  have Hr:=lh hr;have k0:(k == 0)=false:=by rw[beq_eq_false_iff_ne];omega
  have k1:(k == 1)=false:=by rw[beq_eq_false_iff_ne];omega
  have k8:(k == 8)=false:=by rw[beq_eq_false_iff_ne];omega
  clear hr h;go_enter Tryz.func120,Tryz.ntmps120;go_wp2_with (go_at_call 57;refine(ID _ _ _ _).mono ?_;rintro e w' ⟨rfl,rfl⟩;rw[Hr.out])
  all_goals (go_ret;exact⟨Aj (by rw[hg.out];simp_all),(Aa.rfl' w).al _⟩)
 ·have hg:=lh (Ww (p:=⟨k,a,b,c,n⟩) h);have hr:Sg.BZ k 2 7=false:=by simp[Sg.BZ];omega
  have Hr:=lh hr;have k0:(k == 0)=false:=by rw[beq_eq_false_iff_ne];omega
  have k1:(k == 1)=false:=by rw[beq_eq_false_iff_ne];omega
  have k8:(k == 8)=false:=by rw[beq_eq_false_iff_ne];omega
  clear hr h;go_enter Tryz.func120,Tryz.ntmps120;go_wp2_with (go_at_call 57;refine(ID _ _ _ _).mono ?_;rintro e w' ⟨rfl,rfl⟩;rw[Hr.out])
  go_ret;exact⟨Aj (by rw[hg.out]),(Aa.rfl' w).al _⟩
theorem Uo (l:List Int)(i:Nat)(k:Nat){x:Int}(hx:l[k]? = some x):((l.take (k+1)).all fun y=>Sg.BZ y 0 ((i:Int) - 1))=(((l.take k).all fun y=>Sg.BZ y 0 ((i:Int) - 1)) && Sg.BZ x 0 ((i:Int) - 1)):=by
 rw[CU l k hx,List.all_append];simp
theorem Mh (l:List Int)(P:Int->Bool)(k:Nat)(h:(l.take k).all P=false):l.all P=false:=by
 rw[List.all_eq_false] at h ⊢;obtain⟨x,hx,hp⟩:=h;exact⟨x,List.mem_of_mem_take hx,hp⟩
set_option maxRecDepth 100000 in
set_option maxHeartbeats 2000000 in
theorem GI (A:Option Addr)(c:Nat)(f:List Sg.At)(w:World)(h:Rd w 5 A f.length (AL f))(hb:f.length<=1048576) :
  Calls Tryz.prog 83 #[.agg #[.slice A f.length c]] w fun e w'=>e= .returned (.bool (Sg.AU f))/\Aa w w':=by
 cases hin:Sg.BZ f.length 1 12
 ·have Hin:=lh hin;clear hin;go_enter Tryz.func83,Tryz.ntmps83;go_wp2_with (go_at_call 57;refine(ID _ _ _ _).mono ?_;rintro e w1 ⟨rfl,rfl⟩;rw[Hin.out])
  go_ret;exact⟨Aj (by unfold Sg.AU;rw[Hin.out];rfl),(Aa.rfl' w).al _⟩
 have Hin:=lh hin;have h12:1<=f.length/\f.length<=12:=by unfold Sg.BZ at hin;simp at hin;omega
 have h1:=h12.1;have h2:=h12.2;clear hin h12;go_enter Tryz.func83,Tryz.ntmps83
 go_wp2_with (first
  | (go_at_call 57;refine(ID _ _ _ _).mono ?_;rintro e w1 ⟨rfl,rfl⟩;rw[Hin.out])
  | (at_make;refine Ie rfl rfl Bc (B:=w.heap.size+1) rfl rfl (by omega) (by omega) (by simp) ?_;intro w1 hown hext;have hbx:w1.cell? ⟨w.heap.size,0,none⟩=some (.slice A f.length c):=hext.cellE (by simp[go_sem])))
 obtain⟨W0,hW0⟩:∃ W0,W0=w.alloc (.cells #[.slice A f.length c] 68):=⟨_,rfl⟩;have hsz:W0.heap.size=w.heap.size+1:=by rw[hW0];simp
 have hW:Aa w W0:=by rw[hW0];exact(Aa.rfl' w).al _
 rw[<- hW0] at hext;rw[AJ _ _ rfl,show w.heap.size+1=W0.heap.size from hsz.symm] at hown;rw[show (w.alloc (Obj.cells #[Value.slice A f.length c] 68)).heap.size=w.heap.size+1 from by simp] at hown;have hu0:List.replicate f.length (Value.int .i64 0)=Ah (Sg.Kb f.length (Sg.AQ (f.take 0))):=by simp[Sg.AQ,Sg.Kb,Ah]
 rw[hu0] at hown;clear hu0 hW0;go_loopw [22] (fun i wr=>∃ (k:Nat),k<=f.length/\i= .int .i64 k/\Aa W0 wr/\AA wr W0.heap.size 3 1 (some ⟨w.heap.size+1,0,none⟩) f.length f.length (Ah (Sg.Kb f.length (Sg.AQ (f.take k))))/\Sg.Bp 0 (f.take k)=true) (fun i _=>f.length - (intOf i).toNat)
 case atStart=>exact⟨0,Nat.zero_le _,rfl,hext,hown,by simp[Sg.Bp]⟩
 case round =>
  clear hown hext;obtain⟨k,hk,rfl,he,hown,hgood⟩:=hrel;have Hsz:=lh hsz;have Hgood:=lh hgood;clear hsz hgood;have hwr:w.heap.size+1<wr.heap.size:=by have:=(hown.lt (g:=w.heap.size+1) rfl).2;omega
  by_cases hlt:k<f.length
  ·obtain⟨b,o,p,rfl,hp,hc0,hc1,hc2,hc3,hc4⟩:=(h.ext (hW.tr he)).atP hlt;have hbw:=Au hc0;have Hp:=lh hp;clear hp;cases hal:Sg.C8 p
   ·have Hal:=lh hal;clear hal;go_wp2_with (go_at_call 120;refine(RM p _).mono ?_;rintro e w2 ⟨rfl,he2⟩;rw[Hal.out])
    go_ret;refine⟨Aj ?_,(hW.tr (he.al _)).tr he2⟩;have:=GK f (k+1) 0 (by rw[If f k Hp.out];unfold Sg.A_;rw[Hal.out];simp);simp[Sg.AU,this]
   ·have Hal:=lh hal;clear hal
    go_wp2_with (first
     | (go_at_call 120;refine(RM p _).mono ?_;rintro e w2 ⟨rfl,he2⟩;rw[Hal.out];obtain⟨bc,bf⟩:=FH he2)
     | (go_at_call 81;refine(NT p _).mono ?_;rintro e w3 ⟨A3,c3,rfl,hown3,he3⟩))
    have he02:=(he.al (.cells #[.int .i64 p.kind,.int .i64 p.a,.int .i64 p.b,.int .i64 p.c,.int .i64 p.n] 111)).tr he2;have he03:=he02.tr he3;have hown0:=((hown.al _).ext he2).ext he3;have hsz2:wr.heap.size<w2.heap.size:=by have:=he2.size;simp at this;omega
    have hsz3:=he3.size;clear bc bf hc0 hc1 hc2 hc3 hc4 hown he
    go_loopw [33] (fun j wi=>∃ (j':Nat),j'<=(Sg.AE p).length/\j= .int .i64 j'/\Aa W0 wi/\AA wi w2.heap.size 3 1 A3 (Sg.AE p).length c3 (Ah (Sg.AE p)) /\
     AA wi W0.heap.size 3 1 (some ⟨w.heap.size+1,0,none⟩) f.length f.length (Ah (Sg.Kb f.length (Sg.AQ (f.take k)++(Sg.AE p).take j')))/\(((Sg.AE p).take j').all fun y=>Sg.BZ y 0 ((k:Int) - 1))=true) (fun j _=>(Sg.AE p).length - (intOf j).toNat)
    case atStart=>exact⟨0,Nat.zero_le _,rfl,he03,hown3,by simpa using hown0,rfl⟩
    case round =>
     clear hown3 hown0 he03 he02 he2 he3;obtain⟨j,hj,rfl,hei,hl,hU,hall⟩:=hrel;have Hall:=lh hall;clear hall;have hb3:=Sg.Hw p;by_cases hlj:j<(Sg.AE p).length
     ·obtain⟨bl,ol,x,rfl,hx,hcx⟩:=hl.rd.at1 hlj;have Hx:=lh hx;have Hat:=lh (Uo (Sg.AE p) k j hx);clear hx;cases hin:Sg.BZ x 0 ((k:Int) - 1)
      ·have Hi:=lh hin;clear hin;go_wp2_with (go_at_call 57;refine(ID _ _ _ _).mono ?_;rintro e w4 ⟨rfl,rfl⟩;rw[Hi.out])
       go_ret;refine⟨Aj ?_,hW.tr hei⟩;have h1:=Mh (Sg.AE p) (fun y=>Sg.BZ y 0 ((k:Int) - 1)) (j+1) (by rw[Hat.out,Hi.out];simp);have:=GK f (k+1) 0 (by rw[If f k Hp.out];unfold Sg.A_;rw[h1];simp);simp[Sg.AU,this]
      ·have Hi:=lh hin;have hxr:0<=x/\x<k:=by unfold Sg.BZ at hin;simp at hin;omega
       clear hin;obtain⟨X,rfl⟩:=Int.eq_ofNat_of_zero_le hxr.1;have hXn:X<f.length:=by omega
       obtain⟨U,hUd⟩:∃ U,U=Sg.Kb f.length (Sg.AQ (f.take k)++(Sg.AE p).take j):=⟨_,rfl⟩
       have hpos:∀ y ∈ Sg.AQ (f.take k)++(Sg.AE p).take j,0<=y:=by
        intro y hy;rcases List.mem_append.1 hy with hy | hy
        ·exact Sg.Fs f k 0 Hgood.out y hy
        ·have:=List.all_eq_true.1 Hall.out y hy;unfold Sg.BZ at this;simp at this;omega
       have hlenU:U.length=f.length:=by rw[hUd,Sg.Ii]
       have hux:U[X]? = some (U.getD X 0):=by rw[List.getD_eq_getElem?_getD,List.getElem?_eq_getElem (by omega)];rfl
       have hub:=Sg.Tv f.length _ X hpos hXn;rw[<- hUd] at hub hU;have hbl:=Sg.Lr (f.take k);have htl:((Sg.AE p).take j).length<=3:=Nat.le_trans (List.length_take_le _ _) (by omega);have htk:(f.take k).length<=k:=List.length_take_le _ _;rw[List.length_append] at hub
       have hnext:Sg.Kb f.length (Sg.AQ (f.take k)++(Sg.AE p).take (j+1))=U.set X (U.getD X 0+1):=by
        rw[CU _ _ Hx.out,<- List.append_assoc,Sg.Oc,<- hUd];rfl
       obtain⟨u,hu⟩:∃ u,u=U.getD X 0:=⟨_,rfl⟩;rw[<- hu] at hub hnext hux;have hcu:=hU.cell (j:=X) (u := .int .i64 u) (by rw[Ct,hux];rfl);have hfu:=hU.free X;have hub1:0<=u:=hub.1;have hub2:u<=4194304:=by have:=hub.2;omega
       have H1:=lh hnext;clear hnext hu hux hUd hlenU hpos hub hbl htl htk;go_wp2_with (go_at_call 57;refine(ID _ _ _ _).mono ?_;rintro e w4 ⟨rfl,rfl⟩;rw[Hi.out])
       go_roundw
       case rel =>
        have hU':=hU.st X (.int .i64 (u+1));rw[Do,<- H1.out] at hU';exact⟨j+1,by omega,by go_num,hei.set (by have:=Hsz.out;simp;omega) _,hl.set (by simp[AD];have:=(hl.lt (g:=bl) rfl).1;have:=Hsz.out;omega) _,hU',by rw[Hat.out,Hall.out,Hi.out];rfl⟩
       case measure=>simp[intOf];omega
     ·obtain rfl:j=(Sg.AE p).length:=by omega
      go_wp2;go_roundw
      case rel =>
       have hall:=Hall.out;rw[List.take_of_length_le (Nat.le_refl _)] at hall;refine⟨k+1,by omega,by go_num,hei,?_,?_⟩
       ·rw[KW f k Hp.out];simpa using hU
       ·rw[If f k Hp.out,Hgood.out];unfold Sg.A_;rw[Hal.out,hall];rfl
      case measure=>simp[intOf];omega
  ·obtain rfl:k=f.length:=by omega
   have hgood:=Hgood.out;rw[List.take_of_length_le (Nat.le_refl _)] at hgood hown;have hpos:=Sg.Fs f f.length 0 (by rw[List.take_of_length_le (Nat.le_refl _)];exact hgood);rw[List.take_of_length_le (Nat.le_refl _)] at hpos;have Hgd:=lh hgood;have Hpos:=lh hpos;clear hgood hpos Hgood;go_wp2;go_loop [56] (fun i=>∃ k:Nat,k<=f.length - 1/\i= .int .i64 k/\Mg (Sg.Kb f.length (Sg.AQ f)) k) (fun i=>f.length - (intOf i).toNat)
   case atStart=>exact⟨0,Nat.zero_le _,rfl,KY _⟩
   case round =>
    obtain⟨k,hk,rfl,hfi⟩:=hrel;by_cases hlk:k<f.length - 1
    ·obtain⟨U,hUd⟩:∃ U,U=Sg.Kb f.length (Sg.AQ f):=⟨_,rfl⟩;rw[<- hUd] at hown hfi;have hlenU:U.length=f.length:=by rw[hUd,Sg.Ii]
     obtain⟨u,hu⟩:∃ u,u=U.getD k 0:=⟨_,rfl⟩;have hux:U[k]? = some u:=by rw[hu,List.getD_eq_getElem?_getD,List.getElem?_eq_getElem (by omega)];rfl
     have hcu:=hown.cell (j:=k) (u := .int .i64 u) (by rw[Ct,hux];rfl);have Hu:=lh hu;have HU:=lh hUd;clear hu hux hlenU hUd;go_wp2
     ·have hne:¬ u=1:=by simpa using ‹(u != 1)=true›
      go_ret;refine⟨Aj ?_,hW.tr he⟩;have:=Sg.Ls f Hpos.out k (by omega) (by rw[<- HU.out,<- Hu.out];exact hne);simp[Sg.AU,this]
     ·have heq:u=1:=by simpa using ‹(u != 1)=false›
      go_round
      case rel=>exact⟨k+1,by omega,by go_num,by rw[<- HU.out];exact KZ hfi (by rw[<- Hu.out,heq])⟩
      case measure=>simp[intOf];omega
    ·have Hfi:=lh hfi;clear hfi;go_wp2;go_ret;refine⟨Aj ?_,hW.tr he⟩;have:=Sg.MH f Hpos.out (fun i hi=>Hfi.out i (by omega));simp[Sg.AU,this,Hgd.out,Hin.out]
set_option maxHeartbeats 800000 in
theorem Wx (k x y:Int)(w:World)(hx:0<=x)(hx':x<=999)(hy:0<=y)(hy':y<=999) :
  Calls Tryz.prog 160 #[.int .i64 k,.int .i64 x,.int .i64 y] w fun e w'=>e= .returned (.int .i64 (Sg.Fg k x y))/\w=w':=by
 have hxy:0<=x * y:=Int.mul_nonneg hx hy;have hxy':x * y<=999 * 999:=Int.mul_le_mul hx' hy' hy (by omega);have cases:k=2\/k=3\/k=4\/k=5\/k=6\/(k<2\/6<k):=by omega
 rcases cases with rfl | rfl | rfl | rfl | rfl | h
 all_goals
  go_enter Tryz.func160,Tryz.ntmps160;go_wp2
  all_goals (go_ret;exact⟨EZ (by simp[Sg.Fg] <;> omega),rfl⟩)
theorem TY (A:Option Addr)(n c:Nat)(w:World)(h1:0<n)(h2:n<=1048576):Calls Tryz.prog 123 #[.agg #[.slice A n c]] w fun e w'=>e= .returned (.int .i64 ((n:Int) - 1))/\Aa w w':=by
 go_enter Tryz.func123,Tryz.ntmps123;go_wp2;go_ret;exact⟨rfl,(Aa.rfl' w).al _⟩
theorem JG (A:Option Addr)(n c:Nat)(w:World)(h:n<=c)(_hm:c<=maxLen):Calls Tryz.prog 48 #[.slice A n c] w fun e w'=>e= .returned (.slice A n n)/\w=w':=by
 unfold maxLen at _hm;go_enter Tryz.func48,Tryz.ntmps48;go_wp2;go_ret;exact⟨rfl,rfl⟩
theorem Vr (A:Option Addr)(len c:Nat)(l:List Int)(n:Int)(w:World)(h:Rd w 1 A len (Ah l)) :
  Calls Tryz.prog 161 #[.slice A len c,.int .i64 n] w fun e w'=>e= .returned (.int .i64 (Db l n))/\Aa w w':=by
 have hm:=h.big;obtain rfl:=h.len;go_enter Tryz.func161,Tryz.ntmps161;go_wp2;go_loop [8] (fun i=>∃ k:Nat,k<=l.length/\i= .int .i64 k/\DT n k (l.drop k)=Db l n) (fun i=>l.length - (intOf i).toNat)
 case atStart=>exact⟨0,Nat.zero_le _,rfl,rfl⟩
 case round =>
  obtain⟨k,hk,rfl,hpl⟩:=hrel;by_cases hlt:k<l.length
  ·obtain⟨b,o,x,rfl,hx,hc⟩:=h.at1 hlt;rw[Dy l k hx,DT] at hpl;have H:=lh hpl;clear hpl hx;by_cases hn:x=n
   ·have b1:(n == x)=true:=by simp[hn]
    have Hn:=lh hn;clear hn;go_wp2;go_ret;exact⟨EZ (by rw[<- H.out,if_pos Hn.out]),Aa.rfl' _⟩
   ·have b1:(n == x)=false:=by simp;exact fun e=>hn e.symm
    have Hn:=lh hn;clear hn;go_wp2;go_round
    case rel=>exact⟨k+1,by omega,by go_num,by rw[<- H.out,if_neg Hn.out]⟩
    case measure=>simp[intOf];omega
  ·have H:=lh hpl;clear hpl;go_wp2;go_ret;exact⟨EZ (by rw[<- H.out,List.drop_eq_nil_of_le (by omega)];rfl),Aa.rfl' _⟩
theorem Eo (A:Option Addr)(len c:Nat)(l:List Int)(n:Int)(w:World)(h:Rd w 1 A len (Ah l)) :
  Calls Tryz.prog 127 #[.slice A len c,.int .i64 n] w fun e w'=>e= .returned (.bool (decide (n ∈ l)))/\Aa w w':=by
 have Hc:=lh (Vr A len c l n w h);have Hn:=lh (EK l n);go_enter Tryz.func127,Tryz.ntmps127;go_wp2_with (go_at_call 161;refine Hc.out.mono ?_;rintro e w1 ⟨rfl,he1⟩)
 go_ret;refine⟨Aj ?_,he1⟩;have:=Hn.out;rw[Bool.eq_iff_iff];simp only[decide_eq_true_eq];constructor
 ·intro h0;exact Classical.byContradiction fun hn=>by have:=this.2 hn;omega
 ·intro h0;exact Int.not_lt.1 fun hn=>this.1 hn h0
set_option maxRecDepth 100000 in
set_option maxHeartbeats 2000000 in
theorem V7 {fid:Nat}{caps:List Value}{σ:Type}{inv:σ->(Nat->Prop)->World->Prop}{val:σ->Int->Int}{nxt:σ->Int->σ}{dom:Int->Prop}{L:Nat}(C:TP Tryz.prog fid caps σ inv val nxt dom L)(Af:Option Addr)(cf:Nat)(f:List Sg.At)(ok:Sg.WO f dom)(k:Nat) :
  ∀ (i:Nat) (s:σ) (F:Nat->Prop) (w:World),i<k->i<f.length->k<=12->inv s F w->Rd w 5 Af f.length (AL f)->Mj F Af ->
  Calls Tryz.prog 125 #[.agg #[.slice Af f.length cf],.int .i64 i,.func (.func fid) #[] caps.toArray] w fun e w'=>e= .returned (.int .i64 (Sg.Cl f val nxt k i s).1) /\
   (∃ F',inv (Sg.Cl f val nxt k i s).2 F' w'/\AH F w w'/\∀ b,F' b->F b\/w.heap.size<=b)/\0<=(Sg.Cl f val nxt k i s).1/\(Sg.Cl f val nxt k i s).1<=999:=by
 induction k with
 | zero=>intro i s F w h;omega
 | succ k ih =>
  intro i s F w hik hif hk12 hinv hf hoff;have IH:=lh ih;clear ih;obtain⟨b,o,p,rfl,hp,hc0,hc1,hc2,hc3,hc4⟩:=hf.atP hif;have hlen:=ok.len;have hgp:=ok.good i p hp;have hrk:=Sg.PW f val nxt k i s hp;have hrp:=ok.reads p (List.mem_of_getElem? hp);have hbw:=Au hc0;have hFb:¬ F b:=hoff b rfl;have hFo:∀ x,F x->x<w.heap.size:=fun x=>C.old s F w x hinv;obtain⟨pk,pa,pb,pc,pn⟩:=p;dsimp only at *;have e0:=((Aa.rfl' w).al (.cells #[.slice (some ⟨b,o,none⟩) f.length cf] 68)).al (.cells #[.int .i64 pk,.int .i64 pa,.int .i64 pb,.int .i64 pc,.int .i64 pn] 111);have hent:=C.ent;have HI:=lh hinv;have HFo:=lh hFo;have HFb:=lh hFb;have HE:=lh e0;clear hinv hFo hFb hoff e0;have cases:pk=0\/pk=1\/(2<=pk/\pk<=7)\/pk=8\/(pk<0\/8<pk):=by omega
  rcases cases with h | h | h | h | h
  ·subst h;rw[Rx i rfl] at hgp;simp only[Bool.and_eq_true,Sg.BZ,decide_eq_true_eq] at hgp;rw[if_pos rfl] at hrk;have Hrk:=lh hrk;clear hp hrk hrp;go_enter Tryz.func125,Tryz.ntmps125;go_wp2;go_ret;rw[Hrk.out];exact⟨rfl,⟨F,C.ext _ _ _ _ HI.out HE.out,AH.of HE.out,fun x hx=>.inl hx⟩,by show 0<=pn;omega,by show pn<=999;omega⟩
  ·subst h;rw[if_neg (by omega),if_pos rfl] at hrk;have hd:=hrp rfl;have Hrk:=lh hrk;have Hd:=lh hd;have HC:=lh C;clear hp hrk hgp hrp hd C;go_enter Tryz.func125,Tryz.ntmps125;go_wp2_with fail
   refine(HC.out.call s F _ pn (HC.out.ext _ _ _ _ HI.out HE.out) Hd.out).mono ?_;rintro e w1 ⟨rfl,F',hi1,hm1,hF1⟩;have hr1:=HC.out.ran s F _ pn (HC.out.ext _ _ _ _ HI.out HE.out) Hd.out;have Hfin:=lh (And.intro hi1 (And.intro hm1 hF1));clear hi1 hm1 hF1;go_wp2;go_ret;rw[Hrk.out];refine⟨rfl,⟨F',Hfin.out.1,(AH.of HE.out).tr' Hfin.out.2.1,fun x hx=>(Hfin.out.2.2 x hx).elim .inl fun e=>.inr (Nat.le_trans HE.out.size e)⟩,hr1⟩
  ·rw[Ry i h] at hgp;simp only[Bool.and_eq_true,Sg.BZ,decide_eq_true_eq] at hgp;rw[if_neg (by omega),if_neg (by omega),if_neg (by omega)] at hrk;obtain⟨⟨⟨⟨ha0,ha1⟩,hb0,hb1⟩,_⟩,_⟩:=hgp;obtain⟨a,rfl⟩:=Int.eq_ofNat_of_zero_le ha0;obtain⟨d,rfl⟩:=Int.eq_ofNat_of_zero_le hb0;have k0:(pk == 0)=false:=by rw[beq_eq_false_iff_ne];omega
   have k1:(pk == 1)=false:=by rw[beq_eq_false_iff_ne];omega
   have k8:(pk == 8)=false:=by rw[beq_eq_false_iff_ne];omega
   have hFo:=HFo.out;have nF0:¬ F w.heap.size:=fun e=>by have:=hFo _ e;omega
   have nF1:¬ F (w.heap.size+1):=fun e=>by have:=hFo _ e;omega
   have HOff:=lh (show Mj F (some ⟨b,o,none⟩) from fun x hx=>by simp only[AD,Option.map_some,Option.some.injEq] at hx;subst hx;exact HFb.out);have HC:=lh C;clear hFo C hp hrp;generalize hr1:Sg.Cl f val nxt k a s=r1 at *;obtain⟨v1,s1⟩:=r1;try dsimp only at *
   have Hr1:=lh hr1;clear hr1;generalize hr2:Sg.Cl f val nxt k d s1=r2 at *;obtain⟨v2,s2⟩:=r2;try dsimp only at *
   have Hr2:=lh hr2;have Hrk:=lh hrk;clear hr2 hrk;go_enter Tryz.func125,Tryz.ntmps125;go_wp2_with fail
   refine(IH.out a s F _ (by omega) (by omega) (by omega) (HC.out.ext _ _ _ _ HI.out HE.out) (hf.ext HE.out) HOff.out).mono ?_;rw[Hr1.out];rintro e w1 ⟨rfl,⟨F1,hi1,hm1,hF1⟩,hx0,hx1⟩;have q0:w1.cell? ⟨w.heap.size,0,none⟩=some (.slice (some ⟨b,o,none⟩) f.length cf):=hm1.cellE (by simp[go_sem]) nF0;have q1:w1.cell? ⟨w.heap.size+1,0,none⟩=some (.int .i64 pk):=hm1.cellE (by simp[go_sem]) nF1;have q2:w1.cell? ⟨w.heap.size+1,1,none⟩=some (.int .i64 a):=hm1.cellE (by simp[go_sem]) nF1;have q3:w1.cell? ⟨w.heap.size+1,2,none⟩=some (.int .i64 d):=hm1.cellE (by simp[go_sem]) nF1;have q4:w1.cell? ⟨w.heap.size+1,3,none⟩=some (.int .i64 pc):=hm1.cellE (by simp[go_sem]) nF1
   have hoff1:Mj F1 (some ⟨b,o,none⟩):=by
    intro x hx hFx;simp only[AD,Option.map_some,Option.some.injEq] at hx;subst hx;rcases hF1 _ hFx with hh | hh
    ·exact HFb.out hh
    ·have:=HE.out.size;omega
   have hrd1:=(hf.ext HE.out).mod hm1 HOff.out;have hz1:w.heap.size+1<w1.heap.size:=by have:=hm1.size;simp at this;omega
   have n10:¬ F1 w.heap.size:=by
    intro e;rcases hF1 _ e with hh | hh
    ·exact nF0 hh
    ·simp only[World.size_alloc] at hh;omega
   have n11:¬ F1 (w.heap.size+1):=by
    intro e;rcases hF1 _ e with hh | hh
    ·exact nF1 hh
    ·simp only[World.size_alloc] at hh;omega
   have Hi1:=lh hi1;have Hm1:=lh hm1;have HF1:=lh hF1;try dsimp only at *
   clear hi1 hm1 hF1;go_wp2_with fail
   refine(IH.out d s1 F1 _ (by omega) (by omega) (by omega) Hi1.out hrd1 hoff1).mono ?_;rw[Hr2.out];rintro e w2 ⟨rfl,⟨F2,hi2,hm2,hF2⟩,hy0,hy1⟩;have p1:w2.cell? ⟨w.heap.size+1,0,none⟩=some (.int .i64 pk):=hm2.cellE q1 n11;have Hfin:=lh (And.intro hi2 (And.intro hm2 hF2));have hj:=Sg.FX pk v1 v2 ⟨hx0,hx1⟩ ⟨hy0,hy1⟩;try dsimp only at *
   clear hi2 hm2 hF2;go_wp2_with (go_at_call 160;refine(Wx _ _ _ _ hx0 hx1 hy0 hy1).mono ?_;rintro e w' ⟨rfl,rfl⟩)
   go_ret;rw[Hrk.out];refine⟨rfl,⟨F2,Hfin.out.1,((AH.of HE.out).tr' Hm1.out).tr Hfin.out.2.1 (fun x hx=>(HF1.out x hx).elim .inl fun e=>.inr (Nat.le_trans HE.out.size e)),fun x hx=>(Hfin.out.2.2 x hx).elim (fun e=>(HF1.out x e).elim .inl fun e=>.inr (Nat.le_trans HE.out.size e)) fun e=>.inr (by omega)⟩,?_⟩;exact hj
  ·subst h;rw[Rz i rfl] at hgp;simp only[Bool.and_eq_true,Sg.BZ,decide_eq_true_eq] at hgp;rw[if_neg (by omega),if_neg (by omega),if_pos rfl] at hrk;obtain⟨⟨⟨⟨ha0,ha1⟩,hb0,hb1⟩,hd0,hd1⟩,_⟩:=hgp;obtain⟨a,rfl⟩:=Int.eq_ofNat_of_zero_le ha0;obtain⟨d,rfl⟩:=Int.eq_ofNat_of_zero_le hb0;obtain⟨d',rfl⟩:=Int.eq_ofNat_of_zero_le hd0;have hFo:=HFo.out;have nF0:¬ F w.heap.size:=fun e=>by have:=hFo _ e;omega
   have nF1:¬ F (w.heap.size+1):=fun e=>by have:=hFo _ e;omega
   have HOff:=lh (show Mj F (some ⟨b,o,none⟩) from fun x hx=>by simp only[AD,Option.map_some,Option.some.injEq] at hx;subst hx;exact HFb.out);have HC:=lh C;clear hFo C hp hrp;generalize hr1:Sg.Cl f val nxt k a s=r1 at *;obtain⟨v1,s1⟩:=r1;try dsimp only at *
   have Hr1:=lh hr1;clear hr1;by_cases hv1:v1=0
   ·rw[if_pos hv1] at hrk;generalize hr2:Sg.Cl f val nxt k d' s1=r2 at *;obtain⟨v2,s2⟩:=r2;try dsimp only at *
    have Hr2:=lh hr2;have Hrk:=lh hrk;have z1:(v1 != 0)=false:=by simp[hv1]
    clear hr2 hrk hv1;go_enter Tryz.func125,Tryz.ntmps125;go_wp2_with fail
    refine(IH.out a s F _ (by omega) (by omega) (by omega) (HC.out.ext _ _ _ _ HI.out HE.out) (hf.ext HE.out) HOff.out).mono ?_;rw[Hr1.out];rintro e w1 ⟨rfl,⟨F1,hi1,hm1,hF1⟩,hx0,hx1⟩;have q0:w1.cell? ⟨w.heap.size,0,none⟩=some (.slice (some ⟨b,o,none⟩) f.length cf):=hm1.cellE (by simp[go_sem]) nF0;have q1:w1.cell? ⟨w.heap.size+1,0,none⟩=some (.int .i64 8):=hm1.cellE (by simp[go_sem]) nF1;have q2:w1.cell? ⟨w.heap.size+1,1,none⟩=some (.int .i64 a):=hm1.cellE (by simp[go_sem]) nF1;have q3:w1.cell? ⟨w.heap.size+1,2,none⟩=some (.int .i64 d):=hm1.cellE (by simp[go_sem]) nF1;have q4:w1.cell? ⟨w.heap.size+1,3,none⟩=some (.int .i64 d'):=hm1.cellE (by simp[go_sem]) nF1
    have hoff1:Mj F1 (some ⟨b,o,none⟩):=by
     intro x hx hFx;simp only[AD,Option.map_some,Option.some.injEq] at hx;subst hx;rcases hF1 _ hFx with hh | hh
     ·exact HFb.out hh
     ·have:=HE.out.size;omega
    have hrd1:=(hf.ext HE.out).mod hm1 HOff.out;have hz1:w.heap.size+1<w1.heap.size:=by have:=hm1.size;simp at this;omega
    have n10:¬ F1 w.heap.size:=by
     intro e;rcases hF1 _ e with hh | hh
     ·exact nF0 hh
     ·simp only[World.size_alloc] at hh;omega
    have n11:¬ F1 (w.heap.size+1):=by
     intro e;rcases hF1 _ e with hh | hh
     ·exact nF1 hh
     ·simp only[World.size_alloc] at hh;omega
    have Hi1:=lh hi1;have Hm1:=lh hm1;have HF1:=lh hF1;try dsimp only at *
    clear hi1 hm1 hF1;go_wp2_with fail
    refine(IH.out d' s1 F1 _ (by omega) (by omega) (by omega) Hi1.out hrd1 hoff1).mono ?_;rw[Hr2.out];rintro e w2 ⟨rfl,⟨F2,hi2,hm2,hF2⟩,hy0,hy1⟩;have Hfin:=lh (And.intro hi2 (And.intro hm2 hF2));try dsimp only at *
    clear hi2 hm2 hF2;go_wp2;go_ret;rw[Hrk.out];refine⟨rfl,⟨F2,Hfin.out.1,((AH.of HE.out).tr' Hm1.out).tr Hfin.out.2.1 (fun x hx=>(HF1.out x hx).elim .inl fun e=>.inr (Nat.le_trans HE.out.size e)),fun x hx=>(Hfin.out.2.2 x hx).elim (fun e=>(HF1.out x e).elim .inl fun e=>.inr (Nat.le_trans HE.out.size e)) fun e=>.inr (by omega)⟩,?_⟩;exact⟨hy0,hy1⟩
   ·rw[if_neg hv1] at hrk;generalize hr2:Sg.Cl f val nxt k d s1=r2 at *;obtain⟨v2,s2⟩:=r2;try dsimp only at *
    have Hr2:=lh hr2;have Hrk:=lh hrk;have z1:(v1 != 0)=true:=by simp[hv1]
    clear hr2 hrk hv1;go_enter Tryz.func125,Tryz.ntmps125;go_wp2_with fail
    refine(IH.out a s F _ (by omega) (by omega) (by omega) (HC.out.ext _ _ _ _ HI.out HE.out) (hf.ext HE.out) HOff.out).mono ?_;rw[Hr1.out];rintro e w1 ⟨rfl,⟨F1,hi1,hm1,hF1⟩,hx0,hx1⟩;have q0:w1.cell? ⟨w.heap.size,0,none⟩=some (.slice (some ⟨b,o,none⟩) f.length cf):=hm1.cellE (by simp[go_sem]) nF0;have q1:w1.cell? ⟨w.heap.size+1,0,none⟩=some (.int .i64 8):=hm1.cellE (by simp[go_sem]) nF1;have q2:w1.cell? ⟨w.heap.size+1,1,none⟩=some (.int .i64 a):=hm1.cellE (by simp[go_sem]) nF1;have q3:w1.cell? ⟨w.heap.size+1,2,none⟩=some (.int .i64 d):=hm1.cellE (by simp[go_sem]) nF1;have q4:w1.cell? ⟨w.heap.size+1,3,none⟩=some (.int .i64 d'):=hm1.cellE (by simp[go_sem]) nF1
    have hoff1:Mj F1 (some ⟨b,o,none⟩):=by
     intro x hx hFx;simp only[AD,Option.map_some,Option.some.injEq] at hx;subst hx;rcases hF1 _ hFx with hh | hh
     ·exact HFb.out hh
     ·have:=HE.out.size;omega
    have hrd1:=(hf.ext HE.out).mod hm1 HOff.out;have hz1:w.heap.size+1<w1.heap.size:=by have:=hm1.size;simp at this;omega
    have n10:¬ F1 w.heap.size:=by
     intro e;rcases hF1 _ e with hh | hh
     ·exact nF0 hh
     ·simp only[World.size_alloc] at hh;omega
    have n11:¬ F1 (w.heap.size+1):=by
     intro e;rcases hF1 _ e with hh | hh
     ·exact nF1 hh
     ·simp only[World.size_alloc] at hh;omega
    have Hi1:=lh hi1;have Hm1:=lh hm1;have HF1:=lh hF1;try dsimp only at *
    clear hi1 hm1 hF1;go_wp2_with fail
    refine(IH.out d s1 F1 _ (by omega) (by omega) (by omega) Hi1.out hrd1 hoff1).mono ?_;rw[Hr2.out];rintro e w2 ⟨rfl,⟨F2,hi2,hm2,hF2⟩,hy0,hy1⟩;have Hfin:=lh (And.intro hi2 (And.intro hm2 hF2));try dsimp only at *
    clear hi2 hm2 hF2;go_wp2;go_ret;rw[Hrk.out];refine⟨rfl,⟨F2,Hfin.out.1,((AH.of HE.out).tr' Hm1.out).tr Hfin.out.2.1 (fun x hx=>(HF1.out x hx).elim .inl fun e=>.inr (Nat.le_trans HE.out.size e)),fun x hx=>(Hfin.out.2.2 x hx).elim (fun e=>(HF1.out x e).elim .inl fun e=>.inr (Nat.le_trans HE.out.size e)) fun e=>.inr (by omega)⟩,?_⟩;exact⟨hy0,hy1⟩
  ·rw[RA i h] at hgp;cases hgp
end Go.Proofs.YthibllkleakiiaaGreatDoor
