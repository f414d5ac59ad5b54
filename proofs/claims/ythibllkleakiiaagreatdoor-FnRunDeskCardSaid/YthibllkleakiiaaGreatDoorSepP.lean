/- Parts of one proof, joined. Own things in another order, and some of them. Conditions: none. -/
import Derived.Test.YthibllkleakiiaaGreatDoorSpecOne
namespace Go.Proofs.YthibllkleakiiaaGreatDoor
open Go.RowKit
theorem I_ (n lo hi:Int)(w:World):Calls Tryz.prog 57 #[.int .i64 n,.int .i64 lo,.int .i64 hi] w fun e w'=>e= .returned (.bool (Sg.Cb n lo hi))/\w=w':=by
 by_cases h1:lo<=n
 ·by_cases h2:n<=hi
  ·go_enter Tryz.func57,Tryz.ntmps57;go_wp2;go_ret;exact⟨Aj (by simp[Sg.Cb,h1,h2]),rfl⟩
  ·go_enter Tryz.func57,Tryz.ntmps57;go_wp2;go_ret;exact⟨Aj (by simp[Sg.Cb,h2]),rfl⟩
 ·go_enter Tryz.func57,Tryz.ntmps57;go_wp2;go_ret;exact⟨Aj (by simp[Sg.Cb];omega),rfl⟩
theorem Aa.al2 (w:World)(o:Obj)(cs:Array Value)(e:TypeId):Aa w ((w.alloc o).alloc (.cells cs e)):=((Aa.rfl' w).al _).al _
theorem QS (w:World)(o:Obj)(l:List Int)(cs:Array Value)(hc:cs.toList=Ah l)(hl:l.length<=4194304) :
  Au ((w.alloc o).alloc (.cells cs 3)) w.heap.size 3 1 (some ⟨w.heap.size+1,0,none⟩) l.length l.length (Ah l):=by
 rw[<- hc];have:cs.size=l.length:=by rw[<- Array.length_toList,hc];simp
 have:=Au.new (w.alloc o) (B:=w.heap.size) 3 1 cs l.length (by simp) (by unfold maxLen;omega) (by omega);simpa using this
set_option maxHeartbeats 800000 in
theorem Ph (p:Sg.At)(w:World):Calls Tryz.prog 81 #[pv p] w fun e w'=>∃ A' c',e= .returned (.slice A' (Sg.AD p).length c')/\Au w' w.heap.size 3 1 A' (Sg.AD p).length c' (Ah (Sg.AD p))/\Aa w w':=by
 by_cases h8:p.kind=8
 ·have hb:=lh (VK h8);have b8:(p.kind == 8)=true:=by simp[h8]
  clear h8;go_enter Tryz.func81,Tryz.ntmps81;go_wp2;go_ret;rw[hb.out];exact⟨_,_,rfl,QS w _ [p.a,p.b,p.c] _ rfl (by simp),Aa.al2 _ _ _ _⟩
 ·have b8:(p.kind == 8)=false:=by simp[h8]
  by_cases h2:2<=p.kind/\p.kind<=7
  ·have hb:=lh (VJ h2);have hr:Sg.Cb p.kind 2 7=true:=by simp[Sg.Cb,h2]
   have Hr:=lh hr;clear h2 hr h8;go_enter Tryz.func81,Tryz.ntmps81;go_wp2_with (go_at_call 57;refine(I_ _ _ _ _).mono ?_;rintro e w' ⟨rfl,rfl⟩;rw[Hr.out])
   go_ret;rw[hb.out];exact⟨_,_,rfl,QS w _ [p.a,p.b] _ rfl (by simp),Aa.al2 _ _ _ _⟩
  ·have hb:Sg.AD p=[]:=by unfold Sg.AD;rw[if_neg h8,if_neg h2]
   have Hb:=lh hb;have hr:Sg.Cb p.kind 2 7=false:=by simp[Sg.Cb];omega
   have Hr:=lh hr;clear h2 hr h8 hb;go_enter Tryz.func81,Tryz.ntmps81;go_wp2_with (go_at_call 57;refine(I_ _ _ _ _).mono ?_;rintro e w' ⟨rfl,rfl⟩;rw[Hr.out])
   go_ret;rw[Hb.out];exact⟨none,0,rfl,Au.nil _ _ _ _,(Aa.rfl' w).al _⟩
theorem Ya {p:Sg.At}(h:p.kind=0):Sg.Di p=(Sg.Cb p.n 0 99 && p.a == -1 && p.b == -1 && p.c == -1):=by unfold Sg.Di;rw[if_pos h]
theorem Yb {p:Sg.At}(h:p.kind=1):Sg.Di p=(Sg.Cb p.n 0 9 && p.a == -1 && p.b == -1 && p.c == -1):=by unfold Sg.Di;rw[if_neg (by omega),if_pos h]
theorem Yc {p:Sg.At}(h:p.kind=8):Sg.Di p=(p.n == 0):=by unfold Sg.Di;rw[if_neg (by omega),if_neg (by omega),if_pos h]
theorem Yd {p:Sg.At}(h:2<=p.kind/\p.kind<=7):Sg.Di p=(p.n == 0 && p.c == -1):=by unfold Sg.Di;rw[if_neg (by omega),if_neg (by omega),if_neg (by omega),if_pos h]
theorem Ye {p:Sg.At}(h:p.kind<0\/8<p.kind):Sg.Di p=false:=by unfold Sg.Di;rw[if_neg (by omega),if_neg (by omega),if_neg (by omega),if_neg (by omega)]
theorem zv0{p:Prop}(h:p:=by
 have Hr:=lh hr;clear hr;go_enter Tryz.func120,Tryz.ntmps120;go_wp2_with (go_at_call 57;refine(I_ _ _ _ _).mono ?_;rintro e w' ⟨rfl,rfl⟩;rw[Hr.out])
 all_goals (go_ret;exact⟨Aj (by rw[hg.out,Hr.out];simp_all),(Aa.rfl' w).al _⟩)):p:=h
set_option maxRecDepth 100000 in
set_option maxHeartbeats 1000000 in
theorem To (p:Sg.At)(w:World):Calls Tryz.prog 120 #[pv p] w fun e w'=>e= .returned (.bool (Sg.Di p))/\Aa w w':=by
 obtain⟨k,a,b,c,n⟩:=p;have cases:k=0\/k=1\/k=8\/(2<=k/\k<=7)\/(k<0\/8<k):=by omega
 rcases cases with h | h | h | h | h
 ·have hg:=lh (Ya (p:=⟨k,a,b,c,n⟩) h);subst h;cases hr:Sg.Cb n 0 99
  all_goals
   exact zv0
 ·have hg:=lh (Yb (p:=⟨k,a,b,c,n⟩) h);subst h;cases hr:Sg.Cb n 0 9
  all_goals
   exact zv0
 ·have hg:=lh (Yc (p:=⟨k,a,b,c,n⟩) h);subst h;go_enter Tryz.func120,Tryz.ntmps120;go_wp2;go_ret;exact⟨Aj (by rw[hg.out]),(Aa.rfl' w).al _⟩
 ·have hg:=lh (Yd (p:=⟨k,a,b,c,n⟩) h);have hr:Sg.Cb k 2 7=true:=by simp[Sg.Cb,h]
  have Hr:=lh hr;have k0:(k == 0)=false:=by rw[beq_eq_false_iff_ne];omega
  have k1:(k == 1)=false:=by rw[beq_eq_false_iff_ne];omega
  have k8:(k == 8)=false:=by rw[beq_eq_false_iff_ne];omega
  clear hr h;go_enter Tryz.func120,Tryz.ntmps120;go_wp2_with (go_at_call 57;refine(I_ _ _ _ _).mono ?_;rintro e w' ⟨rfl,rfl⟩;rw[Hr.out])
  all_goals (go_ret;exact⟨Aj (by rw[hg.out];simp_all),(Aa.rfl' w).al _⟩)
 ·have hg:=lh (Ye (p:=⟨k,a,b,c,n⟩) h);have hr:Sg.Cb k 2 7=false:=by simp[Sg.Cb];omega
  have Hr:=lh hr;have k0:(k == 0)=false:=by rw[beq_eq_false_iff_ne];omega
  have k1:(k == 1)=false:=by rw[beq_eq_false_iff_ne];omega
  have k8:(k == 8)=false:=by rw[beq_eq_false_iff_ne];omega
  clear hr h;go_enter Tryz.func120,Tryz.ntmps120;go_wp2_with (go_at_call 57;refine(I_ _ _ _ _).mono ?_;rintro e w' ⟨rfl,rfl⟩;rw[Hr.out])
  go_ret;exact⟨Aj (by rw[hg.out]),(Aa.rfl' w).al _⟩
theorem VL (l:List Int)(i:Nat)(k:Nat){x:Int}(hx:l[k]? = some x):((l.take (k+1)).all fun y=>Sg.Cb y 0 ((i:Int) - 1))=(((l.take k).all fun y=>Sg.Cb y 0 ((i:Int) - 1)) && Sg.Cb x 0 ((i:Int) - 1)):=by
 rw[C6 l k hx,List.all_append];simp
theorem Nh (l:List Int)(P:Int->Bool)(k:Nat)(h:(l.take k).all P=false):l.all P=false:=by
 rw[List.all_eq_false] at h ⊢;obtain⟨x,hx,hp⟩:=h;exact⟨x,List.mem_of_mem_take hx,hp⟩
set_option maxRecDepth 100000 in
set_option maxHeartbeats 2000000 in
theorem Hh (A:Option Addr)(c:Nat)(f:List Sg.At)(w:World)(h:Rd w 5 A f.length (AH f))(hb:f.length<=1048576) :
  Calls Tryz.prog 83 #[.agg #[.slice A f.length c]] w fun e w'=>e= .returned (.bool (Sg.AR f))/\Aa w w':=by
 cases hin:Sg.Cb f.length 1 12
 ·have Hin:=lh hin;clear hin;go_enter Tryz.func83,Tryz.ntmps83;go_wp2_with (go_at_call 57;refine(I_ _ _ _ _).mono ?_;rintro e w1 ⟨rfl,rfl⟩;rw[Hin.out])
  go_ret;exact⟨Aj (by unfold Sg.AR;rw[Hin.out];rfl),(Aa.rfl' w).al _⟩
 have Hin:=lh hin;have h12:1<=f.length/\f.length<=12:=by unfold Sg.Cb at hin;simp at hin;omega
 have h1:=h12.1;have h2:=h12.2;clear hin h12;go_enter Tryz.func83,Tryz.ntmps83
 go_wp2_with (first
  | (go_at_call 57;refine(I_ _ _ _ _).mono ?_;rintro e w1 ⟨rfl,rfl⟩;rw[Hin.out])
  | (at_make;refine ID rfl rfl Bc (B:=w.heap.size+1) rfl rfl (by omega) (by omega) (by simp) ?_;intro w1 hown hext;have hbx:w1.cell? ⟨w.heap.size,0,none⟩=some (.slice A f.length c):=hext.cellE (by simp[go_sem])))
 obtain⟨W0,hW0⟩:∃ W0,W0=w.alloc (.cells #[.slice A f.length c] 68):=⟨_,rfl⟩;have hsz:W0.heap.size=w.heap.size+1:=by rw[hW0];simp
 have hW:Aa w W0:=by rw[hW0];exact(Aa.rfl' w).al _
 rw[<- hW0] at hext;rw[Fj _ _ rfl,show w.heap.size+1=W0.heap.size from hsz.symm] at hown;rw[show (w.alloc (Obj.cells #[Value.slice A f.length c] 68)).heap.size=w.heap.size+1 from by simp] at hown;have hu0:List.replicate f.length (Value.int .i64 0)=Ah (Sg.KJ f.length (Sg.AQ (f.take 0))):=by simp[Sg.AQ,Sg.KJ,Ah]
 rw[hu0] at hown;clear hu0 hW0;go_loopw [22] (fun i wr=>∃ (k:Nat),k<=f.length/\i= .int .i64 k/\Aa W0 wr/\Au wr W0.heap.size 3 1 (some ⟨w.heap.size+1,0,none⟩) f.length f.length (Ah (Sg.KJ f.length (Sg.AQ (f.take k))))/\Sg.Bz 0 (f.take k)=true) (fun i _=>f.length - (intOf i).toNat)
 case atStart=>exact⟨0,Nat.zero_le _,rfl,hext,hown,by simp[Sg.Bz]⟩
 case round =>
  clear hown hext;obtain⟨k,hk,rfl,he,hown,hgood⟩:=hrel;have Hsz:=lh hsz;have Hgood:=lh hgood;clear hsz hgood;have hwr:w.heap.size+1<wr.heap.size:=by have:=(hown.lt (g:=w.heap.size+1) rfl).2;omega
  by_cases hlt:k<f.length
  ·obtain⟨b,o,p,rfl,hp,hc0,hc1,hc2,hc3,hc4⟩:=(h.ext (hW.tr he)).atP hlt;have hbw:=AA hc0;have Hp:=lh hp;clear hp;cases hal:Sg.Di p
   ·have Hal:=lh hal;clear hal;go_wp2_with (go_at_call 120;refine(To p _).mono ?_;rintro e w2 ⟨rfl,he2⟩;rw[Hal.out])
    go_ret;refine⟨Aj ?_,(hW.tr (he.al _)).tr he2⟩;have:=Hj f (k+1) 0 (by rw[IF f k Hp.out];unfold Sg.AZ;rw[Hal.out];simp);simp[Sg.AR,this]
   ·have Hal:=lh hal;clear hal
    go_wp2_with (first
     | (go_at_call 120;refine(To p _).mono ?_;rintro e w2 ⟨rfl,he2⟩;rw[Hal.out];obtain⟨bc,bf⟩:=Ga he2)
     | (go_at_call 81;refine(Ph p _).mono ?_;rintro e w3 ⟨A3,c3,rfl,hown3,he3⟩))
    have he02:=(he.al (.cells #[.int .i64 p.kind,.int .i64 p.a,.int .i64 p.b,.int .i64 p.c,.int .i64 p.n] 111)).tr he2;have he03:=he02.tr he3;have hown0:=((hown.al _).ext he2).ext he3;have hsz2:wr.heap.size<w2.heap.size:=by have:=he2.size;simp at this;omega
    have hsz3:=he3.size;clear bc bf hc0 hc1 hc2 hc3 hc4 hown he
    go_loopw [33] (fun j wi=>∃ (j':Nat),j'<=(Sg.AD p).length/\j= .int .i64 j'/\Aa W0 wi/\Au wi w2.heap.size 3 1 A3 (Sg.AD p).length c3 (Ah (Sg.AD p)) /\
     Au wi W0.heap.size 3 1 (some ⟨w.heap.size+1,0,none⟩) f.length f.length (Ah (Sg.KJ f.length (Sg.AQ (f.take k)++(Sg.AD p).take j')))/\(((Sg.AD p).take j').all fun y=>Sg.Cb y 0 ((k:Int) - 1))=true) (fun j _=>(Sg.AD p).length - (intOf j).toNat)
    case atStart=>exact⟨0,Nat.zero_le _,rfl,he03,hown3,by simpa using hown0,rfl⟩
    case round =>
     clear hown3 hown0 he03 he02 he2 he3;obtain⟨j,hj,rfl,hei,hl,hU,hall⟩:=hrel;have Hall:=lh hall;clear hall;have hb3:=Sg.GA p;by_cases hlj:j<(Sg.AD p).length
     ·obtain⟨bl,ol,x,rfl,hx,hcx⟩:=hl.rd.at1 hlj;have Hx:=lh hx;have Hat:=lh (VL (Sg.AD p) k j hx);clear hx;cases hin:Sg.Cb x 0 ((k:Int) - 1)
      ·have Hi:=lh hin;clear hin;go_wp2_with (go_at_call 57;refine(I_ _ _ _ _).mono ?_;rintro e w4 ⟨rfl,rfl⟩;rw[Hi.out])
       go_ret;refine⟨Aj ?_,hW.tr hei⟩;have h1:=Nh (Sg.AD p) (fun y=>Sg.Cb y 0 ((k:Int) - 1)) (j+1) (by rw[Hat.out,Hi.out];simp);have:=Hj f (k+1) 0 (by rw[IF f k Hp.out];unfold Sg.AZ;rw[h1];simp);simp[Sg.AR,this]
      ·have Hi:=lh hin;have hxr:0<=x/\x<k:=by unfold Sg.Cb at hin;simp at hin;omega
       clear hin;obtain⟨X,rfl⟩:=Int.eq_ofNat_of_zero_le hxr.1;have hXn:X<f.length:=by omega
       obtain⟨U,hUd⟩:∃ U,U=Sg.KJ f.length (Sg.AQ (f.take k)++(Sg.AD p).take j):=⟨_,rfl⟩
       have hpos:∀ y ∈ Sg.AQ (f.take k)++(Sg.AD p).take j,0<=y:=by
        intro y hy;rcases List.mem_append.1 hy with hy | hy
        ·exact Sg.FM f k 0 Hgood.out y hy
        ·have:=List.all_eq_true.1 Hall.out y hy;unfold Sg.Cb at this;simp at this;omega
       have hlenU:U.length=f.length:=by rw[hUd,Sg.IJ]
       have hux:U[X]? = some (U.getD X 0):=by rw[g_d,gg (by omega)];rfl
       have hub:=Sg.UK f.length _ X hpos hXn;rw[<- hUd] at hub hU;have hbl:=Sg.L9 (f.take k);have htl:((Sg.AD p).take j).length<=3:=Nat.le_trans (List.length_take_le _ _) (by omega);have htk:(f.take k).length<=k:=List.length_take_le _ _;rw[List.length_append] at hub
       have hnext:Sg.KJ f.length (Sg.AQ (f.take k)++(Sg.AD p).take (j+1))=U.set X (U.getD X 0+1):=by
        rw[C6 _ _ Hx.out,<- List.append_assoc,Sg.PC,<- hUd];rfl
       obtain⟨u,hu⟩:∃ u,u=U.getD X 0:=⟨_,rfl⟩;rw[<- hu] at hub hnext hux;have hcu:=hU.cell (j:=X) (u := .int .i64 u) (by rw[CB,hux];rfl);have hfu:=hU.free X;have hub1:0<=u:=hub.1;have hub2:u<=4194304:=by have:=hub.2;omega
       have H1:=lh hnext;clear hnext hu hux hUd hlenU hpos hub hbl htl htk;go_wp2_with (go_at_call 57;refine(I_ _ _ _ _).mono ?_;rintro e w4 ⟨rfl,rfl⟩;rw[Hi.out])
       go_roundw
       case rel =>
        have hU':=hU.st X (.int .i64 (u+1));rw[Dz,<- H1.out] at hU';exact⟨j+1,by omega,by go_num,hei.set (by have:=Hsz.out;simp;omega) _,hl.set (by simp[AE];have:=(hl.lt (g:=bl) rfl).1;have:=Hsz.out;omega) _,hU',by rw[Hat.out,Hall.out,Hi.out];rfl⟩
       case measure=>simp[intOf];omega
     ·obtain rfl:j=(Sg.AD p).length:=by omega
      go_wp2;go_roundw
      case rel =>
       have hall:=Hall.out;rw[List.take_of_length_le (Nat.le_refl _)] at hall;refine⟨k+1,by omega,by go_num,hei,?_,?_⟩
       ·rw[Lz f k Hp.out];simpa using hU
       ·rw[IF f k Hp.out,Hgood.out];unfold Sg.AZ;rw[Hal.out,hall];rfl
      case measure=>simp[intOf];omega
  ·obtain rfl:k=f.length:=by omega
   have hgood:=Hgood.out;rw[List.take_of_length_le (Nat.le_refl _)] at hgood hown;have hpos:=Sg.FM f f.length 0 (by rw[List.take_of_length_le (Nat.le_refl _)];exact hgood);rw[List.take_of_length_le (Nat.le_refl _)] at hpos;have Hgd:=lh hgood;have Hpos:=lh hpos;clear hgood hpos Hgood;go_wp2;go_loop [56] (fun i=>∃ k:Nat,k<=f.length - 1/\i= .int .i64 k/\Ng (Sg.KJ f.length (Sg.AQ f)) k) (fun i=>f.length - (intOf i).toNat)
   case atStart=>exact⟨0,Nat.zero_le _,rfl,LA _⟩
   case round =>
    obtain⟨k,hk,rfl,hfi⟩:=hrel;by_cases hlk:k<f.length - 1
    ·obtain⟨U,hUd⟩:∃ U,U=Sg.KJ f.length (Sg.AQ f):=⟨_,rfl⟩;rw[<- hUd] at hown hfi;have hlenU:U.length=f.length:=by rw[hUd,Sg.IJ]
     obtain⟨u,hu⟩:∃ u,u=U.getD k 0:=⟨_,rfl⟩;have hux:U[k]? = some u:=by rw[hu,g_d,gg (by omega)];rfl
     have hcu:=hown.cell (j:=k) (u := .int .i64 u) (by rw[CB,hux];rfl);have Hu:=lh hu;have HU:=lh hUd;clear hu hux hlenU hUd;go_wp2
     ·have hne:¬ u=1:=by simpa using ‹(u != 1)=true›
      go_ret;refine⟨Aj ?_,hW.tr he⟩;have:=Sg.L_ f Hpos.out k (by omega) (by rw[<- HU.out,<- Hu.out];exact hne);simp[Sg.AR,this]
     ·have heq:u=1:=by simpa using ‹(u != 1)=false›
      go_round
      case rel=>exact⟨k+1,by omega,by go_num,by rw[<- HU.out];exact LC hfi (by rw[<- Hu.out,heq])⟩
      case measure=>simp[intOf];omega
    ·have Hfi:=lh hfi;clear hfi;go_wp2;go_ret;refine⟨Aj ?_,hW.tr he⟩;have:=Sg.NP f Hpos.out (fun i hi=>Hfi.out i (by omega));simp[Sg.AR,this,Hgd.out,Hin.out]
set_option maxHeartbeats 800000 in
theorem Yf (k x y:Int)(w:World)(hx:0<=x)(hx':x<=999)(hy:0<=y)(hy':y<=999) :
  Calls Tryz.prog 160 #[.int .i64 k,.int .i64 x,.int .i64 y] w fun e w'=>e= .returned (.int .i64 (Sg.Fw k x y))/\w=w':=by
 have hxy:0<=x * y:=Int.mul_nonneg hx hy;have hxy':x * y<=999 * 999:=Int.mul_le_mul hx' hy' hy (by omega);have cases:k=2\/k=3\/k=4\/k=5\/k=6\/(k<2\/6<k):=by omega
 rcases cases with rfl | rfl | rfl | rfl | rfl | h
 all_goals
  go_enter Tryz.func160,Tryz.ntmps160;go_wp2
  all_goals (go_ret;exact⟨Fk (by simp[Sg.Fw] <;> omega),rfl⟩)
theorem Vj (A:Option Addr)(n c:Nat)(w:World)(h1:0<n)(h2:n<=1048576):Calls Tryz.prog 123 #[.agg #[.slice A n c]] w fun e w'=>e= .returned (.int .i64 ((n:Int) - 1))/\Aa w w':=by
 go_enter Tryz.func123,Tryz.ntmps123;go_wp2;go_ret;exact⟨rfl,(Aa.rfl' w).al _⟩
theorem J9 (A:Option Addr)(n c:Nat)(w:World)(h:n<=c)(_hm:c<=maxLen):Calls Tryz.prog 48 #[.slice A n c] w fun e w'=>e= .returned (.slice A n n)/\w=w':=by
 unfold maxLen at _hm;go_enter Tryz.func48,Tryz.ntmps48;go_wp2;go_ret;exact⟨rfl,rfl⟩
theorem WR (A:Option Addr)(len c:Nat)(l:List Int)(n:Int)(w:World)(h:Rd w 1 A len (Ah l)) :
  Calls Tryz.prog 161 #[.slice A len c,.int .i64 n] w fun e w'=>e= .returned (.int .i64 (Dm l n))/\Aa w w':=by
 have hm:=h.big;obtain rfl:=h.len;go_enter Tryz.func161,Tryz.ntmps161;go_wp2;go_loop [8] (fun i=>∃ k:Nat,k<=l.length/\i= .int .i64 k/\D_ n k (l.drop k)=Dm l n) (fun i=>l.length - (intOf i).toNat)
 case atStart=>exact⟨0,Nat.zero_le _,rfl,rfl⟩
 case round =>
  obtain⟨k,hk,rfl,hpl⟩:=hrel;by_cases hlt:k<l.length
  ·obtain⟨b,o,x,rfl,hx,hc⟩:=h.at1 hlt;rw[DO l k hx,D_] at hpl;have H:=lh hpl;clear hpl hx;by_cases hn:x=n
   ·have b1:(n == x)=true:=by simp[hn]
    have Hn:=lh hn;clear hn;go_wp2;go_ret;exact⟨Fk (by rw[<- H.out,if_pos Hn.out]),Aa.rfl' _⟩
   ·have b1:(n == x)=false:=by simp;exact fun e=>hn e.symm
    have Hn:=lh hn;clear hn;go_wp2;go_round
    case rel=>exact⟨k+1,by omega,by go_num,by rw[<- H.out,if_neg Hn.out]⟩
    case measure=>simp[intOf];omega
  ·have H:=lh hpl;clear hpl;go_wp2;go_ret;exact⟨Fk (by rw[<- H.out,List.drop_eq_nil_of_le (by omega)];rfl),Aa.rfl' _⟩
theorem Ez (A:Option Addr)(len c:Nat)(l:List Int)(n:Int)(w:World)(h:Rd w 1 A len (Ah l)) :
  Calls Tryz.prog 127 #[.slice A len c,.int .i64 n] w fun e w'=>e= .returned (.bool (decide (n ∈ l)))/\Aa w w':=by
 have Hc:=lh (WR A len c l n w h);have Hn:=lh (EV l n);go_enter Tryz.func127,Tryz.ntmps127;go_wp2_with (go_at_call 161;refine Hc.out.mono ?_;rintro e w1 ⟨rfl,he1⟩)
 go_ret;refine⟨Aj ?_,he1⟩;have:=Hn.out;rw[Bool.eq_iff_iff];simp only[decide_eq_true_eq];constructor
 ·intro h0;exact Classical.byContradiction fun hn=>by have:=this.2 hn;omega
 ·intro h0;exact Int.not_lt.1 fun hn=>this.1 hn h0
theorem zt0{p:Prop}(h:p:=by
 clear hi2 hm2 hF2;go_wp2;go_ret;rw[Hrk.out];refine⟨rfl,⟨F2,Hfin.out.1,((AF.of HE.out).tr' Hm1.out).tr Hfin.out.2.1 (fun x hx=>(HF1.out x hx).elim .inl fun e=>.inr (Nat.le_trans HE.out.size e)),fun x hx=>(Hfin.out.2.2 x hx).elim (fun e=>(HF1.out x e).elim .inl fun e=>.inr (Nat.le_trans HE.out.size e)) fun e=>.inr (by omega)⟩,?_⟩;exact⟨hy0,hy1⟩):p:=h
theorem zu0{p:Prop}(h:p:=by
 intro x hx hFx;simp only[AE,Option.map_some,Option.some.injEq] at hx;subst hx;rcases hF1 _ hFx with hh | hh
 ·exact HFb.out hh
 ·have:=HE.out.size;omega):p:=h
set_option maxRecDepth 100000 in
set_option maxHeartbeats 2000000 in
theorem XB {fid:Nat}{caps:List Value}{σ:Type}{inv:σ->(Nat->Prop)->World->Prop}{val:σ->Int->Int}{nxt:σ->Int->σ}{dom:Int->Prop}{L:Nat}(C:U_ Tryz.prog fid caps σ inv val nxt dom L)(Af:Option Addr)(cf:Nat)(f:List Sg.At)(ok:Sg.Yv f dom)(k:Nat) :
  ∀ (i:Nat) (s:σ) (F:Nat->Prop) (w:World),i<k->i<f.length->k<=12->inv s F w->Rd w 5 Af f.length (AH f)->Nk F Af ->
  Calls Tryz.prog 125 #[.agg #[.slice Af f.length cf],.int .i64 i,.func (.func fid) #[] caps.toArray] w fun e w'=>e= .returned (.int .i64 (Sg.Ct f val nxt k i s).1) /\
   (∃ F',inv (Sg.Ct f val nxt k i s).2 F' w'/\AF F w w'/\∀ b,F' b->F b\/w.heap.size<=b)/\0<=(Sg.Ct f val nxt k i s).1/\(Sg.Ct f val nxt k i s).1<=999:=by
 induction k with
 | zero=>intro i s F w h;omega
 | succ k ih =>
  intro i s F w hik hif hk12 hinv hf hoff;have IH:=lh ih;clear ih;obtain⟨b,o,p,rfl,hp,hc0,hc1,hc2,hc3,hc4⟩:=hf.atP hif;have hlen:=ok.len;have hgp:=ok.good i p hp;have hrk:=Sg.Rf f val nxt k i s hp;have hrp:=ok.reads p (List.mem_of_getElem? hp);have hbw:=AA hc0;have hFb:¬ F b:=hoff b rfl;have hFo:∀ x,F x->x<w.heap.size:=fun x=>C.old s F w x hinv;obtain⟨pk,pa,pb,pc,pn⟩:=p;dsimp only at *;have e0:=((Aa.rfl' w).al (.cells #[.slice (some ⟨b,o,none⟩) f.length cf] 68)).al (.cells #[.int .i64 pk,.int .i64 pa,.int .i64 pb,.int .i64 pc,.int .i64 pn] 111);have hent:=C.ent;have HI:=lh hinv;have HFo:=lh hFo;have HFb:=lh hFb;have HE:=lh e0;clear hinv hFo hFb hoff e0;have cases:pk=0\/pk=1\/(2<=pk/\pk<=7)\/pk=8\/(pk<0\/8<pk):=by omega
  rcases cases with h | h | h | h | h
  ·subst h;rw[SZ i rfl] at hgp;simp only[Bool.and_eq_true,Sg.Cb,decide_eq_true_eq] at hgp;rw[if_pos rfl] at hrk;have Hrk:=lh hrk;clear hp hrk hrp;go_enter Tryz.func125,Tryz.ntmps125;go_wp2;go_ret;rw[Hrk.out];exact⟨rfl,⟨F,C.ext _ _ _ _ HI.out HE.out,AF.of HE.out,fun x hx=>.inl hx⟩,by show 0<=pn;omega,by show pn<=999;omega⟩
  ·subst h;rw[if_neg (by omega),if_pos rfl] at hrk;have hd:=hrp rfl;have Hrk:=lh hrk;have Hd:=lh hd;have HC:=lh C;clear hp hrk hgp hrp hd C;go_enter Tryz.func125,Tryz.ntmps125;go_wp2_with fail
   refine(HC.out.call s F _ pn (HC.out.ext _ _ _ _ HI.out HE.out) Hd.out).mono ?_;rintro e w1 ⟨rfl,F',hi1,hm1,hF1⟩;have hr1:=HC.out.ran s F _ pn (HC.out.ext _ _ _ _ HI.out HE.out) Hd.out;have Hfin:=lh (And.intro hi1 (And.intro hm1 hF1));clear hi1 hm1 hF1;go_wp2;go_ret;rw[Hrk.out];refine⟨rfl,⟨F',Hfin.out.1,(AF.of HE.out).tr' Hfin.out.2.1,fun x hx=>(Hfin.out.2.2 x hx).elim .inl fun e=>.inr (Nat.le_trans HE.out.size e)⟩,hr1⟩
  ·rw[S_ i h] at hgp;simp only[Bool.and_eq_true,Sg.Cb,decide_eq_true_eq] at hgp;rw[if_neg (by omega),if_neg (by omega),if_neg (by omega)] at hrk;obtain⟨⟨⟨⟨ha0,ha1⟩,hb0,hb1⟩,_⟩,_⟩:=hgp;obtain⟨a,rfl⟩:=Int.eq_ofNat_of_zero_le ha0;obtain⟨d,rfl⟩:=Int.eq_ofNat_of_zero_le hb0;have k0:(pk == 0)=false:=by rw[beq_eq_false_iff_ne];omega
   have k1:(pk == 1)=false:=by rw[beq_eq_false_iff_ne];omega
   have k8:(pk == 8)=false:=by rw[beq_eq_false_iff_ne];omega
   have hFo:=HFo.out;have nF0:¬ F w.heap.size:=fun e=>by have:=hFo _ e;omega
   have nF1:¬ F (w.heap.size+1):=fun e=>by have:=hFo _ e;omega
   have HOff:=lh (show Nk F (some ⟨b,o,none⟩) from fun x hx=>by simp only[AE,Option.map_some,Option.some.injEq] at hx;subst hx;exact HFb.out);have HC:=lh C;clear hFo C hp hrp;generalize hr1:Sg.Ct f val nxt k a s=r1 at *;obtain⟨v1,s1⟩:=r1;try dsimp only at *
   have Hr1:=lh hr1;clear hr1;generalize hr2:Sg.Ct f val nxt k d s1=r2 at *;obtain⟨v2,s2⟩:=r2;try dsimp only at *
   have Hr2:=lh hr2;have Hrk:=lh hrk;clear hr2 hrk;go_enter Tryz.func125,Tryz.ntmps125;go_wp2_with fail
   refine(IH.out a s F _ (by omega) (by omega) (by omega) (HC.out.ext _ _ _ _ HI.out HE.out) (hf.ext HE.out) HOff.out).mono ?_;rw[Hr1.out];rintro e w1 ⟨rfl,⟨F1,hi1,hm1,hF1⟩,hx0,hx1⟩;have q0:w1.cell? ⟨w.heap.size,0,none⟩=some (.slice (some ⟨b,o,none⟩) f.length cf):=hm1.cellE (by simp[go_sem]) nF0;have q1:w1.cell? ⟨w.heap.size+1,0,none⟩=some (.int .i64 pk):=hm1.cellE (by simp[go_sem]) nF1;have q2:w1.cell? ⟨w.heap.size+1,1,none⟩=some (.int .i64 a):=hm1.cellE (by simp[go_sem]) nF1;have q3:w1.cell? ⟨w.heap.size+1,2,none⟩=some (.int .i64 d):=hm1.cellE (by simp[go_sem]) nF1;have q4:w1.cell? ⟨w.heap.size+1,3,none⟩=some (.int .i64 pc):=hm1.cellE (by simp[go_sem]) nF1
   have hoff1:Nk F1 (some ⟨b,o,none⟩):=by
    exact zu0
   have hrd1:=(hf.ext HE.out).mod hm1 HOff.out;have hz1:w.heap.size+1<w1.heap.size:=by have:=hm1.size;simp at this;omega
   have n10:¬ F1 w.heap.size:=by
    intro e;rcases hF1 _ e with hh | hh
    ·exact nF0 hh
    ·simp only[World.size_alloc] at hh;omega
   have n11:¬ F1 (w.heap.size+1):=by
    intro e;rcases hF1 _ e with hh | hh
    ·exact nF1 hh
    ·simp only[World.size_alloc] at hh;omega
   have Hi1:=lh hi1;have Hm1:=lh hm1;have HF1:=lh hF1;try dsimp only at *
   clear hi1 hm1 hF1;go_wp2_with fail
   refine(IH.out d s1 F1 _ (by omega) (by omega) (by omega) Hi1.out hrd1 hoff1).mono ?_;rw[Hr2.out];rintro e w2 ⟨rfl,⟨F2,hi2,hm2,hF2⟩,hy0,hy1⟩;have p1:w2.cell? ⟨w.heap.size+1,0,none⟩=some (.int .i64 pk):=hm2.cellE q1 n11;have Hfin:=lh (And.intro hi2 (And.intro hm2 hF2));have hj:=Sg.Gr pk v1 v2 ⟨hx0,hx1⟩ ⟨hy0,hy1⟩;try dsimp only at *
   clear hi2 hm2 hF2;go_wp2_with (go_at_call 160;refine(Yf _ _ _ _ hx0 hx1 hy0 hy1).mono ?_;rintro e w' ⟨rfl,rfl⟩)
   go_ret;rw[Hrk.out];refine⟨rfl,⟨F2,Hfin.out.1,((AF.of HE.out).tr' Hm1.out).tr Hfin.out.2.1 (fun x hx=>(HF1.out x hx).elim .inl fun e=>.inr (Nat.le_trans HE.out.size e)),fun x hx=>(Hfin.out.2.2 x hx).elim (fun e=>(HF1.out x e).elim .inl fun e=>.inr (Nat.le_trans HE.out.size e)) fun e=>.inr (by omega)⟩,?_⟩;exact hj
  ·subst h;rw[Ta i rfl] at hgp;simp only[Bool.and_eq_true,Sg.Cb,decide_eq_true_eq] at hgp;rw[if_neg (by omega),if_neg (by omega),if_pos rfl] at hrk;obtain⟨⟨⟨⟨ha0,ha1⟩,hb0,hb1⟩,hd0,hd1⟩,_⟩:=hgp;obtain⟨a,rfl⟩:=Int.eq_ofNat_of_zero_le ha0;obtain⟨d,rfl⟩:=Int.eq_ofNat_of_zero_le hb0;obtain⟨d',rfl⟩:=Int.eq_ofNat_of_zero_le hd0;have hFo:=HFo.out;have nF0:¬ F w.heap.size:=fun e=>by have:=hFo _ e;omega
   have nF1:¬ F (w.heap.size+1):=fun e=>by have:=hFo _ e;omega
   have HOff:=lh (show Nk F (some ⟨b,o,none⟩) from fun x hx=>by simp only[AE,Option.map_some,Option.some.injEq] at hx;subst hx;exact HFb.out);have HC:=lh C;clear hFo C hp hrp;generalize hr1:Sg.Ct f val nxt k a s=r1 at *;obtain⟨v1,s1⟩:=r1;try dsimp only at *
   have Hr1:=lh hr1;clear hr1;by_cases hv1:v1=0
   ·rw[if_pos hv1] at hrk;generalize hr2:Sg.Ct f val nxt k d' s1=r2 at *;obtain⟨v2,s2⟩:=r2;try dsimp only at *
    have Hr2:=lh hr2;have Hrk:=lh hrk;have z1:(v1 != 0)=false:=by simp[hv1]
    clear hr2 hrk hv1;go_enter Tryz.func125,Tryz.ntmps125;go_wp2_with fail
    refine(IH.out a s F _ (by omega) (by omega) (by omega) (HC.out.ext _ _ _ _ HI.out HE.out) (hf.ext HE.out) HOff.out).mono ?_;rw[Hr1.out];rintro e w1 ⟨rfl,⟨F1,hi1,hm1,hF1⟩,hx0,hx1⟩;have q0:w1.cell? ⟨w.heap.size,0,none⟩=some (.slice (some ⟨b,o,none⟩) f.length cf):=hm1.cellE (by simp[go_sem]) nF0;have q1:w1.cell? ⟨w.heap.size+1,0,none⟩=some (.int .i64 8):=hm1.cellE (by simp[go_sem]) nF1;have q2:w1.cell? ⟨w.heap.size+1,1,none⟩=some (.int .i64 a):=hm1.cellE (by simp[go_sem]) nF1;have q3:w1.cell? ⟨w.heap.size+1,2,none⟩=some (.int .i64 d):=hm1.cellE (by simp[go_sem]) nF1;have q4:w1.cell? ⟨w.heap.size+1,3,none⟩=some (.int .i64 d'):=hm1.cellE (by simp[go_sem]) nF1
    have hoff1:Nk F1 (some ⟨b,o,none⟩):=by
     exact zu0
    have hrd1:=(hf.ext HE.out).mod hm1 HOff.out;have hz1:w.heap.size+1<w1.heap.size:=by have:=hm1.size;simp at this;omega
    have n10:¬ F1 w.heap.size:=by
     intro e;rcases hF1 _ e with hh | hh
     ·exact nF0 hh
     ·simp only[World.size_alloc] at hh;omega
    have n11:¬ F1 (w.heap.size+1):=by
     intro e;rcases hF1 _ e with hh | hh
     ·exact nF1 hh
     ·simp only[World.size_alloc] at hh;omega
    have Hi1:=lh hi1;have Hm1:=lh hm1;have HF1:=lh hF1;try dsimp only at *
    clear hi1 hm1 hF1;go_wp2_with fail
    refine(IH.out d' s1 F1 _ (by omega) (by omega) (by omega) Hi1.out hrd1 hoff1).mono ?_;rw[Hr2.out];rintro e w2 ⟨rfl,⟨F2,hi2,hm2,hF2⟩,hy0,hy1⟩;have Hfin:=lh (And.intro hi2 (And.intro hm2 hF2));try dsimp only at *
    exact zt0
   ·rw[if_neg hv1] at hrk;generalize hr2:Sg.Ct f val nxt k d s1=r2 at *;obtain⟨v2,s2⟩:=r2;try dsimp only at *
    have Hr2:=lh hr2;have Hrk:=lh hrk;have z1:(v1 != 0)=true:=by simp[hv1]
    clear hr2 hrk hv1;go_enter Tryz.func125,Tryz.ntmps125;go_wp2_with fail
    refine(IH.out a s F _ (by omega) (by omega) (by omega) (HC.out.ext _ _ _ _ HI.out HE.out) (hf.ext HE.out) HOff.out).mono ?_;rw[Hr1.out];rintro e w1 ⟨rfl,⟨F1,hi1,hm1,hF1⟩,hx0,hx1⟩;have q0:w1.cell? ⟨w.heap.size,0,none⟩=some (.slice (some ⟨b,o,none⟩) f.length cf):=hm1.cellE (by simp[go_sem]) nF0;have q1:w1.cell? ⟨w.heap.size+1,0,none⟩=some (.int .i64 8):=hm1.cellE (by simp[go_sem]) nF1;have q2:w1.cell? ⟨w.heap.size+1,1,none⟩=some (.int .i64 a):=hm1.cellE (by simp[go_sem]) nF1;have q3:w1.cell? ⟨w.heap.size+1,2,none⟩=some (.int .i64 d):=hm1.cellE (by simp[go_sem]) nF1;have q4:w1.cell? ⟨w.heap.size+1,3,none⟩=some (.int .i64 d'):=hm1.cellE (by simp[go_sem]) nF1
    have hoff1:Nk F1 (some ⟨b,o,none⟩):=by
     exact zu0
    have hrd1:=(hf.ext HE.out).mod hm1 HOff.out;have hz1:w.heap.size+1<w1.heap.size:=by have:=hm1.size;simp at this;omega
    have n10:¬ F1 w.heap.size:=by
     intro e;rcases hF1 _ e with hh | hh
     ·exact nF0 hh
     ·simp only[World.size_alloc] at hh;omega
    have n11:¬ F1 (w.heap.size+1):=by
     intro e;rcases hF1 _ e with hh | hh
     ·exact nF1 hh
     ·simp only[World.size_alloc] at hh;omega
    have Hi1:=lh hi1;have Hm1:=lh hm1;have HF1:=lh hF1;try dsimp only at *
    clear hi1 hm1 hF1;go_wp2_with fail
    refine(IH.out d s1 F1 _ (by omega) (by omega) (by omega) Hi1.out hrd1 hoff1).mono ?_;rw[Hr2.out];rintro e w2 ⟨rfl,⟨F2,hi2,hm2,hF2⟩,hy0,hy1⟩;have Hfin:=lh (And.intro hi2 (And.intro hm2 hF2));try dsimp only at *
    exact zt0
  ·rw[Tb i h] at hgp;cases hgp
end Go.Proofs.YthibllkleakiiaaGreatDoor
namespace Sg
inductive Tr where
 | leaf (k n:Int)
 | bin (k:Int) (x y:Tr)
 | ite (x y z:Tr)
def Tr.size:Tr->Nat
 | .leaf _ _=>1
 | .bin _ x y=>x.size+y.size+1
 | .ite x y z=>x.size+y.size+z.size+1
def Ce:Tr->Nat->List At
 | .leaf k n,_=>[⟨k,-1,-1,-1,n⟩]
 | .bin k x y,b=>Ce x b++(Ce y (b+x.size)++[⟨k,(b:Int)+x.size - 1,(b:Int)+x.size+y.size - 1,-1,0⟩])
 | .ite x y z,b=>Ce x b++(Ce y (b+x.size)++(Ce z (b+x.size+y.size)++[⟨8,(b:Int)+x.size - 1,(b:Int)+x.size+y.size - 1,(b:Int)+x.size+y.size+z.size - 1,0⟩]))
theorem Dk (t:Tr):1<=t.size:=by cases t <;> simp[Tr.size]
@[simp] theorem flat_len:∀ (t:Tr) (b:Nat),(Ce t b).length=t.size
 | .leaf _ _,_=>rfl
 | .bin _ x y,b=>by simp[Ce,Tr.size,flat_len x,flat_len y];omega
 | .ite x y z,b=>by simp[Ce,Tr.size,flat_len x,flat_len y,flat_len z];omega
def Tr.ok (m:Int):Tr->Prop
 | .leaf k n=>(k=0/\0<=n/\n<=m)\/(k=1/\0<=n/\n<=m)
 | .bin k x y=>2<=k/\k<=7/\x.ok m/\y.ok m
 | .ite x y z=>x.ok m/\y.ok m/\z.ok m
def Tr.good:Tr->Prop
 | .leaf k n=>(k=0/\0<=n/\n<=99)\/(k=1/\0<=n/\n<=9)
 | .bin k x y=>2<=k/\k<=7/\x.good/\y.good
 | .ite x y z=>x.good/\y.good/\z.good
def Tr.fine:Tr->Prop
 | .leaf k _=>k=0\/k=1
 | .bin k x y=>2<=k/\k<=7/\x.fine/\y.fine
 | .ite x y z=>x.fine/\y.fine/\z.fine
theorem Tr.good.fine:∀ {t:Tr},t.good->t.fine
 | .leaf _ _,h=>h.imp And.left And.left
 | .bin _ _ _,h=>⟨h.1,h.2.1,h.2.2.1.fine,h.2.2.2.fine⟩
 | .ite _ _ _,h=>⟨h.1.fine,h.2.1.fine,h.2.2.fine⟩
theorem Tr.ok.fine {m:Int}:∀ {t:Tr},t.ok m->t.fine
 | .leaf _ _,h=>h.imp And.left And.left
 | .bin _ _ _,h=>⟨h.1,h.2.1,h.2.2.1.fine,h.2.2.2.fine⟩
 | .ite _ _ _,h=>⟨h.1.fine,h.2.1.fine,h.2.2.fine⟩
theorem Tr.good.ok:∀ {t:Tr},t.good->t.ok 99
 | .leaf k n,h=>by
  rcases h with h | h
  ·exact .inl ⟨h.1,h.2.1,by omega⟩
  ·exact .inr ⟨h.1,h.2.1,by omega⟩
 | .bin _ _ _,h=>⟨h.1,h.2.1,h.2.2.1.ok,h.2.2.2.ok⟩
 | .ite _ _ _,h=>⟨h.1.ok,h.2.1.ok,h.2.2.ok⟩
def BH (f:List At):Nat->Int->Tr
 | 0,_=>.leaf 0 0
 | k+1,i =>
  let p:=f.getD i.toNat default
  if p.kind=8 then .ite (BH f k p.a) (BH f k p.b) (BH f k p.c)
  else if 2<=p.kind/\p.kind<=7 then .bin p.kind (BH f k p.a) (BH f k p.b)
  else .leaf p.kind p.n
def CF (f:List At):Nat->Int->List At->List At
 | 0,_,out=>out
 | k+1,i,out =>
  let p:=f.getD i.toNat default
  if p.kind=8 then
   let o1:=CF f k p.a out
   let o2:=CF f k p.b o1
   let o3:=CF f k p.c o2
   o3++[⟨p.kind,(o1.length:Int) - 1,(o2.length:Int) - 1,(o3.length:Int) - 1,p.n⟩]
  else if 2<=p.kind/\p.kind<=7 then
   let o1:=CF f k p.a out
   let o2:=CF f k p.b o1
   o2++[⟨p.kind,(o1.length:Int) - 1,(o2.length:Int) - 1,p.c,p.n⟩]
  else out++[p]
def Bv (f:List At):List At:=if AR f=true then CF f f.length ((f.length:Int) - 1) [] else []
theorem FG {f:List At}(h:∀ (i:Nat) (p:At),f[i]? = some p->AZ p i=true){i:Nat}{p:At}(hp:f[i]? = some p) :
  (p.kind=8/\p.n=0/\(0<=p.a/\p.a<i)/\(0<=p.b/\p.b<i)/\(0<=p.c/\p.c<i))\/(2<=p.kind/\p.kind<=7/\p.n=0/\p.c = -1/\(0<=p.a/\p.a<i)/\(0<=p.b/\p.b<i)) \/
  (((p.kind=0/\0<=p.n/\p.n<=99)\/(p.kind=1/\0<=p.n/\p.n<=9))/\p.a = -1/\p.b = -1/\p.c = -1):=by
 have hg:=h i p hp;have hb:=Cw hg;unfold AZ at hg;rw[Bool.and_eq_true] at hg;have ha:=hg.1;unfold Di at ha;unfold AD at hb;by_cases h8:p.kind=8
 ·rw[if_pos h8] at hb;rw[if_neg (by omega),if_neg (by omega),if_pos h8] at ha;exact .inl ⟨h8,by simpa using ha,hb _ (by simp),hb _ (by simp),hb _ (by simp)⟩
 ·rw[if_neg h8] at hb;by_cases h27:2<=p.kind/\p.kind<=7
  ·rw[if_pos h27] at hb;rw[if_neg (by omega),if_neg (by omega),if_neg h8,if_pos h27] at ha;simp only[Bool.and_eq_true,beq_iff_eq] at ha;exact .inr (.inl ⟨h27.1,h27.2,ha.1,ha.2,hb _ (by simp),hb _ (by simp)⟩)
  ·right;right
   by_cases h0:p.kind=0
   ·rw[if_pos h0] at ha;simp only[Cb,Bool.and_eq_true,beq_iff_eq,decide_eq_true_eq] at ha;exact⟨.inl ⟨h0,ha.1.1.1⟩,ha.1.1.2,ha.1.2,ha.2⟩
   ·rw[if_neg h0] at ha;by_cases h1:p.kind=1
    ·rw[if_pos h1] at ha;simp only[Cb,Bool.and_eq_true,beq_iff_eq,decide_eq_true_eq] at ha;exact⟨.inr ⟨h1,ha.1.1.1⟩,ha.1.1.2,ha.1.2,ha.2⟩
    ·rw[if_neg h1,if_neg h8,if_neg h27] at ha;cases ha
def I8 (f:List At):Prop:=∀ (i:Nat) (p:At),f[i]? = some p->AZ p i=true
theorem IB {f:List At}{i:Int}(h0:0<=i)(h:i<f.length):∃ (j:Nat) (p:At),i=j/\f[j]? = some p/\f.getD i.toNat default=p:=by
 obtain⟨j,rfl⟩:=Int.eq_ofNat_of_zero_le h0;have hj:j<f.length:=by omega
 exact⟨j,f[j],rfl,List.getElem?_eq_getElem hj,by simp[List.getD_eq_getElem?_getD,hj]⟩
theorem Eu {f:List At}(hf:I8 f):∀ (k:Nat) (i:Int) (out:List At),0<=i->i<f.length->i<k->CF f k i out=out++Ce (BH f k i) out.length
 | 0,i,out,h0,_,h=>by omega
 | k+1,i,out,h0,hl,h=>by
  obtain⟨j,p,rfl,hp,hd⟩:=IB h0 hl;unfold CF BH;simp only[hd];rcases FG hf hp with ⟨h8,hn,ha,hb,hc⟩ | ⟨h2,h7,hn,hc,ha,hb⟩ | ⟨hk,ha,hb,hc⟩
  ·rw[if_pos h8,if_pos h8,Eu hf k p.a out ha.1 (by omega) (by omega),Eu hf k p.b _ hb.1 (by omega) (by omega),Eu hf k p.c _ hc.1 (by omega) (by omega)];simp only[List.length_append,flat_len,Ce,List.append_assoc,h8,hn];simp only[<- Nat.add_assoc,Int.natCast_add]
  ·rw[if_neg (by omega),if_pos ⟨h2,h7⟩,if_neg (by omega),if_pos ⟨h2,h7⟩,Eu hf k p.a out ha.1 (by omega) (by omega),Eu hf k p.b _ hb.1 (by omega) (by omega)];simp only[List.length_append,flat_len,Ce,List.append_assoc,hn,hc,Int.natCast_add,Int.add_assoc]
  ·rw[if_neg (by omega),if_neg (by omega),if_neg (by omega),if_neg (by omega)];obtain⟨pk,pa,pb,pc,pn⟩:=p;simp only at ha hb hc;subst ha hb hc;rfl
theorem EM {f:List At}(hf:I8 f):∀ (k:Nat) (i:Int),0<=i->i<f.length->i<k->(BH f k i).good
 | 0,i,h0,_,h=>by omega
 | k+1,i,h0,hl,h=>by
  obtain⟨j,p,rfl,hp,hd⟩:=IB h0 hl;unfold BH;simp only[hd];rcases FG hf hp with ⟨h8,hn,ha,hb,hc⟩ | ⟨h2,h7,hn,hc,ha,hb⟩ | ⟨hk,ha,hb,hc⟩
  ·rw[if_pos h8];exact⟨EM hf k p.a ha.1 (by omega) (by omega),EM hf k p.b hb.1 (by omega) (by omega),EM hf k p.c hc.1 (by omega) (by omega)⟩
  ·rw[if_neg (by omega),if_pos ⟨h2,h7⟩];exact⟨h2,h7,EM hf k p.a ha.1 (by omega) (by omega),EM hf k p.b hb.1 (by omega) (by omega)⟩
  ·rw[if_neg (by omega),if_neg (by omega)];exact hk
theorem EO {f:List At}(hf:I8 f):∀ (k m:Nat) (i:Int),0<=i->i<f.length->i<k->i<m->BH f k i=BH f m i
 | 0,_,i,h0,_,h,_=>by omega
 | _,0,i,h0,_,_,h=>by omega
 | k+1,m+1,i,h0,hl,h,h'=>by
  obtain⟨j,p,rfl,hp,hd⟩:=IB h0 hl;unfold BH;simp only[hd];rcases FG hf hp with ⟨h8,hn,ha,hb,hc⟩ | ⟨h2,h7,hn,hc,ha,hb⟩ | ⟨hk,ha,hb,hc⟩
  ·rw[if_pos h8,if_pos h8,EO hf k m p.a ha.1 (by omega) (by omega) (by omega),EO hf k m p.b hb.1 (by omega) (by omega) (by omega),EO hf k m p.c hc.1 (by omega) (by omega) (by omega)]
  ·rw[if_neg (by omega),if_pos ⟨h2,h7⟩,if_neg (by omega),if_pos ⟨h2,h7⟩,EO hf k m p.a ha.1 (by omega) (by omega) (by omega),EO hf k m p.b hb.1 (by omega) (by omega) (by omega)]
  ·rw[if_neg (by omega),if_neg (by omega),if_neg (by omega),if_neg (by omega)]
def KY (f:List At)(i:Int):Nat:=(BH f f.length i).size
def Ko (f:List At)(l:List Int):Nat:=(l.map (KY f)).sum
theorem TO {f:List At}(hf:I8 f){i:Nat}{p:At}(hp:f[i]? = some p):KY f (i:Int)=1+Ko f (AD p):=by
 have hi:=(List.getElem?_eq_some_iff.1 hp).1;obtain⟨j,q,e,hq,hd⟩:=IB (f:=f) (i:=(i:Int)) (by omega) (by omega);obtain rfl:i=j:=by omega
 rw[hp] at hq;injection hq with hq;subst hq;unfold KY Ko;obtain⟨k,hk⟩:∃ k,f.length=k+1:=⟨f.length - 1,by omega⟩;have e1:∀ x:Int,0<=x->x<i->BH f k x=BH f f.length x:=fun x h0 h1=>EO hf k f.length x h0 (by omega) (by omega) (by omega);rw[show BH f f.length (i:Int)=BH f (k+1) (i:Int) by rw[hk]];unfold BH;simp only[hd];unfold AD;rcases FG hf hp with ⟨h8,hn,ha,hb,hc⟩ | ⟨h2,h7,hn,hc,ha,hb⟩ | ⟨hk,ha,hb,hc⟩
 ·rw[if_pos h8,if_pos h8,e1 _ ha.1 ha.2,e1 _ hb.1 hb.2,e1 _ hc.1 hc.2];simp[Tr.size,KY];omega
 ·rw[if_neg (by omega),if_pos ⟨h2,h7⟩,if_neg (by omega),if_pos ⟨h2,h7⟩,e1 _ ha.1 ha.2,e1 _ hb.1 hb.2];simp[Tr.size,KY];omega
 ·rw[if_neg (by omega),if_neg (by omega),if_neg (by omega),if_neg (by omega)];rfl
def GV (n:Nat)(l:List Int):List Int:=((List.range n).map Int.ofNat).filter fun i=>decide (i ∉ l)
theorem KZ (f:List At)(p q:Int->Bool)(l:List Int)(h:∀ x ∈ l,p x=true->q x=true):Ko f (l.filter q)=Ko f (l.filter p)+Ko f (l.filter fun x=>q x && !p x):=by
 induction l with
 | nil=>rfl
 | cons x l ih =>
  have ih:=ih (fun y hy=>h y (by simp[hy]));have hx:=h x (by simp);unfold Ko at ih ⊢;cases hp:p x
  ·cases hq:q x
   ·simp[hp,hq,ih]
   ·simp[hp,hq,ih];omega
  ·have hq:=hx hp;simp[hp,hq,ih];omega
theorem TP (f:List At){l m:List Int}(h:l.Perm m):Ko f l=Ko f m:=(h.map _).sum_nat
theorem UU {f:List At}(hf:I8 f)(hu:∀ i:Nat,(AQ f).count (i:Int)<=1)(k:Nat)(hk:k<=f.length):Ko f (GV k (AQ (f.take k)))=k:=by
 induction k with
 | zero=>rfl
 | succ k ih =>
  have ih:=ih (by omega);have hp:f[k]? = some f[k]:=List.getElem?_eq_getElem (by omega);generalize f[k]=p at hp;have ht:f.take (k+1)=f.take k++[p]:=by rw[List.take_add_one,hp];rfl
  have hbel:AQ (f.take (k+1))=AQ (f.take k)++AD p:=by unfold AQ;rw[ht,List.flatMap_append];simp
  have hsz:=TO hf hp;have hlt:=Cw (hf k p hp)
  have hcount:∀ i:Int,0<=i->(AQ (f.take k)).count i+(AD p).count i<=1:=fun i hi=>by
   obtain⟨j,rfl⟩:=Int.eq_ofNat_of_zero_le hi;have e:AQ f=AQ (f.take (k+1))++AQ (f.drop (k+1)):=by unfold AQ;rw[<- List.flatMap_append,List.take_append_drop]
   have:=hu j;rw[e,List.count_append,hbel,List.count_append] at this;omega
  have hbk:∀ x ∈ AQ (f.take k),0<=x/\x<(k:Int):=fun x hx=>by
   unfold AQ at hx;rw[List.mem_flatMap] at hx;obtain⟨q,hq,hx⟩:=hx;obtain⟨j,hj,e⟩:=List.getElem_of_mem hq;rw[List.getElem_take] at e;have hjk:j<k:=by rw[List.length_take] at hj;omega
   have:=Cw (hf j q (by rw[<- e];exact List.getElem?_eq_getElem (by omega))) x hx;omega
  have h1:GV (k+1) (AQ (f.take (k+1)))=(GV k (AQ (f.take k))).filter (fun i=>decide (i ∉ AD p))++[(k:Int)]:=by
   unfold GV;rw[List.range_succ,List.map_append,List.filter_append,List.filter_filter,hbel];congr 1
   ·congr 1
    funext i
    simp[List.mem_append,not_or,Bool.and_comm]
   ·have h1:((k:Int)) ∉ AQ (f.take k):=fun e=>by have:=hbk _ e;omega
    have h2:((k:Int)) ∉ AD p:=fun e=>by have:=hlt _ e;omega
    simp[h1,h2]
  have h2:Ko f (GV k (AQ (f.take k)))=Ko f ((GV k (AQ (f.take k))).filter fun i=>decide (i ∉ AD p))+Ko f (AD p):=by
   have hs:=KZ f (fun i=>decide (i ∉ AD p)) (fun _=>true) (GV k (AQ (f.take k))) (fun _ _ _=>rfl);rw[List.filter_eq_self.2 (fun _ _=>rfl)] at hs;rw[hs];congr 1
   refine TP f ?_
   have hnd:(AD p).Nodup:=List.nodup_iff_count.2 fun x=>by
    by_cases hx:x ∈ AD p
    ·have:=hcount x (hlt x hx).1;omega
    ·rw[List.count_eq_zero_of_not_mem hx];omega
   refine(List.perm_ext_iff_of_nodup ?_ hnd).2 fun x=>?_
   ·refine List.Nodup.sublist (List.filter_sublist) ?_;unfold GV;refine List.Nodup.sublist (List.filter_sublist) ?_;rw[List.nodup_iff_pairwise_ne,List.pairwise_map];exact(List.nodup_iff_pairwise_ne.1 (List.nodup_range)).imp fun h e=>h (Int.ofNat.inj e)
   ·simp only[List.mem_filter,decide_not,Bool.not_not,Bool.true_and,decide_eq_true_eq];refine⟨fun h=>h.2,fun hx=>⟨?_,hx⟩⟩;have hr:=hlt x hx;obtain⟨j,rfl⟩:=Int.eq_ofNat_of_zero_le hr.1;unfold GV;rw[List.mem_filter];refine⟨List.mem_map.2 ⟨j,List.mem_range.2 (by omega),rfl⟩,decide_eq_true fun e=>?_⟩;have:=hcount j hr.1;have c1:=List.count_pos_iff.2 e;have c2:=List.count_pos_iff.2 hx;omega
  rw[h1];unfold Ko at *;rw[List.map_append,List.sum_append];simp only[List.map_cons,List.map_nil,List.sum_cons,List.sum_nil];omega
theorem CY {f:List At}(h:AR f=true):I8 f:=Jd h
theorem PZ {f:List At}(h:AR f=true):Jc f=true:=by
 unfold AR at h;simp only[Bool.and_eq_true] at h;exact h.2
theorem Mw {f:List At}(hf:I8 f){x:Int}(hx:x ∈ AQ f):0<=x/\x+1<(f.length:Int):=by
 unfold AQ at hx;rw[List.mem_flatMap] at hx;obtain⟨q,hq,hx⟩:=hx;obtain⟨j,hj,rfl⟩:=List.getElem_of_mem hq;have:=Cw (hf j _ (List.getElem?_eq_getElem hj)) x hx;omega
theorem J2 {f:List At}(h:AR f=true)(i:Nat):(AQ f).count (i:Int)=if i+1<f.length then 1 else 0:=by
 split
 ·rename_i hi
  have hu:=PZ h;unfold Jc at hu;rw[List.all_eq_true] at hu;simpa using hu i (List.mem_range.2 (by omega))
 ·rename_i hi
  refine List.count_eq_zero_of_not_mem fun e=>?_;have:=Mw (CY h) e;omega
theorem JE {f:List At}(h:AR f=true):(BH f f.length ((f.length:Int) - 1)).size=f.length:=by
 have hl:=Cg h;have hs:=UU (CY h) (fun i=>by rw[J2 h];split <;> omega) f.length (Nat.le_refl _);rw[List.take_length] at hs
 have e:GV f.length (AQ f)=[((f.length - 1:Nat):Int)]:=by
  obtain⟨n,hn⟩:∃ n,f.length=n+1:=⟨f.length - 1,by omega⟩;unfold GV;rw[hn,List.range_succ,List.map_append,List.filter_append]
  have h1:((List.range n).map Int.ofNat).filter (fun i=>decide (i ∉ AQ f))=[]:=by
   rw[List.filter_eq_nil_iff];intro x hx;obtain⟨j,hj,rfl⟩:=List.mem_map.1 hx;have hj:=List.mem_range.1 hj;have hc:=J2 h j;rw[if_pos (by omega)] at hc;have:=List.count_pos_iff.1 (show 0<(AQ f).count (j:Int) by omega);simpa using this
  have h2:((n:Nat):Int) ∉ AQ f:=fun e=>by
   have:=Mw (CY h) e;omega
  rw[h1];simp[h2]
 rw[e] at hs;unfold Ko KY at hs;simp only[List.map_cons,List.map_nil,List.sum_cons,List.sum_nil,Nat.add_zero] at hs;rw[show ((f.length:Int) - 1)=((f.length - 1:Nat):Int) by omega];exact hs
theorem J4 {f:List At}(h:AR f=true):Bv f=Ce (BH f f.length ((f.length:Int) - 1)) 0:=by
 have hl:=Cg h;unfold Bv;rw[if_pos h,Eu (CY h) _ _ _ (by omega) (by omega) (by omega)];rfl
theorem RE {f:List At}(h:AR f=true):(BH f f.length ((f.length:Int) - 1)).good:=by
 have hl:=Cg h;exact EM (CY h) _ _ (by omega) (by omega) (by omega)
theorem FB (a b:List At):AQ (a++b)=AQ a++AQ b:=by unfold AQ;rw[List.flatMap_append]
theorem GW (p:At):AQ [p]=AD p:=by unfold AQ;simp
theorem CE:∀ (t:Tr)(b i:Nat),t.fine->(AQ (Ce t b)).count (i:Int)=if b<=i/\i+1<b+t.size then 1 else 0
 | .leaf k n,b,i,h=>by
  have:AQ (Ce (.leaf k n) b)=[]:=by
   show AQ [_]=[];rw[GW];unfold AD;rcases h with rfl | rfl
   ·rfl
   ·rfl
  rw[this,if_neg (by simp only[Tr.size];omega)];rfl
 | .bin k x y,b,i,h=>by
  obtain⟨h2,h7,hx,hy⟩:=h;have px:=Dk x;have py:=Dk y
  have e:AD (⟨k,(b:Int)+x.size - 1,(b:Int)+x.size+y.size - 1,-1,0⟩:At)=[(b:Int)+x.size - 1,(b:Int)+x.size+y.size - 1]:=by
   unfold AD;rw[if_neg (by simp only;omega),if_pos ⟨h2,h7⟩]
  have hsz:(Tr.bin k x y).size=x.size+y.size+1:=rfl;by_cases hR:b<=i/\i+1<b+(Tr.bin k x y).size
  ·rw[if_pos hR];simp only[Ce,FB,GW,e,List.count_append,CE x b i hx,CE y (b+x.size) i hy,List.count_cons,List.count_nil,beq_iff_eq];split <;> split <;> split <;> split <;> omega
  ·rw[if_neg hR];simp only[Ce,FB,GW,e,List.count_append,CE x b i hx,CE y (b+x.size) i hy,List.count_cons,List.count_nil,beq_iff_eq];split <;> split <;> split <;> split <;> omega
 | .ite x y z,b,i,h=>by
  obtain⟨hx,hy,hz⟩:=h;have px:=Dk x;have py:=Dk y;have pz:=Dk z
  have e:AD (⟨8,(b:Int)+x.size - 1,(b:Int)+x.size+y.size - 1,(b:Int)+x.size+y.size+z.size - 1,0⟩:At)=[(b:Int)+x.size - 1,(b:Int)+x.size+y.size - 1,(b:Int)+x.size+y.size+z.size - 1]:=by
   unfold AD;rw[if_pos rfl]
  have hsz:(Tr.ite x y z).size=x.size+y.size+z.size+1:=rfl;by_cases hR:b<=i/\i+1<b+(Tr.ite x y z).size
  ·rw[if_pos hR];simp only[Ce,FB,GW,e,List.count_append,CE x b i hx,CE y (b+x.size) i hy,CE z (b+x.size+y.size) i hz,List.count_cons,List.count_nil,beq_iff_eq];split <;> split <;> split <;> split <;> split <;> split <;> omega
  ·rw[if_neg hR];simp only[Ce,FB,GW,e,List.count_append,CE x b i hx,CE y (b+x.size) i hy,CE z (b+x.size+y.size) i hz,List.count_cons,List.count_nil,beq_iff_eq];split <;> split <;> split <;> split <;> split <;> split <;> omega
theorem Kp (a b:List At)(i:Nat):Bz i (a++b)=(Bz i a && Bz (i+a.length) b):=by
 induction a generalizing i with
 | nil=>simp[Bz]
 | cons p a ih=>simp[Bz,ih,Bool.and_assoc,Nat.add_comm,Nat.add_left_comm]
theorem IT (p:At)(i:Nat):Bz i [p]=AZ p i:=by simp[Bz]
theorem GC:∀ (t:Tr)(b:Nat),t.good->Bz b (Ce t b)=true
 | .leaf k n,b,h=>by
  show Bz b [_]=true;rw[IT];unfold AZ Di AD;rcases h with ⟨rfl,h⟩ | ⟨rfl,h⟩
  ·simp[Cb,h]
  ·simp[Cb,h]
 | .bin k x y,b,h=>by
  obtain⟨h2,h7,hx,hy⟩:=h;have px:=Dk x;have py:=Dk y;simp only[Ce,Kp,IT,flat_len,GC x b hx,GC y (b+x.size) hy,Bool.true_and];unfold AZ Di AD;simp only;rw[if_neg (by omega),if_neg (by omega),if_neg (by omega),if_pos ⟨h2,h7⟩,if_neg (by omega),if_pos ⟨h2,h7⟩];simp only[List.all_cons,List.all_nil,Cb,Bool.and_true,Bool.and_eq_true,beq_self_eq_true,decide_eq_true_eq,true_and];omega
 | .ite x y z,b,h=>by
  obtain⟨hx,hy,hz⟩:=h;have px:=Dk x;have py:=Dk y;have pz:=Dk z;simp only[Ce,Kp,IT,flat_len,GC x b hx,GC y (b+x.size) hy,GC z (b+x.size+y.size) hz,Bool.true_and];unfold AZ Di AD;simp only;rw[if_neg (by omega),if_neg (by omega),if_pos trivial,if_pos trivial];simp only[List.all_cons,List.all_nil,Cb,Bool.and_true,Bool.and_eq_true,beq_self_eq_true,decide_eq_true_eq,true_and];omega
theorem IQ {t:Tr}(h:t.good)(hs:t.size<=12):AR (Ce t 0)=true:=by
 have hp:=Dk t;unfold AR;rw[GC t 0 h,flat_len];simp only[Bool.and_true,Bool.and_eq_true];refine⟨by simp[Cb];omega,?_⟩;unfold Jc;rw[List.all_eq_true];intro i hi;rw[flat_len] at hi;have hi:=List.mem_range.1 hi;rw[CE t 0 i h.fine,if_pos (by omega)];rfl
theorem GD:∀ (t:Tr)(b k:Nat)(f:List At)(n:Nat),t.good->f.length=n->b+t.size<=n->(∀ j p,(Ce t b)[j]? = some p->f[b+j]? = some p)->b+t.size<=k->BH f k ((b+t.size:Nat) - 1:Int)=t
 | .leaf c n,b,k,f,_,hg,rfl,hl,hf,hk=>by
  obtain⟨k,rfl⟩:∃ m,k=m+1:=⟨k - 1,by simp only[Tr.size] at hk;omega⟩;have h0:=hf 0 ⟨c,-1,-1,-1,n⟩ rfl;have e:(((b+(Tr.leaf c n).size:Nat):Int) - 1).toNat=b:=by simp only[Tr.size];omega
  unfold BH;simp only[e,List.getD_eq_getElem?_getD];rw[Nat.add_zero] at h0;rw[h0];simp only[Option.getD_some];rcases hg with ⟨rfl,-⟩ | ⟨rfl,-⟩
  ·rw[if_neg (by decide),if_neg (by decide)]
  ·rw[if_neg (by decide),if_neg (by decide)]
 | .bin c x y,b,k,f,_,hg,rfl,hl,hf,hk=>by
  obtain⟨h2,h7,hx,hy⟩:=hg;simp only[Tr.size] at hl hk;obtain⟨k,rfl⟩:∃ m,k=m+1:=⟨k - 1,by omega⟩;have lx:=flat_len x b;have ly:=flat_len y (b+x.size)
  have h0:=hf (x.size+y.size) ⟨c,(b:Int)+x.size - 1,(b:Int)+x.size+y.size - 1,-1,0⟩ (by
   simp only[Ce];rw[List.getElem?_append_right (by omega),List.getElem?_append_right (by omega),lx,ly,show x.size+y.size - x.size - y.size=0 by omega];rfl)
  have e:(((b+(Tr.bin c x y).size:Nat):Int) - 1).toNat=b+(x.size+y.size):=by simp only[Tr.size];omega
  unfold BH;simp only[e,List.getD_eq_getElem?_getD,h0,Option.getD_some];rw[if_neg (by omega),if_pos ⟨h2,h7⟩];have ex:=GD x b k f _ hx rfl (by omega) (fun j p hj=>hf j p (by simp only[Ce];rw[List.getElem?_append_left (List.getElem?_eq_some_iff.1 hj).1];exact hj)) (by omega)
  have ey:=GD y (b+x.size) k f _ hy rfl (by omega) (fun j p hj=>by
   have:=hf (x.size+j) p (by
    simp only[Ce];rw[List.getElem?_append_right (by omega),lx,show x.size+j - x.size=j by omega,List.getElem?_append_left (List.getElem?_eq_some_iff.1 hj).1];exact hj)
   rwa [<- Nat.add_assoc] at this) (by omega)
  rw[show (b:Int)+x.size - 1=((b+x.size:Nat):Int) - 1 by omega,ex,show (b:Int)+x.size+y.size - 1=((b+x.size+y.size:Nat):Int) - 1 by omega,ey]
 | .ite x y z,b,k,f,_,hg,rfl,hl,hf,hk=>by
  obtain⟨hx,hy,hz⟩:=hg;simp only[Tr.size] at hl hk;obtain⟨k,rfl⟩:∃ m,k=m+1:=⟨k - 1,by omega⟩;have lx:=flat_len x b;have ly:=flat_len y (b+x.size);have lz:=flat_len z (b+x.size+y.size)
  have h0:=hf (x.size+(y.size+z.size)) ⟨8,(b:Int)+x.size - 1,(b:Int)+x.size+y.size - 1,(b:Int)+x.size+y.size+z.size - 1,0⟩ (by
   simp only[Ce];rw[List.getElem?_append_right (by omega),List.getElem?_append_right (by omega),List.getElem?_append_right (by omega),lx,ly,lz,show x.size+(y.size+z.size) - x.size - y.size - z.size=0 by omega];rfl)
  have e:(((b+(Tr.ite x y z).size:Nat):Int) - 1).toNat=b+(x.size+(y.size+z.size)):=by simp only[Tr.size];omega
  unfold BH;simp only[e,List.getD_eq_getElem?_getD,h0,Option.getD_some];rw[if_pos trivial];have ex:=GD x b k f _ hx rfl (by omega) (fun j p hj=>hf j p (by simp only[Ce];rw[List.getElem?_append_left (List.getElem?_eq_some_iff.1 hj).1];exact hj)) (by omega)
  have ey:=GD y (b+x.size) k f _ hy rfl (by omega) (fun j p hj=>by
   have:=hf (x.size+j) p (by
    simp only[Ce];rw[List.getElem?_append_right (by omega),lx,show x.size+j - x.size=j by omega,List.getElem?_append_left (List.getElem?_eq_some_iff.1 hj).1];exact hj)
   rwa [<- Nat.add_assoc] at this) (by omega)
  have ez:=GD z (b+x.size+y.size) k f _ hz rfl (by omega) (fun j p hj=>by
   have:=hf (x.size+(y.size+j)) p (by
    simp only[Ce];rw[List.getElem?_append_right (by omega),List.getElem?_append_right (by omega),lx,ly,show x.size+(y.size+j) - x.size - y.size=j by omega,List.getElem?_append_left (List.getElem?_eq_some_iff.1 hj).1];exact hj)
   rwa [<- Nat.add_assoc,<- Nat.add_assoc] at this) (by omega)
  rw[show (b:Int)+x.size - 1=((b+x.size:Nat):Int) - 1 by omega,ex,show (b:Int)+x.size+y.size - 1=((b+x.size+y.size:Nat):Int) - 1 by omega,ey,show (b:Int)+x.size+y.size+z.size - 1=((b+x.size+y.size+z.size:Nat):Int) - 1 by omega,ez]
theorem Gh {t:Tr}(h:t.good)(hs:t.size<=12):Bv (Ce t 0)=Ce t 0:=by
 rw[J4 (IQ h hs)];have:=GD t 0 (Ce t 0).length (Ce t 0) t.size h (by simp) (by omega) (fun j p hj=>by simpa using hj) (by simp);rw[Nat.zero_add] at this;rw[show (((Ce t 0).length:Nat):Int) - 1=(t.size:Int) - 1 by simp,this]
def FH (f:List At)(k:Nat)(l:List Int)(out:List At):List At:=l.foldl (fun o x=>CF f k x o) out
def V_ (l:List At):Int:=(l.length:Int) - 1
def N5 (f:List At)(k:Nat)(p:At)(out:List At)(j:Nat):At :=
 ⟨p.kind,if 0<j then V_ (FH f k ((AD p).take 1) out) else p.a,if 1<j then V_ (FH f k ((AD p).take 2) out) else p.b,if 2<j then V_ (FH f k ((AD p).take 3) out) else p.c,p.n⟩
theorem Mu {f:List At}{k:Nat}{i:Int}{p:At}(hd:f.getD i.toNat default=p)(out:List At):CF f (k+1) i out=FH f k (AD p) out++[N5 f k p out (AD p).length]:=by
 unfold CF;simp only[hd];unfold N5 AD FH V_;by_cases h8:p.kind=8
 ·simp[h8]
 ·by_cases h27:2<=p.kind/\p.kind<=7
  ·simp[h8,h27]
  ·simp[h8,h27]
theorem Lh {f:List At}{k:Nat}{l:List Int}{j:Nat}{x:Int}(h:l[j]? = some x)(out:List At):FH f k (l.take (j+1)) out=CF f k x (FH f k (l.take j) out):=by
 unfold FH;rw[List.take_add_one,h];simp
theorem Mv (f:List At)(k:Nat)(p:At)(out:List At):N5 f k p out 0=p:=by simp[N5]
theorem KW {f:List At}(hf:I8 f){k:Nat}{i:Int}(h0:0<=i)(hl:i<f.length)(hk:i<k)(out:List At):(CF f k i out).length=out.length+(BH f k i).size:=by
 rw[Eu hf k i out h0 hl hk,List.length_append,flat_len]
theorem PY {f:List At}(hf:I8 f){k:Nat}{i:Nat}{p:At}(hp:f[i]? = some p)(hk:i<k+1)(out:List At) :
  (FH f k (AD p) out).length+1=out.length+(BH f (k+1) (i:Int)).size /\
  ∀ (j:Nat) (x:Int),(AD p)[j]? = some x->(FH f k ((AD p).take j) out).length+(BH f k x).size+1<=out.length+(BH f (k+1) (i:Int)).size:=by
 have hi:=(List.getElem?_eq_some_iff.1 hp).1;obtain⟨j',q,e,hq,hd⟩:=IB (f:=f) (i:=(i:Int)) (by omega) (by omega);obtain rfl:i=j':=by omega
 rw[hp] at hq;injection hq with hq;subst hq;have hL:∀ (x:Int) (o:List At),0<=x->x<i->(CF f k x o).length=o.length+(BH f k x).size:=fun x o h0 h1=>KW hf h0 (by omega) (by omega) o
 have eT:BH f (k+1) (i:Int)=if p.kind=8 then .ite (BH f k p.a) (BH f k p.b) (BH f k p.c) else if 2<=p.kind/\p.kind<=7 then .bin p.kind (BH f k p.a) (BH f k p.b) else .leaf p.kind p.n:=by
  rw[BH];simp only[hd]
 rw[eT];unfold AD FH;rcases FG hf hp with ⟨h8,hn,ha,hb,hc⟩ | ⟨h2,h7,hn,hc,ha,hb⟩ | ⟨hk,ha,hb,hc⟩
 ·rw[if_pos h8,if_pos h8];simp only[List.foldl_cons,List.foldl_nil,Tr.size];have e1:=hL p.a out ha.1 ha.2;have e2:=hL p.b (CF f k p.a out) hb.1 hb.2;have e3:=hL p.c (CF f k p.b (CF f k p.a out)) hc.1 hc.2;refine⟨by omega,fun j x hx=>?_⟩;match j,hx with
  | 0,hx=>simp only[List.getElem?_cons_zero,Option.some.injEq] at hx;subst hx;simp;omega
  | 1,hx=>simp only[List.getElem?_cons_succ,List.getElem?_cons_zero,Option.some.injEq] at hx;subst hx;simp;omega
  | 2,hx=>simp only[List.getElem?_cons_succ,List.getElem?_cons_zero,Option.some.injEq] at hx;subst hx;simp;omega
  | j+3,hx=>simp at hx
 ·rw[if_neg (by omega:¬ p.kind=8),if_pos ⟨h2,h7⟩,if_neg (by omega:¬ p.kind=8),if_pos ⟨h2,h7⟩];simp only[List.foldl_cons,List.foldl_nil,Tr.size];have e1:=hL p.a out ha.1 ha.2;have e2:=hL p.b (CF f k p.a out) hb.1 hb.2;refine⟨by omega,fun j x hx=>?_⟩;match j,hx with
  | 0,hx=>simp only[List.getElem?_cons_zero,Option.some.injEq] at hx;subst hx;simp;omega
  | 1,hx=>simp only[List.getElem?_cons_succ,List.getElem?_cons_zero,Option.some.injEq] at hx;subst hx;simp;omega
  | j+2,hx=>simp at hx
 ·rw[if_neg (by omega:¬ p.kind=8),if_neg (by omega:¬ (2<=p.kind/\p.kind<=7)),if_neg (by omega:¬ p.kind=8),if_neg (by omega:¬ (2<=p.kind/\p.kind<=7))];exact⟨rfl,fun j x hx=>by simp at hx⟩
end Sg
namespace Go.Proofs.YthibllkleakiiaaGreatDoor
open Go.RowKit
theorem Ai.iff {B:Nat}{ts:List (Th B)}{W:World}:Ai ts W↔(∀ t ∈ ts,t.ok W)/\ts.Pairwise (fun t s=>∀ b,t.fp b->¬ s.fp b):=by
 induction ts with
 | nil=>simp[Ai]
 | cons t ts ih =>
  rw[List.pairwise_cons];constructor
  ·rintro ⟨h1,h2,h3⟩;obtain⟨a,b⟩:=ih.1 h3;exact⟨fun x hx=>by rcases List.mem_cons.1 hx with rfl | hx;exact h1;exact a x hx,h2,b⟩
  ·rintro ⟨h1,h2,h3⟩;exact⟨h1 t (by simp),h2,ih.2 ⟨fun x hx=>h1 x (by simp[hx]),h3⟩⟩
theorem Ai.perm {B:Nat}{ts us:List (Th B)}{W:World}(h:Ai ts W)(p:ts.Perm us):Ai us W:=by
 rw[Ai.iff] at h ⊢;exact⟨fun t ht=>h.1 t (p.mem_iff.2 ht),(p.pairwise_iff (fun {x y} hxy b hy hx=>hxy b hx hy)).1 h.2⟩
theorem Ai.sub {B:Nat}{ts us:List (Th B)}{W:World}(h:Ai ts W)(p:us.Sublist ts):Ai us W:=by
 rw[Ai.iff] at h ⊢;exact⟨fun t ht=>h.1 t (p.mem ht),h.2.sublist p⟩
theorem Ai.midP {B:Nat}{W:World}(X Y Z:List (Th B))(h:Ai (X++(Y++Z)) W):Ai (Y++(X++Z)) W:=Ai.perm h (List.perm_append_comm_assoc X Y Z)
def Ym {α:Type _}(b:Bool)(l:List α):List α:=match b with
 | true=>l
 | false=>[]
end Go.Proofs.YthibllkleakiiaaGreatDoor
