/- Parts of one proof, joined. Parts put in order, in memory: the reference's post and the program's put: contracts. Conditions: good parts; few of them. -/
import Derived.IntWalk
import Derived.Deep.DeepCutAuto
import Derived.Test.YthibllkleakiiaaGreatDoorReg
import Derived.Test.YthibllkleakiiaaGreatDoorPlX
namespace Go.Proofs.YthibllkleakiiaaGreatDoor
open Go.RowKit
theorem WJ {n:Nat}(h:n<10):ByteArray.extract ⟨#[48,49,50,51,52,53,54,55,56,57]⟩ n (n+1)=ts (Sg.BE n):=by
 rw[Sg.CQ h];have:n=0\/n=1\/n=2\/n=3\/n=4\/n=5\/n=6\/n=7\/n=8\/n=9:=by omega
 rcases this with rfl | rfl | rfl | rfl | rfl | rfl | rfl | rfl | rfl | rfl <;> rfl
theorem Po {n:Nat}(h:n<10000):(Sg.BE n).length<=4:=by
 by_cases h1:n<10
 ·rw[Sg.CQ h1];simp
 ·rw[Sg.Fa h1];by_cases h2:n / 10<10
  ·rw[Sg.CQ h2];simp
  ·rw[Sg.Fa h2];by_cases h3:n / 10 / 10<10
   ·rw[Sg.CQ h3];simp
   ·rw[Sg.Fa h3,Sg.CQ (by omega)];simp
set_option maxRecDepth 100000 in
set_option maxHeartbeats 1000000 in
theorem IC (n:Nat)(hn:n<10000)(w:World):Calls Tryz.prog 67 #[.int .i64 (n:Int)] w fun e w'=>e= .returned (.string (ts (Sg.BE n)))/\w=w':=by
 induction n using Nat.strongRecOn generalizing w with
 | ind n ih =>
  have iw:IntKind.i64.wrap ((n:Int)+1)=(n:Int)+1:=IntWalk.i64_in _ (by omega);by_cases h:n<10
  ·have hx:(n:Int)<10:=by omega
   have hx2:(n:Int)+1<=10:=by omega
   have hc:=WJ h;have HC:=lh hc;have hsl:=fun w=>Y1 ⟨#[48,49,50,51,52,53,54,55,56,57]⟩ (n:Int) ((n:Int)+1) (by omega) (by omega) (by show (n:Int)+1<=10;omega) w;rw[show ((n:Int)+1).toNat=n+1 by omega,Int.toNat_natCast,hc] at hsl;clear ih hc;go_enter Tryz.func67,Tryz.ntmps67;go_wp2;go_ret;exact⟨rfl,rfl⟩
  ·have hx:¬ (n:Int)<10:=by omega
   have hq:Int.tdiv (n:Int) 10=((n / 10:Nat):Int):=by rw[Int.tdiv_eq_ediv_of_nonneg (by omega)];omega
   have hm:Int.tmod (n:Int) 10=((n % 10:Nat):Int):=by rw[Int.tmod_eq_emod_of_nonneg (by omega)];omega
   have iq:IntKind.i64.wrap ((n / 10:Nat):Int)=((n / 10:Nat):Int):=IntWalk.i64_in _ (by omega);have im:IntKind.i64.wrap ((n % 10:Nat):Int)=((n % 10:Nat):Int):=IntWalk.i64_in _ (by omega);have hl1:=Po (show n / 10<10000 by omega);have hl2:=Po (show n % 10<10000 by omega);have I1:=lh (fun w=>ih (n / 10) (by omega) (by omega) w);have I2:=lh (fun w=>ih (n % 10) (by omega) (by omega) w);have HE:Hid (Sg.BE n=Sg.BE (n / 10)++Sg.BE (n % 10)):=lh (by rw[Sg.Fa h,Sg.CQ (n:=n % 10) (by omega)]);clear ih;generalize n / 10=p at *;generalize n % 10=q at *;go_enter Tryz.func67,Tryz.ntmps67;go_wp2_with fail
   refine(I1.out _).mono ?_;rintro e w1 ⟨rfl,rfl⟩;go_wp2_with fail
   refine(I2.out _).mono ?_;rintro e w2 ⟨rfl,rfl⟩;have hsz:¬ ((ts (Sg.BE p)).size+(ts (Sg.BE q)).size > 9223372036854775807):=by rw[BB,BB];omega
   go_wp2;go_ret;exact⟨by rw[HE.out,<- BY];rfl,rfl⟩
set_option maxRecDepth 100000 in
set_option maxHeartbeats 1000000 in
theorem Lv (w:World):Calls Tryz.prog 104 #[] w fun e w'=>∃ b,e= .returned (.slice (some ⟨b,0,none⟩) 9 9)/\(∀ k:Nat,2<=k->k<=8->w'.cell? ⟨b,k,none⟩=some (.string (ts (Sg.CM k))))/\Aa w w':=by
 go_enter Tryz.func104,Tryz.ntmps104;go_wp2;go_ret;refine⟨_,rfl,fun k h2 h8=>?_,(Aa.rfl' w).al _⟩;have:k=2\/k=3\/k=4\/k=5\/k=6\/k=7\/k=8:=by omega
 rcases this with rfl | rfl | rfl | rfl | rfl | rfl | rfl <;> simp[go_sem] <;> rfl
set_option maxRecDepth 100000 in
set_option maxHeartbeats 1000000 in
theorem SC (k:Nat)(hk2:2<=k)(hk8:k<=8)(a b c n:Int)(w:World) :
  Calls Tryz.prog 143 #[pv ⟨k,a,b,c,n⟩] w fun e w'=>e= .returned (.string (ts (Sg.Cp ⟨k,a,b,c,n⟩)))/\Aa w w':=by
 have HP:=lh (Sg.FA (k:=(k:Int)) (by omega) a b c n);have q0:World.cell? (World.alloc w (.cells #[.int .i64 (k:Int),.int .i64 a,.int .i64 b,.int .i64 c,.int .i64 n] 111)) ⟨w.heap.size,0,none⟩=some (.int .i64 (k:Int)):=by simp[go_sem]
 have EB:=lh ((Aa.rfl' w).al (.cells #[.int .i64 (k:Int),.int .i64 a,.int .i64 b,.int .i64 c,.int .i64 n] 111));have k0:((k:Int) == 0)=false:=by simp;omega
 have k1:((k:Int) == 1)=false:=by simp;omega
 have hk9:(k:Int)<9:=by omega
 go_enter Tryz.func143,Tryz.ntmps143;go_upto_region 1 with fail
 generalize World.alloc w (.cells #[.int .i64 (k:Int),.int .i64 a,.int .i64 b,.int .i64 c,.int .i64 n] 111)=w0 at *;have E0:=lh ((Aa.rfl' w0).dr);have bq0:=AA q0;go_wp2_with fail
 refine zb 5 (fun W=>W.cell? ⟨w.heap.size,0,none⟩=some (.int .i64 (k:Int))) ?_ (fun hHeld=>?_)
 ·exact E0.out.cellE q0
 refine zy 1 ?_;refine zy 2 ?_;refine zr 0 rfl fun K hK=>?_;go_simp;refine(Lv _).mono ?_;rintro e v1 ⟨bw,rfl,hbw,he1⟩;have E1:=lh (E0.out.tr he1);have c1:=hbw k hk2 hk8;have bc1:=AA c1;clear he1 hbw;try go_wp2_with fail
 refine zh (hK.out _ _) (E1.out.cellE q0) fun hHeld=>?_;clear hK K;try simp only[Act.put,pu]
 refine zy 3 ?_;refine zr 4 rfl fun K hK=>?_;go_simp;try simp only[pg]
 refine zh (hK.out _ _) (E1.out.cellE q0) fun hHeld=>?_;clear hK K;try simp only[Act.put,pu]
 refine zr 5 rfl fun K hK=>?_;go_simp;refine hK.out _ _ (fun e=>absurd rfl e) (fun hh=>?_);clear hK K hHeld hh;try simp only[Act.put,pu]
 refine zn ?_;skip
 go_wp2;go_ret;exact⟨by rw[HP.out];rfl,EB.out.tr E1.out⟩
set_option maxRecDepth 100000 in
set_option maxHeartbeats 1000000 in
theorem Up (k:Int)(hk:k=0\/k=1)(a b c:Int)(n:Nat)(hn:n<10000)(w:World) :
  Calls Tryz.prog 143 #[pv ⟨k,a,b,c,n⟩] w fun e w'=>e= .returned (.string (ts (Sg.Cp ⟨k,a,b,c,n⟩)))/\Aa w w':=by
 have hl:=Po hn;have HN:=lh (fun w=>IC n hn w);have EB:=lh ((Aa.rfl' w).al (.cells #[.int .i64 k,.int .i64 a,.int .i64 b,.int .i64 c,.int .i64 (n:Int)] 111));have q0:World.cell? (World.alloc w (.cells #[.int .i64 k,.int .i64 a,.int .i64 b,.int .i64 c,.int .i64 (n:Int)] 111)) ⟨w.heap.size,0,none⟩=some (.int .i64 k):=by simp[go_sem]
 have q4:World.cell? (World.alloc w (.cells #[.int .i64 k,.int .i64 a,.int .i64 b,.int .i64 c,.int .i64 (n:Int)] 111)) ⟨w.heap.size,4,none⟩=some (.int .i64 (n:Int)):=by simp[go_sem]
 rcases hk with rfl | rfl
 ·have HP:=lh (Sg.JB a b c n);go_enter Tryz.func143,Tryz.ntmps143;go_upto_region 1 with fail
  generalize World.alloc w (.cells #[.int .i64 0,.int .i64 a,.int .i64 b,.int .i64 c,.int .i64 (n:Int)] 111)=w0 at *;have bq0:=AA q0;go_wp2_with fail
  refine(HN.out _).mono ?_;rintro e w1 ⟨rfl,rfl⟩;go_wp2;go_ret;exact⟨by rw[HP.out];rfl,EB.out⟩
 ·have HP:=lh (Sg.IP a b c n);have hsz:¬ (ByteArray.size ⟨#[114]⟩+(ts (Sg.BE n)).size > 9223372036854775807):=by have e1:ByteArray.size ⟨#[114]⟩=1:=rfl;have e2:=BB (Sg.BE n);omega
  go_enter Tryz.func143,Tryz.ntmps143;go_upto_region 1 with fail
  generalize World.alloc w (.cells #[.int .i64 1,.int .i64 a,.int .i64 b,.int .i64 c,.int .i64 (n:Int)] 111)=w0 at *;have bq0:=AA q0;go_wp2_with fail
  refine(HN.out _).mono ?_;rintro e w1 ⟨rfl,rfl⟩;go_wp2;go_ret;exact⟨by rw[HP.out];rfl,EB.out⟩
theorem Sy (p:Sg.At)(hk:(p.kind=0\/p.kind=1)/\0<=p.n/\p.n<=999\/2<=p.kind/\p.kind<=8)(w:World) :
  Calls Tryz.prog 143 #[pv p] w fun e w'=>e= .returned (.string (ts (Sg.Cp p)))/\Aa w w':=by
 obtain⟨k,a,b,c,n⟩:=p;rcases hk with ⟨hk,h0,h9⟩ | ⟨h2,h8⟩
 ·simp only at hk h0 h9;obtain⟨m,rfl⟩:=Int.eq_ofNat_of_zero_le h0;exact Up k hk a b c m (by omega) w
 ·simp only at h2 h8;obtain⟨m,rfl⟩:=Int.eq_ofNat_of_zero_le (show 0<=k by omega);exact SC m (by omega) (by omega) a b c n w
open Go.RowKit
theorem XL {w:World}{b o n k:Nat}{l:List Int}{y:Int}(h:Rd w 1 (some ⟨b,o,none⟩) n (Ah l))(hk:k<n)(hy:l[k]? = some y):w.cell? ⟨b,o+k,none⟩=some (.int .i64 y):=by
 obtain⟨b',o',x,hA,hx,hc⟩:=h.at1 hk;simp only[Option.some.injEq,Addr.mk.injEq,and_true] at hA;obtain⟨rfl,rfl⟩:=hA;rw[hy] at hx;injection hx with hx;subst hx;exact hc
theorem XM {w:World}{b o n k:Nat}{l:List Sg.At}{p:Sg.At}(h:Rd w 5 (some ⟨b,o,none⟩) n (AH l))(hk:k<n)(hp:l[k]? = some p) :
  w.cell? ⟨b,o+k * 5,none⟩=some (.int .i64 p.kind)/\w.cell? ⟨b,o+k * 5+1,none⟩=some (.int .i64 p.a)/\w.cell? ⟨b,o+k * 5+2,none⟩=some (.int .i64 p.b)/\w.cell? ⟨b,o+k * 5+3,none⟩=some (.int .i64 p.c)/\w.cell? ⟨b,o+k * 5+4,none⟩=some (.int .i64 p.n):=by
 obtain⟨b',o',x,hA,hx,hc⟩:=h.atP hk;simp only[Option.some.injEq,Addr.mk.injEq,and_true] at hA;obtain⟨rfl,rfl⟩:=hA;rw[hp] at hx;injection hx with hx;subst hx;exact hc
theorem MT (p:Sg.At){j:Nat}(hj:j<3):(Dn p)[j+1]? = some ((Dn p).getD (j+1) undef):=by
 have:j=0\/j=1\/j=2:=by omega
 rcases this with rfl | rfl | rfl <;> rfl
theorem Qx (bp:Nat){j:Nat}(hj:j<3):([.pointer (some ⟨bp,1,none⟩),.pointer (some ⟨bp,2,none⟩),.pointer (some ⟨bp,3,none⟩)]:List Value)[j]? = some (.pointer (some ⟨bp,j+1,none⟩)):=by
 have:j=0\/j=1\/j=2:=by omega
 rcases this with rfl | rfl | rfl <;> rfl
theorem IE (p:Sg.At):∀ u ∈ Dn p,u.oneCell'=true:=by
 intro u hu;simp[Dn] at hu;rcases hu with rfl | rfl | rfl | rfl | rfl <;> rfl
theorem SepT.iff {B:Nat}{ts:List (Th B)}{W:World}:Ai ts W↔(∀ t ∈ ts,t.ok W)/\ts.Pairwise (fun t s=>∀ b,t.fp b->¬ s.fp b):=by
 induction ts with
 | nil=>simp[Ai]
 | cons t ts ih =>
  rw[List.pairwise_cons];constructor
  ·rintro ⟨h1,h2,h3⟩;obtain⟨a,b⟩:=ih.1 h3;exact⟨fun x hx=>by rcases List.mem_cons.1 hx with rfl | hx;exact h1;exact a x hx,h2,b⟩
  ·rintro ⟨h1,h2,h3⟩;exact⟨h1 t (by simp),h2,ih.2 ⟨fun x hx=>h1 x (by simp[hx]),h3⟩⟩
theorem SepT.perm {B:Nat}{ts us:List (Th B)}{W:World}(h:Ai ts W)(p:ts.Perm us):Ai us W:=by
 rw[SepT.iff] at h ⊢;exact⟨fun t ht=>h.1 t (p.mem_iff.2 ht),(p.pairwise_iff (fun {x y} hxy b hy hx=>hxy b hx hy)).1 h.2⟩
theorem SepT.sub {B:Nat}{ts us:List (Th B)}{W:World}(h:Ai ts W)(p:us.Sublist ts):Ai us W:=by
 rw[SepT.iff] at h ⊢;exact⟨fun t ht=>h.1 t (p.mem ht),h.2.sublist p⟩
theorem zj1{p:Prop}(h:p:=by
 go_wp2;go_roundw
 case rel=>exact⟨_,A2,c2,by omega,by go_num,rfl,EN,SN⟩
 case measure=>simp[intOf];omega):p:=h
set_option maxRecDepth 100000 in
set_option maxHeartbeats 4000000 in
theorem XN (a:World)(A:Option Addr)(c:Nat)(f:List Sg.At)(hf:Sg.I8 f)(hA:Rd a 5 A f.length (AH f))(k:Nat):∀ (i:Nat) (out:List Sg.At) (Ao:Option Addr) (co:Nat) (rs:List (Th a.heap.size)) (w:World),
  i<f.length->i<k->out.length+(Sg.BH f k (i:Int)).size<=1000->Aa a w->Ai (Th.own a.heap.size 111 5 Ao out.length co (AH out) :: rs) w ->
  Calls Tryz.prog 170 #[.agg #[.slice A f.length c],.int .i64 (i:Int),.slice Ao out.length co] w fun e w'=>∃ A1 c1,e= .returned (.slice A1 (Sg.CF f k (i:Int) out).length c1)/\Aa a w' /\
   Ai (Th.own a.heap.size 111 5 A1 (Sg.CF f k (i:Int) out).length c1 (AH (Sg.CF f k (i:Int) out)) :: rs) w':=by
 induction k with
 | zero=>intro i out Ao co rs w hi hk;omega
 | succ k ih =>
  intro i out Ao co rs w hi hk hN hE hS;have IH:=lh ih;obtain⟨b,o,p,hAe,hp,h0,h1,h2,h3,h4⟩:=(hA.ext hE).atP hi;have hd:f.getD ((i:Nat):Int).toNat default=p:=by simp[hp]
  have HPK:=lh (Sg.Mu (k:=k) hd out);have HLE:=lh (Sg.PY hf hp hk out);have HKR:=lh (Sg.Cw (hf i p hp));have HGD:=lh hf;have HA:=lh hA;have HPE:=lh hp;have hm3:=Sg.GA p;have hfl:=hA.big;obtain⟨O,hO⟩:∃ O:Nat->List Sg.At,∀ j,O j=Sg.FH f k ((Sg.AD p).take j) out:=⟨_,fun _=>rfl⟩;obtain⟨P,hP⟩:∃ P:Nat->Sg.At,∀ j,P j=Sg.N5 f k p out j:=⟨_,fun _=>rfl⟩;have O0:=lh (show O 0=out by rw[hO];rfl);have OS:=lh (show ∀ j x,(Sg.AD p)[j]? = some x->O (j+1)=Sg.CF f k x (O j) from fun j x h=>by rw[hO,hO];exact Sg.Lh h out);have OM:=lh (show Sg.CF f (k+1) (i:Int) out=O (Sg.AD p).length++[P (Sg.AD p).length] by rw[HPK.out,hO,hP,List.take_length]);have P0:=lh (show P 0=p by rw[hP];exact Sg.Mv f k p out)
  have PS:=lh (show ∀ j,j<3->Dn (P (j+1))=(Dn (P j)).set (j+1) (.int .i64 (((O (j+1)).length:Int) - 1)) from fun j hj=>by
   have:j=0\/j=1\/j=2:=by omega
   rcases this with rfl | rfl | rfl <;> (rw[hP,hP,hO];rfl))
  have OL:=lh (show (O (Sg.AD p).length).length+1<=1000 by have:=HLE.out.1;rw[hO,List.take_length];omega);have OX:=lh (show ∀ j x,(Sg.AD p)[j]? = some x->(O j).length+(Sg.BH f k x).size+1<=1000 from fun j x h=>by have:=HLE.out.2 j x h;rw[hO];omega);clear hO hP HPK HLE;have HE:=lh hE;have HS:=lh hS;have hsz:=hE.size;subst hAe;have bh0:=AA h0;have bh1:=AA h1;have bh2:=AA h2;have bh3:=AA h3;have bh4:=AA h4;have hix:(i:Int)<(f.length:Int):=by omega
  generalize hpl:(Sg.AD p).length=m at *;have HPL:=lh hpl;clear hE hS hd hp hpl ih hf hA;obtain⟨pk,pa,pb,pc,pn⟩:=p;dsimp only at *;have Q0:=lh (show World.cell? (World.alloc w (.cells #[.slice (some ⟨b,o,none⟩) f.length c] 68)) ⟨w.heap.size,0,none⟩=some (.slice (some ⟨b,o,none⟩) f.length c) by simp[go_sem]);have q0:=Q0.out;go_enter Tryz.func170,Tryz.ntmps170;go_upto_region 2 with fail
  have S1:=Ai.add HS.out ((Aa.rfl' w).al (.cells #[.slice (some ⟨b,o,none⟩) f.length c] 68)) (Th.box a.heap.size w.heap.size [.slice (some ⟨b,o,none⟩) f.length c]) ⟨Bx.new w #[.slice (some ⟨b,o,none⟩) f.length c] 68,hsz⟩ (fun b e=>by have e2:b=w.heap.size:=e;omega);have S2:=Ai.add S1 ((Aa.rfl' (World.alloc w (.cells #[.slice (some ⟨b,o,none⟩) f.length c] 68))).al (.cells #[.int .i64 pk,.int .i64 pa,.int .i64 pb,.int .i64 pc,.int .i64 pn] 111)) (Th.box a.heap.size (w.heap.size+1) (Dn ⟨pk,pa,pb,pc,pn⟩)) ⟨by have:=Bx.new (World.alloc w (.cells #[.slice (some ⟨b,o,none⟩) f.length c] 68)) #[.int .i64 pk,.int .i64 pa,.int .i64 pb,.int .i64 pc,.int .i64 pn] 111;simpa[Dn] using this,by omega⟩ (fun b e=>by have e2:b=w.heap.size+1:=e;simp;omega);have E2:=lh ((HE.out.al (.cells #[.slice (some ⟨b,o,none⟩) f.length c] 68)).al (.cells #[.int .i64 pk,.int .i64 pa,.int .i64 pb,.int .i64 pc,.int .i64 pn] 111));have SS:=lh S2;clear S1 S2 HS HE q0 Q0 h0 h1 h2 h3 h4 bh0 bh1 bh2 bh3 bh4;generalize (World.alloc (World.alloc w (.cells #[.slice (some ⟨b,o,none⟩) f.length c] 68)) (.cells #[.int .i64 pk,.int .i64 pa,.int .i64 pb,.int .i64 pc,.int .i64 pn] 111))=w2 at *;generalize hbp:w.heap.size+1=bp at *;generalize hbf:w.heap.size=bf at *;clear hbp hbf hsz;have yz:Bx w2 bp (Dn ⟨pk,pa,pb,pc,pn⟩):=(Ai.get SS.out 0 rfl:Bx _ _ _/\_).1;have z0:=yz.cell (j:=0) rfl;have z1:=yz.cell (j:=1) rfl;have z2:=yz.cell (j:=2) rfl;have z3:=yz.cell (j:=3) rfl;have z4:=yz.cell (j:=4) rfl;have lz:=yz.lt;go_wp2_with fail
  refine(Tj ⟨pk,pa,pb,pc,pn⟩ _).mono ?_;rintro e w4 ⟨Ak,ck,rfl,hO4,he4⟩;rw[HPL.out] at hO4 ⊢;have SS:=lh (Ai.add SS.out he4 (Th.own a.heap.size 3 1 Ak m ck (Ah (Sg.AD ⟨pk,pa,pb,pc,pn⟩))) (hO4.mono E2.out.size) (fun b e=>(hO4.lt e).1));have E4:=lh (E2.out.tr he4);clear hO4 he4 z0 z1 z2 z3 z4 lz yz E2;have SS:=lh (SepT.perm SS.out (List.perm_middle (l₁:=[_,_,_]) (l₂:=rs)));go_wp2_with fail
  go_loopw [2,9] (fun s2 s9 wr=>∃ (j:Nat) (A1:Option Addr) (c1:Nat),j<=m/\s9= .int .i64 j/\s2= .slice A1 (O j).length c1/\Hid (Aa a wr)/\Hid (Ai (Th.own a.heap.size 111 5 A1 (O j).length c1 (AH (O j)) :: Th.own a.heap.size 3 1 Ak m ck (Ah (Sg.AD ⟨pk,pa,pb,pc,pn⟩)) :: Th.box a.heap.size bp (Dn (P j)) :: Th.box a.heap.size bf [.slice (some ⟨b,o,none⟩) f.length c] :: rs) wr)) (fun _ s9 _=>m - (intOf s9).toNat)
  case atStart=>exact⟨0,Ao,co,Nat.zero_le _,rfl,by rw[O0.out],E4,by rw[O0.out,P0.out];exact SS⟩
  case round =>
   clear SS E4 O0 P0;obtain⟨j,A1,c1,hj,rfl,rfl,hX,hSR⟩:=hrel;by_cases hlt:j<m
   ·have hj3:j<3:=by omega
    obtain⟨bk,ok,x,hAk,hx,ck0⟩:=(Ai.get hSR.out 1 rfl:Au _ _ _ _ _ _ _ _).rd.at1 hlt;subst hAk;have hxr:=HKR.out x (List.mem_of_getElem? hx);obtain⟨y,rfl⟩:=Int.eq_ofNat_of_zero_le hxr.1;have hyi:y<i:=by omega
    have HX:=lh hx;have hO:=OS.out j _ hx;have hL:=OX.out j _ hx;have HO:=lh hO;have HL:=lh hL;have CK:=lh ck0;have bck:=AA ck0;have hjx:(j:Int)<(m:Int):=by omega
    have qf:wr.cell? ⟨bf,0,none⟩=some (.slice (some ⟨b,o,none⟩) f.length c):=((Ai.get hSR.out 3 rfl:Bx _ _ _/\_).1).cell (j:=0) rfl;have bqf:=AA qf;have QF:=lh qf;clear hx hxr hO hL;have E0:=lh ((Aa.rfl' wr).dr);go_wp2_with fail
    refine zb 7 (fun W=>W.cell? ⟨bf,0,none⟩=some (.slice (some ⟨b,o,none⟩) f.length c)/\W.cell? ⟨bk,ok+j,none⟩=some (.int .i64 (y:Int))) ?_ (fun hHeld=>?_)
    ·exact⟨E0.out.cellE QF.out,E0.out.cellE CK.out⟩
    refine zy 0 ?_;refine zy 1 ?_;refine zy 2 ?_;refine zy 3 ?_;refine zy 4 ?_;refine zy 5 ?_;refine zr 6 rfl fun K hK=>?_;go_simp;refine(IH.out y (O j) A1 c1 (_) _ (by omega) (by omega) (by have:=HL.out;omega) (hX.out.tr E0.out) (Ai.ext hSR.out E0.out)).mono ?_;rintro e v1 ⟨A2,c2,rfl,hE1,hS1⟩;rw[<- HO.out] at hS1 ⊢;have E1:=lh hE1;have S1:=lh hS1;have kf:v1.cell? ⟨bf,0,none⟩=some (.slice (some ⟨b,o,none⟩) f.length c):=((Ai.get hS1 3 rfl:Bx _ _ _/\_).1).cell (j:=0) rfl;have kk:=XL (Ai.get hS1 1 rfl:Au _ _ _ _ _ _ _ _).rd hlt HX.out;clear hE1 hS1;try go_wp2_with fail
    refine zh (hK.out _ _) (⟨kf,kk⟩) fun hHeld=>?_;clear hK K;try simp only[Act.put,pu]
    refine zr 7 rfl fun K hK=>?_;go_simp;refine hK.out _ _ (fun e=>absurd rfl e) (fun hh=>?_);clear hK K hHeld hh;try simp only[Act.put,pu]
    refine zn ?_;skip
    clear kf kk E0 CK QF ck0 bck qf bqf;have hL1:(O (j+1)).length<=1000:=by rw[HO.out];have:=HL.out;have:=Sg.KW HGD.out (k:=k) (i:=(y:Int)) (by omega) (by omega) (by omega) (O j);omega
    have iw:IntKind.i64.wrap (((O (j+1)).length:Int) - 1)=((O (j+1)).length:Int) - 1:=IntWalk.i64_in _ (by omega);have yb:Bx v1 bp (Dn (P j))/\a.heap.size<=bp:=Ai.get S1.out 2 rfl;have YB:=lh yb;have u0:=yb.1.cell (MT (P j) hj3);have uf:=yb.1.free (j+1);have ul:=yb.1.lt;generalize (Dn (P j)).getD (j+1) undef=uv at *;clear yb;have SN:=lh (Ai.st S1.out 2 rfl ⟨bp,j+1,none⟩ (.int .i64 (((O (j+1)).length:Int) - 1)) rfl (Th.box a.heap.size bp (Dn (P (j+1)))) ⟨by rw[PS.out j hj3];exact YB.out.1.set (j+1) _,YB.out.2⟩ (fun _ e=>e));have EN:=lh (E1.out.set (p:=⟨bp,j+1,none⟩) YB.out.2 (.int .i64 (((O (j+1)).length:Int) - 1)));clear S1 YB;have:j=0\/j=1\/j=2:=by omega
    rcases this with rfl | rfl | rfl
    ·exact zj1
    ·exact zj1
    ·exact zj1
   ·obtain rfl:j=m:=by omega
    have hO1:=(Ai.get hSR.out 0 rfl:Au _ _ _ _ _ _ _ _);have HO1:=lh hO1;have yb:Bx wr bp (Dn (P j)):=(Ai.get hSR.out 2 rfl:Bx _ _ _/\_).1;have z0:=yb.cell (j:=0) rfl;have z1:=yb.cell (j:=1) rfl;have z2:=yb.cell (j:=2) rfl;have z3:=yb.cell (j:=3) rfl;have z4:=yb.cell (j:=4) rfl;have lz:=yb.lt;have hol:=OL.out;have hws:=hX.out.size;clear yb hO1;generalize hpq:P j=q at *;have HPQ:=lh hpq;clear hpq;obtain⟨qk,qa,qb,qc,qn⟩:=q;dsimp only at *;go_wp2_with (at_builtin;refine AB (cs:=Dn ⟨qk,qa,qb,qc,qn⟩) rfl rfl FL rfl HO1.out rfl rfl (IE _) (by omega) (by omega) (by omega) ?_;intro A2 c2 w9 hown2 hg2 hat2)
    go_ret;have hS9:=Ai.app hSR.out 0 rfl hown2 hg2 hat2;have e9:O j++[⟨qk,qa,qb,qc,qn⟩]=Sg.CF f (k+1) (i:Int) out:=by rw[OM.out]
    have e5:AH (O j)++Dn ⟨qk,qa,qb,qc,qn⟩=AH (Sg.CF f (k+1) (i:Int) out):=by rw[<- e9];simp[AH]
    have e6:(O j).length+1=(Sg.CF f (k+1) (i:Int) out).length:=by rw[<- e9];simp
    rw[e5,e6] at hS9;refine⟨A2,c2,by simp[e6],hX.out.gr hg2 fun x hx=>(HO1.out.lt hx).1,SepT.sub hS9 ?_⟩;exact List.Sublist.cons_cons _ ((((List.Sublist.refl rs).cons _).cons _).cons _)
set_option maxRecDepth 100000 in
set_option maxHeartbeats 4000000 in
theorem YN (a:World)(A:Option Addr)(c:Nat)(f:List Sg.At)(hf:Sg.I8 f)(hA:Rd a 5 A f.length (AH f))(k:Nat):∀ (i:Nat) (out:List Sg.At) (Ao:Option Addr) (co:Nat) (rs:List (Th a.heap.size)) (w:World),
  i<f.length->i<k->out.length+(Sg.BH f k (i:Int)).size<=1000->Aa a w->Ai (Th.own a.heap.size 111 5 Ao out.length co (AH out) :: rs) w ->
  Calls Tryz.prog 122 #[.agg #[.slice A f.length c],.int .i64 (i:Int),.slice Ao out.length co] w fun e w'=>∃ A1 c1,e= .returned (.slice A1 (Sg.CF f k (i:Int) out).length c1)/\Aa a w' /\
   Ai (Th.own a.heap.size 111 5 A1 (Sg.CF f k (i:Int) out).length c1 (AH (Sg.CF f k (i:Int) out)) :: rs) w':=by
 induction k with
 | zero=>intro i out Ao co rs w hi hk;omega
 | succ k ih =>
  intro i out Ao co rs w hi hk hN hE hS;have IH:=lh ih;obtain⟨b,o,p,hAe,hp,h0,h1,h2,h3,h4⟩:=(hA.ext hE).atP hi;have hd:f.getD ((i:Nat):Int).toNat default=p:=by simp[hp]
  have HPK:=lh (Sg.Mu (k:=k) hd out);have HLE:=lh (Sg.PY hf hp hk out);have HKR:=lh (Sg.Cw (hf i p hp));have HGD:=lh hf;have HA:=lh hA;have HPE:=lh hp;have hm3:=Sg.GA p;have hfl:=hA.big;obtain⟨O,hO⟩:∃ O:Nat->List Sg.At,∀ j,O j=Sg.FH f k ((Sg.AD p).take j) out:=⟨_,fun _=>rfl⟩;obtain⟨P,hP⟩:∃ P:Nat->Sg.At,∀ j,P j=Sg.N5 f k p out j:=⟨_,fun _=>rfl⟩;have O0:=lh (show O 0=out by rw[hO];rfl);have OS:=lh (show ∀ j x,(Sg.AD p)[j]? = some x->O (j+1)=Sg.CF f k x (O j) from fun j x h=>by rw[hO,hO];exact Sg.Lh h out);have OM:=lh (show Sg.CF f (k+1) (i:Int) out=O (Sg.AD p).length++[P (Sg.AD p).length] by rw[HPK.out,hO,hP,List.take_length]);have P0:=lh (show P 0=p by rw[hP];exact Sg.Mv f k p out)
  have PS:=lh (show ∀ j,j<3->Dn (P (j+1))=(Dn (P j)).set (j+1) (.int .i64 (((O (j+1)).length:Int) - 1)) from fun j hj=>by
   have:j=0\/j=1\/j=2:=by omega
   rcases this with rfl | rfl | rfl <;> (rw[hP,hP,hO];rfl))
  have OL:=lh (show (O (Sg.AD p).length).length+1<=1000 by have:=HLE.out.1;rw[hO,List.take_length];omega);have OX:=lh (show ∀ j x,(Sg.AD p)[j]? = some x->(O j).length+(Sg.BH f k x).size+1<=1000 from fun j x h=>by have:=HLE.out.2 j x h;rw[hO];omega);clear hO hP HPK HLE;have HE:=lh hE;have HS:=lh hS;have hsz:=hE.size;subst hAe;have bh0:=AA h0;have bh1:=AA h1;have bh2:=AA h2;have bh3:=AA h3;have bh4:=AA h4;have hix:(i:Int)<(f.length:Int):=by omega
  generalize hpl:(Sg.AD p).length=m at *;have HPL:=lh hpl;clear hE hS hd hp hpl ih hf hA;obtain⟨pk,pa,pb,pc,pn⟩:=p;dsimp only at *;have Q0:=lh (show World.cell? (World.alloc w (.cells #[.slice (some ⟨b,o,none⟩) f.length c] 68)) ⟨w.heap.size,0,none⟩=some (.slice (some ⟨b,o,none⟩) f.length c) by simp[go_sem]);have q0:=Q0.out;go_enter Tryz.func122,Tryz.ntmps122;go_upto_region 2 with fail
  have S1:=Ai.add HS.out ((Aa.rfl' w).al (.cells #[.slice (some ⟨b,o,none⟩) f.length c] 68)) (Th.box a.heap.size w.heap.size [.slice (some ⟨b,o,none⟩) f.length c]) ⟨Bx.new w #[.slice (some ⟨b,o,none⟩) f.length c] 68,hsz⟩ (fun b e=>by have e2:b=w.heap.size:=e;omega);have S2:=Ai.add S1 ((Aa.rfl' (World.alloc w (.cells #[.slice (some ⟨b,o,none⟩) f.length c] 68))).al (.cells #[.int .i64 pk,.int .i64 pa,.int .i64 pb,.int .i64 pc,.int .i64 pn] 111)) (Th.box a.heap.size (w.heap.size+1) (Dn ⟨pk,pa,pb,pc,pn⟩)) ⟨by have:=Bx.new (World.alloc w (.cells #[.slice (some ⟨b,o,none⟩) f.length c] 68)) #[.int .i64 pk,.int .i64 pa,.int .i64 pb,.int .i64 pc,.int .i64 pn] 111;simpa[Dn] using this,by omega⟩ (fun b e=>by have e2:b=w.heap.size+1:=e;simp;omega);have E2:=lh ((HE.out.al (.cells #[.slice (some ⟨b,o,none⟩) f.length c] 68)).al (.cells #[.int .i64 pk,.int .i64 pa,.int .i64 pb,.int .i64 pc,.int .i64 pn] 111));have SS:=lh S2;clear S1 S2 HS HE q0 Q0 h0 h1 h2 h3 h4 bh0 bh1 bh2 bh3 bh4;generalize (World.alloc (World.alloc w (.cells #[.slice (some ⟨b,o,none⟩) f.length c] 68)) (.cells #[.int .i64 pk,.int .i64 pa,.int .i64 pb,.int .i64 pc,.int .i64 pn] 111))=w2 at *;generalize hbp:w.heap.size+1=bp at *;generalize hbf:w.heap.size=bf at *;clear hbp hbf hsz;go_upto_region 3 with fail
  have S3:=Ai.add SS.out ((Aa.rfl' w2).al (.cells #[.pointer (some ⟨bp,1,none⟩),.pointer (some ⟨bp,2,none⟩),.pointer (some ⟨bp,3,none⟩)] 127)) (Th.box a.heap.size w2.heap.size [.pointer (some ⟨bp,1,none⟩),.pointer (some ⟨bp,2,none⟩),.pointer (some ⟨bp,3,none⟩)]) ⟨Bx.new w2 _ _,E2.out.size⟩ (fun b e=>by have e2:b=w2.heap.size:=e;omega);have E3:=lh (E2.out.al (.cells #[.pointer (some ⟨bp,1,none⟩),.pointer (some ⟨bp,2,none⟩),.pointer (some ⟨bp,3,none⟩)] 127));have SS:=lh (SepT.perm S3 (List.Perm.refl _));clear S3 E2;generalize World.alloc w2 (.cells #[.pointer (some ⟨bp,1,none⟩),.pointer (some ⟨bp,2,none⟩),.pointer (some ⟨bp,3,none⟩)] 127)=w3 at *;generalize hbt:w2.heap.size=bt at *;clear hbt;obtain⟨h0,h1,h2,h3,h4⟩:=XM (HA.out.ext E3.out) hi HPE.out;dsimp only at h0 h1 h2 h3 h4;have bh0:=AA h0;have bh1:=AA h1;have bh2:=AA h2;have bh3:=AA h3;have bh4:=AA h4;have qf:w3.cell? ⟨bf,0,none⟩=some (.slice (some ⟨b,o,none⟩) f.length c):=((Ai.get SS.out 2 rfl:Bx _ _ _/\_).1).cell (j:=0) rfl;have bqf:=AA qf;go_wp2_with fail
  refine(Ph ⟨pk,pa,pb,pc,pn⟩ _).mono ?_;rintro e w4 ⟨Ak,ck,rfl,hO4,he4⟩;rw[HPL.out] at hO4 ⊢;have SS:=lh (Ai.add SS.out he4 (Th.own a.heap.size 3 1 Ak m ck (Ah (Sg.AD ⟨pk,pa,pb,pc,pn⟩))) (hO4.mono E3.out.size) (fun b e=>(hO4.lt e).1));have E4:=lh (E3.out.tr he4);clear hO4 he4 h0 h1 h2 h3 h4 bh0 bh1 bh2 bh3 bh4 qf bqf E3;have SS:=lh (SepT.perm SS.out (List.perm_middle (l₁:=[_,_,_,_]) (l₂:=rs)));go_wp2_with fail
  go_loopw [2,27] (fun s2 s9 wr=>∃ (j:Nat) (A1:Option Addr) (c1:Nat),j<=m/\s9= .int .i64 j/\s2= .slice A1 (O j).length c1/\Hid (Aa a wr)/\Hid (Ai (Th.own a.heap.size 111 5 A1 (O j).length c1 (AH (O j)) :: Th.own a.heap.size 3 1 Ak m ck (Ah (Sg.AD ⟨pk,pa,pb,pc,pn⟩)) :: Th.box a.heap.size bt [.pointer (some ⟨bp,1,none⟩),.pointer (some ⟨bp,2,none⟩),.pointer (some ⟨bp,3,none⟩)] :: Th.box a.heap.size bp (Dn (P j)) :: Th.box a.heap.size bf [.slice (some ⟨b,o,none⟩) f.length c] :: rs) wr)) (fun _ s9 _=>m - (intOf s9).toNat)
  case atStart=>exact⟨0,Ao,co,Nat.zero_le _,rfl,by rw[O0.out],E4,by rw[O0.out,P0.out];exact SS⟩
  case round =>
   clear SS E4 O0 P0;obtain⟨j,A1,c1,hj,rfl,rfl,hX,hSR⟩:=hrel;by_cases hlt:j<m
   ·have hj3:j<3:=by omega
    obtain⟨bk,ok,x,hAk,hx,ck0⟩:=(Ai.get hSR.out 1 rfl:Au _ _ _ _ _ _ _ _).rd.at1 hlt;subst hAk;have hxr:=HKR.out x (List.mem_of_getElem? hx);obtain⟨y,rfl⟩:=Int.eq_ofNat_of_zero_le hxr.1;have hyi:y<i:=by omega
    have HX:=lh hx;have hO:=OS.out j _ hx;have hL:=OX.out j _ hx;have HO:=lh hO;have HL:=lh hL;have CK:=lh ck0;have bck:=AA ck0;have hjx:(j:Int)<(m:Int):=by omega
    have qf:wr.cell? ⟨bf,0,none⟩=some (.slice (some ⟨b,o,none⟩) f.length c):=((Ai.get hSR.out 4 rfl:Bx _ _ _/\_).1).cell (j:=0) rfl;have bqf:=AA qf;have QF:=lh qf;clear hx hxr hO hL;go_wp2_with fail
    refine(IH.out y (O j) A1 c1 (_) _ (by omega) (by omega) (by have:=HL.out;omega) hX.out hSR.out).mono ?_;rintro e v1 ⟨A2,c2,rfl,hE1,hS1⟩;rw[<- HO.out] at hS1 ⊢;have E1:=lh hE1;have S1:=lh hS1;clear hE1 hS1 ck0 bck CK qf bqf QF;have hL1:(O (j+1)).length<=1000:=by rw[HO.out];have:=HL.out;have:=Sg.KW HGD.out (k:=k) (i:=(y:Int)) (by omega) (by omega) (by omega) (O j);omega
    have iw:IntKind.i64.wrap (((O (j+1)).length:Int) - 1)=((O (j+1)).length:Int) - 1:=IntWalk.i64_in _ (by omega);have yb:Bx v1 bp (Dn (P j))/\a.heap.size<=bp:=Ai.get S1.out 3 rfl;have YB:=lh yb;have u0:=yb.1.cell (MT (P j) hj3);have uf:=yb.1.free (j+1);have ul:=yb.1.lt;generalize (Dn (P j)).getD (j+1) undef=uv at *;clear yb;have yt:Bx v1 bt [.pointer (some ⟨bp,1,none⟩),.pointer (some ⟨bp,2,none⟩),.pointer (some ⟨bp,3,none⟩)]:=(Ai.get S1.out 2 rfl:Bx _ _ _/\_).1;have ut:=yt.cell (Qx bp hj3);have ult:=yt.lt;clear yt;have hj3x:(j:Int)<3:=by omega
    have SN:=lh (Ai.st S1.out 3 rfl ⟨bp,j+1,none⟩ (.int .i64 (((O (j+1)).length:Int) - 1)) rfl (Th.box a.heap.size bp (Dn (P (j+1)))) ⟨by rw[PS.out j hj3];exact YB.out.1.set (j+1) _,YB.out.2⟩ (fun _ e=>e));have EN:=lh (E1.out.set (p:=⟨bp,j+1,none⟩) YB.out.2 (.int .i64 (((O (j+1)).length:Int) - 1)));clear S1 YB;go_wp2;go_roundw
    case rel=>exact⟨j+1,A2,c2,by omega,by go_num,rfl,EN,SN⟩
    case measure=>simp[intOf];omega
   ·obtain rfl:j=m:=by omega
    have hO1:=(Ai.get hSR.out 0 rfl:Au _ _ _ _ _ _ _ _);have HO1:=lh hO1;have yb:Bx wr bp (Dn (P j)):=(Ai.get hSR.out 3 rfl:Bx _ _ _/\_).1;have z0:=yb.cell (j:=0) rfl;have z1:=yb.cell (j:=1) rfl;have z2:=yb.cell (j:=2) rfl;have z3:=yb.cell (j:=3) rfl;have z4:=yb.cell (j:=4) rfl;have lz:=yb.lt;have hol:=OL.out;have hws:=hX.out.size;clear yb hO1;generalize hpq:P j=q at *;have HPQ:=lh hpq;clear hpq;obtain⟨qk,qa,qb,qc,qn⟩:=q;dsimp only at *;go_wp2_with (at_builtin;refine AB (cs:=Dn ⟨qk,qa,qb,qc,qn⟩) rfl rfl FL rfl HO1.out rfl rfl (IE _) (by omega) (by omega) (by omega) ?_;intro A2 c2 w9 hown2 hg2 hat2)
    go_ret;have hS9:=Ai.app hSR.out 0 rfl hown2 hg2 hat2;have e9:O j++[⟨qk,qa,qb,qc,qn⟩]=Sg.CF f (k+1) (i:Int) out:=by rw[OM.out]
    have e5:AH (O j)++Dn ⟨qk,qa,qb,qc,qn⟩=AH (Sg.CF f (k+1) (i:Int) out):=by rw[<- e9];simp[AH]
    have e6:(O j).length+1=(Sg.CF f (k+1) (i:Int) out).length:=by rw[<- e9];simp
    rw[e5,e6] at hS9;refine⟨A2,c2,by simp[e6],hX.out.gr hg2 fun x hx=>(HO1.out.lt hx).1,SepT.sub hS9 ?_⟩;exact List.Sublist.cons_cons _ (((((List.Sublist.refl rs).cons _).cons _).cons _).cons _)
end Go.Proofs.YthibllkleakiiaaGreatDoor
