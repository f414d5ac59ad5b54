/- Parts of one proof, joined. Parts put in order, in memory: the reference's post and the program's put: contracts. Conditions: good parts; few of them. -/
import Derived.IntWalk
import Derived.Deep.DeepCutAuto
import Derived.Test.YthibllkleakiiaaGreatDoorTy
import Derived.Test.YthibllkleakiiaaGreatDoorPlJ
import Derived.Test.YthibllkleakiiaaGreatDoorImplOne
namespace Go.Proofs.YthibllkleakiiaaGreatDoor
open Go.RowKit
theorem Vi {n:Nat}(h:n<10):ByteArray.extract ⟨#[48,49,50,51,52,53,54,55,56,57]⟩ n (n+1)=ts (Sg.BB n):=by
 rw[Sg.CG h];have:n=0\/n=1\/n=2\/n=3\/n=4\/n=5\/n=6\/n=7\/n=8\/n=9:=by omega
 rcases this with rfl | rfl | rfl | rfl | rfl | rfl | rfl | rfl | rfl | rfl <;> rfl
theorem RK {n:Nat}(h:n<10000):(Sg.BB n).length<=4:=by
 by_cases h1:n<10
 ·rw[Sg.CG h1];simp
 ·rw[Sg.EL h1];by_cases h2:n / 10<10
  ·rw[Sg.CG h2];simp
  ·rw[Sg.EL h2];by_cases h3:n / 10 / 10<10
   ·rw[Sg.CG h3];simp
   ·rw[Sg.EL h3,Sg.CG (by omega)];simp
set_option maxRecDepth 100000 in
set_option maxHeartbeats 1000000 in
theorem JZ (n:Nat)(hn:n<10000)(w:World):Calls Tryz.prog 67 #[.int .i64 (n:Int)] w fun e w'=>e= .returned (.string (ts (Sg.BB n)))/\w=w':=by
 induction n using Nat.strongRecOn generalizing w with
 | ind n ih =>
  have iw:IntKind.i64.wrap ((n:Int)+1)=(n:Int)+1:=IntWalk.i64_in _ (by omega);by_cases h:n<10
  ·have hx:(n:Int)<10:=by omega
   have hx2:(n:Int)+1<=10:=by omega
   have hc:=Vi h;have HC:=lh hc;have hsl:=fun w=>Xn ⟨#[48,49,50,51,52,53,54,55,56,57]⟩ (n:Int) ((n:Int)+1) (by omega) (by omega) (by show (n:Int)+1<=10;omega) w;rw[show ((n:Int)+1).toNat=n+1 by omega,Int.toNat_natCast,hc] at hsl;clear ih hc;go_enter Tryz.func67,Tryz.ntmps67;go_wp2;go_ret;exact⟨rfl,rfl⟩
  ·have hx:¬ (n:Int)<10:=by omega
   have hq:Int.tdiv (n:Int) 10=((n / 10:Nat):Int):=by rw[Int.tdiv_eq_ediv_of_nonneg (by omega)];omega
   have hm:Int.tmod (n:Int) 10=((n % 10:Nat):Int):=by rw[Int.tmod_eq_emod_of_nonneg (by omega)];omega
   have iq:IntKind.i64.wrap ((n / 10:Nat):Int)=((n / 10:Nat):Int):=IntWalk.i64_in _ (by omega);have im:IntKind.i64.wrap ((n % 10:Nat):Int)=((n % 10:Nat):Int):=IntWalk.i64_in _ (by omega);have hl1:=RK (show n / 10<10000 by omega);have hl2:=RK (show n % 10<10000 by omega);have I1:=lh (fun w=>ih (n / 10) (by omega) (by omega) w);have I2:=lh (fun w=>ih (n % 10) (by omega) (by omega) w);have HE:Hid (Sg.BB n=Sg.BB (n / 10)++Sg.BB (n % 10)):=lh (by rw[Sg.EL h,Sg.CG (n:=n % 10) (by omega)]);clear ih;generalize n / 10=p at *;generalize n % 10=q at *;go_enter Tryz.func67,Tryz.ntmps67;go_wp2_with fail
   refine(I1.out _).mono ?_;rintro e w1 ⟨rfl,rfl⟩;go_wp2_with fail
   refine(I2.out _).mono ?_;rintro e w2 ⟨rfl,rfl⟩;have hsz:¬ ((ts (Sg.BB p)).size+(ts (Sg.BB q)).size > 9223372036854775807):=by rw[B9,B9];omega
   go_wp2;go_ret;exact⟨by rw[HE.out,<- D7];rfl,rfl⟩
set_option maxRecDepth 100000 in
set_option maxHeartbeats 1000000 in
theorem Pe (w:World):Calls Tryz.prog 104 #[] w fun e w'=>∃ b,e= .returned (.slice (some ⟨b,0,none⟩) 9 9)/\(∀ k:Nat,2<=k->k<=8->w'.cell? ⟨b,k,none⟩=some (.string (ts (Sg.CE k))))/\Aa w w':=by
 go_enter Tryz.func104,Tryz.ntmps104;go_wp2;go_ret;refine⟨_,rfl,fun k h2 h8=>?_,(Aa.rfl' w).al _⟩;have:k=2\/k=3\/k=4\/k=5\/k=6\/k=7\/k=8:=by omega
 rcases this with rfl | rfl | rfl | rfl | rfl | rfl | rfl <;> simp[go_sem] <;> rfl
open Go.RowKit
theorem Wd {w:World}{b o n k:Nat}{l:List Sg.At}{p:Sg.At}(h:Rd w 5 (some ⟨b,o,none⟩) n (AL l))(hk:k<n)(hp:l[k]? = some p) :
  w.cell? ⟨b,o+k * 5,none⟩=some (.int .i64 p.kind)/\w.cell? ⟨b,o+k * 5+1,none⟩=some (.int .i64 p.a)/\w.cell? ⟨b,o+k * 5+2,none⟩=some (.int .i64 p.b)/\w.cell? ⟨b,o+k * 5+3,none⟩=some (.int .i64 p.c)/\w.cell? ⟨b,o+k * 5+4,none⟩=some (.int .i64 p.n):=by
 obtain⟨b',o',x,hA,hx,hc⟩:=h.atP hk;simp only[Option.some.injEq,Addr.mk.injEq,and_true] at hA;obtain⟨rfl,rfl⟩:=hA;rw[hp] at hx;injection hx with hx;subst hx;exact hc
theorem Pp (p:Sg.At){j:Nat}(hj:j<3):(Ee p)[j+1]? = some ((Ee p).getD (j+1) undef):=by
 have:j=0\/j=1\/j=2:=by omega
 rcases this with rfl | rfl | rfl <;> rfl
theorem Po (bp:Nat){j:Nat}(hj:j<3):([.pointer (some ⟨bp,1,none⟩),.pointer (some ⟨bp,2,none⟩),.pointer (some ⟨bp,3,none⟩)]:List Value)[j]? = some (.pointer (some ⟨bp,j+1,none⟩)):=by
 have:j=0\/j=1\/j=2:=by omega
 rcases this with rfl | rfl | rfl <;> rfl
theorem I3 (p:Sg.At):∀ u ∈ Ee p,u.oneCell'=true:=by
 intro u hu;simp[Ee] at hu;rcases hu with rfl | rfl | rfl | rfl | rfl <;> rfl
theorem SepT.iff {B:Nat}{ts:List (Th B)}{W:World}:Ai ts W↔(∀ t ∈ ts,t.ok W)/\ts.Pairwise (fun t s=>∀ b,t.fp b->¬ s.fp b):=by
 induction ts with
 | nil=>simp[Ai]
 | cons t ts ih =>
  rw[List.pairwise_cons];constructor
  ·rintro ⟨h1,h2,h3⟩;obtain⟨a,b⟩:=ih.1 h3;exact⟨fun x hx=>by rcases List.mem_cons.1 hx with rfl | hx;exact h1;exact a x hx,h2,b⟩
  ·rintro ⟨h1,h2,h3⟩;exact⟨h1 t (by simp),h2,ih.2 ⟨fun x hx=>h1 x (by simp[hx]),h3⟩⟩
theorem SepT.perm {B:Nat}{ts us:List (Th B)}{W:World}(h:Ai ts W)(p:ts.Perm us):Ai us W:=by
 rw[SepT.iff] at h ⊢;exact⟨fun t ht=>h.1 t (p.mem_iff.2 ht),(p.pairwise_iff (fun {x y} hxy b hy hx=>hxy b hx hy)).1 h.2⟩
theorem SepT.sub {B:Nat}{ts us:List (Th B)}{W:World}(h:Ai ts W)(p:us.Sublist ts):Ai us W:=by
 rw[SepT.iff] at h ⊢;exact⟨fun t ht=>h.1 t (p.mem ht),h.2.sublist p⟩
set_option maxRecDepth 100000 in
set_option maxHeartbeats 4000000 in
theorem Xd (a:World)(A:Option Addr)(c:Nat)(f:List Sg.At)(hf:Sg.IO f)(hA:Rd a 5 A f.length (AL f))(k:Nat):∀ (i:Nat) (out:List Sg.At) (Ao:Option Addr) (co:Nat) (rs:List (Th a.heap.size)) (w:World),
  i<f.length->i<k->out.length+(Sg.BI f k (i:Int)).size<=1000->Aa a w->Ai (Th.own a.heap.size 111 5 Ao out.length co (AL out) :: rs) w ->
  Calls Tryz.prog 122 #[.agg #[.slice A f.length c],.int .i64 (i:Int),.slice Ao out.length co] w fun e w'=>∃ A1 c1,e= .returned (.slice A1 (Sg.Dk f k (i:Int) out).length c1)/\Aa a w' /\
   Ai (Th.own a.heap.size 111 5 A1 (Sg.Dk f k (i:Int) out).length c1 (AL (Sg.Dk f k (i:Int) out)) :: rs) w':=by
 induction k with
 | zero=>intro i out Ao co rs w hi hk;omega
 | succ k ih =>
  intro i out Ao co rs w hi hk hN hE hS;have IH:=lh ih;obtain⟨b,o,p,hAe,hp,h0,h1,h2,h3,h4⟩:=(hA.ext hE).atP hi;have hd:f.getD ((i:Nat):Int).toNat default=p:=by simp[hp]
  have HPK:=lh (Sg.Qq (k:=k) hd out);have HLE:=lh (Sg.TG hf hp hk out);have HKR:=lh (Sg.Cz (hf i p hp));have HGD:=lh hf;have HA:=lh hA;have HPE:=lh hp;have hm3:=Sg.Hw p;have hfl:=hA.big;obtain⟨O,hO⟩:∃ O:Nat->List Sg.At,∀ j,O j=Sg.FQ f k ((Sg.AE p).take j) out:=⟨_,fun _=>rfl⟩;obtain⟨P,hP⟩:∃ P:Nat->Sg.At,∀ j,P j=Sg.Oz f k p out j:=⟨_,fun _=>rfl⟩;have O0:=lh (show O 0=out by rw[hO];rfl);have OS:=lh (show ∀ j x,(Sg.AE p)[j]? = some x->O (j+1)=Sg.Dk f k x (O j) from fun j x h=>by rw[hO,hO];exact Sg.OA h out);have OM:=lh (show Sg.Dk f (k+1) (i:Int) out=O (Sg.AE p).length++[P (Sg.AE p).length] by rw[HPK.out,hO,hP,List.take_length]);have P0:=lh (show P 0=p by rw[hP];exact Sg.Qr f k p out)
  have PS:=lh (show ∀ j,j<3->Ee (P (j+1))=(Ee (P j)).set (j+1) (.int .i64 (((O (j+1)).length:Int) - 1)) from fun j hj=>by
   have:j=0\/j=1\/j=2:=by omega
   rcases this with rfl | rfl | rfl <;> (rw[hP,hP,hO];rfl))
  have OL:=lh (show (O (Sg.AE p).length).length+1<=1000 by have:=HLE.out.1;rw[hO,List.take_length];omega);have OX:=lh (show ∀ j x,(Sg.AE p)[j]? = some x->(O j).length+(Sg.BI f k x).size+1<=1000 from fun j x h=>by have:=HLE.out.2 j x h;rw[hO];omega);clear hO hP HPK HLE;have HE:=lh hE;have HS:=lh hS;have hsz:=hE.size;subst hAe;have bh0:=Au h0;have bh1:=Au h1;have bh2:=Au h2;have bh3:=Au h3;have bh4:=Au h4;have hix:(i:Int)<(f.length:Int):=by omega
  generalize hpl:(Sg.AE p).length=m at *;have HPL:=lh hpl;clear hE hS hd hp hpl ih hf hA;obtain⟨pk,pa,pb,pc,pn⟩:=p;dsimp only at *;have Q0:=lh (show World.cell? (World.alloc w (.cells #[.slice (some ⟨b,o,none⟩) f.length c] 68)) ⟨w.heap.size,0,none⟩=some (.slice (some ⟨b,o,none⟩) f.length c) by simp[go_sem]);have q0:=Q0.out;go_enter Tryz.func122,Tryz.ntmps122;go_upto_region 2 with fail
  have S1:=Ai.add HS.out ((Aa.rfl' w).al (.cells #[.slice (some ⟨b,o,none⟩) f.length c] 68)) (Th.box a.heap.size w.heap.size [.slice (some ⟨b,o,none⟩) f.length c]) ⟨Bx.new w #[.slice (some ⟨b,o,none⟩) f.length c] 68,hsz⟩ (fun b e=>by have e2:b=w.heap.size:=e;omega);have S2:=Ai.add S1 ((Aa.rfl' (World.alloc w (.cells #[.slice (some ⟨b,o,none⟩) f.length c] 68))).al (.cells #[.int .i64 pk,.int .i64 pa,.int .i64 pb,.int .i64 pc,.int .i64 pn] 111)) (Th.box a.heap.size (w.heap.size+1) (Ee ⟨pk,pa,pb,pc,pn⟩)) ⟨by have:=Bx.new (World.alloc w (.cells #[.slice (some ⟨b,o,none⟩) f.length c] 68)) #[.int .i64 pk,.int .i64 pa,.int .i64 pb,.int .i64 pc,.int .i64 pn] 111;simpa[Ee] using this,by omega⟩ (fun b e=>by have e2:b=w.heap.size+1:=e;simp;omega);have E2:=lh ((HE.out.al (.cells #[.slice (some ⟨b,o,none⟩) f.length c] 68)).al (.cells #[.int .i64 pk,.int .i64 pa,.int .i64 pb,.int .i64 pc,.int .i64 pn] 111));have SS:=lh S2;clear S1 S2 HS HE q0 Q0 h0 h1 h2 h3 h4 bh0 bh1 bh2 bh3 bh4;generalize (World.alloc (World.alloc w (.cells #[.slice (some ⟨b,o,none⟩) f.length c] 68)) (.cells #[.int .i64 pk,.int .i64 pa,.int .i64 pb,.int .i64 pc,.int .i64 pn] 111))=w2 at *;generalize hbp:w.heap.size+1=bp at *;generalize hbf:w.heap.size=bf at *;clear hbp hbf hsz;go_upto_region 3 with fail
  have S3:=Ai.add SS.out ((Aa.rfl' w2).al (.cells #[.pointer (some ⟨bp,1,none⟩),.pointer (some ⟨bp,2,none⟩),.pointer (some ⟨bp,3,none⟩)] 127)) (Th.box a.heap.size w2.heap.size [.pointer (some ⟨bp,1,none⟩),.pointer (some ⟨bp,2,none⟩),.pointer (some ⟨bp,3,none⟩)]) ⟨Bx.new w2 _ _,E2.out.size⟩ (fun b e=>by have e2:b=w2.heap.size:=e;omega);have E3:=lh (E2.out.al (.cells #[.pointer (some ⟨bp,1,none⟩),.pointer (some ⟨bp,2,none⟩),.pointer (some ⟨bp,3,none⟩)] 127));have SS:=lh (SepT.perm S3 (List.Perm.refl _));clear S3 E2;generalize World.alloc w2 (.cells #[.pointer (some ⟨bp,1,none⟩),.pointer (some ⟨bp,2,none⟩),.pointer (some ⟨bp,3,none⟩)] 127)=w3 at *;generalize hbt:w2.heap.size=bt at *;clear hbt;obtain⟨h0,h1,h2,h3,h4⟩:=Wd (HA.out.ext E3.out) hi HPE.out;dsimp only at h0 h1 h2 h3 h4;have bh0:=Au h0;have bh1:=Au h1;have bh2:=Au h2;have bh3:=Au h3;have bh4:=Au h4;have qf:w3.cell? ⟨bf,0,none⟩=some (.slice (some ⟨b,o,none⟩) f.length c):=((Ai.get SS.out 2 rfl:Bx _ _ _/\_).1).cell (j:=0) rfl;have bqf:=Au qf;go_wp2_with fail
  refine(NT ⟨pk,pa,pb,pc,pn⟩ _).mono ?_;rintro e w4 ⟨Ak,ck,rfl,hO4,he4⟩;rw[HPL.out] at hO4 ⊢;have SS:=lh (Ai.add SS.out he4 (Th.own a.heap.size 3 1 Ak m ck (Ah (Sg.AE ⟨pk,pa,pb,pc,pn⟩))) (hO4.mono E3.out.size) (fun b e=>(hO4.lt e).1));have E4:=lh (E3.out.tr he4);clear hO4 he4 h0 h1 h2 h3 h4 bh0 bh1 bh2 bh3 bh4 qf bqf E3;have SS:=lh (SepT.perm SS.out (List.perm_middle (l₁:=[_,_,_,_]) (l₂:=rs)));go_wp2_with fail
  go_loopw [2,27] (fun s2 s9 wr=>∃ (j:Nat) (A1:Option Addr) (c1:Nat),j<=m/\s9= .int .i64 j/\s2= .slice A1 (O j).length c1/\Hid (Aa a wr)/\Hid (Ai (Th.own a.heap.size 111 5 A1 (O j).length c1 (AL (O j)) :: Th.own a.heap.size 3 1 Ak m ck (Ah (Sg.AE ⟨pk,pa,pb,pc,pn⟩)) :: Th.box a.heap.size bt [.pointer (some ⟨bp,1,none⟩),.pointer (some ⟨bp,2,none⟩),.pointer (some ⟨bp,3,none⟩)] :: Th.box a.heap.size bp (Ee (P j)) :: Th.box a.heap.size bf [.slice (some ⟨b,o,none⟩) f.length c] :: rs) wr)) (fun _ s9 _=>m - (intOf s9).toNat)
  case atStart=>exact⟨0,Ao,co,Nat.zero_le _,rfl,by rw[O0.out],E4,by rw[O0.out,P0.out];exact SS⟩
  case round =>
   clear SS E4 O0 P0;obtain⟨j,A1,c1,hj,rfl,rfl,hX,hSR⟩:=hrel;by_cases hlt:j<m
   ·have hj3:j<3:=by omega
    obtain⟨bk,ok,x,hAk,hx,ck0⟩:=(Ai.get hSR.out 1 rfl:AA _ _ _ _ _ _ _ _).rd.at1 hlt;subst hAk;have hxr:=HKR.out x (List.mem_of_getElem? hx);obtain⟨y,rfl⟩:=Int.eq_ofNat_of_zero_le hxr.1;have hyi:y<i:=by omega
    have HX:=lh hx;have hO:=OS.out j _ hx;have hL:=OX.out j _ hx;have HO:=lh hO;have HL:=lh hL;have CK:=lh ck0;have bck:=Au ck0;have hjx:(j:Int)<(m:Int):=by omega
    have qf:wr.cell? ⟨bf,0,none⟩=some (.slice (some ⟨b,o,none⟩) f.length c):=((Ai.get hSR.out 4 rfl:Bx _ _ _/\_).1).cell (j:=0) rfl;have bqf:=Au qf;have QF:=lh qf;clear hx hxr hO hL;go_wp2_with fail
    refine(IH.out y (O j) A1 c1 (_) _ (by omega) (by omega) (by have:=HL.out;omega) hX.out hSR.out).mono ?_;rintro e v1 ⟨A2,c2,rfl,hE1,hS1⟩;rw[<- HO.out] at hS1 ⊢;have E1:=lh hE1;have S1:=lh hS1;clear hE1 hS1 ck0 bck CK qf bqf QF;have hL1:(O (j+1)).length<=1000:=by rw[HO.out];have:=HL.out;have:=Sg.MU HGD.out (k:=k) (i:=(y:Int)) (by omega) (by omega) (by omega) (O j);omega
    have iw:IntKind.i64.wrap (((O (j+1)).length:Int) - 1)=((O (j+1)).length:Int) - 1:=IntWalk.i64_in _ (by omega);have yb:Bx v1 bp (Ee (P j))/\a.heap.size<=bp:=Ai.get S1.out 3 rfl;have YB:=lh yb;have u0:=yb.1.cell (Pp (P j) hj3);have uf:=yb.1.free (j+1);have ul:=yb.1.lt;generalize (Ee (P j)).getD (j+1) undef=uv at *;clear yb;have yt:Bx v1 bt [.pointer (some ⟨bp,1,none⟩),.pointer (some ⟨bp,2,none⟩),.pointer (some ⟨bp,3,none⟩)]:=(Ai.get S1.out 2 rfl:Bx _ _ _/\_).1;have ut:=yt.cell (Po bp hj3);have ult:=yt.lt;clear yt;have hj3x:(j:Int)<3:=by omega
    have SN:=lh (Ai.st S1.out 3 rfl ⟨bp,j+1,none⟩ (.int .i64 (((O (j+1)).length:Int) - 1)) rfl (Th.box a.heap.size bp (Ee (P (j+1)))) ⟨by rw[PS.out j hj3];exact YB.out.1.set (j+1) _,YB.out.2⟩ (fun _ e=>e));have EN:=lh (E1.out.set (p:=⟨bp,j+1,none⟩) YB.out.2 (.int .i64 (((O (j+1)).length:Int) - 1)));clear S1 YB;go_wp2;go_roundw
    case rel=>exact⟨j+1,A2,c2,by omega,by go_num,rfl,EN,SN⟩
    case measure=>simp[intOf];omega
   ·obtain rfl:j=m:=by omega
    have hO1:=(Ai.get hSR.out 0 rfl:AA _ _ _ _ _ _ _ _);have HO1:=lh hO1;have yb:Bx wr bp (Ee (P j)):=(Ai.get hSR.out 3 rfl:Bx _ _ _/\_).1;have z0:=yb.cell (j:=0) rfl;have z1:=yb.cell (j:=1) rfl;have z2:=yb.cell (j:=2) rfl;have z3:=yb.cell (j:=3) rfl;have z4:=yb.cell (j:=4) rfl;have lz:=yb.lt;have hol:=OL.out;have hws:=hX.out.size;clear yb hO1;generalize hpq:P j=q at *;have HPQ:=lh hpq;clear hpq;obtain⟨qk,qa,qb,qc,qn⟩:=q;dsimp only at *;go_wp2_with (at_builtin;refine AF (cs:=Ee ⟨qk,qa,qb,qc,qn⟩) rfl rfl L6 rfl HO1.out rfl rfl (I3 _) (by omega) (by omega) (by omega) ?_;intro A2 c2 w9 hown2 hg2 hat2)
    go_ret;have hS9:=Ai.app hSR.out 0 rfl hown2 hg2 hat2;have e9:O j++[⟨qk,qa,qb,qc,qn⟩]=Sg.Dk f (k+1) (i:Int) out:=by rw[OM.out]
    have e5:AL (O j)++Ee ⟨qk,qa,qb,qc,qn⟩=AL (Sg.Dk f (k+1) (i:Int) out):=by rw[<- e9];simp[AL]
    have e6:(O j).length+1=(Sg.Dk f (k+1) (i:Int) out).length:=by rw[<- e9];simp
    rw[e5,e6] at hS9;refine⟨A2,c2,by simp[e6],hX.out.gr hg2 fun x hx=>(HO1.out.lt hx).1,SepT.sub hS9 ?_⟩;exact List.Sublist.cons_cons _ (((((List.Sublist.refl rs).cons _).cons _).cons _).cons _)
end Go.Proofs.YthibllkleakiiaaGreatDoor
