/- Parts of one proof, joined. The reference's sessions with the eager machine: contracts. Conditions: bounds on lengths. -/
import Derived.Deep.CutBlock
import Derived.Deep.DeepCutAuto
import Derived.Lib.SliceRun
import Derived.IntWalk
import Derived.Test.YthibllkleakiiaaGreatDoorLwSpc
namespace Sg
def Cl (f:List At)(c:Int->LR->LR):Nat->Int->LR->Int × List Int × LR
 | 0,_,s=>(0,[],s)
 | m+1,i,s =>
  let p:=f.getD i.toNat default
  if p.kind=0 then (p.n,[],s)
  else if p.kind=1 then (Ba (c p.n s) p.n.toNat,[p.n],c p.n s)
  else
   let x:=Cl f c m p.a s
   if p.kind=8 then
    let y:=Cl f c m (if x.1=0 then p.c else p.b) x.2.2
    (y.1,x.2.1++y.2.1,y.2.2)
   else
    let y:=Cl f c m p.b x.2.2
    (Fw p.kind x.1 y.1,x.2.1++y.2.1,y.2.2)
theorem RY (f:List At)(c:Int->LR->LR)(m i:Nat)(s:LR){p:At}(h:f[i]? = some p):Cl f c (m+1) i s =
  if p.kind=0 then (p.n,[],s) else if p.kind=1 then (Ba (c p.n s) p.n.toNat,[p.n],c p.n s) else
   if p.kind=8 then ((Cl f c m (if (Cl f c m p.a s).1=0 then p.c else p.b) (Cl f c m p.a s).2.2).1,(Cl f c m p.a s).2.1++(Cl f c m (if (Cl f c m p.a s).1=0 then p.c else p.b) (Cl f c m p.a s).2.2).2.1,(Cl f c m (if (Cl f c m p.a s).1=0 then p.c else p.b) (Cl f c m p.a s).2.2).2.2)
   else (Fw p.kind (Cl f c m p.a s).1 (Cl f c m p.b (Cl f c m p.a s).2.2).1,(Cl f c m p.a s).2.1++(Cl f c m p.b (Cl f c m p.a s).2.2).2.1,(Cl f c m p.b (Cl f c m p.a s).2.2).2.2):=by
 simp[Cl,h]
theorem GE (f:List At)(c:Int->LR->LR)(m:Nat)(i:Int)(s:LR):(Cl f c m i s).2.1.length<=2 ^ m:=by
 induction m generalizing i s with
 | zero=>simp[Cl]
 | succ m ih =>
  have h1:1<=2 ^ m:=Nat.one_le_two_pow;have h2:2 ^ (m+1)=2 ^ m+2 ^ m:=by rw[Nat.pow_succ];omega
  simp only[Cl];split
  ·simp
  ·split
   ·simp;omega
   ·split
    ·simp only[List.length_append];have a:=ih (f.getD i.toNat default).a s;have b:=ih (if (Cl f c m (f.getD i.toNat default).a s).1=0 then (f.getD i.toNat default).c else (f.getD i.toNat default).b) (Cl f c m (f.getD i.toNat default).a s).2.2;omega
    ·simp only[List.length_append];have a:=ih (f.getD i.toNat default).a s;have b:=ih (f.getD i.toNat default).b (Cl f c m (f.getD i.toNat default).a s).2.2;omega
theorem TZ (f:List At)(c:Int->LR->LR)(m:Nat)(i:Int)(l:List Int)(s:LR) :
  Ct f (fun (t:List Int × LR) k=>Ba (c k t.2) k.toNat) (fun t k=>(C5 t.1 k,c k t.2)) m i (l,s)=((Cl f c m i s).1,(Cl f c m i s).2.1.foldl C5 l,(Cl f c m i s).2.2):=by
 induction m generalizing i l s with
 | zero=>rfl
 | succ m ih =>
  simp only[Ct,Cl];by_cases h0:(f.getD i.toNat default).kind=0
  ·simp only[if_pos h0];rfl
  ·simp only[if_neg h0];by_cases h1:(f.getD i.toNat default).kind=1
   ·simp only[if_pos h1];rfl
   ·simp only[if_neg h1];by_cases h8:(f.getD i.toNat default).kind=8
    ·simp only[if_pos h8,ih,List.foldl_append]
    ·simp only[if_neg h8,ih,List.foldl_append]
theorem T3 (g:Ae)(c:Int->LR->LR)(n:Nat)(s:LR):GM g c n s=((Cl (g.getD n default).f c (g.getD n default).f.length (((g.getD n default).f.length:Int) - 1) s).1,AU (Cl (g.getD n default).f c (g.getD n default).f.length (((g.getD n default).f.length:Int) - 1) s).2.1,(Cl (g.getD n default).f c (g.getD n default).f.length (((g.getD n default).f.length:Int) - 1) s).2.2):=by
 unfold GM Je AU;rw[TZ]
end Sg
namespace Go.Proofs.YthibllkleakiiaaGreatDoor
open Go.RowKit
def VN (w0:World)(L gv cv gr cr gq cq Bl:Nat)(pre:List Value)(c:Int->Sg.LR->Sg.LR)(I:Sg.LR->Prop)(n:Nat):Prop :=
 ∀ (k:Int) (t:Sg.LR) (F:Nat->Prop) (W:World),0<=k->k<(n:Int)->I t->LS w0 L gv cv gr cr gq cq Bl pre t F W ->
  Calls Tryz.prog 77 #[.pointer (some ⟨Bl,0,none⟩),.int .i64 k] W fun e w'=>e= .returned (.tuple #[])/\LG w0 L gv cv gr cr gq cq Bl pre (c k t) F W w'
def YS (w0:World)(L gv cv gr cr gq cq Bl:Nat)(pre:List Value)(I:Sg.LR->Prop)(r:Int × List Int × Sg.LR)(F:Nat->Prop)(W:World)(e:Ending)(w':World):Prop :=
 ∃ (A':Option Addr) (c':Nat) (F':Nat->Prop),e= .returned (.tuple #[.int .i64 r.1,.slice A' r.2.1.length c'])/\Au w' W.heap.size 3 1 A' r.2.1.length c' (Ah r.2.1)/\LS w0 L gv cv gr cr gq cq Bl pre r.2.2 F' w'/\AF F W w'/\(∀ b,F' b->F b\/W.heap.size<=b)/\Nk F' A'/\(0<=r.1/\r.1<=999)/\I r.2.2
theorem zx0{p:Prop}(h:p:=by
 rcases HS3.out.2.2.1 b hb with e | e
 ·rcases HS2.out.2.2.1 b e with e | e
  ·exact .inl e
  ·exact .inr (by omega)
 ·exact .inr (by omega)):p:=h
theorem zw0{p:Prop}(h:p:=by
 have b3:=BB2.out.mod hm3 (fun e=>by
  rcases HS2.out.2.2.1 _ e with e | e
  ·have:=FW.out _ e;omega
  ·have:=Z1.out;omega)
 have q03:=b3.cell (j:=0) rfl;have bq3:=AA q03;have hsz3:=hm3.size;have hz1:=Z1.out;have hbase:W1.heap.size<=w3.heap.size:=by omega
 have hl12:l1.length+l2.length<=8192:=by omega
 clear hz1 ho3 hS3 hm3 hF3 hof3 hy hI3 b3 q02 q22 q32 bq2;go_wp2_with (at_builtin;refine C1 rfl rfl Bc rfl O23.out rfl O3.out.rd (En _) (by unfold maxLen;omega) (by omega) hbase ?_;intro A4 c4 w4 ho4 hg4 hat4;have U4:=lh (And.intro ho4 (And.intro hg4 hat4));clear ho4 hg4 hat4)
 go_ret2;rw[HRK2.out];have m4:AF (fun b=>AE A2=some b) w3 w4:=⟨U4.out.2.1.os,U4.out.2.1.tape,U4.out.2.1.output,U4.out.2.1.size,fun b hb hn=>U4.out.2.1.block b hb fun e=>hn e.symm⟩;have mA:AF F W w3:=(AF.of E1.out).tr' (HS2.out.2.1.tr HS3.out.2.1 HS2.out.2.2.1);have hz1:=Z1.out;refine⟨A4,c4,F3,by simp,by simpa using U4.out.1.mono (by omega),HS3.out.1.md m4 (fun b hf hb=>ND.out b hb hf) (fun b hb e=>by have:=(O23.out.lt e).1;omega),mA.tr m4 (fun b e=>.inr (by have:=(O23.out.lt e).1;omega)),fun b hb=>?_,fun b hb hf=>?_,HY.out,HI3.out⟩
 ·exact zx0
 ·rcases U4.out.2.2 with e | e
  ·exact ND.out b (by rw[<- e];exact hb) hf
  ·rw[e] at hb;injection hb with hb;have:=(HS3.out.1.lt hf).2;omega):p:=h
set_option maxRecDepth 100000 in
set_option maxHeartbeats 8000000 in
theorem Yg (w0:World)(L gv cv gr cr gq cq Bl cg bn on n:Nat)(Ap:Option Addr)(cp gl:Nat)(f:List Sg.At)(c:Int->Sg.LR->Sg.LR)(I:Sg.LR->Prop)(ok:Sg.Yv f (fun k=>0<=k/\k<(n:Int)))(hnL:n<L)(hngl:n<gl)(_hgl:gl<=10)(hsl:w0.cell? ⟨bn,on+n * 2+1,none⟩=some (.slice Ap f.length cp))(hf:Rd w0 5 Ap f.length (AH f))(hI:VN w0 L gv cv gr cr gq cq Bl [.slice (some ⟨bn,on,none⟩) gl cg,.slice (some ⟨gv,0,none⟩) L cv,.slice (some ⟨gr,0,none⟩) L cr,.slice (some ⟨gq,0,none⟩) L cq] c I n)(hIc:∀ (k:Int) t,0<=k->k<(n:Int)->I t->I (c k t))(hIv:∀ t k,I t->0<=Sg.Ba t k/\Sg.Ba t k<=999) :
  ∀ (m i:Nat) (s:Sg.LR) (F:Nat->Prop) (W:World),i<m->i<f.length->m<=12->I s->LS w0 L gv cv gr cr gq cq Bl [.slice (some ⟨bn,on,none⟩) gl cg,.slice (some ⟨gv,0,none⟩) L cv,.slice (some ⟨gr,0,none⟩) L cr,.slice (some ⟨gq,0,none⟩) L cq] s F W ->
   Calls Tryz.prog 114 #[.pointer (some ⟨Bl,0,none⟩),.int .i64 n,.int .i64 i] W (YS w0 L gv cv gr cr gq cq Bl [.slice (some ⟨bn,on,none⟩) gl cg,.slice (some ⟨gv,0,none⟩) L cv,.slice (some ⟨gr,0,none⟩) L cr,.slice (some ⟨gq,0,none⟩) L cq] I (Sg.Cl f c m i s) F W):=by
 have HI:=lh hI;have HIC:=lh hIc;have HIV:=lh hIv;have HOK:=lh ok;have HF:=lh hf;have HSL:=lh hsl;have hlen:=ok.len;clear hI hIc hIv ok hf hsl;intro m;induction m with
 | zero=>intro i s F W h;omega
 | succ m ih =>
  intro i s F W him hif hm12 hIs hS;have IH:=lh ih;clear ih;obtain⟨Ab,cb,hBx,_,_,_⟩:=hS.box;have x0:=hBx.cell (j:=0) rfl;have bx0:=AA x0;have hsl1:=hS.old.cellE HSL.out;have bsl1:=AA hsl1;obtain⟨bp,op,p,hAp,hp,hc0,hc1,hc2,hc3,hc4⟩:=(HF.out.ext hS.old).atP hif;subst hAp;have bp0:=AA hc0;have hgp:=HOK.out.good i p hp;have hrk:=Sg.RY f c m i s hp;have hrp:=HOK.out.reads p (List.mem_of_getElem? hp);have hpow:2 ^ m<=2 ^ 11:=Nat.pow_le_pow_right (by omega) (by omega);obtain⟨pk,pa,pb,pc,pn⟩:=p;dsimp only at *;have HS:=lh hS;have HIs:=lh hIs;have HGP:=lh hgp;have HRK:=lh hrk;have HRP:=lh hrp;clear hS hIs hgp hrk hrp hp hBx;go_enter Tryz.func114,Tryz.ntmps114;go_upto_region 2 with fail
  have B1:=lh (Bx.new W #[.int .i64 pk,.int .i64 pa,.int .i64 pb,.int .i64 pc,.int .i64 pn] 111);have E1:=lh ((Aa.rfl' W).al (.cells #[.int .i64 pk,.int .i64 pa,.int .i64 pb,.int .i64 pc,.int .i64 pn] 111));have Z1:=lh (show (World.alloc W (.cells #[.int .i64 pk,.int .i64 pa,.int .i64 pb,.int .i64 pc,.int .i64 pn] 111)).heap.size=W.heap.size+1 by simp);have S1:=lh (HS.out.ext E1.out);clear x0 bx0 hsl1 bsl1 hc0 hc1 hc2 hc3 hc4 bp0;generalize World.alloc W (.cells #[.int .i64 pk,.int .i64 pa,.int .i64 pb,.int .i64 pc,.int .i64 pn] 111)=W1 at *;have FW:=lh (show ∀ b,F b->b<W.heap.size from fun b hb=>(HS.out.lt hb).2);have hBW:w0.heap.size<=W.heap.size:=HS.out.old.size;have q0:=B1.out.cell (j:=0) rfl;have bq:=AA q0;have cases:pk=0\/pk=1\/(2<=pk/\pk<=7)\/pk=8\/(pk<0\/8<pk):=by omega
  rcases cases with h | h | h | h | h
  ·subst h;have hgp:=HGP.out;rw[SZ i rfl] at hgp;simp only[Bool.and_eq_true,Sg.Cb,decide_eq_true_eq] at hgp;have q4:=B1.out.cell (j:=4) rfl;have hn0:0<=pn/\pn<=999:=by omega
   have HN0:=lh hn0;have hrk:=HRK.out;rw[if_pos rfl] at hrk;have HRK2:=lh hrk;clear hgp hn0 hrk HRK;go_wp2;go_ret2;rw[HRK2.out];exact⟨_,_,F,rfl,Au.nw E1.out _ [] #[] rfl (by simp) rfl,S1.out.ext ((Aa.rfl' W1).al _),AF.of (E1.out.al _),fun b hb=>.inl hb,(fun b hb hf=>by have h1:=FW.out b hf;have h2:=Z1.out;simp[AE] at hb;omega),HN0.out,HIs.out⟩
  ·subst h;have hgp:=HGP.out;rw[Ve i rfl] at hgp;simp only[Bool.and_eq_true,Sg.Cb,decide_eq_true_eq] at hgp;have hN:=HRP.out rfl;obtain⟨N,rfl⟩:=Int.eq_ofNat_of_zero_le hN.1;have hNn:N<n:=by omega
   have hNL:N<L:=by omega
   have q4:=B1.out.cell (j:=4) rfl;have hrk:=HRK.out;rw[if_neg (by omega),if_pos rfl] at hrk;have HRK2:=lh hrk;clear hgp hN hrk HRK;go_wp2_with fail
   refine(HI.out (N:Int) s F W1 (by omega) (by omega) HIs.out S1.out).mono ?_;rintro e w2 ⟨rfl,hG⟩;obtain⟨F2,hS2,hm2,hF2⟩:=hG;obtain⟨A2,c2,hB2,_,_,_⟩:=hS2.box;have x1:=hB2.cell (j:=1) rfl;have bx1:=AA x1;obtain⟨cv2,fv2,bv2⟩:=hS2.val hNL;have b2:=B1.out.mod hm2 (fun e=>by have:=FW.out _ e;omega);have q42:=b2.cell (j:=4) rfl;have bq2:=AA q42;have HS2:=lh (And.intro hS2 (And.intro hm2 hF2));have hsz:=hm2.size;clear hS2 hm2 hF2 hB2 b2 q0 q4 bq;go_wp2;go_region
   go_wp2;go_ret2;rw[HRK2.out];have hE:=(Aa.rfl' w2).al (.cells #[.int .i64 (N:Int)] 3);have hle:Aa w2 (World.drew (World.alloc w2 (.cells #[.int .i64 (N:Int)] 3))):=hE.dr;refine⟨_,_,F2,rfl,((Au.nw (Aa.rfl' w2) _ [(N:Int)] #[.int .i64 N] rfl (by simp) rfl).mono (by have:=Z1.out;omega)).dr,HS2.out.1.ext hle,(AF.of E1.out).tr' (HS2.out.2.1.tr' (AF.of hle)),fun b hb=>?_,(fun b hb hf=>by have h1:=(HS2.out.1.lt hf).2;simp[AE] at hb;omega),?_,HIC.out _ _ (by omega) (by omega) HIs.out⟩
   ·rcases HS2.out.2.2 b hb with e | e
    ·exact .inl e
    ·have:=Z1.out;exact .inr (by omega)
   ·have:=HIV.out (c (N:Int) s) N (HIC.out _ _ (by omega) (by omega) HIs.out);simpa using this
  ·have hgp:=HGP.out;rw[S_ i h] at hgp;simp only[Bool.and_eq_true,Sg.Cb,decide_eq_true_eq] at hgp;obtain⟨⟨⟨⟨ha0,ha1⟩,hb0,hb1⟩,_⟩,_⟩:=hgp;obtain⟨a,rfl⟩:=Int.eq_ofNat_of_zero_le ha0;obtain⟨d,rfl⟩:=Int.eq_ofNat_of_zero_le hb0;have hl1:=Sg.GE f c m a s;have hrk:=HRK.out;rw[if_neg (by omega),if_neg (by omega),if_neg (by omega)] at hrk;generalize hr1:Sg.Cl f c m a s=r1 at *;obtain⟨v1,l1,u1⟩:=r1;dsimp only at *;have hl2:=Sg.GE f c m d u1;generalize hr2:Sg.Cl f c m d u1=r2 at *;obtain⟨v2,l2,u2⟩:=r2;dsimp only at *;have Hr1:=lh hr1;have Hr2:=lh hr2;have HRK2:=lh hrk;have k0:(pk == 0)=false:=by rw[beq_eq_false_iff_ne];omega
   have k1:(pk == 1)=false:=by rw[beq_eq_false_iff_ne];omega
   have k8:(pk == 8)=false:=by rw[beq_eq_false_iff_ne];omega
   have q1:=B1.out.cell (j:=1) rfl;clear hr1 hr2 hrk HRK;go_wp2_with fail
   refine(IH.out a s F W1 (by omega) (by omega) (by omega) HIs.out S1.out).mono ?_;rw[Hr1.out];rintro e w2 ⟨A2,c2,F2,rfl,ho2,hS2,hm2,hF2,hof2,hx,hI2⟩;dsimp only at ho2 hS2 hI2 hx;have O2:=lh ho2;have HS2:=lh (And.intro hS2 (And.intro hm2 (And.intro hF2 hof2)));have HI2:=lh hI2;have HX:=lh hx;have b2:=B1.out.mod hm2 (fun e=>by have:=FW.out _ e;omega);have q02:=b2.cell (j:=0) rfl;have q22:=b2.cell (j:=2) rfl;have q32:=b2.cell (j:=3) rfl;have bq2:=AA q02;have BB2:=lh b2;have hsz2:=hm2.size;clear ho2 hS2 hm2 hF2 hof2 hx hI2 b2 q0 q1 bq;go_wp2_with fail
   refine(IH.out d u1 F2 w2 (by omega) (by omega) (by omega) HI2.out HS2.out.1).mono ?_;rw[Hr2.out];rintro e w3 ⟨A3,c3,F3,rfl,ho3,hS3,hm3,hF3,hof3,hy,hI3⟩;dsimp only at ho3 hS3 hI3 hy;have O3:=lh ho3;have HS3:=lh (And.intro hS3 (And.intro hm3 (And.intro hF3 hof3)));have HI3:=lh hI3;have HY:=lh hy;have O23:=lh (O2.out.mod hm3 HS2.out.2.2.2);have ND:=lh (show Nk F3 A2 from fun b hb hf=>(hF3 b hf).elim (HS2.out.2.2.2 b hb) (fun e=>by have:=(O2.out.lt hb).2;omega))
   have b3:=BB2.out.mod hm3 (fun e=>by
    rcases HS2.out.2.2.1 _ e with e | e
    ·have:=FW.out _ e;omega
    ·have:=Z1.out;omega)
   have q03:=b3.cell (j:=0) rfl;have bq3:=AA q03;have hsz3:=hm3.size;have hz1:=Z1.out;have hbase:W1.heap.size<=w3.heap.size:=by omega
   have hl12:l1.length+l2.length<=8192:=by omega
   clear hz1 ho3 hS3 hm3 hF3 hof3 hy hI3 b3 q02 q22 q32 bq2;have hj:=Sg.Gr pk v1 v2 HX.out HY.out;have HJ:=lh hj;clear hj
   go_wp2_with (first
    | (go_at_call 144;refine(Qt _ _ _ _ HX.out.1 HX.out.2 HY.out.1 HY.out.2).mono ?_;rintro e w' ⟨rfl,rfl⟩)
    | (at_builtin;refine C1 rfl rfl Bc rfl O23.out rfl O3.out.rd (En _) (by unfold maxLen;omega) (by omega) hbase ?_;intro A4 c4 w4 ho4 hg4 hat4;have U4:=lh (And.intro ho4 (And.intro hg4 hat4));clear ho4 hg4 hat4))
   go_ret2;rw[HRK2.out];have m4:AF (fun b=>AE A2=some b) w3 w4:=⟨U4.out.2.1.os,U4.out.2.1.tape,U4.out.2.1.output,U4.out.2.1.size,fun b hb hn=>U4.out.2.1.block b hb fun e=>hn e.symm⟩;have mA:AF F W w3:=(AF.of E1.out).tr' (HS2.out.2.1.tr HS3.out.2.1 HS2.out.2.2.1);have hz1:=Z1.out;refine⟨A4,c4,F3,by simp,by simpa using U4.out.1.mono (by omega),HS3.out.1.md m4 (fun b hf hb=>ND.out b hb hf) (fun b hb e=>by have:=(O23.out.lt e).1;omega),mA.tr m4 (fun b e=>.inr (by have:=(O23.out.lt e).1;omega)),fun b hb=>?_,fun b hb hf=>?_,HJ.out,HI3.out⟩
   ·exact zx0
   ·rcases U4.out.2.2 with e | e
    ·exact ND.out b (by rw[<- e];exact hb) hf
    ·rw[e] at hb;injection hb with hb;have:=(HS3.out.1.lt hf).2;omega
  ·subst h;have hgp:=HGP.out;rw[Ta i rfl] at hgp;simp only[Bool.and_eq_true,Sg.Cb,decide_eq_true_eq] at hgp;obtain⟨⟨⟨⟨ha0,ha1⟩,hb0,hb1⟩,hd0,hd1⟩,_⟩:=hgp;obtain⟨a,rfl⟩:=Int.eq_ofNat_of_zero_le ha0;obtain⟨d,rfl⟩:=Int.eq_ofNat_of_zero_le hb0;obtain⟨d',rfl⟩:=Int.eq_ofNat_of_zero_le hd0;have hl1:=Sg.GE f c m a s;have hrk:=HRK.out;rw[if_neg (by omega),if_neg (by omega),if_pos rfl] at hrk;generalize hr1:Sg.Cl f c m a s=r1 at *;obtain⟨v1,l1,u1⟩:=r1;dsimp only at *;have Hr1:=lh hr1;have q1:=B1.out.cell (j:=1) rfl;clear hr1 HRK;by_cases hv1:v1=0
   ·rw[if_pos hv1] at hrk;have hl2:=Sg.GE f c m d' u1;generalize hr2:Sg.Cl f c m d' u1=r2 at *;obtain⟨v2,l2,u2⟩:=r2;dsimp only at *;have Hr2:=lh hr2;have HRK2:=lh hrk;have z1:(v1 == 0)=true:=by simp[hv1]
    clear hr2 hrk hv1;go_wp2_with fail
    refine(IH.out a s F W1 (by omega) (by omega) (by omega) HIs.out S1.out).mono ?_;rw[Hr1.out];rintro e w2 ⟨A2,c2,F2,rfl,ho2,hS2,hm2,hF2,hof2,hx,hI2⟩;dsimp only at ho2 hS2 hI2 hx;have O2:=lh ho2;have HS2:=lh (And.intro hS2 (And.intro hm2 (And.intro hF2 hof2)));have HI2:=lh hI2;have HX:=lh hx;have b2:=B1.out.mod hm2 (fun e=>by have:=FW.out _ e;omega);have q02:=b2.cell (j:=0) rfl;have q22:=b2.cell (j:=2) rfl;have q32:=b2.cell (j:=3) rfl;have bq2:=AA q02;have BB2:=lh b2;have hsz2:=hm2.size;clear ho2 hS2 hm2 hF2 hof2 hx hI2 b2 q0 q1 bq;go_wp2_with fail
    refine(IH.out d' u1 F2 w2 (by omega) (by omega) (by omega) HI2.out HS2.out.1).mono ?_;rw[Hr2.out];rintro e w3 ⟨A3,c3,F3,rfl,ho3,hS3,hm3,hF3,hof3,hy,hI3⟩;dsimp only at ho3 hS3 hI3 hy;have O3:=lh ho3;have HS3:=lh (And.intro hS3 (And.intro hm3 (And.intro hF3 hof3)));have HI3:=lh hI3;have HY:=lh hy;have O23:=lh (O2.out.mod hm3 HS2.out.2.2.2);have ND:=lh (show Nk F3 A2 from fun b hb hf=>(hF3 b hf).elim (HS2.out.2.2.2 b hb) (fun e=>by have:=(O2.out.lt hb).2;omega))
    exact zw0
   ·rw[if_neg hv1] at hrk;have hl2:=Sg.GE f c m d u1;generalize hr2:Sg.Cl f c m d u1=r2 at *;obtain⟨v2,l2,u2⟩:=r2;dsimp only at *;have Hr2:=lh hr2;have HRK2:=lh hrk;have z1:(v1 == 0)=false:=by simp[hv1]
    clear hr2 hrk hv1;go_wp2_with fail
    refine(IH.out a s F W1 (by omega) (by omega) (by omega) HIs.out S1.out).mono ?_;rw[Hr1.out];rintro e w2 ⟨A2,c2,F2,rfl,ho2,hS2,hm2,hF2,hof2,hx,hI2⟩;dsimp only at ho2 hS2 hI2 hx;have O2:=lh ho2;have HS2:=lh (And.intro hS2 (And.intro hm2 (And.intro hF2 hof2)));have HI2:=lh hI2;have HX:=lh hx;have b2:=B1.out.mod hm2 (fun e=>by have:=FW.out _ e;omega);have q02:=b2.cell (j:=0) rfl;have q22:=b2.cell (j:=2) rfl;have q32:=b2.cell (j:=3) rfl;have bq2:=AA q02;have BB2:=lh b2;have hsz2:=hm2.size;clear ho2 hS2 hm2 hF2 hof2 hx hI2 b2 q0 q1 bq;go_wp2_with fail
    refine(IH.out d u1 F2 w2 (by omega) (by omega) (by omega) HI2.out HS2.out.1).mono ?_;rw[Hr2.out];rintro e w3 ⟨A3,c3,F3,rfl,ho3,hS3,hm3,hF3,hof3,hy,hI3⟩;dsimp only at ho3 hS3 hI3 hy;have O3:=lh ho3;have HS3:=lh (And.intro hS3 (And.intro hm3 (And.intro hF3 hof3)));have HI3:=lh hI3;have HY:=lh hy;have O23:=lh (O2.out.mod hm3 HS2.out.2.2.2);have ND:=lh (show Nk F3 A2 from fun b hb hf=>(hF3 b hf).elim (HS2.out.2.2.2 b hb) (fun e=>by have:=(O2.out.lt hb).2;omega))
    exact zw0
  ·have hgp:=HGP.out;rw[Tb i h] at hgp;cases hgp
def J_ (bn on gl cg L gv cv gr cr gq cq:Nat):List Value:=[.slice (some ⟨bn,on,none⟩) gl cg,.slice (some ⟨gv,0,none⟩) L cv,.slice (some ⟨gr,0,none⟩) L cr,.slice (some ⟨gq,0,none⟩) L cq]
theorem LS.preC {w0:World}{L gv cv gr cr gq cq Bl:Nat}{pre:List Value}{s:Sg.LR}{F:Nat->Prop}{W:World}(h:LS w0 L gv cv gr cr gq cq Bl pre s F W){j:Nat}{u:Value}(hj:pre[j]? = some u):W.cell? ⟨Bl,j,none⟩=some u/\Bl<W.heap.size:=by
 obtain⟨A,c,hB,_⟩:=h.box;refine⟨hB.cell ?_,hB.lt⟩;rw[List.getElem?_append_left (ge_.1 hj).1];exact hj
set_option maxRecDepth 100000 in
set_option maxHeartbeats 16000000 in
theorem Vx (w0:World)(L gv cv gr cr gq cq Bl cg bn on:Nat)(g:Sg.Ae)(hg:Eg w0 (some ⟨bn,on,none⟩) g)(hG:Sg.AG g=true)(hLg:L=g.length) :
  ∀ (f n:Nat) (s:Sg.LR) (F:Nat->Prop) (W:World),n<f->n<L->Sg.AM g s.st=true->s.ran.length+10 * f<=1000000->LS w0 L gv cv gr cr gq cq Bl (J_ bn on L cg L gv cv gr cr gq cq) s F W ->
   Calls Tryz.prog 77 #[.pointer (some ⟨Bl,0,none⟩),.int .i64 n] W fun e w' =>
    e= .returned (.tuple #[])/\LG w0 L gv cv gr cr gq cq Bl (J_ bn on L cg L gv cv gr cr gq cq) (Sg.AI g f n s) F W w':=by
 have hL10:L<=10:=by rw[hLg];exact Sg.CW hG
 have HG:=lh hG;have HLG:=lh hLg;have HRG:=lh hg;have hgl10:g.length<=10:=Sg.CW hG;clear hG hLg hg;intro f;induction f with
 | zero=>intro n s F W hn;omega
 | succ f ih =>
  intro n s F W hn hnL hV hR hS;have HV:=lh hV;have hc:Sg.IL g (Sg.AI g f) n:=fun k t hk hkg ht=>Sg.Fd HG.out f k t (by omega) hkg ht;have HC:=lh hc
  have hI:VN w0 L gv cv gr cr gq cq Bl (J_ bn on L cg L gv cv gr cr gq cq) (Sg.AI g f) (Sg.AW g (fun _=>True) s) n:=by
   intro k t F' W' h0 h1 h2 h4;have hr:=h2.ran_len;have:=ih k.toNat t F' W' (by omega) (by omega) h2.ok (by omega) h4;rwa [Int.toNat_of_nonneg h0] at this
  have HI:=lh hI
  have hIc:∀ (k:Int) (t:Sg.LR),0<=k->k<(n:Int)->Sg.AW g (fun _=>True) s t->Sg.AW g (fun _=>True) s (Sg.AI g f k t):=by
   intro k t h0 h1 h2;have hlg:=HLG.out;have hcl:=HC.out k.toNat t (by omega) (by omega) h2.ok;rw[Int.toNat_of_nonneg h0] at hcl;exact Sg.AW.trans HV.out h2 (hcl.1.mono fun _ _=>trivial)
  have HIC:=lh hIc;have hng:n<g.length:=by have:=HLG.out;omega
  obtain⟨nd,hnd⟩:∃ nd,g[n]? = some nd:=⟨_,gg hng⟩;have HND:=lh hnd;have S1:=lh hS;have hold:=hS.old.size;clear ih hI hIc hc hV hS hnd;obtain⟨p2,bp2⟩:=S1.out.preC (j:=3) rfl;obtain⟨cq0,fq0,bq0⟩:=S1.out.col hnL;go_enter Tryz.func77,Tryz.ntmps77;go_upto_if 16 with fail
  go_cut [] (fun wx=>Hid (LG w0 L gv cv gr cr gq cq Bl (J_ bn on L cg L gv cv gr cr gq cq) (Sg.Cr (Sg.AI g f) n s) F W wx))
  case first =>
   by_cases h1:Sg.AL s n=1
   ·have y1:(Sg.AL s n == 1)=true:=by simp[h1]
    have H1:=lh h1;obtain⟨p1,bp1⟩:=S1.out.preC (j:=2) rfl;obtain⟨Al,cl,cr0,rr0,fr0,br0⟩:=S1.out.rds hnL
    have hlen:(Sg.Co s n).length<=10:=by
     have hx:Sg.Co s n ∈ s.st.reads:=by
      have hl:=S1.out.rl;unfold Sg.Co;rw[g_d,gg (by omega),Option.getD_some];exact List.getElem_mem _
     exact ES HV.out _ hx
    have HAH:=lh (fun x (hx:x ∈ Sg.Co s n)=>Sg.C7 HV.out n x hx);have HCK:=lh (show Sg.Cr (Sg.AI g f) n s=if Sg.AL (Sg.Cy (Sg.AI g f) n (Sg.Co s n) s) n=1 then Sg.KM (Sg.Cy (Sg.AI g f) n (Sg.Co s n) s) n 0 else Sg.Cy (Sg.AI g f) n (Sg.Co s n) s by unfold Sg.Cr;rw[if_pos H1.out]);generalize hrd:Sg.Co s n=l at *;have RR:=lh rr0;clear h1 hrd rr0;go_wp2_with fail
    refine(DZ Al l.length cl l _ RR.out (by omega)).mono ?_;rintro e w2 ⟨A3,c3,rfl,ho3,he3⟩;have O3:=lh ho3;have E3:=lh he3;have S2:=lh (S1.out.ext he3);have OF:=lh (show Nk F A3 from fun b hb hf=>by have:=(O3.out.lt hb).1;have:=(S1.out.lt hf).2;omega);clear ho3 he3 p1 bp1 p2 bp2 cr0 fr0 br0 cq0 fq0 bq0;go_upto_block 0 with fail
    go_cut [] (fun wx=>Hid (LG w0 L gv cv gr cr gq cq Bl (J_ bn on L cg L gv cv gr cr gq cq) (Sg.Cy (Sg.AI g f) n l s) F w2 wx))
    case first =>
     have HLP:=lh (fun (k:Nat)=>(Sg.Il (g:=g) (c:=Sg.AI g f) (n:=n) (by have:=HLG.out;omega) HC.out (l.take k) (fun x hx=>HAH.out x (List.mem_of_mem_take hx)) s HV.out (fun _=>True) (fun _ _ _ _=>trivial)).1);have HTK:=lh (fun (k:Nat) (x:Int) (h:l[k]? = some x)=>show l.take (k+1)=l.take k++[x] by obtain⟨hk,he⟩:=ge_.1 h;rw[List.take_succ_eq_append_getElem hk,he]);have HEN:=lh (List.take_length (l:=l));have HRR:=lh (fun (k:Nat)=>Sg.L5 (Sg.AI g f) n l k s);go_wp2_with fail
     go_loopw [5] (fun i wr=>∃ k:Nat,k<=l.length/\i= .int .i64 k/\Hid (LG w0 L gv cv gr cr gq cq Bl (J_ bn on L cg L gv cv gr cr gq cq) (Sg.Cy (Sg.AI g f) n (l.take k) s) F w2 wr)) (fun i _=>l.length - (intOf i).toNat)
     case atStart=>exact⟨0,Nat.zero_le _,rfl,lh (by rw[List.take_zero];exact S2.out.start)⟩
     case round =>
      obtain⟨k,hk,rfl,hT⟩:=hrel;by_cases hlt:k<l.length
      ·obtain⟨b,o,x,hA3,hx,hcx⟩:=(O3.out.mod hT.out.m OF.out).rd.at1 hlt;subst hA3;have hxr:=HAH.out x (List.mem_of_getElem? hx);have HT:=lh (HTK.out k x hx);have hCL:=HLP.out k;have HVT:=lh hCL;obtain⟨m,rfl⟩:=Int.eq_ofNat_of_zero_le hxr.1;have hmn:m<n:=by omega
       have HST:=lh (Sg.L4 (Sg.AI g f) n (l.take k) (m:Int) s);have HRK:=lh (HRR.out k);have bcx:=AA hcx;generalize htt:Sg.Cy (Sg.AI g f) n (l.take k) s=t at *;obtain⟨F',hS',hm',hF'⟩:=hT.out;obtain⟨p3,bp3⟩:=hS'.preC (j:=3) rfl;obtain⟨cq1,fq1,bq1⟩:=hS'.col hnL;have HS':=lh (And.intro hS' (And.intro hm' hF'));clear hx hxr hCL htt hS' hm' hF';by_cases h2:Sg.AL t n=1
       ·have y2:(Sg.AL t n == 1)=true:=by simp[h2]
        have H2:=lh h2;clear h2;go_wp2_with fail
        refine(HI.out (m:Int) t F' wr (by omega) (by omega) HVT.out HS'.out.1).mono ?_;rintro e w4 ⟨rfl,hG4⟩;have G4:=lh hG4;clear hG4;go_wp2;go_roundw
        case rel=>exact⟨k+1,by omega,by go_num,lh (by
         rw[HT.out,HST.out,if_pos H2.out];exact LG.tr1 HS'.out.2.1 HS'.out.2.2 G4.out)⟩
        case measure=>simp[intOf];omega
       ·have y2:(Sg.AL t n == 1)=false:=by simp[h2]
        have H2:=lh h2;clear h2;go_wp2_with fail
        go_meet
        exact lh (by rw[HRK.out H2.out];exact hT.out)
      ·obtain rfl:k=l.length:=by omega
       go_wp2_with fail
       go_meet
       exact lh (by have:=hT.out;rw[HEN.out] at this;exact this)
    case rest =>
     have T2:=lh (hcut.out.pr E3.out);clear S2 OF O3;generalize Sg.Cy (Sg.AI g f) n l s=t at *;obtain⟨F',hS',hm',hF'⟩:=T2.out;obtain⟨p3,bp3⟩:=hS'.preC (j:=3) rfl;obtain⟨cq1,fq1,bq1⟩:=hS'.col hnL;have HS':=lh (And.intro hS' (And.intro hm' hF'));clear hS' hm' hF' hcut;by_cases h2:Sg.AL t n=1
     ·have y2:(Sg.AL t n == 1)=true:=by simp[h2]
      have H2:=lh h2;clear h2;go_wp2_with fail
      go_meet
      exact lh (by rw[HCK.out,if_pos H2.out];exact LG.tr1 HS'.out.2.1 HS'.out.2.2 (HS'.out.1.setCol n 0))
     ·have y2:(Sg.AL t n == 1)=false:=by simp[h2]
      have H2:=lh h2;clear h2;go_wp2_with fail
      go_meet
      exact lh (by rw[HCK.out,if_neg H2.out];exact T2.out)
   ·have y1:(Sg.AL s n == 1)=false:=by simp[h1]
    have H1:=lh h1;clear h1;go_wp2_with fail
    go_meet
    exact lh (by unfold Sg.Cr;rw[if_neg H1.out];exact S1.out.start)
  case rest =>
   obtain⟨hCt,hCc⟩:=Sg.GO HND.out HC.out s HV.out;have HFIN:=lh (show Sg.AI g (f+1) (n:Int) s=if Sg.AL (Sg.Cr (Sg.AI g f) n s) n=2 then Sg.Eo (Sg.GM g (Sg.AI g f) n (Sg.Cr (Sg.AI g f) n s)).2.2 n (Sg.GM g (Sg.AI g f) n (Sg.Cr (Sg.AI g f) n s)).1 (Sg.GM g (Sg.AI g f) n (Sg.Cr (Sg.AI g f) n s)).2.1 else Sg.Cr (Sg.AI g f) n s by simp only[Sg.AI,Int.toNat_natCast]);have T1:=lh hcut.out;clear hcut p2 bp2 cq0 fq0 bq0;generalize Sg.Cr (Sg.AI g f) n s=t at *;have HCT:=lh hCt;obtain⟨F',hS',hm',hF'⟩:=T1.out;obtain⟨p2,bp2⟩:=hS'.preC (j:=3) rfl;obtain⟨p0,bp0⟩:=hS'.preC (j:=0) rfl;obtain⟨cq1,fq1,bq1⟩:=hS'.col hnL;have HS':=lh (And.intro hS' (And.intro hm' hF'));clear hCt hS' hm' hF';rcases hCc with h2 | h2
   ·have y2:(Sg.AL t n == 2)=false:=by simp[h2]
    have H2:=lh h2;clear h2;go_wp2;go_end0;exact⟨rfl,T1.out.cong (by rw[HFIN.out,if_neg (by rw[H2.out];decide)])⟩
   ·have y2:(Sg.AL t n == 2)=true:=by simp[h2]
    have H2:=lh h2;have HVT:=lh HCT.out.ok;have hk0:nd.kind≠0:=fun e=>by have:=(((Sg.BT.1 HVT.out).2 n nd HND.out).cell e).1;unfold Sg.AL at h2;omega
    have hFOD:=Sg.PB HG.out HND.out hk0;obtain⟨nd',b,o,Ap,cp,hn',hAe,hkc,hsl,hf,hfl⟩:=HRG.out.at_ hng;rw[HND.out] at hn';injection hn' with hn';subst hn';obtain⟨rfl,rfl⟩:b=bn/\o=on:=by simp only[Option.some.injEq,Addr.mk.injEq,and_true] at hAe;exact⟨hAe.1.symm,hAe.2.symm⟩
    have hsl1:=HS'.out.1.old.cellE hsl;have bsl1:=AA hsl1;have hfl12:=hFOD.len;have hfl1:=hFOD.one;have hfin:g.length<=10:=hgl10;have HR:=Yg w0 L gv cv gr cr gq cq Bl cg b o n Ap cp L nd.f (Sg.AI g f) (Sg.AW g (fun _=>True) s) hFOD hnL hnL (by omega) hsl hf HI.out HIC.out (fun t k h=>Sg.UI h.ok k) nd.f.length (nd.f.length - 1) t F' wc (by omega) (by omega) (by omega) (HCT.out.mono (fun _ _=>trivial)) HS'.out.1;have hrc:=Sg.T3 g (Sg.AI g f) n t;rw[Sg.Bk HND.out] at hrc;have hcast:((nd.f.length:Int) - 1)=((nd.f.length - 1:Nat):Int):=by omega
    rw[hcast] at hrc;have HRC:=Sg.IM HG.out HND.out hk0 HC.out t HVT.out;have HFI:=HFIN.out;rw[if_pos h2] at HFI;rw[hrc] at HFI HRC;have hll:=Sg.GE nd.f (Sg.AI g f) nd.f.length ((nd.f.length - 1:Nat):Int) t;have hpow:2 ^ nd.f.length<=2 ^ 12:=Nat.pow_le_pow_right (by omega) hfl12;have hidx:IntKind.i64.wrap ((nd.f.length:Int) - 1)=((nd.f.length - 1:Nat):Int):=by rw[IntWalk.i64_in _ (by omega)];exact hcast
    generalize Sg.Cl nd.f (Sg.AI g f) nd.f.length ((nd.f.length - 1:Nat):Int) t=R at *;obtain⟨X,l,u⟩:=R;dsimp only at HR HRC HFI hll;have HFI:=lh HFI;have HR:=lh HR;have hmay:=Sg.Jz HG.out HND.out hk0 u.st.vals;rw[<- HRC.2.2.1] at hmay;have HLR:=lh (show ∀ x ∈ Sg.AU l,0<=x/\x<(n:Int) from fun x hx=>Sg.J0 HG.out HND.out hk0 (hmay.1 x hx));have hll2:(Sg.AU l).length<=10:=GJ 10 (Sg.AU l) hmay.2 (fun x hx=>by have:=HLR.out x hx;omega);have HUO:=lh HRC.1.ok;have hl4096:l.length<=4096:=by omega
    clear hFOD hrc HRC hmay hkc hf h2 hpow hll hcast hsl;go_wp2_with fail
    refine HR.out.mono ?_;rintro e w5 ⟨A',c',F2,rfl,ho5,hS5,hm5,hF5,hof,hX,hCI⟩;dsimp only at ho5 hS5 hCI hX;have O5:=lh ho5;have S5:=lh hS5;have M5:=lh (HS'.out.2.1.tr hm5 HS'.out.2.2);have hsz5:=hm5.size;have hszc:=HS'.out.2.1.size;have F5:=lh (show ∀ x,F2 x->F x\/W.heap.size<=x from fun x hx=>(hF5 x hx).elim (HS'.out.2.2 x) (fun e=>.inr (by omega)));have OF5:=lh hof;have hran:=hCI.ran_len;obtain⟨p1,p2',p3,p4,p5,p6⟩:=hS5.ne_vr;obtain⟨Ab,cb,hBx,hOb,hnb,hFbb⟩:=hS5.box;have x4:=hBx.cell (j:=4) rfl;have bx4:=hBx.lt;have BX5:=lh hBx;have OB5:=lh hOb;have hB0:=hS5.old.size;have hrun:u.ran.length<=1000000:=by omega
    clear ho5 hS5 hm5 hF5 hof hCI HR hsl1 bsl1 p0 bp0 p2 bp2 cq1 fq1 bq1 hBx hOb hX;go_upto_region 11 with (at_builtin;refine AB rfl rfl Bc rfl OB5.out rfl rfl (Bn _ _) (by omega) (by omega) hB0 ?_;intro A2 c2 w9 hown2 hg2 hat2;have U9:=lh (And.intro hown2 (And.intro hg2 hat2));have hx9:=(hg2.block Bl bx4 (fun e=>hnb e.symm));have b9:=BX5.out.keep hx9;have x9:=b9.cell (j:=4) rfl;have f9:=b9.free 4;have bl9:=b9.lt;clear hown2 hg2 hat2 hx9 b9)
    have hG6:LG w0 L gv cv gr cr gq cq Bl (J_ b o L cg L gv cv gr cr gq cq) ⟨u.st,u.ran++[(n:Int)]⟩ F2 w5 (World.setCell w9 ⟨Bl,4,none⟩ (.slice A2 (u.ran.length+1) c2)):=S5.out.addR n BX5.out U9.out.1 U9.out.2.1 U9.out.2.2;have hA5:∀ b,AE Ab=some b->F2 b:=hFbb;have m6:AF F2 w5 (World.setCell w9 ⟨Bl,4,none⟩ (.slice A2 (u.ran.length+1) c2)):=hG6.m;have O7:=lh (O5.out.mod m6 OF5.out);have G6:=lh (LG.tr1 M5.out F5.out hG6);clear hG6 m6 hA5 x4 bx4 x9 f9 bl9 U9 hnb hFbb BX5 OB5 O5 OF5 M5 F5 S5;generalize World.setCell w9 ⟨Bl,4,none⟩ (.slice A2 (u.ran.length+1) c2)=w6 at *;obtain⟨F6,hS6,hm6,hF6⟩:=G6.out;obtain⟨k2,bk2⟩:=hS6.preC (j:=2) rfl;obtain⟨Al,cl,cr6,_,fr6,br6⟩:=hS6.rds hnL;have HS6:=lh (And.intro hS6 (And.intro hm6 hF6));clear hS6 hm6 hF6 w9;refine wp_region_held_drew (S:=(fun W=>W.cell? ⟨Bl,2,none⟩=some (.slice (some ⟨gr,0,none⟩) L cr))) (by kernel_rfl) ?_ (fun hHeld=>?_)
    ·exact xd.cellE k2
    refine ty 0 ?_;refine ty 1 ?_;refine ty 2 ?_;refine ty 3 ?_;refine ty 4 ?_;refine ty 5 ?_;refine ty 6 ?_;refine DL 7 rfl fun K hK=>?_;go_simp;refine(Ju A' l.length c' l _ (O7.out.rd.ext xd) (by omega)).mono ?_;rintro e w7 ⟨A7,c7,rfl,ho7,he7⟩;have E7:=lh ((Aa.rfl' w6).dr.tr he7);have P7:=lh (ho7.mono (B':=w6.heap.size) (by simp));have k7:=E7.out.cellE k2;have cr7:=E7.out.cellE cr6;have fr7:w7.frozen? ⟨gr,n,none⟩=false:=(E7.out.frozen (p:=⟨gr,n,none⟩) br6).trans fr6;have br7:=AA cr7;have bk7:=AA k7;clear ho7 he7 cr6 fr6 br6;try go_wp2_with fail
    clear hHeld;refine hK.out _ _ (k7) fun hHeld=>?_;clear hK K;try simp only[Act.put,pu]
    refine ty 8 ?_;refine DL 9 rfl fun K hK=>?_;go_simp;clear hHeld;refine hK.out _ _ (by exact(co).trans k7) fun hHeld=>?_;clear hK K;try simp only[Act.put]
    refine dn ?_;obtain⟨F7,hS7,hm7,hF7⟩:=(HS6.out.1.ext E7.out).put hnL (Sg.AU l) (P7.out.mono HS6.out.1.old.size) (fun x hx hf=>by have:=(P7.out.lt hx).1;have:=(HS6.out.1.lt hf).2;omega)
    have G7:=lh (show LG w0 L gv cv gr cr gq cq Bl (J_ b o L cg L gv cv gr cr gq cq) ⟨⟨u.st.vals,u.st.reads.set n (Sg.AU l),u.st.cols⟩,u.ran++[(n:Int)]⟩ F W _ from
     LG.tr1 HS6.out.2.1 HS6.out.2.2 ⟨F7,hS7,((AF.of E7.out).tr' (hm7.mono (F':=F6) (fun x _ e=>by rw[e];exact HS6.out.1.Fr))),fun x hx=>(hF7 x hx).elim (fun e=>.inl e) (fun e=>.inr (P7.out.lt e).1)⟩)
    clear hS7 hm7 hF7 k2 bk2 k7 bk7 cr7 fr7 br7 P7 E7 HS6 G6 O7 hHeld;generalize World.setCell w7 ⟨gr,n,none⟩ (.slice A7 (Sg.AU l).length c7)=w8 at *;obtain⟨F8,hS8,hm8,hF8⟩:=G7.out;obtain⟨k3,bk3⟩:=hS8.preC (j:=3) rfl;obtain⟨cq8,fq8,bq8⟩:=hS8.col hnL;have hG9:=LG.tr1 hm8 hF8 (hS8.setCol n 0);dsimp only at hG9;have G9:=lh hG9;clear hS8 hm8 hF8 hG9;go_upto_region 13 with fail
    clear k3 bk3 cq8 fq8 bq8;generalize World.setCell w8 ⟨gq,n,none⟩ (.int .i64 0)=w10 at *;obtain⟨F9,hS9,hm9,hF9⟩:=G9.out;obtain⟨k1,bk1⟩:=hS9.preC (j:=1) rfl;obtain⟨cv9,fv9,bv9⟩:=hS9.val hnL;have hvv:Sg.Ba ⟨⟨u.st.vals,u.st.reads.set n (Sg.AU l),u.st.cols.set n 0⟩,u.ran++[(n:Int)]⟩ n=Sg.Ba u n:=rfl;rw[hvv] at cv9;have HS9:=lh (And.intro hS9 (And.intro hm9 hF9));clear hS9 hm9 hF9 hvv;go_upto_if 127 with fail
    by_cases hxv:X=Sg.Ba u n
    ·have y3:(X != Sg.Ba u n)=false:=by simp[hxv]
     have HXV:=lh hxv;clear hxv;go_wp2;go_end0;exact⟨rfl,by rw[HFI.out];unfold Sg.Eo;rw[if_pos HXV.out];exact G9.out⟩
    ·have y3:(X != Sg.Ba u n)=true:=by simp[hxv]
     have HXV:=lh hxv;clear hxv;go_upto_region 15 with fail
     have G10:=lh (LG.tr1 HS9.out.2.1 HS9.out.2.2 (HS9.out.1.setVal n X));clear k1 bk1 cv9 fv9 bv9;generalize World.setCell w10 ⟨gv,n,none⟩ (.int .i64 X)=w11 at *;obtain⟨F11,hS11,hm11,hF11⟩:=G10.out;dsimp only at hS11;obtain⟨k0,bk0⟩:=hS11.preC (j:=0) rfl;obtain⟨k1,bk1⟩:=hS11.preC (j:=1) rfl;obtain⟨k2,bk2⟩:=hS11.preC (j:=2) rfl;obtain⟨k3,bk3⟩:=hS11.preC (j:=3) rfl;have HS11:=lh (And.intro hS11 (And.intro hm11 hF11));have D11:=lh (hS11.ext ((Aa.rfl' w11).dr));clear hS11 hm11 hF11;go_still_tail 9,(by kernel_rfl)
     change wpList _ _ _ _ _ (World.drew w11)
     have hrl:(u.st.reads.set n (Sg.AU l)).length=L:=D11.out.rl;have hql:(u.st.cols.set n 0).length=L:=D11.out.ql
     have HT:=Tk w0.heap.size n gq (some ⟨b,o,none⟩) (some ⟨gv,0,none⟩) (some ⟨gr,0,none⟩) cg L cv cr cq (u.st.cols.set n 0) (u.st.reads.set n (Sg.AU l)) (World.drew w11) (Sg.NN (Sg.C7 HUO.out) HLR.out) (by rw[hrl,hql]) (by omega) (by omega)
      (fun x hx=>by
       rcases List.mem_or_eq_of_mem_set hx with hx | rfl
       ·exact Sg.Mr HUO.out x hx
       ·omega)
      (D11.out.rdL (by omega) (fun x hx=>by
       rcases List.mem_or_eq_of_mem_set hx with hx | rfl
       ·exact Nat.le_trans (ES HUO.out x hx) (by omega)
       ·omega)) (by rw[hql];exact D11.out.q)
     rw[hrl,hql] at HT;have HT:=lh HT;clear hrl hql k0 bk0 k1 bk1 k2 bk2 k3 bk3;go_wp2_with fail
     refine HT.out.mono ?_;rintro e wa ⟨rfl,hq2,hm2⟩;have Q2:=lh hq2;have M2:=lh hm2;clear hq2 hm2;go_wp2;go_end0;exact⟨rfl,by rw[HFI.out];unfold Sg.Eo;rw[if_neg HXV.out];exact(LG.tr1 HS11.out.2.1 HS11.out.2.2 ((LS.start HS11.out.1).ext ((Aa.rfl' w11).dr))).tr (fun F' hS'=>hS'.turnQ _ M2.out Q2.out)⟩
open Go.RowKit
set_option maxRecDepth 100000 in
set_option maxHeartbeats 8000000 in
theorem Sx (A Av Ar Aq:Option Addr)(c cv cr cq:Nat)(g:Sg.Ae)(v q:List Int)(r:List (List Int))(n:Int)(w:World)(h:Eg w A g)(hv:Rd w 1 Av v.length (Ah v))(hr:Ex w Ar r)(hq:Rd w 1 Aq q.length (Ah q))(hvl:v.length<=1048576)(hql:q.length<=1048576) :
  Calls Tryz.prog 40 #[.agg #[.slice A g.length c],.agg #[.slice Av v.length cv,.slice Ar r.length cr,.slice Aq q.length cq],.int .i64 n] w (ZN w (Sg.AS g ⟨v,r,q⟩ n).1 (Sg.AS g ⟨v,r,q⟩ n).2.1 (Sg.AS g ⟨v,r,q⟩ n).2.2):=by
 have hgl:=h.1;have HV:=lh (fun w h hv hr hq=>Lx A Av Ar Aq c cv cr cq g v q r w h hv hr hq hvl hql);have HSM:=lh (Sg.Li g ⟨v,r,q⟩);have H:=lh h;have Hv:=lh hv;have Hr:=lh hr;have Hq:=lh hq;clear h hv hr hq;have HI:=lh (fun w=>Cx n 0 ((g.length:Int) - 1) w);obtain⟨W1,hW1⟩:∃ W1,W1=World.alloc (World.alloc (World.alloc w (.cells #[.slice A g.length c] 35)) (.cells #[.slice Av v.length cv,.slice Ar r.length cr,.slice Aq q.length cq] 44)) (.cells #[.slice none 0 0,.slice none 0 0,.slice none 0 0] 44):=⟨_,rfl⟩;have e1:Aa w W1:=by rw[hW1];exact(((Aa.rfl' w).al _).al _).al _
 have z1:W1.heap.size=w.heap.size+1+1+1:=by rw[hW1];simp
 have BG:=lh (show Bx W1 w.heap.size [.slice A g.length c] by rw[hW1];exact((Bx.new w _ _).al _).al _)
 have BS:=lh (show Bx W1 (w.heap.size+1) [.slice Av v.length cv,.slice Ar r.length cr,.slice Aq q.length cq] by
  have h1:=(Bx.new (World.alloc w (.cells #[.slice A g.length c] 35)) #[.slice Av v.length cv,.slice Ar r.length cr,.slice Aq q.length cq] 44).al (.cells #[.slice none 0 0,.slice none 0 0,.slice none 0 0] 44);simp only[World.size_alloc] at h1;rw[hW1];exact h1)
 have BR:=lh (show Bx W1 (w.heap.size+1+1) [.slice none 0 0,.slice none 0 0,.slice none 0 0] by
  have h1:=Bx.new (World.alloc (World.alloc w (.cells #[.slice A g.length c] 35)) (.cells #[.slice Av v.length cv,.slice Ar r.length cr,.slice Aq q.length cq] 44)) #[.slice none 0 0,.slice none 0 0,.slice none 0 0] 44;simp only[World.size_alloc] at h1;rw[hW1];exact h1)
 have E1:=lh e1;have Z1:=lh z1;clear e1 z1;go_enter Tryz.func40,Tryz.ntmps40;go_upto_region 1 with fail
 rw[<- hW1];clear hW1;obtain⟨N,hN⟩:∃ N,w.heap.size=N:=⟨_,rfl⟩;have HN:=lh hN;rw[hN] at BG BS BR Z1;simp only[hN];clear hN;have g0:=(BG.out.ext (Aa.rfl' W1)).cell (j:=0) rfl;have s0:=(BS.out.ext (Aa.rfl' W1)).cell (j:=0) rfl;have s1:=(BS.out.ext (Aa.rfl' W1)).cell (j:=1) rfl;have s2:=(BS.out.ext (Aa.rfl' W1)).cell (j:=2) rfl;have bg0:=AA g0;have bs0:=AA s0;go_wp2_with fail
 refine(HV.out _ (H.out.ext E1.out) (Hv.out.ext E1.out) (Ex.l (Hr.out.ext E1.out)) (Hq.out.ext E1.out)).mono ?_;rw[HSM.out];rintro e w2 ⟨rfl,he2⟩;have U2:=lh he2;clear he2 g0 s0 s1 s2 bg0 bs0;have g0:=(BG.out.ext U2.out).cell (j:=0) rfl;have s0:=(BS.out.ext U2.out).cell (j:=0) rfl;have s1:=(BS.out.ext U2.out).cell (j:=1) rfl;have s2:=(BS.out.ext U2.out).cell (j:=2) rfl;have bg0:=AA g0;have bs0:=AA s0;cases hE:Sg.AM g ⟨v,r,q⟩
 ·have HS:=lh (show Sg.AS g ⟨v,r,q⟩ n=(⟨[],[],[]⟩,0,[]) by unfold Sg.AS;rw[hE];rfl);clear hE;have BRf:=lh (BR.out.ext U2.out);have f0:=BRf.out.free 0;have f1:=BRf.out.free 1;have f2:=BRf.out.free 2;have x0:=BRf.out.cell (j:=0) rfl;have x1:=BRf.out.cell (j:=1) rfl;have x2:=BRf.out.cell (j:=2) rfl;have bl:=BRf.out.lt;have r0:=(BRf.out.set3 (.slice none 0 0) (.slice none 0 0) (.slice none 0 0)).cell (j:=0) rfl;have r1:=(BRf.out.set3 (.slice none 0 0) (.slice none 0 0) (.slice none 0 0)).cell (j:=1) rfl;have r2:=(BRf.out.set3 (.slice none 0 0) (.slice none 0 0) (.slice none 0 0)).cell (j:=2) rfl;clear g0 s0 s1 s2 bg0 bs0;go_wp2;refine bodyPost_ret (v := .tuple #[.agg #[.slice none 0 0,.slice none 0 0,.slice none 0 0],.int .i64 0,.slice none 0 0]) (by simp[results,Tryz.results40,go_sem,r0,r1,r2];try rfl) rfl ?_;rw[HS.out];exact⟨none,0,none,0,none,0,[],none,0,rfl,Dr.nil _ _,by simpa[Ah] using Au.nil _ _ 3 1,by simp[AE],Aa.md (E1.out.tr U2.out) (AF.set3 w2 (N+1+1) _ _ _) (fun b e=>by have:=HN.out;omega)⟩
 have HE:=lh hE;go_wp2_with fail
 refine(HI.out _).mono ?_;rintro e w' ⟨rfl,rfl⟩;cases hR:Sg.Cb n 0 ((g.length:Int) - 1)
 ·have HS:=lh (show Sg.AS g ⟨v,r,q⟩ n=(⟨[],[],[]⟩,0,[]) by unfold Sg.AS;rw[hE,hR];rfl);clear hE hR;have BRf:=lh (BR.out.ext U2.out);have f0:=BRf.out.free 0;have f1:=BRf.out.free 1;have f2:=BRf.out.free 2;have x0:=BRf.out.cell (j:=0) rfl;have x1:=BRf.out.cell (j:=1) rfl;have x2:=BRf.out.cell (j:=2) rfl;have bl:=BRf.out.lt;have r0:=(BRf.out.set3 (.slice none 0 0) (.slice none 0 0) (.slice none 0 0)).cell (j:=0) rfl;have r1:=(BRf.out.set3 (.slice none 0 0) (.slice none 0 0) (.slice none 0 0)).cell (j:=1) rfl;have r2:=(BRf.out.set3 (.slice none 0 0) (.slice none 0 0) (.slice none 0 0)).cell (j:=2) rfl;clear g0 s0 s1 s2 bg0 bs0;go_wp2;refine bodyPost_ret (v := .tuple #[.agg #[.slice none 0 0,.slice none 0 0,.slice none 0 0],.int .i64 0,.slice none 0 0]) (by simp[results,Tryz.results40,go_sem,r0,r1,r2];try rfl) rfl ?_;rw[HS.out];exact⟨none,0,none,0,none,0,[],none,0,rfl,Dr.nil _ _,by simpa[Ah] using Au.nil _ _ 3 1,by simp[AE],Aa.md (E1.out.tr U2.out) (AF.set3 w2 (N+1+1) _ _ _) (fun b e=>by have:=HN.out;omega)⟩
 have HS:=lh (show Sg.AS g ⟨v,r,q⟩ n=((Sg.Eb g ⟨v,r,q⟩ n).st,Sg.Ba (Sg.Eb g ⟨v,r,q⟩ n) n.toNat,(Sg.Eb g ⟨v,r,q⟩ n).ran) by unfold Sg.AS;rw[hE,hR];rfl)
 have hrn:0<=n/\n<(g.length:Int):=by
  unfold Sg.Cb at hR;simp only[Bool.and_eq_true,decide_eq_true_eq] at hR;omega
 obtain⟨k,rfl⟩:=Int.eq_ofNat_of_zero_le hrn.1;have hkg:k<g.length:=by omega
 obtain⟨nd,bn,on,Ap,cp,_,hAe,_⟩:=H.out.at_ hkg;subst hAe;clear hE hR hrn;obtain⟨hG,hvg,hrg,hqg,_⟩:=Sg.AN HE.out;have HG:=lh hG;have HLN:=lh (And.intro hvg (And.intro hrg hqg));have hg10:=Sg.CW hG;clear hG hvg hrg hqg;go_upto_region 3 with fail
 go_cut [9] (fun s9 wx=>∃ (Bl gv gr gq c1 c2 c3:Nat) (F:Nat->Prop),s9= .pointer (some ⟨Bl,0,none⟩)/\Hid (Aa w2 wx)/\Hid (LS w2 g.length gv c1 gr c2 gq c3 Bl (J_ bn on g.length c g.length gv c1 gr c2 gq c3) ⟨⟨v,r,q⟩,[]⟩ F wx))
 case first =>
  refine wp_region_held_drew (S:=(fun W=>W.cell? ⟨N,0,none⟩=some (.slice (some ⟨bn,on,none⟩) g.length c)/\W.cell? ⟨N+1,0,none⟩=some (.slice Av v.length cv)/\W.cell? ⟨N+1,1,none⟩=some (.slice Ar r.length cr)/\W.cell? ⟨N+1,2,none⟩=some (.slice Aq q.length cq))) (by kernel_rfl) ?_ (fun hHeld=>?_)
  ·exact⟨xd.cellE g0,xd.cellE s0,xd.cellE s1,xd.cellE s2⟩
  refine ty 0 ?_;refine ty 1 ?_;refine wpAnyH_ready (rs:=[2,3]) (by kernel_rfl) (by simp) ?_;refine AllReadyH.cons rfl (fun K hK=>?_) ?_
  ·go_simp;refine(Tm Av Ar Aq cv cr cq v q r _ (Hv.out.ext ((E1.out.tr U2.out).tr ((Aa.rfl' w2).dr))) (Ex.l (Hr.out.ext ((E1.out.tr U2.out).tr ((Aa.rfl' w2).dr)))) (Hq.out.ext ((E1.out.tr U2.out).tr ((Aa.rfl' w2).dr))) hvl hql).mono ?_;rintro e w4 ⟨A1,c1,A2,c2,A3,c3,hs,rfl,hoz,he4⟩;obtain⟨gv,gr,gq,rfl,rfl,rfl⟩:=hoz.some3 (by have:=HLN.out.1;(try dsimp only at this);omega) (by have:=HLN.out.2.1;(try dsimp only at this);omega) (by have:=HLN.out.2.2;(try dsimp only at this);omega);have h4:=((Aa.rfl' w2).dr).tr he4;have hs4:=he4.size;try simp only[World.size_alloc] at hs4
   try go_wp2_with fail
   clear hHeld;refine hK.out _ _ (by exact(by first | exact⟨xd.cellE g0,xd.cellE s0,xd.cellE s1,xd.cellE s2⟩ | exact⟨(xd.al _).cellE g0,(xd.al _).cellE s0,(xd.al _).cellE s1,(xd.al _).cellE s2⟩ | exact⟨h4.cellE g0,h4.cellE s0,h4.cellE s1,h4.cellE s2⟩ | exact⟨(h4.al _).cellE g0,(h4.al _).cellE s0,(h4.al _).cellE s1,(h4.al _).cellE s2⟩ | exact⟨((h4.al _).al _).cellE g0,((h4.al _).al _).cellE s0,((h4.al _).al _).cellE s1,((h4.al _).al _).cellE s2⟩)) fun hHeld=>?_;clear hK K;try simp only[Act.put,pu]
   refine DL 3 rfl fun K hK=>?_;go_simp;try simp only[pg]
   clear hHeld;refine hK.out _ _ (by exact(by first | exact⟨xd.cellE g0,xd.cellE s0,xd.cellE s1,xd.cellE s2⟩ | exact⟨(xd.al _).cellE g0,(xd.al _).cellE s0,(xd.al _).cellE s1,(xd.al _).cellE s2⟩ | exact⟨h4.cellE g0,h4.cellE s0,h4.cellE s1,h4.cellE s2⟩ | exact⟨(h4.al _).cellE g0,(h4.al _).cellE s0,(h4.al _).cellE s1,(h4.al _).cellE s2⟩ | exact⟨((h4.al _).al _).cellE g0,((h4.al _).al _).cellE s0,((h4.al _).al _).cellE s1,((h4.al _).al _).cellE s2⟩)) fun hHeld=>?_;clear hK K;try simp only[Act.put,pu]
   refine ty 4 ?_;refine DL 5 rfl fun K hK=>?_;go_simp;clear hHeld;refine hK.out _ _ (by exact(by first | exact⟨xd.cellE g0,xd.cellE s0,xd.cellE s1,xd.cellE s2⟩ | exact⟨(xd.al _).cellE g0,(xd.al _).cellE s0,(xd.al _).cellE s1,(xd.al _).cellE s2⟩ | exact⟨h4.cellE g0,h4.cellE s0,h4.cellE s1,h4.cellE s2⟩ | exact⟨(h4.al _).cellE g0,(h4.al _).cellE s0,(h4.al _).cellE s1,(h4.al _).cellE s2⟩ | exact⟨((h4.al _).al _).cellE g0,((h4.al _).al _).cellE s0,((h4.al _).al _).cellE s1,((h4.al _).al _).cellE s2⟩)) fun hHeld=>?_;clear hK K;try simp only[Act.put,pu]
   refine ty 6 ?_;refine dn ?_;have hw3:w2.heap.size<=w4.heap.size:=h4.size;go_wp2_with fail
   go_meet
   have hbx:=Bx.new (World.alloc w4 (.cells #[] 3)) #[.slice (some ⟨bn,on,none⟩) g.length c,.slice (some ⟨gv,0,none⟩) v.length c1,.slice (some ⟨gr,0,none⟩) r.length c2,.slice (some ⟨gq,0,none⟩) q.length c3,.slice (some ⟨w4.heap.size,0,none⟩) 0 0] 122;simp only[World.size_alloc] at hbx;have hl:([.slice (some ⟨bn,on,none⟩) g.length c,.slice (some ⟨gv,0,none⟩) v.length c1,.slice (some ⟨gr,0,none⟩) r.length c2,.slice (some ⟨gq,0,none⟩) q.length c3,.slice (some ⟨w4.heap.size,0,none⟩) 0 0]:List Value)=J_ bn on g.length c g.length gv c1 gr c2 gq c3++[.slice (some ⟨w4.heap.size,0,none⟩) 0 0]:=by rw[show v.length=g.length from HLN.out.1,show r.length=g.length from HLN.out.2.1,show q.length=g.length from HLN.out.2.2];rfl
   have hbx2:Bx (World.alloc (World.alloc w4 (.cells #[] 3)) (.cells #[.slice (some ⟨bn,on,none⟩) g.length c,.slice (some ⟨gv,0,none⟩) v.length c1,.slice (some ⟨gr,0,none⟩) r.length c2,.slice (some ⟨gq,0,none⟩) q.length c3,.slice (some ⟨w4.heap.size,0,none⟩) 0 0] 122)) (w4.heap.size+1) (J_ bn on g.length c g.length gv c1 gr c2 gq c3++[.slice (some ⟨w4.heap.size,0,none⟩) 0 0]):=by rw[<- hl];exact hbx
   obtain⟨F,hF,_⟩:=LS.of (w0:=w2) (L:=g.length) (pre:=J_ bn on g.length c g.length gv c1 gr c2 gq c3) (A:=some ⟨w4.heap.size,0,none⟩) (c:=0) (h4.tr (((Aa.rfl' w4).al _).al _)) ((hoz.ext (((Aa.rfl' w4).al _).al _)).mono (by first | exact Nat.le_refl _ | simp)) HLN.out.1 HLN.out.2.1 HLN.out.2.2 hbx2 (((Au.new w4 (B:=w2.heap.size) 3 1 #[] 0 (by omega) (by unfold maxLen;omega) rfl)).ext (xr.al _)) (by omega) (fun b hb=>⟨fun e=>by have:=(hoz.lt hb).2;omega,fun e=>by have h1:=hoz.lt hb;(try simp only[World.size_alloc] at h1);have h0:(World.drew w2).heap.size=w2.heap.size:=rfl;have e2:=Option.some.inj e;dsimp only at e2;omega⟩) (fun e=>by have h0:(World.drew w2).heap.size=w2.heap.size:=rfl;have e2:=Option.some.inj e;dsimp only at e2;omega);exact⟨_,gv,gr,gq,c1,c2,c3,F,rfl,lh (h4.tr (((Aa.rfl' w4).al _).al _)),lh hF⟩
  refine AllReadyH.cons rfl (fun K hK=>?_) ?_
  ·go_simp;try simp only[pg]
   clear hHeld;refine hK.out _ _ (by exact(by first | exact⟨xd.cellE g0,xd.cellE s0,xd.cellE s1,xd.cellE s2⟩ | exact⟨(xd.al _).cellE g0,(xd.al _).cellE s0,(xd.al _).cellE s1,(xd.al _).cellE s2⟩ | exact⟨h4.cellE g0,h4.cellE s0,h4.cellE s1,h4.cellE s2⟩ | exact⟨(h4.al _).cellE g0,(h4.al _).cellE s0,(h4.al _).cellE s1,(h4.al _).cellE s2⟩ | exact⟨((h4.al _).al _).cellE g0,((h4.al _).al _).cellE s0,((h4.al _).al _).cellE s1,((h4.al _).al _).cellE s2⟩)) fun hHeld=>?_;clear hK K;try simp only[Act.put,pu]
   refine DL 2 rfl fun K hK=>?_;go_simp;refine(Tm Av Ar Aq cv cr cq v q r _ (Hv.out.ext ((E1.out.tr U2.out).tr (((Aa.rfl' w2).dr).al (.cells #[] 3)))) (Ex.l (Hr.out.ext ((E1.out.tr U2.out).tr (((Aa.rfl' w2).dr).al (.cells #[] 3))))) (Hq.out.ext ((E1.out.tr U2.out).tr (((Aa.rfl' w2).dr).al (.cells #[] 3)))) hvl hql).mono ?_;rintro e w4 ⟨A1,c1,A2,c2,A3,c3,hs,rfl,hoz,he4⟩;obtain⟨gv,gr,gq,rfl,rfl,rfl⟩:=hoz.some3 (by have:=HLN.out.1;(try dsimp only at this);omega) (by have:=HLN.out.2.1;(try dsimp only at this);omega) (by have:=HLN.out.2.2;(try dsimp only at this);omega);have h4:=(((Aa.rfl' w2).dr).al (.cells #[] 3)).tr he4;have hs4:=he4.size;try simp only[World.size_alloc] at hs4
   try go_wp2_with fail
   clear hHeld;refine hK.out _ _ (by exact(by first | exact⟨xd.cellE g0,xd.cellE s0,xd.cellE s1,xd.cellE s2⟩ | exact⟨(xd.al _).cellE g0,(xd.al _).cellE s0,(xd.al _).cellE s1,(xd.al _).cellE s2⟩ | exact⟨h4.cellE g0,h4.cellE s0,h4.cellE s1,h4.cellE s2⟩ | exact⟨(h4.al _).cellE g0,(h4.al _).cellE s0,(h4.al _).cellE s1,(h4.al _).cellE s2⟩ | exact⟨((h4.al _).al _).cellE g0,((h4.al _).al _).cellE s0,((h4.al _).al _).cellE s1,((h4.al _).al _).cellE s2⟩)) fun hHeld=>?_;clear hK K;try simp only[Act.put,pu]
   refine ty 4 ?_;refine DL 5 rfl fun K hK=>?_;go_simp;clear hHeld;refine hK.out _ _ (by exact(by first | exact⟨xd.cellE g0,xd.cellE s0,xd.cellE s1,xd.cellE s2⟩ | exact⟨(xd.al _).cellE g0,(xd.al _).cellE s0,(xd.al _).cellE s1,(xd.al _).cellE s2⟩ | exact⟨h4.cellE g0,h4.cellE s0,h4.cellE s1,h4.cellE s2⟩ | exact⟨(h4.al _).cellE g0,(h4.al _).cellE s0,(h4.al _).cellE s1,(h4.al _).cellE s2⟩ | exact⟨((h4.al _).al _).cellE g0,((h4.al _).al _).cellE s0,((h4.al _).al _).cellE s1,((h4.al _).al _).cellE s2⟩)) fun hHeld=>?_;clear hK K;try simp only[Act.put,pu]
   refine ty 6 ?_;refine dn ?_;have hw3:w2.heap.size<=w4.heap.size:=h4.size;go_wp2_with fail
   go_meet
   have hbx:=Bx.new w4 #[.slice (some ⟨bn,on,none⟩) g.length c,.slice (some ⟨gv,0,none⟩) v.length c1,.slice (some ⟨gr,0,none⟩) r.length c2,.slice (some ⟨gq,0,none⟩) q.length c3,.slice (some ⟨w2.heap.size,0,none⟩) 0 0] 122;have hl:([.slice (some ⟨bn,on,none⟩) g.length c,.slice (some ⟨gv,0,none⟩) v.length c1,.slice (some ⟨gr,0,none⟩) r.length c2,.slice (some ⟨gq,0,none⟩) q.length c3,.slice (some ⟨w2.heap.size,0,none⟩) 0 0]:List Value)=J_ bn on g.length c g.length gv c1 gr c2 gq c3++[.slice (some ⟨w2.heap.size,0,none⟩) 0 0]:=by rw[show v.length=g.length from HLN.out.1,show r.length=g.length from HLN.out.2.1,show q.length=g.length from HLN.out.2.2];rfl
   have hbx2:Bx (World.alloc w4 (.cells #[.slice (some ⟨bn,on,none⟩) g.length c,.slice (some ⟨gv,0,none⟩) v.length c1,.slice (some ⟨gr,0,none⟩) r.length c2,.slice (some ⟨gq,0,none⟩) q.length c3,.slice (some ⟨w2.heap.size,0,none⟩) 0 0] 122)) (w4.heap.size) (J_ bn on g.length c g.length gv c1 gr c2 gq c3++[.slice (some ⟨w2.heap.size,0,none⟩) 0 0]):=by rw[<- hl];exact hbx
   obtain⟨F,hF,_⟩:=LS.of (w0:=w2) (L:=g.length) (pre:=J_ bn on g.length c g.length gv c1 gr c2 gq c3) (A:=some ⟨w2.heap.size,0,none⟩) (c:=0) (h4.tr ((Aa.rfl' w4).al _)) ((hoz.ext ((Aa.rfl' w4).al _)).mono (by first | exact Nat.le_refl _ | simp)) HLN.out.1 HLN.out.2.1 HLN.out.2.2 hbx2 ((Au.new (World.drew w2) (B:=w2.heap.size) 3 1 #[] 0 (Nat.le_refl _) (by unfold maxLen;omega) rfl).ext (he4.al _)) (by omega) (fun b hb=>⟨fun e=>by have:=(hoz.lt hb).2;omega,fun e=>by have h1:=hoz.lt hb;(try simp only[World.size_alloc] at h1);have h0:(World.drew w2).heap.size=w2.heap.size:=rfl;have e2:=Option.some.inj e;dsimp only at e2;omega⟩) (fun e=>by have h0:(World.drew w2).heap.size=w2.heap.size:=rfl;have e2:=Option.some.inj e;dsimp only at e2;omega);exact⟨_,gv,gr,gq,c1,c2,c3,F,rfl,lh (h4.tr ((Aa.rfl' w4).al _)),lh hF⟩
  exact AllReadyH.nil
 case rest =>
  obtain⟨Bl,gv,gr,gq,c1,c2,c3,F5,rfl,hE5,hL5⟩:=hcut;go_wp2_with fail
  refine(Vx w2 g.length gv c1 gr c2 gq c3 Bl c bn on g (H.out.ext (E1.out.tr U2.out)) HG.out rfl 10 k ⟨⟨v,r,q⟩,[]⟩ F5 wc (by omega) hkg HE.out (by simp) hL5.out).mono ?_;rintro e w6 ⟨rfl,hG6⟩;have HRS:=lh (show Sg.AI g 10 (k:Int) ⟨⟨v,r,q⟩,[]⟩=Sg.Eb g ⟨v,r,q⟩ (k:Int) from rfl);rw[HRS.out] at hG6;generalize Sg.Eb g ⟨v,r,q⟩ (k:Int)=u at *;obtain⟨F6,hS6,hm6,hF6⟩:=hG6;obtain⟨hs6,A6,c6,hZ6,hB6,ho6,hd6,lv6,lr6,lq6⟩:=hS6.back;have p0:=hB6.cell (j:=1) rfl;have p1:=hB6.cell (j:=2) rfl;have p2:=hB6.cell (j:=3) rfl;have y0:=hB6.cell (j:=4) rfl;have by0:=AA y0;have hz1:=Z1.out;have hw2:=U2.out.size;have hFB:=(hS6.lt hS6.Fb).1;have hFv:=(hS6.lt hS6.Fv).1;have nN:¬ F5 (N+1+1):=fun hf=>by have:=(hL5.out.lt hf).1;omega
  have M6:=lh hm6;have Z6:=lh hZ6;have O6:=lh ho6;have D6:=lh hd6;have LV:=lh (And.intro lv6 (And.intro lr6 lq6));obtain⟨cv6,fv6,bv6⟩:=hS6.val hkg;clear hS6 hm6 hF6 hB6 hZ6 ho6 hd6 lv6 lr6 lq6 g0 s0 s1 s2 bg0 bs0;have BRf:=lh ((BR.out.ext (U2.out.tr hE5.out)).mod M6.out nN);have f0:=BRf.out.free 0;have f1:=BRf.out.free 1;have f2:=BRf.out.free 2;have x0:=BRf.out.cell (j:=0) rfl;have x1:=BRf.out.cell (j:=1) rfl;have x2:=BRf.out.cell (j:=2) rfl;have bl:=BRf.out.lt;go_upto_region 5 with fail
  go_cut [7,8] (fun s7 s8 wx=>s7= .int .i64 (Sg.Ba u k)/\s8= .slice A6 u.ran.length c6/\Hid (Bx wx (N+1+1) [.slice (some ⟨gv,0,none⟩) g.length c1,.slice (some ⟨gr,0,none⟩) g.length c2,.slice (some ⟨gq,0,none⟩) g.length c3])/\Hid (AF (fun b=>b=N+1+1) w6 wx))
  case first =>
   refine wp_region_held_drew (S:=(fun W=>W.cell? ⟨Bl,1,none⟩=some (.slice (some ⟨gv,0,none⟩) g.length c1)/\W.cell? ⟨Bl,2,none⟩=some (.slice (some ⟨gr,0,none⟩) g.length c2)/\W.cell? ⟨Bl,3,none⟩=some (.slice (some ⟨gq,0,none⟩) g.length c3)/\W.cell? ⟨Bl,4,none⟩=some (.slice A6 u.ran.length c6)/\W.cell? ⟨gv,k,none⟩=some (.int .i64 (Sg.Ba u k)))) (by kernel_rfl) ?_ (fun hHeld=>?_)
   ·exact⟨xd.cellE p0,xd.cellE p1,xd.cellE p2,xd.cellE y0,xd.cellE cv6⟩
   refine ty 0 ?_;refine ty 1 ?_;refine ty 2 ?_;refine ty 3 ?_;refine ty 4 ?_;refine ty 5 ?_;refine ty 6 ?_;refine ty 7 ?_;refine ty 8 ?_;refine ty 9 ?_;refine ty 10 ?_;refine ty 11 ?_;refine ty 12 ?_;refine ty 13 ?_;refine ty 14 ?_;refine ty 15 ?_;refine DL 16 rfl fun K hK=>?_;go_simp;clear hHeld;refine hK.out _ _ (by exact(by first | exact⟨(AF.set3 _ _ _ _ _).cellE p0 (by omega),(AF.set3 _ _ _ _ _).cellE p1 (by omega),(AF.set3 _ _ _ _ _).cellE p2 (by omega),(AF.set3 _ _ _ _ _).cellE y0 (by omega),(AF.set3 _ _ _ _ _).cellE cv6 (by omega)⟩ | exact⟨xd.cellE ((AF.set3 _ _ _ _ _).cellE p0 (by omega)),xd.cellE ((AF.set3 _ _ _ _ _).cellE p1 (by omega)),xd.cellE ((AF.set3 _ _ _ _ _).cellE p2 (by omega)),xd.cellE ((AF.set3 _ _ _ _ _).cellE y0 (by omega)),xd.cellE ((AF.set3 _ _ _ _ _).cellE cv6 (by omega))⟩ | exact⟨(AF.set3 _ _ _ _ _).cellE (xd.cellE p0) (by omega),(AF.set3 _ _ _ _ _).cellE (xd.cellE p1) (by omega),(AF.set3 _ _ _ _ _).cellE (xd.cellE p2) (by omega),(AF.set3 _ _ _ _ _).cellE (xd.cellE y0) (by omega),(AF.set3 _ _ _ _ _).cellE (xd.cellE cv6) (by omega)⟩)) fun hHeld=>?_;clear hK K;try simp only[Act.put]
   refine ty 17 ?_;refine ty 18 ?_;refine dn ?_;go_wp2_with fail
   go_meet
   exact⟨rfl,rfl,lh (by first | exact BRf.out.set3 _ _ _ | exact(BRf.out.set3 _ _ _).ext xd | exact(BRf.out.ext xd).set3 _ _ _),lh (by first | exact AF.set3 _ _ _ _ _ | exact(AF.set3 _ _ _ _ _).dr | exact(AF.of xd).tr' (AF.set3 _ _ _ _ _))⟩
  case rest =>
   obtain⟨rfl,rfl,hBf,hMf⟩:=hcut;have r0:=hBf.out.cell (j:=0) rfl;have r1:=hBf.out.cell (j:=1) rfl;have r2:=hBf.out.cell (j:=2) rfl;clear p0 p1 p2 y0 cv6 x0 x1 x2 f0 f1 f2;go_wp2;refine bodyPost_ret (v := .tuple #[.agg #[.slice (some ⟨gv,0,none⟩) g.length c1,.slice (some ⟨gr,0,none⟩) g.length c2,.slice (some ⟨gq,0,none⟩) g.length c3],.int .i64 (Sg.Ba u k),.slice A6 u.ran.length c6]) (by simp[results,Tryz.results40,go_sem,r0,r1,r2];try rfl) rfl ?_;rw[HS.out];have hwn:=HN.out;have e3:=E1.out.size;refine⟨some ⟨gv,0,none⟩,c1,some ⟨gr,0,none⟩,c2,some ⟨gq,0,none⟩,c3,hs6,A6,c6,?_,(Z6.out.mod hMf.out (fun b hb e=>by have:=(Z6.out.lt hb).1;omega)).mono (by omega),(O6.out.mod hMf.out (fun b hb e=>by have:=(O6.out.lt hb).1;omega)).mono (by omega),D6.out,?_⟩
   ·dsimp only;rw[show u.st.vals.length=g.length from LV.out.1,show u.st.reads.length=g.length from LV.out.2.1,show u.st.cols.length=g.length from LV.out.2.2];try rfl
   ·refine Aa.md (Aa.md (E1.out.tr (U2.out.tr hE5.out)) M6.out (fun b hb=>?_)) hMf.out (fun b e=>by omega);have:=(hL5.out.lt hb).1;omega
open Go.RowKit
open Go.RowKit
def ZD (a:Sg.Xh):List Value:=[.int .i64 a.kind,.int .i64 a.node,.int .i64 a.val]
def Wv (l:List Sg.Xh):List Value:=l.flatMap ZD
abbrev av (a:Sg.Xh):Value := .agg #[.int .i64 a.kind,.int .i64 a.node,.int .i64 a.val]
def ZE (s:Sg.Xi):List Value:=[.int .i64 s.node,.int .i64 s.val]
def ZG (l:List Sg.Xi):List Value:=l.flatMap ZE
@[simp] theorem length_acts (l:List Sg.Xh):(Wv l).length=l.length * 3:=Jp ZD 3 (fun _=>rfl) l
@[simp] theorem length_shs (l:List Sg.Xi):(ZG l).length=l.length * 2:=Jp ZE 2 (fun _=>rfl) l
structure SO (w:World) (B Bs:Nat) (A:Option Addr) (c:Nat) (g:Sg.Ae) (x:Sg.Yk) (Ap:Option Addr) (cp:Nat) (As:Option Addr) (cs:Nat) (fl:Int):Prop where
 bx:Bx w Bs [.slice A g.length c,.int .i64 (x.opn:Int),.slice Ap x.pend.length cp,.slice As x.stop.length cs,.int .i64 fl]
 p:Au w B 3 1 Ap x.pend.length cp (Ah x.pend)
 s:Au w B 4 1 As x.stop.length cs (Gm x.stop)
 d1:AE Ap≠some Bs
 d2:AE As≠some Bs
 d3:∀ b,AE Ap=some b->AE As≠some b
 b:B<=Bs
section
variable {w w':World} {B Bs c cp cs:Nat} {A Ap As:Option Addr} {g:Sg.Ae} {x:Sg.Yk} {fl:Int}
theorem SO.ext (h:SO w B Bs A c g x Ap cp As cs fl)(e:Aa w w'):SO w' B Bs A c g x Ap cp As cs fl:=⟨h.bx.ext e,h.p.ext e,h.s.ext e,h.d1,h.d2,h.d3,h.b⟩
theorem SO.mod {F:Nat->Prop}(h:SO w B Bs A c g x Ap cp As cs fl)(k:AF F w w')(hF:∀ b,F b->b≠Bs/\AE Ap≠some b/\AE As≠some b):SO w' B Bs A c g x Ap cp As cs fl :=
 ⟨h.bx.mod k (fun e=>(hF _ e).1 rfl),h.p.mod k (fun b hb e=>(hF b e).2.1 hb),h.s.mod k (fun b hb e=>(hF b e).2.2 hb),h.d1,h.d2,h.d3,h.b⟩
end
theorem Au.bn {w:World}{B e:Nat}{A:Option Addr}{n c:Nat}{xs:List Value}(h:Au w B e 1 A n c xs)(hn:0<n):∃ b,A=some ⟨b,0,none⟩/\B<=b:=h.at_ (by omega)
end Go.Proofs.YthibllkleakiiaaGreatDoor
namespace Sg
end Sg
namespace Go.Proofs.YthibllkleakiiaaGreatDoor
open Go.RowKit
end Go.Proofs.YthibllkleakiiaaGreatDoor
namespace Sg
end Sg
namespace Go.Proofs.YthibllkleakiiaaGreatDoor
open Go.RowKit
theorem Ai.pick {B:Nat}{P S g o w b x:Th B}{rs:List (Th B)}{W:World}(h:Ai (P :: S :: g :: o :: w :: b :: x :: rs) W):Ai (g :: o :: w :: b :: P :: rs) W :=
 (h.sub ((((((((List.Sublist.refl rs).cons x).cons_cons b).cons_cons w).cons_cons o).cons_cons g).cons S).cons_cons P)).perm (List.perm_middle (l₁:=[g,o,w,b]) (l₂:=rs)).symm
end Go.Proofs.YthibllkleakiiaaGreatDoor
namespace Sg
end Sg
namespace Go.Proofs.YthibllkleakiiaaGreatDoor
open Go.RowKit
end Go.Proofs.YthibllkleakiiaaGreatDoor
namespace Sg
end Sg
namespace Go.Proofs.YthibllkleakiiaaGreatDoor
open Go.RowKit
open Go.RowKit
end Go.Proofs.YthibllkleakiiaaGreatDoor
