/- The program's ParseFormula, in memory: its contract. Conditions: texts of at most 2^20 bytes; the program's variables as they were laid (Ge). -/
import Derived.Test.YthibllkleakiiaaGreatDoorTxL
import Derived.Test.YthibllkleakiiaaGreatDoorTxN
namespace Sg
def LH (p:At)(ys:List Int)(j:Nat):At:=⟨p.kind,if 0<j then ys.getD 0 0 else p.a,if 1<j then ys.getD 1 0 else p.b,if 2<j then ys.getD 2 0 else p.c,p.n⟩
theorem Qi (p:At):(AE p).length=0\/(AE p).length=2\/(AE p).length=3:=by
 unfold AE;split
 ·exact .inr (.inr rfl)
 ·split
  ·exact .inr (.inl rfl)
  ·exact .inl rfl
theorem Sf (p:At)(ys:List Int):LH p ys 0=p:=by simp[LH]
theorem VE (p:At)(ys:List Int):ys.length=0\/ys.length=2\/ys.length=3->K5 p ys=LH p ys ys.length:=by
 match ys with
 | []=>intro _;simp[K5,LH]
 | [_]=>intro h;simp at h
 | [_,_]=>intro _;rfl
 | [_,_,_]=>intro _;rfl
 | _ :: _ :: _ :: _ :: _=>intro h;simp at h
theorem Ey {s:AR}(h:Cr s=none):Eh (Cr s)=([],false):=by rw[h];rfl
theorem MM {ws:List AR}{i:Nat}{x:AR}(h:ws[i]? = some x)(hr:IM x=none){st:List At × List Int}:IL (ws.drop i) st=none:=by
 obtain⟨hl,he⟩:=List.getElem?_eq_some_iff.1 h;rw[List.drop_eq_getElem_cons hl,he,IL];unfold Dx;rw[show Et CR x=none from hr]
theorem Sh {ws:List AR}{i:Nat}{x:AR}(h:ws[i]? = some x){p:At}(hr:IM x=some p)(st:List At × List Int):IL (ws.drop i) st=if st.2.length<(AE p).length\/st.1.length=12 then none else
  IL (ws.drop (i+1)) (st.1++[K5 p (st.2.drop (st.2.length - (AE p).length))],st.2.take (st.2.length - (AE p).length)++[(st.1.length:Int)]):=by
 obtain⟨hl,he⟩:=List.getElem?_eq_some_iff.1 h;rw[List.drop_eq_getElem_cons hl,he,IL];unfold Dx;rw[show Et CR x=some p from hr];simp only;by_cases h1:st.2.length<(AE p).length
 ·rw[if_pos h1,if_pos (.inl h1)]
 ·rw[if_neg h1];simp only;by_cases h2:st.1.length=12
  ·rw[if_pos h2,if_pos (.inr h2)]
  ·rw[if_neg h2,if_neg (by rintro (e | e);exact h1 e;exact h2 e)]
end Sg
namespace Go.Proofs.YthibllkleakiiaaGreatDoor
open Go.RowKit
theorem AA.cutO {w:World}{B e n c:Nat}{A:Option Addr}{xs:List Value}(h:AA w B e 1 A n c xs)(i:Nat)(hi:i<=n):AA w B e 1 A i c (xs.take i):=by
 have h1:=h.1;refine⟨by simp;omega,Nat.le_trans hi h.2.1,h.2.2.1,?_⟩;rcases h.2.2.2 with h2 | ⟨g,cur,ha,hb,hh,hc,ht⟩
 ·exact .inl h2
 ·refine .inr ⟨g,cur,ha,hb,hh,hc,?_⟩;rw[<- ht,List.take_take];congr 1
  omega
theorem SP (p:Sg.At)(ys:List Int){j:Nat}(h:j<3):Ee (Sg.LH p ys (j+1))=(Ee (Sg.LH p ys j)).set (j+1) (.int .i64 (ys.getD j 0)):=by
 have:j=0\/j=1\/j=2:=by omega
 rcases this with rfl | rfl | rfl <;> rfl
set_option maxRecDepth 100000 in
set_option maxHeartbeats 8000000 in
theorem L9 (s:ByteArray)(w:World)(hs:s.size<=1048576)(hG:Ge w) :
  Calls Tryz.prog 44 #[.string s] w fun e w'=>∃ A1 c1,e= .returned (.tuple #[.agg #[.slice A1 (Sg.Eh (Sg.Cr (tx s))).1.length c1],.bool (Sg.Eh (Sg.Cr (tx s))).2])/\Aa w w' /\
   AA w' w.heap.size 111 5 A1 (Sg.Eh (Sg.Cr (tx s))).1.length c1 (AL (Sg.Eh (Sg.Cr (tx s))).1):=by
 have HG:=lh hG;have S1:=Ai.add (B:=w.heap.size) (ts:=[]) (W:=w) trivial ((Aa.rfl' _).al (.cells #[.slice none 0 0] 68)) (Th.box w.heap.size w.heap.size [.slice none 0 0]) ⟨Bx.new w #[.slice none 0 0] 68,Nat.le_refl _⟩ (fun b e=>by have e2:b=w.heap.size:=e;omega);have S2:=lh (Ai.add S1 ((Aa.rfl' _).al (.cells #[.slice none 0 0] 68)) (Th.box w.heap.size (w.heap.size+1) [.slice none 0 0]) ⟨by have:=Bx.new (World.alloc w (.cells #[.slice none 0 0] 68)) #[.slice none 0 0] 68;simpa[go_sem] using this,by omega⟩ (fun b e=>by have e2:b=w.heap.size+1:=e;simp[go_sem];omega));have E0:=lh (((Aa.rfl' w).al (.cells #[.slice none 0 0] 68)).al (.cells #[.slice none 0 0] 68));have HSP:=lh fun w' (e:Aa w w')=>Rt s w' (by omega) (hG.ext e);have hsum:=Sg.I7 32 (tx s);rw[<- DR] at hsum;have HWL:=lh (show ∀ p ∈ Sg.AB 32 (tx s),p.length<=1048577 from fun p hp=>by have:=Sg.PL hp;omega);have hwl:(Sg.AB 32 (tx s)).length<=1048577:=by omega
 have HPI:=lh (show Sg.Cr (tx s)=match Sg.IL (Sg.AB 32 (tx s)) ([],[]) with | some (f,_)=>if Sg.AU f=true/\Sg.FM f=tx s then some (Sg.BY f) else none | none=>none from rfl);clear S1 hsum hG;generalize Sg.AB 32 (tx s)=ws at *;go_enter Tryz.func44,Tryz.ntmps44;go_wp2_with fail
 refine(HSP.out _ E0.out).mono ?_;rintro e w2 ⟨A2,rfl,he2,ho2⟩;have S3:=Ai.add S2.out he2 (Th.own w.heap.size 9 1 A2 ws.length ws.length (BE (ws.map ts))) (ho2.mono E0.out.size) (fun b e=>(ho2.lt e).1);have S4:=Ai.add S3 (Aa.rfl' _) (Th.own w.heap.size 3 1 none 0 0 (Ah [])) (AA.nil _ _ _ _) (fun b e=>by simp[Th.own,AD] at e);have S5:=lh (Ai.add S4 (Aa.rfl' _) (Th.own w.heap.size 111 5 none 0 0 (AL [])) (AA.nil _ _ _ _) (fun b e=>by simp[Th.own,AD] at e));have E2:=lh (E0.out.tr he2);clear S3 S4 he2 ho2 S2 E0;go_wp2_with fail
 go_loopw [5,21] (fun s5 s21 wr=>∃ (i:Nat) (f:List Sg.At) (op:List Int) (A5:Option Addr) (c5:Nat) (Af:Option Addr) (cf:Nat),i<=ws.length/\s5= .slice A5 op.length c5/\s21= .int .i64 i/\f.length=i/\f.length<=12/\op.length<=i/\Hid (Sg.IL ws ([],[])=Sg.IL (ws.drop i) (f,op))/\Hid (Aa w wr)/\Hid (Ai [Th.own w.heap.size 111 5 Af f.length cf (AL f),Th.own w.heap.size 3 1 A5 op.length c5 (Ah op),Th.own w.heap.size 9 1 A2 ws.length ws.length (BE (ws.map ts)),Th.box w.heap.size (w.heap.size+1) [.slice Af f.length cf],Th.box w.heap.size w.heap.size [.slice none 0 0]] wr)) (fun _ s21 _=>ws.length - (intOf s21).toNat)
 case atStart=>exact⟨0,[],[],none,0,none,0,Nat.zero_le _,rfl,rfl,rfl,by simp,Nat.le_refl _,lh rfl,E2,S5⟩
 case round =>
  clear S5 E2;obtain⟨i,f,op,A5,c5,Af,cf,hi,rfl,rfl,hfi,hf12,hop,HR,E,SS⟩:=hrel;have Hfi:=lh hfi;clear hfi;by_cases hlt:i<ws.length
  ·obtain⟨bw,ow,x,rfl,hx,hc⟩:=(Ai.get SS.out 2 rfl:AA _ _ _ _ _ _ _ _).rd.atT hlt
   obtain⟨y,hy,rfl⟩:∃ y,ws[i]? = some y/\x=ts y:=by
    rw[List.getElem?_map] at hx;cases hw:ws[i]? with
    | none=>rw[hw] at hx;cases hx
    | some y=>rw[hw] at hx;exact⟨y,rfl,(Option.some.inj hx).symm⟩
   have hyl:=HWL.out y (List.mem_of_getElem? hy);have HY:=lh hy;have bc:=Au hc;have hix:(i:Int)<(ws.length:Int):=by omega
   clear hx hy;go_upto_region 7 with fail
   have hs1:=E.out.size;have S2:=lh (Ai.add SS.out ((Aa.rfl' wr).al (.cells #[.int .i64 0,.int .i64 (-1),.int .i64 (-1),.int .i64 (-1),.int .i64 0] 111)) (Th.box w.heap.size wr.heap.size (Ee ⟨0,-1,-1,-1,0⟩)) ⟨Bx.new wr _ _,hs1⟩ (fun b e=>by have e2:b=wr.heap.size:=e;omega));have E2:=lh (E.out.al (.cells #[.int .i64 0,.int .i64 (-1),.int .i64 (-1),.int .i64 (-1),.int .i64 0] 111));clear hc bc SS E;generalize World.alloc wr (.cells #[.int .i64 0,.int .i64 (-1),.int .i64 (-1),.int .i64 (-1),.int .i64 0] 111)=v2 at *;generalize wr.heap.size=bp at *;have hbp:w.heap.size<=bp:=hs1;clear hs1;obtain⟨⟨⟨bg,og,cg,hg0,hg1⟩,-⟩,-,-,-⟩:=HG.out.ext E2.out;have HIX:=lh (TV (ts y) v2 bg og cg hg1);have bg0:=Au hg0;clear hg1;obtain⟨ap,hap⟩:∃ ap:Int,ap=if Sg.CY (tx (ts y)) = -1 then -1 else Sg.CY (tx (ts y)) - 2:=⟨_,rfl⟩
   rw[<- hap] at HIX;rw[FU] at hap;have HAP:=lh hap;clear hap;go_upto_if 30 with (go_at_call 42;refine HIX.out.mono ?_;rintro e w' ⟨rfl,rfl⟩)
   go_cut [9] (fun s9 wx=>∃ p:Sg.At,s9= .int .i64 ((Sg.AE p).length:Int)/\Hid (Sg.IM y=some p)/\Hid (Aa w wx)/\Hid (Ai [Th.box w.heap.size bp (Ee p),Th.own w.heap.size 111 5 Af f.length cf (AL f),Th.own w.heap.size 3 1 A5 op.length c5 (Ah op),Th.own w.heap.size 9 1 (some ⟨bw,ow,none⟩) ws.length ws.length (BE (ws.map ts)),Th.box w.heap.size (w.heap.size+1) [.slice Af f.length cf],Th.box w.heap.size w.heap.size [.slice none 0 0]] wx))
   case first =>
    clear HIX hg0 bg0;have yb:Bx v2 bp (Ee ⟨0,-1,-1,-1,0⟩):=(Ai.get S2.out 0 rfl:Bx _ _ _/\_).1;have z0:=yb.cell (j:=0) rfl;have f0:=yb.free 0;have zl:=yb.lt;have YB:=lh yb;clear yb;rcases Sg.Ex y with hk | ⟨hk2,hk8,-⟩
    ·obtain rfl:ap = -1:=by rw[HAP.out,if_pos hk]
     by_cases hh:y.head? = some 114
     ·have HCR:=TW (ts y);rw[FU,if_pos hh,decide_eq_true hh] at HCR;have HCR:=lh HCR;have HRD:=lh (show Sg.IM y=(Sg.CR y.tail).map fun (n:Nat)=>(⟨1,-1,-1,-1,(n:Int)⟩:Sg.At) by unfold Sg.IM Sg.Et;rw[hk,if_neg (by simp),if_pos hh]);have htl:(ts y.tail).size<=2100000:=by rw[B9];have:=List.length_tail (l:=y);omega
      have HDC:=lh fun w' (e:Aa w w')=>Jc (ts y.tail) htl w' (HG.out.ext e);clear hh hk;clear z0 f0 zl;go_wp2_with fail
      refine(HCR.out _).mono ?_;rintro e w' ⟨rfl,rfl⟩;go_wp2_with fail
      refine(HDC.out _ E2.out).mono ?_;rintro e v3 ⟨n,ok,rfl,he3,ht,hf⟩;rw[FU] at ht hf;have E3:=lh (E2.out.tr he3);have S3:=lh (Ai.ext S2.out he3);clear E2 S2 he3 YB;cases ok
      ·have HD:=hf rfl;have HN:=lh (Sg.Ey (HPI.out.trans (by rw[HR.out,Sg.MM HY.out (by rw[HRD.out,HD];rfl)])));clear ht hf HD;have y2:Bx v3 w.heap.size [.slice none 0 0]:=(Ai.get S3.out 5 rfl:Bx _ _ _/\_).1;have x2:=y2.cell (j:=0) rfl;have g2:=y2.free 0;have l2:=y2.lt;have Y2:=lh y2;clear y2;go_wp2;have s0:=(Y2.out.set 0 (.slice none 0 0)).cell (j:=0) rfl;refine bodyPost_ret (v := .tuple #[.agg #[.slice none 0 0],.bool false]) (by simp[results,Tryz.results44,go_sem,s0];try rfl) rfl ?_;rw[HN.out];exact⟨none,0,rfl,E3.out.set (p:=⟨w.heap.size,0,none⟩) (Nat.le_refl _) _,AA.nil _ _ _ _⟩
      ·obtain⟨q,rfl,hq⟩:=ht rfl;have HRQ:=lh (show Sg.IM y=some ⟨1,-1,-1,-1,(q:Int)⟩ by rw[HRD.out,hq];rfl);clear ht hf hq;have y7:Bx v3 bp (Ee ⟨0,-1,-1,-1,0⟩):=(Ai.get S3.out 0 rfl:Bx _ _ _/\_).1;have z4:=y7.cell (j:=4) rfl;have f4:=y7.free 4;have zl:=y7.lt;have Y7:=lh y7;clear y7;have S4:=lh (Ai.st S3.out 0 rfl ⟨bp,4,none⟩ (.int .i64 q) rfl (Th.box w.heap.size bp (Ee ⟨0,-1,-1,-1,q⟩)) ⟨Y7.out.set 4 _,hbp⟩ (fun _ e=>e));have E4:=lh (E3.out.set (p:=⟨bp,4,none⟩) hbp (.int .i64 q));go_upto_region 17 with fail
       generalize World.setCell v3 ⟨bp,4,none⟩ (.int .i64 q)=v4 at *;clear z4 f4 zl Y7 S3 E3;have y7:Bx v4 bp (Ee ⟨0,-1,-1,-1,q⟩):=(Ai.get S4.out 0 rfl:Bx _ _ _/\_).1;have z0:=y7.cell (j:=0) rfl;have f0:=y7.free 0;have zl:=y7.lt;have Y7:=lh y7;clear y7;have S5:=lh (Ai.st S4.out 0 rfl ⟨bp,0,none⟩ (.int .i64 1) rfl (Th.box w.heap.size bp (Ee ⟨1,-1,-1,-1,q⟩)) ⟨Y7.out.set 0 _,hbp⟩ (fun _ e=>e));have E5:=lh (E4.out.set (p:=⟨bp,0,none⟩) hbp (.int .i64 1));go_wp2_with fail
       go_meet
       exact⟨⟨1,-1,-1,-1,q⟩,rfl,HRQ,E5,S5⟩
     ·have HCR:=TW (ts y);rw[FU,if_neg hh,decide_eq_false hh] at HCR;have HCR:=lh HCR;have HRD:=lh (show Sg.IM y=(Sg.CR y).map fun (n:Nat)=>(⟨0,-1,-1,-1,(n:Int)⟩:Sg.At) by unfold Sg.IM Sg.Et;rw[hk,if_neg (by simp),if_neg hh]);have htl:(ts y).size<=2100000:=by rw[B9];omega
      have HDC:=lh fun w' (e:Aa w w')=>Jc (ts y) htl w' (HG.out.ext e);clear hh hk;clear z0 f0 zl;go_wp2_with fail
      refine(HCR.out _).mono ?_;rintro e w' ⟨rfl,rfl⟩;go_wp2_with fail
      refine(HDC.out _ E2.out).mono ?_;rintro e v3 ⟨n,ok,rfl,he3,ht,hf⟩;rw[FU] at ht hf;have E3:=lh (E2.out.tr he3);have S3:=lh (Ai.ext S2.out he3);clear E2 S2 he3 YB;cases ok
      ·have HD:=hf rfl;have HN:=lh (Sg.Ey (HPI.out.trans (by rw[HR.out,Sg.MM HY.out (by rw[HRD.out,HD];rfl)])));clear ht hf HD;have y2:Bx v3 w.heap.size [.slice none 0 0]:=(Ai.get S3.out 5 rfl:Bx _ _ _/\_).1;have x2:=y2.cell (j:=0) rfl;have g2:=y2.free 0;have l2:=y2.lt;have Y2:=lh y2;clear y2;go_wp2;have s0:=(Y2.out.set 0 (.slice none 0 0)).cell (j:=0) rfl;refine bodyPost_ret (v := .tuple #[.agg #[.slice none 0 0],.bool false]) (by simp[results,Tryz.results44,go_sem,s0];try rfl) rfl ?_;rw[HN.out];exact⟨none,0,rfl,E3.out.set (p:=⟨w.heap.size,0,none⟩) (Nat.le_refl _) _,AA.nil _ _ _ _⟩
      ·obtain⟨q,rfl,hq⟩:=ht rfl;have HRQ:=lh (show Sg.IM y=some ⟨0,-1,-1,-1,(q:Int)⟩ by rw[HRD.out,hq];rfl);clear ht hf hq;have y7:Bx v3 bp (Ee ⟨0,-1,-1,-1,0⟩):=(Ai.get S3.out 0 rfl:Bx _ _ _/\_).1;have z4:=y7.cell (j:=4) rfl;have f4:=y7.free 4;have zl:=y7.lt;have Y7:=lh y7;clear y7;have S4:=lh (Ai.st S3.out 0 rfl ⟨bp,4,none⟩ (.int .i64 q) rfl (Th.box w.heap.size bp (Ee ⟨0,-1,-1,-1,q⟩)) ⟨Y7.out.set 4 _,hbp⟩ (fun _ e=>e));have E4:=lh (E3.out.set (p:=⟨bp,4,none⟩) hbp (.int .i64 q));go_upto_region 17 with fail
       generalize World.setCell v3 ⟨bp,4,none⟩ (.int .i64 q)=v4 at *;clear z4 f4 zl Y7 S3 E3;go_wp2_with fail
       go_meet
       exact⟨⟨0,-1,-1,-1,q⟩,rfl,HRQ,E4,S4⟩
    ·obtain rfl:ap=Sg.CY y - 2:=by rw[HAP.out,if_neg (by omega)]
     have HRD:=lh (show Sg.IM y=some ⟨Sg.CY y,-1,-1,-1,0⟩ by unfold Sg.IM Sg.Et;rw[if_pos (by omega)]);clear HAP;generalize Sg.CY y=k at *;have iw:2+(k - 2)=k:=by omega
     have hge:k - 2 ≥ 0:=by omega
     have SN:=lh (Ai.st S2.out 0 rfl ⟨bp,0,none⟩ (.int .i64 k) rfl (Th.box w.heap.size bp (Ee ⟨k,-1,-1,-1,0⟩)) ⟨YB.out.set 0 _,hbp⟩ (fun _ e=>e));have EN:=lh (E2.out.set (p:=⟨bp,0,none⟩) hbp (.int .i64 k));go_upto_region 11 with fail
     generalize World.setCell v2 ⟨bp,0,none⟩ (.int .i64 k)=v3 at *;clear z0 f0 zl YB S2 E2;have y7:Bx v3 bp (Ee ⟨k,-1,-1,-1,0⟩):=(Ai.get SN.out 0 rfl:Bx _ _ _/\_).1;have z0:=y7.cell (j:=0) rfl;have z1:=y7.cell (j:=1) rfl;have z2:=y7.cell (j:=2) rfl;have z3:=y7.cell (j:=3) rfl;have z4:=y7.cell (j:=4) rfl;have zl:=y7.lt;clear y7;have HBW:=lh (NT ⟨k,-1,-1,-1,0⟩ v3);go_wp2_with fail
     refine HBW.out.mono ?_;rintro e v4 ⟨A9,c9,rfl,-,he4⟩;have E4:=lh (EN.out.tr he4);have S4:=lh (Ai.ext SN.out he4);clear he4;go_wp2_with fail
     go_meet
     exact⟨⟨k,-1,-1,-1,0⟩,rfl,HRD,E4,S4⟩
   case rest =>
    clear HIX hg0 bg0 S2 E2 HAP;obtain⟨p,rfl,HRD,E3,S3⟩:=hcut;have HRI:=lh (Sg.Sh HY.out HRD.out (f,op));have hm3:=Sg.Hw p;have HSB:=lh (Sg.VE p (op.drop (op.length - (Sg.AE p).length)));generalize hml:(Sg.AE p).length=m at *;have HML:=lh hml;clear hml;have yf:Bx wc (w.heap.size+1) [.slice Af f.length cf]:=(Ai.get S3.out 4 rfl:Bx _ _ _/\_).1;have q0:=yf.cell (j:=0) rfl;have ql:=yf.lt;clear yf;by_cases hlo:op.length<m
    ·have hlx:(op.length:Int)<(m:Int):=by omega
     have HN:=lh (Sg.Ey (HPI.out.trans (by rw[HR.out,HRI.out,if_pos (.inl hlo)])));have y2:Bx wc w.heap.size [.slice none 0 0]:=(Ai.get S3.out 5 rfl:Bx _ _ _/\_).1;have x2:=y2.cell (j:=0) rfl;have g2:=y2.free 0;have l2:=y2.lt;have Y2:=lh y2;clear y2;go_wp2;have s0:=(Y2.out.set 0 (.slice none 0 0)).cell (j:=0) rfl;refine bodyPost_ret (v := .tuple #[.agg #[.slice none 0 0],.bool false]) (by simp[results,Tryz.results44,go_sem,s0];try rfl) rfl ?_;rw[HN.out];exact⟨none,0,rfl,E3.out.set (p:=⟨w.heap.size,0,none⟩) (Nat.le_refl _) _,AA.nil _ _ _ _⟩
    ·have hlx:¬ (op.length:Int)<(m:Int):=by omega
     by_cases h12:f.length=12
     ·have b12:((f.length:Int) == 12)=true:=by simp[h12]
      have H12:=lh h12;clear h12;have HN:=lh (Sg.Ey (HPI.out.trans (by rw[HR.out,HRI.out,if_pos (.inr H12.out)])));have y2:Bx wc w.heap.size [.slice none 0 0]:=(Ai.get S3.out 5 rfl:Bx _ _ _/\_).1;have x2:=y2.cell (j:=0) rfl;have g2:=y2.free 0;have l2:=y2.lt;have Y2:=lh y2;clear y2;go_wp2;have s0:=(Y2.out.set 0 (.slice none 0 0)).cell (j:=0) rfl;refine bodyPost_ret (v := .tuple #[.agg #[.slice none 0 0],.bool false]) (by simp[results,Tryz.results44,go_sem,s0];try rfl) rfl ?_;rw[HN.out];exact⟨none,0,rfl,E3.out.set (p:=⟨w.heap.size,0,none⟩) (Nat.le_refl _) _,AA.nil _ _ _ _⟩
     ·have b12:((f.length:Int) == 12)=false:=by simp;omega
      have H12:=lh h12;clear h12;go_upto_region 22 with fail
      have S4:=lh (Ai.add S3.out ((Aa.rfl' wc).al (.cells #[.pointer (some ⟨bp,1,none⟩),.pointer (some ⟨bp,2,none⟩),.pointer (some ⟨bp,3,none⟩)] 127)) (Th.box w.heap.size wc.heap.size [.pointer (some ⟨bp,1,none⟩),.pointer (some ⟨bp,2,none⟩),.pointer (some ⟨bp,3,none⟩)]) ⟨Bx.new wc _ _,E3.out.size⟩ (fun b e=>by have e2:b=wc.heap.size:=e;omega));have E4:=lh (E3.out.al (.cells #[.pointer (some ⟨bp,1,none⟩),.pointer (some ⟨bp,2,none⟩),.pointer (some ⟨bp,3,none⟩)] 127));clear S3 E3 q0 ql;generalize World.alloc wc (.cells #[.pointer (some ⟨bp,1,none⟩),.pointer (some ⟨bp,2,none⟩),.pointer (some ⟨bp,3,none⟩)] 127)=v4 at *;generalize wc.heap.size=bt at *;have ixl:IntKind.i64.wrap ((op.length:Int) - (m:Int))=((op.length - m:Nat):Int):=by rw[IntWalk.i64_in _ (by omega)];omega
      have hlm:op.length - (op.length - m)=m:=by omega
      have hl0:(0:Int)<=((op.length - m:Nat):Int):=by omega
      have hl1:((op.length - m:Nat):Int)<=(op.length:Int):=by omega
      have HO5:=lh (show AA v4 w.heap.size 3 1 A5 op.length c5 (Ah op) from Ai.get S4.out 3 rfl);go_cut [5,9,74,75,76] (fun s5 s9 s74 s75 s76 wx=>∃ (A9:Option Addr) (c9:Nat),s5= .slice A5 op.length c5/\s9= .int .i64 (m:Int)/\s74= .slice A9 m c9/\s75= .int .i64 (m:Int)/\s76= .int .i64 0/\Hid (m=0\/∃ b5,A5=some ⟨b5,0,none⟩/\A9=some ⟨b5,op.length - m,none⟩)/\wx=v4)
      case first =>
       have hc5:=HO5.out.2.1;have hc6:((op.length - m:Nat):Int)<=(c5:Int):=by omega
       rcases A5 with _ | a5
       ·have hz:c5=0:=by
         rcases HO5.out.2.2.2 with ⟨-,h0⟩ | ⟨g,cur,e,-⟩
         ·exact h0
         ·cases e
        obtain rfl:m=0:=by omega
        have ho0:op.length=0:=by omega
        subst hz;go_wp2_with fail
        go_meet
        exact⟨none,0,by simp[ho0],by simp,by simp,by simp,rfl,lh (by first | exact .inl rfl | exact .inl trivial),rfl⟩
       ·obtain⟨b5,rfl⟩:∃ b5,a5=⟨b5,0,none⟩:=by
         rcases HO5.out.2.2.2 with ⟨e,-⟩ | ⟨g,cur,e,-⟩
         ·cases e
         ·exact⟨g,Option.some.inj e⟩
        by_cases hcap:c5=op.length - m
        ·obtain rfl:m=0:=by omega
         have hcap2:c5=op.length:=by omega
         clear hcap;go_wp2_with fail
         all_goals (go_meet;first | exact⟨_,_,by simp[hcap2],by simp,rfl,by simp,rfl,lh (by first | exact .inl rfl | exact .inl trivial),rfl⟩ | exact⟨some ⟨b5,0,none⟩,op.length,by simp[hcap2],by simp,by simp[hcap2],by simp[hcap2],rfl,lh (by first | exact .inl rfl | exact .inl trivial),rfl⟩ | exact⟨some ⟨b5,0,none⟩,0,by simp[hcap2],by simp,by simp[hcap2],by simp[hcap2],rfl,lh (by first | exact .inl rfl | exact .inl trivial),rfl⟩)
        ·have hc7:((op.length - m:Nat):Int)<(c5:Int):=by omega
         go_wp2_with fail
         go_meet
         exact⟨_,_,rfl,rfl,by first | rfl | rw[hlm],by first | rfl | rw[hlm],rfl,lh (.inr ⟨b5,rfl,by simp⟩),rfl⟩
      case rest =>
       clear HO5;obtain⟨A9,c9,rfl,rfl,rfl,rfl,rfl,H9,rfl⟩:=hcut;go_wp2_with fail
       go_loopw [76] (fun s76 wr=>∃ j:Nat,j<=m/\s76= .int .i64 j/\Hid (Aa w wr)/\Hid (Ai [Th.box w.heap.size bt [.pointer (some ⟨bp,1,none⟩),.pointer (some ⟨bp,2,none⟩),.pointer (some ⟨bp,3,none⟩)],Th.box w.heap.size bp (Ee (Sg.LH p (op.drop (op.length - m)) j)),Th.own w.heap.size 111 5 Af f.length cf (AL f),Th.own w.heap.size 3 1 A5 op.length c5 (Ah op),Th.own w.heap.size 9 1 (some ⟨bw,ow,none⟩) ws.length ws.length (BE (ws.map ts)),Th.box w.heap.size (w.heap.size+1) [.slice Af f.length cf],Th.box w.heap.size w.heap.size [.slice none 0 0]] wr)) (fun s76 _=>m - (intOf s76).toNat)
       case atStart=>exact⟨0,Nat.zero_le _,rfl,E4,by rw[Sg.Sf];exact S4⟩
       case round =>
        clear S4 E4;obtain⟨j,hj,rfl,X4,S4⟩:=hrel;by_cases hjm:j<m
        ·have hj3:j<3:=by omega
         have hj3x:(j:Int)<3:=by omega
         have hjx:(j:Int)<(m:Int):=by omega
         obtain⟨b5,rfl,rfl⟩:∃ b5,A5=some ⟨b5,0,none⟩/\A9=some ⟨b5,op.length - m,none⟩:=by
          rcases H9.out with e | e
          ·omega
          ·exact e
         obtain⟨z,hz,cz⟩:=Ng (Ai.get S4.out 3 rfl:AA _ _ _ _ _ _ _ _).rd (show op.length - m+j<op.length by omega);rw[Nat.zero_add] at cz;have bz:=Au cz;have HZ:=lh (show (op.drop (op.length - m)).getD j 0=z by rw[List.getD_eq_getElem?_getD,List.getElem?_drop,hz];rfl);clear hz;have yt:Bx wr bt [.pointer (some ⟨bp,1,none⟩),.pointer (some ⟨bp,2,none⟩),.pointer (some ⟨bp,3,none⟩)]:=(Ai.get S4.out 0 rfl:Bx _ _ _/\_).1;have ut:=yt.cell (Po bp hj3);have ult:=yt.lt;have yb:Bx wr bp (Ee (Sg.LH p (op.drop (op.length - m)) j)):=(Ai.get S4.out 1 rfl:Bx _ _ _/\_).1;have YB:=lh yb;have u0:=yb.cell (Pp _ hj3);have uf:=yb.free (j+1);have ul:=yb.lt;generalize (Ee (Sg.LH p (op.drop (op.length - m)) j)).getD (j+1) undef=uv at *;have SN:=lh (Ai.st S4.out 1 rfl ⟨bp,j+1,none⟩ (.int .i64 z) rfl (Th.box w.heap.size bp (Ee (Sg.LH p (op.drop (op.length - m)) (j+1)))) ⟨by rw[SP p _ hj3,HZ.out];exact YB.out.set (j+1) _,hbp⟩ (fun _ e=>e));have EN:=lh (X4.out.set (p:=⟨bp,j+1,none⟩) hbp (.int .i64 z));clear yt yb YB S4 X4;go_wp2;go_roundw
         case rel=>exact⟨j+1,by omega,by go_num,EN,SN⟩
         case measure=>simp[intOf];omega
        ·obtain rfl:j=m:=by omega
         have HOC:=lh (show AA wr w.heap.size 3 1 A5 (op.length - j) c5 (Ah (op.take (op.length - j))) by have:=(show AA wr w.heap.size 3 1 A5 op.length c5 (Ah op) from Ai.get S4.out 3 rfl).cutO (op.length - j) (by omega);simpa[Ah,List.map_take] using this);have hc5:=(show AA wr w.heap.size 3 1 A5 op.length c5 (Ah op) from Ai.get S4.out 3 rfl).2.1;have hc6:((op.length - j:Nat):Int)<=(c5:Int):=by omega
         have HNF:=lh (show AD A5≠some (w.heap.size+1) from fun e=>S4.out.tail.tail.tail.2.1 (Th.box w.heap.size (w.heap.size+1) [.slice Af f.length cf]) (by simp) _ e rfl);have yf:Bx wr (w.heap.size+1) [.slice Af f.length cf]:=(Ai.get S4.out 5 rfl:Bx _ _ _/\_).1;have q0:=yf.cell (j:=0) rfl;have Q:=lh q0;have ql:=yf.lt;clear yf;have E0:=lh ((Aa.rfl' wr).dr);clear H9;go_wp2_with fail
         refine zb 11 (fun W=>W.cell? ⟨w.heap.size+1,0,none⟩=some (.slice Af f.length cf)) ?_ (fun hHeld=>?_)
         ·exact E0.out.cellE Q.out
         refine zy 0 ?_;refine zy 1 ?_;refine zy 2 ?_;refine zy 3 ?_;refine zy 4 ?_;refine zy 5 ?_;refine zy 6 ?_;refine zy 7 ?_;refine zy 8 ?_;refine zr 9 rfl fun K hK=>?_;go_simp;try simp only[pg]
         refine zh (hK.out _ _) ((E0.out.al (.cells #[.int .i64 (f.length:Int)] 3)).cellE Q.out) fun hHeld=>?_;clear hK K;try simp only[Act.put,pu]
         refine zr 10 rfl fun K hK=>?_;refine Gk (w:=wr.drew) (cs:=[.int .i64 (f.length:Int)]) rfl rfl Bc rfl HOC.out.dr rfl rfl (B_ .i64 _) (by omega) (by omega) (by simpa using X4.out.size) ?_;intro A7 c7 w7 hown7 hg7 hat7;have CF8:=CJ hg7 (E0.out.cellE Q.out) (fun e=>HNF.out e);try simp only[pg]
         refine zh (hK.out _ _) (CF8) fun hHeld=>?_;clear hK K;try simp only[Act.put,pu]
         refine zr 11 rfl fun K hK=>?_;go_simp;refine hK.out _ _ (fun e=>absurd rfl e) (fun hh=>?_);clear hK K hHeld hh;try simp only[Act.put,pu]
         refine zn ?_;have HN7:=lh hown7;have S7:=lh (Ai.app (Ai.ext S4.out E0.out) 3 rfl hown7 hg7 hat7);have X7:=lh (X4.out.dr.gr hg7 fun x hx=>(HOC.out.dr.lt hx).1);clear hown7 hg7 hat7 CF8 q0 ql Q HOC HNF E0 S4 X4;go_upto_region 28 with fail
         have e1:(op.drop (op.length - j)).length=j:=by rw[List.length_drop];omega
         have HSB2:=HSB.out;rw[e1] at HSB2;have HSJ:=lh (HSB2 (by have:=Sg.Qi p;rw[HML.out] at this;exact this));clear e1 HSB2;generalize hpq:Sg.LH p (op.drop (op.length - j)) j=q at *;clear hpq;obtain⟨qk,qa,qb,qc,qn⟩:=q;try dsimp only at *
         have yp:Bx w7 bp (Ee ⟨qk,qa,qb,qc,qn⟩):=(Ai.get S7.out 1 rfl:Bx _ _ _/\_).1;have p0:=yp.cell (j:=0) rfl;have p1:=yp.cell (j:=1) rfl;have p2:=yp.cell (j:=2) rfl;have p3:=yp.cell (j:=3) rfl;have p4:=yp.cell (j:=4) rfl;have lp:=yp.lt;have yf:Bx w7 (w.heap.size+1) [.slice Af f.length cf]:=(Ai.get S7.out 5 rfl:Bx _ _ _/\_).1;have q0:=yf.cell (j:=0) rfl;have lf:=yf.lt;clear yp yf;have HOF:=lh (show AA w7 w.heap.size 111 5 Af f.length cf (AL f) from Ai.get S7.out 2 rfl);have HPC:=lh (I3 ⟨qk,qa,qb,qc,qn⟩);have eL:=lh (show f.length+1<=1099511627776 by omega);have eW:=lh (show w.heap.size<=w7.heap.size from X7.out.size);go_wp2_with (at_builtin;refine AF (cs:=Ee ⟨qk,qa,qb,qc,qn⟩) rfl rfl L6 rfl HOF.out rfl rfl HPC.out eL.out (by omega) eW.out ?_;intro A8 c8 v6 hown8 hg8 hat8;have S6:=lh (Ai.app S7.out 2 rfl hown8 hg8 hat8);have E6:=lh (X7.out.gr hg8 fun x hx=>(HOF.out.lt hx).1);clear hown8 hg8 hat8 S7 X7 HOF p0 p1 p2 p3 p4 lp q0 lf;have y6:Bx v6 (w.heap.size+1) [.slice Af f.length cf]:=(Ai.get S6.out 5 rfl:Bx _ _ _/\_).1;have r6:=y6.cell (j:=0) rfl;have f6:=y6.free 0;have l6:=y6.lt;have Y6:=lh y6;clear y6)
         have S8:=lh (Ai.tail (Ai.tail (Ai.st S6.out 5 rfl ⟨w.heap.size+1,0,none⟩ (.slice A8 (f.length+1) c8) rfl (Th.box w.heap.size (w.heap.size+1) [.slice A8 (f.length+1) c8]) ⟨Y6.out.set 0 _,by omega⟩ (fun _ e=>e))));have E8:=lh (E6.out.set (p:=⟨w.heap.size+1,0,none⟩) (by simp) (.slice A8 (f.length+1) c8));clear S6 E6 Y6;have ef:AL f++Ee ⟨qk,qa,qb,qc,qn⟩=AL (f++[⟨qk,qa,qb,qc,qn⟩]):=by simp[AL]
         have el:f.length+1=(f++[(⟨qk,qa,qb,qc,qn⟩:Sg.At)]).length:=by simp
         have eo:Ah (op.take (op.length - j))++[Value.int .i64 (f.length:Int)]=Ah (op.take (op.length - j)++[(f.length:Int)]):=by simp[Ah]
         have em:op.length - j+1=(op.take (op.length - j)++[(f.length:Int)]).length:=by rw[List.length_append,List.length_take,List.length_singleton];omega
         have hfi2:=Hfi.out;have h122:=H12.out;have HST:=lh (show Sg.IL ws ([],[])=Sg.IL (ws.drop (i+1)) (f++[⟨qk,qa,qb,qc,qn⟩],op.take (op.length - j)++[(f.length:Int)]) by rw[HR.out,HRI.out,if_neg (by rintro (e | e);exact hlo e;exact h122 e),HSJ.out]);generalize World.setCell v6 ⟨w.heap.size+1,0,none⟩ (.slice A8 (f.length+1) c8)=v9 at *;rw[ef,eo,em] at S8;rw[el] at S8;go_roundw
         case rel=>exact⟨i+1,f++[(⟨qk,qa,qb,qc,qn⟩:Sg.At)],op.take (op.length - j)++[(f.length:Int)],A7,c7,A8,c8,by omega,by rw[<- em],by go_num,by rw[<- el,hfi2],by rw[<- el];omega,by rw[<- em];omega,HST,E8,S8⟩
         case measure=>simp[intOf];omega
  ·have HRW:=lh (show Sg.IL ws ([],[])=some (f,op) by rw[HR.out,List.drop_eq_nil_of_le (by omega)];rfl);have HPJ:=lh (show Sg.Cr (tx s)=if Sg.AU f=true/\Sg.FM f=tx s then some (Sg.BY f) else none by rw[HPI.out,HRW.out]);have yf:Bx wr (w.heap.size+1) [.slice Af f.length cf]:=(Ai.get SS.out 3 rfl:Bx _ _ _/\_).1;have HYF:=lh yf;have q0:=yf.cell (j:=0) rfl;have ql:=yf.lt;have HY2:=lh (show Bx wr w.heap.size [.slice none 0 0] from (Ai.get SS.out 4 rfl:Bx _ _ _/\_).1);have HRD2:=lh ((show AA wr w.heap.size 111 5 Af f.length cf (AL f) from Ai.get SS.out 0 rfl).rd);have HV:=lh (GI Af cf f wr HRD2.out (by omega));clear yf SS;by_cases hv:Sg.AU f=true
   ·have HVV:=lh hv;go_wp2_with fail
    refine HV.out.mono ?_;rintro e w4 ⟨rfl,he4⟩;have X4:=lh he4;rw[HVV.out];have q4:=(HYF.out.ext he4).cell (j:=0) rfl;have l4:=Au q4;clear he4 q0 ql;have HFF:=lh (IB Af cf f w4 (HG.out.ext (E.out.tr X4.out)).gl (HRD2.out.ext X4.out) (by omega));by_cases ht:tx s=Sg.FM f
    ·have b1:(Sg.FM f == s.toList)=true:=by rw[Bool.beq_comm,CZ];simp[ht]
     have HP:Hid (Sg.Eh (Sg.Cr (tx s))=(Sg.BY f,true)):=lh (by rw[HPJ.out,if_pos ⟨HVV.out,ht.symm⟩];rfl);clear ht hv;go_wp2_with fail
     refine HFF.out.mono ?_;rintro e w5 ⟨rfl,he5⟩;have X5:=lh (X4.out.tr he5);have q5:=(HYF.out.ext X5.out).cell (j:=0) rfl;have l5:=Au q5;clear he5 q4 l4;have HOP:=lh (J7 Af cf f w5 (HRD2.out.ext X5.out) (by omega));go_wp2_with fail
     refine HOP.out.mono ?_;rintro e w6 ⟨A6,rfl,he6,ho6⟩;have X6:=lh (X5.out.tr he6);have O6:=lh (ho6.mono (Nat.le_trans E.out.size X5.out.size));have HN6:=lh (show AD A6≠some w.heap.size from fun e=>by have h1:=ho6.lt e;have h2:=HY2.out.lt;have h3:=X5.out.size;omega);have y2:=HY2.out.ext X6.out;have x2:=y2.cell (j:=0) rfl;have g2:=y2.free 0;have l2:=y2.lt;have Y2:=lh y2;clear y2 he6 ho6 q5 l5;go_wp2;have s0:=(Y2.out.set 0 (.slice A6 (Sg.BY f).length (Sg.BY f).length)).cell (j:=0) rfl;refine bodyPost_ret (v := .tuple #[.agg #[.slice A6 (Sg.BY f).length (Sg.BY f).length],.bool true]) (by simp[results,Tryz.results44,go_sem,s0];try rfl) rfl ?_;rw[HP.out];exact⟨A6,_,rfl,(E.out.tr X6.out).set (p:=⟨w.heap.size,0,none⟩) (Nat.le_refl _) _,O6.out.set HN6.out _⟩
    ·have b1:(Sg.FM f == s.toList)=false:=by rw[Bool.beq_comm,CZ];simp[ht]
     have HN:Hid (Sg.Eh (Sg.Cr (tx s))=([],false)):=lh (Sg.Ey (by rw[HPJ.out,if_neg (fun e=>ht e.2.symm)]));clear ht hv;go_wp2_with fail
     refine HFF.out.mono ?_;rintro e w5 ⟨rfl,he5⟩;have X5:=lh (X4.out.tr he5);clear he5 q4 l4;have y2:Bx w5 w.heap.size [.slice none 0 0]:=HY2.out.ext X5.out;have x2:=y2.cell (j:=0) rfl;have g2:=y2.free 0;have l2:=y2.lt;have Y2:=lh y2;clear y2;go_wp2;have s0:=(Y2.out.set 0 (.slice none 0 0)).cell (j:=0) rfl;refine bodyPost_ret (v := .tuple #[.agg #[.slice none 0 0],.bool false]) (by simp[results,Tryz.results44,go_sem,s0];try rfl) rfl ?_;rw[HN.out];exact⟨none,0,rfl,(E.out.tr X5.out).set (p:=⟨w.heap.size,0,none⟩) (Nat.le_refl _) _,AA.nil _ _ _ _⟩
   ·have HVV:=lh (show Sg.AU f=false by simpa using hv);have HN:Hid (Sg.Eh (Sg.Cr (tx s))=([],false)):=lh (Sg.Ey (by rw[HPJ.out,if_neg (fun e=>hv e.1)]));clear hv;go_wp2_with fail
    refine HV.out.mono ?_;rintro e w4 ⟨rfl,he4⟩;have X4:=lh he4;rw[HVV.out];clear he4 q0 ql;have y2:Bx w4 w.heap.size [.slice none 0 0]:=HY2.out.ext X4.out;have x2:=y2.cell (j:=0) rfl;have g2:=y2.free 0;have l2:=y2.lt;have Y2:=lh y2;clear y2;go_wp2;have s0:=(Y2.out.set 0 (.slice none 0 0)).cell (j:=0) rfl;refine bodyPost_ret (v := .tuple #[.agg #[.slice none 0 0],.bool false]) (by simp[results,Tryz.results44,go_sem,s0];try rfl) rfl ?_;rw[HN.out];exact⟨none,0,rfl,(E.out.tr X4.out).set (p:=⟨w.heap.size,0,none⟩) (Nat.le_refl _) _,AA.nil _ _ _ _⟩
end Go.Proofs.YthibllkleakiiaaGreatDoor
