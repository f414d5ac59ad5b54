/- Parts of one proof, joined. Parts of one proof, joined. The laws' newlines, in memory: its contract, and more. Conditions: in the theorems. -/
import Derived.Test.YthibllkleakiiaaGreatDoorTxL
import Derived.Test.YthibllkleakiiaaGreatDoorTxH
import Derived.Test.YthibllkleakiiaaGreatDoorModelR
import Derived.Test.YthibllkleakiiaaGreatDoorEqAll
namespace Sg
def Mn (p:At)(ys:List Int)(j:Nat):At:=⟨p.kind,if 0<j then ys.getD 0 0 else p.a,if 1<j then ys.getD 1 0 else p.b,if 2<j then ys.getD 2 0 else p.c,p.n⟩
theorem Rz (p:At):(AD p).length=0\/(AD p).length=2\/(AD p).length=3:=by
 unfold AD;split
 ·exact .inr (.inr rfl)
 ·split
  ·exact .inr (.inl rfl)
  ·exact .inl rfl
theorem TJ (p:At)(ys:List Int):Mn p ys 0=p:=by simp[Mn]
theorem Xf (p:At)(ys:List Int):ys.length=0\/ys.length=2\/ys.length=3->LK p ys=Mn p ys ys.length:=by
 match ys with
 | []=>intro _;simp[LK,Mn]
 | [_]=>intro h;simp at h
 | [_,_]=>intro _;rfl
 | [_,_,_]=>intro _;rfl
 | _ :: _ :: _ :: _ :: _=>intro h;simp at h
theorem EK {s:AO}(h:Cz s=none):Ep (Cz s)=([],false):=by rw[h];rfl
theorem NW {ws:List AO}{i:Nat}{x:AO}(h:ws[i]? = some x)(hr:Ji x=none){st:List At × List Int}:Jh (ws.drop i) st=none:=by
 obtain⟨hl,he⟩:=List.getElem?_eq_some_iff.1 h;rw[List.drop_eq_getElem_cons hl,he,Jh];unfold DM;rw[show EF C4 x=none from hr]
theorem TK {ws:List AO}{i:Nat}{x:AO}(h:ws[i]? = some x){p:At}(hr:Ji x=some p)(st:List At × List Int):Jh (ws.drop i) st=if st.2.length<(AD p).length\/st.1.length=12 then none else
  Jh (ws.drop (i+1)) (st.1++[LK p (st.2.drop (st.2.length - (AD p).length))],st.2.take (st.2.length - (AD p).length)++[(st.1.length:Int)]):=by
 obtain⟨hl,he⟩:=List.getElem?_eq_some_iff.1 h;rw[List.drop_eq_getElem_cons hl,he,Jh];unfold DM;rw[show EF C4 x=some p from hr];simp only;by_cases h1:st.2.length<(AD p).length
 ·rw[if_pos h1,if_pos (.inl h1)]
 ·rw[if_neg h1];simp only;by_cases h2:st.1.length=12
  ·rw[if_pos h2,if_pos (.inr h2)]
  ·rw[if_neg h2,if_neg (by rintro (e | e);exact h1 e;exact h2 e)]
end Sg
namespace Go.Proofs.YthibllkleakiiaaGreatDoor
open Go.RowKit
theorem Au.cutO {w:World}{B e n c:Nat}{A:Option Addr}{xs:List Value}(h:Au w B e 1 A n c xs)(i:Nat)(hi:i<=n):Au w B e 1 A i c (xs.take i):=by
 have h1:=h.1;refine⟨by simp;omega,Nat.le_trans hi h.2.1,h.2.2.1,?_⟩;rcases h.2.2.2 with h2 | ⟨g,cur,ha,hb,hh,hc,ht⟩
 ·exact .inl h2
 ·refine .inr ⟨g,cur,ha,hb,hh,hc,?_⟩;rw[<- ht,List.take_take];congr 1
  omega
theorem Ui (p:Sg.At)(ys:List Int){j:Nat}(h:j<3):Dn (Sg.Mn p ys (j+1))=(Dn (Sg.Mn p ys j)).set (j+1) (.int .i64 (ys.getD j 0)):=by
 have:j=0\/j=1\/j=2:=by omega
 rcases this with rfl | rfl | rfl <;> rfl
theorem zq1{p:Prop}(h:p:=by
 have HD:=hf rfl;have HN:=lh (Sg.EK (HPI.out.trans (by rw[HR.out,Sg.NW HY.out (by rw[HRD.out,HD];rfl)])));clear ht hf HD;have y2:Bx v3 w.heap.size [.slice none 0 0]:=(Ai.get S3.out 5 rfl:Bx _ _ _/\_).1;have x2:=y2.cell (j:=0) rfl;have g2:=y2.free 0;have l2:=y2.lt;have Y2:=lh y2;clear y2;go_wp2;have s0:=(Y2.out.set 0 (.slice none 0 0)).cell (j:=0) rfl;refine bodyPost_ret (v := .tuple #[.agg #[.slice none 0 0],.bool false]) (by simp[results,Tryz.results44,go_sem,s0];try rfl) rfl ?_;rw[HN.out];exact⟨none,0,rfl,E3.out.set (p:=⟨w.heap.size,0,none⟩) (Nat.le_refl _) _,Au.nil _ _ _ _⟩):p:=h
set_option maxRecDepth 100000 in
set_option maxHeartbeats 8000000 in
theorem MQ (s:ByteArray)(w:World)(hs:s.size<=1048576)(hG:Ge w) :
  Calls Tryz.prog 44 #[.string s] w fun e w'=>∃ A1 c1,e= .returned (.tuple #[.agg #[.slice A1 (Sg.Ep (Sg.Cz (tx s))).1.length c1],.bool (Sg.Ep (Sg.Cz (tx s))).2])/\Aa w w' /\
   Au w' w.heap.size 111 5 A1 (Sg.Ep (Sg.Cz (tx s))).1.length c1 (AH (Sg.Ep (Sg.Cz (tx s))).1):=by
 have HG:=lh hG;have S1:=Ai.add (B:=w.heap.size) (ts:=[]) (W:=w) trivial (xr.al (.cells #[.slice none 0 0] 68)) (Th.box w.heap.size w.heap.size [.slice none 0 0]) ⟨Bx.new w #[.slice none 0 0] 68,Nat.le_refl _⟩ (fun b e=>by have e2:b=w.heap.size:=e;omega);have S2:=lh (Ai.add S1 (xr.al (.cells #[.slice none 0 0] 68)) (Th.box w.heap.size (w.heap.size+1) [.slice none 0 0]) ⟨by have:=Bx.new (World.alloc w (.cells #[.slice none 0 0] 68)) #[.slice none 0 0] 68;simpa[go_sem] using this,by omega⟩ (fun b e=>by have e2:b=w.heap.size+1:=e;simp[go_sem];omega));have E0:=lh (((Aa.rfl' w).al (.cells #[.slice none 0 0] 68)).al (.cells #[.slice none 0 0] 68));have HSP:=lh fun w' (e:Aa w w')=>SW s w' (by omega) (hG.ext e);have hsum:=Sg.Jy 32 (tx s);rw[<- DU] at hsum;have HWL:=lh (show ∀ p ∈ Sg.AC 32 (tx s),p.length<=1048577 from fun p hp=>by have:=Sg.QX hp;omega);have hwl:(Sg.AC 32 (tx s)).length<=1048577:=by omega
 have HPI:=lh (show Sg.Cz (tx s)=match Sg.Jh (Sg.AC 32 (tx s)) ([],[]) with | some (f,_)=>if Sg.AR f=true/\Sg.EY f=tx s then some (Sg.Bv f) else none | none=>none from rfl);clear S1 hsum hG;generalize Sg.AC 32 (tx s)=ws at *;go_enter Tryz.func44,Tryz.ntmps44;go_wp2_with fail
 refine(HSP.out _ E0.out).mono ?_;rintro e w2 ⟨A2,rfl,he2,ho2⟩;have S3:=Ai.add S2.out he2 (Th.own w.heap.size 9 1 A2 ws.length ws.length (Bh (ws.map ts))) (ho2.mono E0.out.size) (fun b e=>(ho2.lt e).1);have S4:=Ai.add S3 xr (Th.own w.heap.size 3 1 none 0 0 (Ah [])) (Au.nil _ _ _ _) (fun b e=>by simp[Th.own,AE] at e);have S5:=lh (Ai.add S4 xr (Th.own w.heap.size 111 5 none 0 0 (AH [])) (Au.nil _ _ _ _) (fun b e=>by simp[Th.own,AE] at e));have E2:=lh (E0.out.tr he2);clear S3 S4 he2 ho2 S2 E0;go_wp2_with fail
 go_loopw [5,21] (fun s5 s21 wr=>∃ (i:Nat) (f:List Sg.At) (op:List Int) (A5:Option Addr) (c5:Nat) (Af:Option Addr) (cf:Nat),i<=ws.length/\s5= .slice A5 op.length c5/\s21= .int .i64 i/\f.length=i/\f.length<=12/\op.length<=i/\Hid (Sg.Jh ws ([],[])=Sg.Jh (ws.drop i) (f,op))/\Hid (Aa w wr)/\Hid (Ai [Th.own w.heap.size 111 5 Af f.length cf (AH f),Th.own w.heap.size 3 1 A5 op.length c5 (Ah op),Th.own w.heap.size 9 1 A2 ws.length ws.length (Bh (ws.map ts)),Th.box w.heap.size (w.heap.size+1) [.slice Af f.length cf],Th.box w.heap.size w.heap.size [.slice none 0 0]] wr)) (fun _ s21 _=>ws.length - (intOf s21).toNat)
 case atStart=>exact⟨0,[],[],none,0,none,0,Nat.zero_le _,rfl,rfl,rfl,by simp,Nat.le_refl _,lh rfl,E2,S5⟩
 case round =>
  clear S5 E2;obtain⟨i,f,op,A5,c5,Af,cf,hi,rfl,rfl,hfi,hf12,hop,HR,E,SS⟩:=hrel;have Hfi:=lh hfi;clear hfi;by_cases hlt:i<ws.length
  ·obtain⟨bw,ow,x,rfl,hx,hc⟩:=(Ai.get SS.out 2 rfl:Au _ _ _ _ _ _ _ _).rd.atT hlt
   obtain⟨y,hy,rfl⟩:∃ y,ws[i]? = some y/\x=ts y:=by
    rw[List.getElem?_map] at hx;cases hw:ws[i]? with
    | none=>rw[hw] at hx;cases hx
    | some y=>rw[hw] at hx;exact⟨y,rfl,(Option.some.inj hx).symm⟩
   have hyl:=HWL.out y (List.mem_of_getElem? hy);have HY:=lh hy;have bc:=AA hc;have hix:(i:Int)<(ws.length:Int):=by omega
   clear hx hy;go_upto_region 7 with fail
   have hs1:=E.out.size;have S2:=lh (Ai.add SS.out ((Aa.rfl' wr).al (.cells #[.int .i64 0,.int .i64 (-1),.int .i64 (-1),.int .i64 (-1),.int .i64 0] 111)) (Th.box w.heap.size wr.heap.size (Dn ⟨0,-1,-1,-1,0⟩)) ⟨Bx.new wr _ _,hs1⟩ (fun b e=>by have e2:b=wr.heap.size:=e;omega));have E2:=lh (E.out.al (.cells #[.int .i64 0,.int .i64 (-1),.int .i64 (-1),.int .i64 (-1),.int .i64 0] 111));clear hc bc SS E;generalize World.alloc wr (.cells #[.int .i64 0,.int .i64 (-1),.int .i64 (-1),.int .i64 (-1),.int .i64 0] 111)=v2 at *;generalize wr.heap.size=bp at *;have hbp:w.heap.size<=bp:=hs1;clear hs1;obtain⟨⟨⟨bg,og,cg,hg0,hg1⟩,-⟩,-,-,-⟩:=HG.out.ext E2.out;have HIX:=lh (Vg (ts y) v2 bg og cg hg1);have bg0:=AA hg0;clear hg1;obtain⟨ap,hap⟩:∃ ap:Int,ap=if Sg.C9 (tx (ts y)) = -1 then -1 else Sg.C9 (tx (ts y)) - 2:=⟨_,rfl⟩
   rw[<- hap] at HIX;rw[Fm] at hap;have HAP:=lh hap;clear hap;go_upto_if 30 with (go_at_call 42;refine HIX.out.mono ?_;rintro e w' ⟨rfl,rfl⟩)
   go_cut [9] (fun s9 wx=>∃ p:Sg.At,s9= .int .i64 ((Sg.AD p).length:Int)/\Hid (Sg.Ji y=some p)/\Hid (Aa w wx)/\Hid (Ai [Th.box w.heap.size bp (Dn p),Th.own w.heap.size 111 5 Af f.length cf (AH f),Th.own w.heap.size 3 1 A5 op.length c5 (Ah op),Th.own w.heap.size 9 1 (some ⟨bw,ow,none⟩) ws.length ws.length (Bh (ws.map ts)),Th.box w.heap.size (w.heap.size+1) [.slice Af f.length cf],Th.box w.heap.size w.heap.size [.slice none 0 0]] wx))
   case first =>
    clear HIX hg0 bg0;have yb:Bx v2 bp (Dn ⟨0,-1,-1,-1,0⟩):=(Ai.get S2.out 0 rfl:Bx _ _ _/\_).1;have z0:=yb.cell (j:=0) rfl;have f0:=yb.free 0;have zl:=yb.lt;have YB:=lh yb;clear yb;rcases Sg.EJ y with hk | ⟨hk2,hk8,-⟩
    ·obtain rfl:ap = -1:=by rw[HAP.out,if_pos hk]
     by_cases hh:y.head? = some 114
     ·have HCR:=Vh (ts y);rw[Fm,if_pos hh,decide_eq_true hh] at HCR;have HCR:=lh HCR;have HRD:=lh (show Sg.Ji y=(Sg.C4 y.tail).map fun (n:Nat)=>(⟨1,-1,-1,-1,(n:Int)⟩:Sg.At) by unfold Sg.Ji Sg.EF;rw[hk,if_neg (by simp),if_pos hh]);have htl:(ts y.tail).size<=2100000:=by rw[BB];have:=List.length_tail (l:=y);omega
      have HDC:=lh fun w' (e:Aa w w')=>JI (ts y.tail) htl w' (HG.out.ext e);clear hh hk;clear z0 f0 zl;go_wp2_with fail
      refine(HCR.out _).mono ?_;rintro e w' ⟨rfl,rfl⟩;go_wp2_with fail
      refine(HDC.out _ E2.out).mono ?_;rintro e v3 ⟨n,ok,rfl,he3,ht,hf⟩;rw[Fm] at ht hf;have E3:=lh (E2.out.tr he3);have S3:=lh (Ai.ext S2.out he3);clear E2 S2 he3 YB;cases ok
      ·exact zq1
      ·obtain⟨q,rfl,hq⟩:=ht rfl;have HRQ:=lh (show Sg.Ji y=some ⟨1,-1,-1,-1,(q:Int)⟩ by rw[HRD.out,hq];rfl);clear ht hf hq;have y7:Bx v3 bp (Dn ⟨0,-1,-1,-1,0⟩):=(Ai.get S3.out 0 rfl:Bx _ _ _/\_).1;have z4:=y7.cell (j:=4) rfl;have f4:=y7.free 4;have zl:=y7.lt;have Y7:=lh y7;clear y7;have S4:=lh (Ai.st S3.out 0 rfl ⟨bp,4,none⟩ (.int .i64 q) rfl (Th.box w.heap.size bp (Dn ⟨0,-1,-1,-1,q⟩)) ⟨Y7.out.set 4 _,hbp⟩ (fun _ e=>e));have E4:=lh (E3.out.set (p:=⟨bp,4,none⟩) hbp (.int .i64 q));go_upto_region 17 with fail
       generalize World.setCell v3 ⟨bp,4,none⟩ (.int .i64 q)=v4 at *;clear z4 f4 zl Y7 S3 E3;have y7:Bx v4 bp (Dn ⟨0,-1,-1,-1,q⟩):=(Ai.get S4.out 0 rfl:Bx _ _ _/\_).1;have z0:=y7.cell (j:=0) rfl;have f0:=y7.free 0;have zl:=y7.lt;have Y7:=lh y7;clear y7;have S5:=lh (Ai.st S4.out 0 rfl ⟨bp,0,none⟩ (.int .i64 1) rfl (Th.box w.heap.size bp (Dn ⟨1,-1,-1,-1,q⟩)) ⟨Y7.out.set 0 _,hbp⟩ (fun _ e=>e));have E5:=lh (E4.out.set (p:=⟨bp,0,none⟩) hbp (.int .i64 1));go_wp2_with fail
       go_meet
       exact⟨⟨1,-1,-1,-1,q⟩,rfl,HRQ,E5,S5⟩
     ·have HCR:=Vh (ts y);rw[Fm,if_neg hh,decide_eq_false hh] at HCR;have HCR:=lh HCR;have HRD:=lh (show Sg.Ji y=(Sg.C4 y).map fun (n:Nat)=>(⟨0,-1,-1,-1,(n:Int)⟩:Sg.At) by unfold Sg.Ji Sg.EF;rw[hk,if_neg (by simp),if_neg hh]);have htl:(ts y).size<=2100000:=by rw[BB];omega
      have HDC:=lh fun w' (e:Aa w w')=>JI (ts y) htl w' (HG.out.ext e);clear hh hk;clear z0 f0 zl;go_wp2_with fail
      refine(HCR.out _).mono ?_;rintro e w' ⟨rfl,rfl⟩;go_wp2_with fail
      refine(HDC.out _ E2.out).mono ?_;rintro e v3 ⟨n,ok,rfl,he3,ht,hf⟩;rw[Fm] at ht hf;have E3:=lh (E2.out.tr he3);have S3:=lh (Ai.ext S2.out he3);clear E2 S2 he3 YB;cases ok
      ·exact zq1
      ·obtain⟨q,rfl,hq⟩:=ht rfl;have HRQ:=lh (show Sg.Ji y=some ⟨0,-1,-1,-1,(q:Int)⟩ by rw[HRD.out,hq];rfl);clear ht hf hq;have y7:Bx v3 bp (Dn ⟨0,-1,-1,-1,0⟩):=(Ai.get S3.out 0 rfl:Bx _ _ _/\_).1;have z4:=y7.cell (j:=4) rfl;have f4:=y7.free 4;have zl:=y7.lt;have Y7:=lh y7;clear y7;have S4:=lh (Ai.st S3.out 0 rfl ⟨bp,4,none⟩ (.int .i64 q) rfl (Th.box w.heap.size bp (Dn ⟨0,-1,-1,-1,q⟩)) ⟨Y7.out.set 4 _,hbp⟩ (fun _ e=>e));have E4:=lh (E3.out.set (p:=⟨bp,4,none⟩) hbp (.int .i64 q));go_upto_region 17 with fail
       generalize World.setCell v3 ⟨bp,4,none⟩ (.int .i64 q)=v4 at *;clear z4 f4 zl Y7 S3 E3;go_wp2_with fail
       go_meet
       exact⟨⟨0,-1,-1,-1,q⟩,rfl,HRQ,E4,S4⟩
    ·obtain rfl:ap=Sg.C9 y - 2:=by rw[HAP.out,if_neg (by omega)]
     have HRD:=lh (show Sg.Ji y=some ⟨Sg.C9 y,-1,-1,-1,0⟩ by unfold Sg.Ji Sg.EF;rw[if_pos (by omega)]);clear HAP;generalize Sg.C9 y=k at *;have iw:2+(k - 2)=k:=by omega
     have hge:k - 2 ≥ 0:=by omega
     have SN:=lh (Ai.st S2.out 0 rfl ⟨bp,0,none⟩ (.int .i64 k) rfl (Th.box w.heap.size bp (Dn ⟨k,-1,-1,-1,0⟩)) ⟨YB.out.set 0 _,hbp⟩ (fun _ e=>e));have EN:=lh (E2.out.set (p:=⟨bp,0,none⟩) hbp (.int .i64 k));go_upto_region 11 with fail
     generalize World.setCell v2 ⟨bp,0,none⟩ (.int .i64 k)=v3 at *;clear z0 f0 zl YB S2 E2;have y7:Bx v3 bp (Dn ⟨k,-1,-1,-1,0⟩):=(Ai.get SN.out 0 rfl:Bx _ _ _/\_).1;have z0:=y7.cell (j:=0) rfl;have z1:=y7.cell (j:=1) rfl;have z2:=y7.cell (j:=2) rfl;have z3:=y7.cell (j:=3) rfl;have z4:=y7.cell (j:=4) rfl;have zl:=y7.lt;clear y7;have HBW:=lh (Ph ⟨k,-1,-1,-1,0⟩ v3);go_wp2_with fail
     refine HBW.out.mono ?_;rintro e v4 ⟨A9,c9,rfl,-,he4⟩;have E4:=lh (EN.out.tr he4);have S4:=lh (Ai.ext SN.out he4);clear he4;go_wp2_with fail
     go_meet
     exact⟨⟨k,-1,-1,-1,0⟩,rfl,HRD,E4,S4⟩
   case rest =>
    clear HIX hg0 bg0 S2 E2 HAP;obtain⟨p,rfl,HRD,E3,S3⟩:=hcut;have HRI:=lh (Sg.TK HY.out HRD.out (f,op));have hm3:=Sg.GA p;have HSB:=lh (Sg.Xf p (op.drop (op.length - (Sg.AD p).length)));generalize hml:(Sg.AD p).length=m at *;have HML:=lh hml;clear hml;have yf:Bx wc (w.heap.size+1) [.slice Af f.length cf]:=(Ai.get S3.out 4 rfl:Bx _ _ _/\_).1;have q0:=yf.cell (j:=0) rfl;have ql:=yf.lt;clear yf;by_cases hlo:op.length<m
    ·have hlx:(op.length:Int)<(m:Int):=by omega
     have HN:=lh (Sg.EK (HPI.out.trans (by rw[HR.out,HRI.out,if_pos (.inl hlo)])));have y2:Bx wc w.heap.size [.slice none 0 0]:=(Ai.get S3.out 5 rfl:Bx _ _ _/\_).1;have x2:=y2.cell (j:=0) rfl;have g2:=y2.free 0;have l2:=y2.lt;have Y2:=lh y2;clear y2;go_wp2;have s0:=(Y2.out.set 0 (.slice none 0 0)).cell (j:=0) rfl;refine bodyPost_ret (v := .tuple #[.agg #[.slice none 0 0],.bool false]) (by simp[results,Tryz.results44,go_sem,s0];try rfl) rfl ?_;rw[HN.out];exact⟨none,0,rfl,E3.out.set (p:=⟨w.heap.size,0,none⟩) (Nat.le_refl _) _,Au.nil _ _ _ _⟩
    ·have hlx:¬ (op.length:Int)<(m:Int):=by omega
     by_cases h12:f.length=12
     ·have b12:((f.length:Int) == 12)=true:=by simp[h12]
      have H12:=lh h12;clear h12;have HN:=lh (Sg.EK (HPI.out.trans (by rw[HR.out,HRI.out,if_pos (.inr H12.out)])));have y2:Bx wc w.heap.size [.slice none 0 0]:=(Ai.get S3.out 5 rfl:Bx _ _ _/\_).1;have x2:=y2.cell (j:=0) rfl;have g2:=y2.free 0;have l2:=y2.lt;have Y2:=lh y2;clear y2;go_wp2;have s0:=(Y2.out.set 0 (.slice none 0 0)).cell (j:=0) rfl;refine bodyPost_ret (v := .tuple #[.agg #[.slice none 0 0],.bool false]) (by simp[results,Tryz.results44,go_sem,s0];try rfl) rfl ?_;rw[HN.out];exact⟨none,0,rfl,E3.out.set (p:=⟨w.heap.size,0,none⟩) (Nat.le_refl _) _,Au.nil _ _ _ _⟩
     ·have b12:((f.length:Int) == 12)=false:=by simp;omega
      have H12:=lh h12;clear h12;go_upto_region 22 with fail
      have S4:=lh (Ai.add S3.out ((Aa.rfl' wc).al (.cells #[.pointer (some ⟨bp,1,none⟩),.pointer (some ⟨bp,2,none⟩),.pointer (some ⟨bp,3,none⟩)] 127)) (Th.box w.heap.size wc.heap.size [.pointer (some ⟨bp,1,none⟩),.pointer (some ⟨bp,2,none⟩),.pointer (some ⟨bp,3,none⟩)]) ⟨Bx.new wc _ _,E3.out.size⟩ (fun b e=>by have e2:b=wc.heap.size:=e;omega));have E4:=lh (E3.out.al (.cells #[.pointer (some ⟨bp,1,none⟩),.pointer (some ⟨bp,2,none⟩),.pointer (some ⟨bp,3,none⟩)] 127));clear S3 E3 q0 ql;generalize World.alloc wc (.cells #[.pointer (some ⟨bp,1,none⟩),.pointer (some ⟨bp,2,none⟩),.pointer (some ⟨bp,3,none⟩)] 127)=v4 at *;generalize wc.heap.size=bt at *;have ixl:IntKind.i64.wrap ((op.length:Int) - (m:Int))=((op.length - m:Nat):Int):=by rw[IntWalk.i64_in _ (by omega)];omega
      have hlm:op.length - (op.length - m)=m:=by omega
      have hl0:(0:Int)<=((op.length - m:Nat):Int):=by omega
      have hl1:((op.length - m:Nat):Int)<=(op.length:Int):=by omega
      have HO5:=lh (show Au v4 w.heap.size 3 1 A5 op.length c5 (Ah op) from Ai.get S4.out 3 rfl);go_cut [5,9,74,75,76] (fun s5 s9 s74 s75 s76 wx=>∃ (A9:Option Addr) (c9:Nat),s5= .slice A5 op.length c5/\s9= .int .i64 (m:Int)/\s74= .slice A9 m c9/\s75= .int .i64 (m:Int)/\s76= .int .i64 0/\Hid (m=0\/∃ b5,A5=some ⟨b5,0,none⟩/\A9=some ⟨b5,op.length - m,none⟩)/\wx=v4)
      case first =>
       have hc5:=HO5.out.2.1;have hc6:((op.length - m:Nat):Int)<=(c5:Int):=by omega
       rcases A5 with _ | a5
       ·have hz:c5=0:=by
         rcases HO5.out.2.2.2 with ⟨-,h0⟩ | ⟨g,cur,e,-⟩
         ·exact h0
         ·cases e
        obtain rfl:m=0:=by omega
        have ho0:op.length=0:=by omega
        subst hz;go_wp2_with fail
        go_meet
        exact⟨none,0,by simp[ho0],by simp,by simp,by simp,rfl,lh (by first | exact .inl rfl | exact .inl trivial),rfl⟩
       ·obtain⟨b5,rfl⟩:∃ b5,a5=⟨b5,0,none⟩:=by
         rcases HO5.out.2.2.2 with ⟨e,-⟩ | ⟨g,cur,e,-⟩
         ·cases e
         ·exact⟨g,Option.some.inj e⟩
        by_cases hcap:c5=op.length - m
        ·obtain rfl:m=0:=by omega
         have hcap2:c5=op.length:=by omega
         clear hcap;go_wp2_with fail
         all_goals (go_meet;first | exact⟨_,_,by simp[hcap2],by simp,rfl,by simp,rfl,lh (by first | exact .inl rfl | exact .inl trivial),rfl⟩ | exact⟨some ⟨b5,0,none⟩,op.length,by simp[hcap2],by simp,by simp[hcap2],by simp[hcap2],rfl,lh (by first | exact .inl rfl | exact .inl trivial),rfl⟩ | exact⟨some ⟨b5,0,none⟩,0,by simp[hcap2],by simp,by simp[hcap2],by simp[hcap2],rfl,lh (by first | exact .inl rfl | exact .inl trivial),rfl⟩)
        ·have hc7:((op.length - m:Nat):Int)<(c5:Int):=by omega
         go_wp2_with fail
         go_meet
         exact⟨_,_,rfl,rfl,by first | rfl | rw[hlm],by first | rfl | rw[hlm],rfl,lh (.inr ⟨b5,rfl,by simp⟩),rfl⟩
      case rest =>
       clear HO5;obtain⟨A9,c9,rfl,rfl,rfl,rfl,rfl,H9,rfl⟩:=hcut;go_wp2_with fail
       go_loopw [76] (fun s76 wr=>∃ j:Nat,j<=m/\s76= .int .i64 j/\Hid (Aa w wr)/\Hid (Ai [Th.box w.heap.size bt [.pointer (some ⟨bp,1,none⟩),.pointer (some ⟨bp,2,none⟩),.pointer (some ⟨bp,3,none⟩)],Th.box w.heap.size bp (Dn (Sg.Mn p (op.drop (op.length - m)) j)),Th.own w.heap.size 111 5 Af f.length cf (AH f),Th.own w.heap.size 3 1 A5 op.length c5 (Ah op),Th.own w.heap.size 9 1 (some ⟨bw,ow,none⟩) ws.length ws.length (Bh (ws.map ts)),Th.box w.heap.size (w.heap.size+1) [.slice Af f.length cf],Th.box w.heap.size w.heap.size [.slice none 0 0]] wr)) (fun s76 _=>m - (intOf s76).toNat)
       case atStart=>exact⟨0,Nat.zero_le _,rfl,E4,by rw[Sg.TJ];exact S4⟩
       case round =>
        clear S4 E4;obtain⟨j,hj,rfl,X4,S4⟩:=hrel;by_cases hjm:j<m
        ·have hj3:j<3:=by omega
         have hj3x:(j:Int)<3:=by omega
         have hjx:(j:Int)<(m:Int):=by omega
         obtain⟨b5,rfl,rfl⟩:∃ b5,A5=some ⟨b5,0,none⟩/\A9=some ⟨b5,op.length - m,none⟩:=by
          rcases H9.out with e | e
          ·omega
          ·exact e
         obtain⟨z,hz,cz⟩:=Om (Ai.get S4.out 3 rfl:Au _ _ _ _ _ _ _ _).rd (show op.length - m+j<op.length by omega);rw[Nat.zero_add] at cz;have bz:=AA cz;have HZ:=lh (show (op.drop (op.length - m)).getD j 0=z by rw[g_d,List.getElem?_drop,hz];rfl);clear hz;have yt:Bx wr bt [.pointer (some ⟨bp,1,none⟩),.pointer (some ⟨bp,2,none⟩),.pointer (some ⟨bp,3,none⟩)]:=(Ai.get S4.out 0 rfl:Bx _ _ _/\_).1;have ut:=yt.cell (Qx bp hj3);have ult:=yt.lt;have yb:Bx wr bp (Dn (Sg.Mn p (op.drop (op.length - m)) j)):=(Ai.get S4.out 1 rfl:Bx _ _ _/\_).1;have YB:=lh yb;have u0:=yb.cell (MT _ hj3);have uf:=yb.free (j+1);have ul:=yb.lt;generalize (Dn (Sg.Mn p (op.drop (op.length - m)) j)).getD (j+1) undef=uv at *;have SN:=lh (Ai.st S4.out 1 rfl ⟨bp,j+1,none⟩ (.int .i64 z) rfl (Th.box w.heap.size bp (Dn (Sg.Mn p (op.drop (op.length - m)) (j+1)))) ⟨by rw[Ui p _ hj3,HZ.out];exact YB.out.set (j+1) _,hbp⟩ (fun _ e=>e));have EN:=lh (X4.out.set (p:=⟨bp,j+1,none⟩) hbp (.int .i64 z));clear yt yb YB S4 X4;go_wp2;go_roundw
         case rel=>exact⟨j+1,by omega,by go_num,EN,SN⟩
         case measure=>simp[intOf];omega
        ·obtain rfl:j=m:=by omega
         have HOC:=lh (show Au wr w.heap.size 3 1 A5 (op.length - j) c5 (Ah (op.take (op.length - j))) by have:=(show Au wr w.heap.size 3 1 A5 op.length c5 (Ah op) from Ai.get S4.out 3 rfl).cutO (op.length - j) (by omega);simpa[Ah,List.map_take] using this);have hc5:=(show Au wr w.heap.size 3 1 A5 op.length c5 (Ah op) from Ai.get S4.out 3 rfl).2.1;have hc6:((op.length - j:Nat):Int)<=(c5:Int):=by omega
         have HNF:=lh (show AE A5≠some (w.heap.size+1) from fun e=>S4.out.tail.tail.tail.2.1 (Th.box w.heap.size (w.heap.size+1) [.slice Af f.length cf]) (by simp) _ e rfl);have yf:Bx wr (w.heap.size+1) [.slice Af f.length cf]:=(Ai.get S4.out 5 rfl:Bx _ _ _/\_).1;have q0:=yf.cell (j:=0) rfl;have Q:=lh q0;have ql:=yf.lt;clear yf;have E0:=lh ((Aa.rfl' wr).dr);clear H9;go_wp2_with fail
         refine zb 11 (fun W=>W.cell? ⟨w.heap.size+1,0,none⟩=some (.slice Af f.length cf)) ?_ (fun hHeld=>?_)
         ·exact E0.out.cellE Q.out
         refine zy 0 ?_;refine zy 1 ?_;refine zy 2 ?_;refine zy 3 ?_;refine zy 4 ?_;refine zy 5 ?_;refine zy 6 ?_;refine zy 7 ?_;refine zy 8 ?_;refine zr 9 rfl fun K hK=>?_;go_simp;try simp only[pg]
         refine zh (hK.out _ _) ((E0.out.al (.cells #[.int .i64 (f.length:Int)] 3)).cellE Q.out) fun hHeld=>?_;clear hK K;try simp only[Act.put,pu]
         refine zr 10 rfl fun K hK=>?_;refine CP (w:=wr.drew) (cs:=[.int .i64 (f.length:Int)]) rfl rfl Bc rfl HOC.out.dr rfl rfl (Bn .i64 _) (by omega) (by omega) (by simpa using X4.out.size) ?_;intro A7 c7 w7 hown7 hg7 hat7;have CF8:=AP hg7 (E0.out.cellE Q.out) (fun e=>HNF.out e);try simp only[pg]
         refine zh (hK.out _ _) (CF8) fun hHeld=>?_;clear hK K;try simp only[Act.put,pu]
         refine zr 11 rfl fun K hK=>?_;go_simp;refine hK.out _ _ (fun e=>absurd rfl e) (fun hh=>?_);clear hK K hHeld hh;try simp only[Act.put,pu]
         refine zn ?_;have HN7:=lh hown7;have S7:=lh (Ai.app (Ai.ext S4.out E0.out) 3 rfl hown7 hg7 hat7);have X7:=lh (X4.out.dr.gr hg7 fun x hx=>(HOC.out.dr.lt hx).1);clear hown7 hg7 hat7 CF8 q0 ql Q HOC HNF E0 S4 X4;go_upto_region 28 with fail
         have e1:(op.drop (op.length - j)).length=j:=by rw[List.length_drop];omega
         have HSB2:=HSB.out;rw[e1] at HSB2;have HSJ:=lh (HSB2 (by have:=Sg.Rz p;rw[HML.out] at this;exact this));clear e1 HSB2;generalize hpq:Sg.Mn p (op.drop (op.length - j)) j=q at *;clear hpq;obtain⟨qk,qa,qb,qc,qn⟩:=q;try dsimp only at *
         have yp:Bx w7 bp (Dn ⟨qk,qa,qb,qc,qn⟩):=(Ai.get S7.out 1 rfl:Bx _ _ _/\_).1;have p0:=yp.cell (j:=0) rfl;have p1:=yp.cell (j:=1) rfl;have p2:=yp.cell (j:=2) rfl;have p3:=yp.cell (j:=3) rfl;have p4:=yp.cell (j:=4) rfl;have lp:=yp.lt;have yf:Bx w7 (w.heap.size+1) [.slice Af f.length cf]:=(Ai.get S7.out 5 rfl:Bx _ _ _/\_).1;have q0:=yf.cell (j:=0) rfl;have lf:=yf.lt;clear yp yf;have HOF:=lh (show Au w7 w.heap.size 111 5 Af f.length cf (AH f) from Ai.get S7.out 2 rfl);have HPC:=lh (IE ⟨qk,qa,qb,qc,qn⟩);have eL:=lh (show f.length+1<=1099511627776 by omega);have eW:=lh (show w.heap.size<=w7.heap.size from X7.out.size);go_wp2_with (at_builtin;refine AB (cs:=Dn ⟨qk,qa,qb,qc,qn⟩) rfl rfl FL rfl HOF.out rfl rfl HPC.out eL.out (by omega) eW.out ?_;intro A8 c8 v6 hown8 hg8 hat8;have S6:=lh (Ai.app S7.out 2 rfl hown8 hg8 hat8);have E6:=lh (X7.out.gr hg8 fun x hx=>(HOF.out.lt hx).1);clear hown8 hg8 hat8 S7 X7 HOF p0 p1 p2 p3 p4 lp q0 lf;have y6:Bx v6 (w.heap.size+1) [.slice Af f.length cf]:=(Ai.get S6.out 5 rfl:Bx _ _ _/\_).1;have r6:=y6.cell (j:=0) rfl;have f6:=y6.free 0;have l6:=y6.lt;have Y6:=lh y6;clear y6)
         have S8:=lh (Ai.tail (Ai.tail (Ai.st S6.out 5 rfl ⟨w.heap.size+1,0,none⟩ (.slice A8 (f.length+1) c8) rfl (Th.box w.heap.size (w.heap.size+1) [.slice A8 (f.length+1) c8]) ⟨Y6.out.set 0 _,by omega⟩ (fun _ e=>e))));have E8:=lh (E6.out.set (p:=⟨w.heap.size+1,0,none⟩) (by simp) (.slice A8 (f.length+1) c8));clear S6 E6 Y6;have ef:AH f++Dn ⟨qk,qa,qb,qc,qn⟩=AH (f++[⟨qk,qa,qb,qc,qn⟩]):=by simp[AH]
         have el:f.length+1=(f++[(⟨qk,qa,qb,qc,qn⟩:Sg.At)]).length:=by simp
         have eo:Ah (op.take (op.length - j))++[Value.int .i64 (f.length:Int)]=Ah (op.take (op.length - j)++[(f.length:Int)]):=by simp[Ah]
         have em:op.length - j+1=(op.take (op.length - j)++[(f.length:Int)]).length:=by rw[List.length_append,List.length_take,List.length_singleton];omega
         have hfi2:=Hfi.out;have h122:=H12.out;have HST:=lh (show Sg.Jh ws ([],[])=Sg.Jh (ws.drop (i+1)) (f++[⟨qk,qa,qb,qc,qn⟩],op.take (op.length - j)++[(f.length:Int)]) by rw[HR.out,HRI.out,if_neg (by rintro (e | e);exact hlo e;exact h122 e),HSJ.out]);generalize World.setCell v6 ⟨w.heap.size+1,0,none⟩ (.slice A8 (f.length+1) c8)=v9 at *;rw[ef,eo,em] at S8;rw[el] at S8;go_roundw
         case rel=>exact⟨i+1,f++[(⟨qk,qa,qb,qc,qn⟩:Sg.At)],op.take (op.length - j)++[(f.length:Int)],A7,c7,A8,c8,by omega,by rw[<- em],by go_num,by rw[<- el,hfi2],by rw[<- el];omega,by rw[<- em];omega,HST,E8,S8⟩
         case measure=>simp[intOf];omega
  ·have HRW:=lh (show Sg.Jh ws ([],[])=some (f,op) by rw[HR.out,List.drop_eq_nil_of_le (by omega)];rfl);have HPJ:=lh (show Sg.Cz (tx s)=if Sg.AR f=true/\Sg.EY f=tx s then some (Sg.Bv f) else none by rw[HPI.out,HRW.out]);have yf:Bx wr (w.heap.size+1) [.slice Af f.length cf]:=(Ai.get SS.out 3 rfl:Bx _ _ _/\_).1;have HYF:=lh yf;have q0:=yf.cell (j:=0) rfl;have ql:=yf.lt;have HY2:=lh (show Bx wr w.heap.size [.slice none 0 0] from (Ai.get SS.out 4 rfl:Bx _ _ _/\_).1);have HRD2:=lh ((show Au wr w.heap.size 111 5 Af f.length cf (AH f) from Ai.get SS.out 0 rfl).rd);have HV:=lh (Hh Af cf f wr HRD2.out (by omega));clear yf SS;by_cases hv:Sg.AR f=true
   ·have HVV:=lh hv;go_wp2_with fail
    refine HV.out.mono ?_;rintro e w4 ⟨rfl,he4⟩;have X4:=lh he4;rw[HVV.out];have q4:=(HYF.out.ext he4).cell (j:=0) rfl;have l4:=AA q4;clear he4 q0 ql;have HFF:=lh (I9 Af cf f w4 (HG.out.ext (E.out.tr X4.out)).gl (HRD2.out.ext X4.out) (by omega));by_cases ht:tx s=Sg.EY f
    ·have b1:(Sg.EY f == s.toList)=true:=by rw[Bool.beq_comm,C_];simp[ht]
     have HP:Hid (Sg.Ep (Sg.Cz (tx s))=(Sg.Bv f,true)):=lh (by rw[HPJ.out,if_pos ⟨HVV.out,ht.symm⟩];rfl);clear ht hv;go_wp2_with fail
     refine HFF.out.mono ?_;rintro e w5 ⟨rfl,he5⟩;have X5:=lh (X4.out.tr he5);have q5:=(HYF.out.ext X5.out).cell (j:=0) rfl;have l5:=AA q5;clear he5 q4 l4;have HOP:=lh (KA Af cf f w5 (HRD2.out.ext X5.out) (by omega));go_wp2_with fail
     refine HOP.out.mono ?_;rintro e w6 ⟨A6,rfl,he6,ho6⟩;have X6:=lh (X5.out.tr he6);have O6:=lh (ho6.mono (Nat.le_trans E.out.size X5.out.size));have HN6:=lh (show AE A6≠some w.heap.size from fun e=>by have h1:=ho6.lt e;have h2:=HY2.out.lt;have h3:=X5.out.size;omega);have y2:=HY2.out.ext X6.out;have x2:=y2.cell (j:=0) rfl;have g2:=y2.free 0;have l2:=y2.lt;have Y2:=lh y2;clear y2 he6 ho6 q5 l5;go_wp2;have s0:=(Y2.out.set 0 (.slice A6 (Sg.Bv f).length (Sg.Bv f).length)).cell (j:=0) rfl;refine bodyPost_ret (v := .tuple #[.agg #[.slice A6 (Sg.Bv f).length (Sg.Bv f).length],.bool true]) (by simp[results,Tryz.results44,go_sem,s0];try rfl) rfl ?_;rw[HP.out];exact⟨A6,_,rfl,(E.out.tr X6.out).set (p:=⟨w.heap.size,0,none⟩) (Nat.le_refl _) _,O6.out.set HN6.out _⟩
    ·have b1:(Sg.EY f == s.toList)=false:=by rw[Bool.beq_comm,C_];simp[ht]
     have HN:Hid (Sg.Ep (Sg.Cz (tx s))=([],false)):=lh (Sg.EK (by rw[HPJ.out,if_neg (fun e=>ht e.2.symm)]));clear ht hv;go_wp2_with fail
     refine HFF.out.mono ?_;rintro e w5 ⟨rfl,he5⟩;have X5:=lh (X4.out.tr he5);clear he5 q4 l4;have y2:Bx w5 w.heap.size [.slice none 0 0]:=HY2.out.ext X5.out;have x2:=y2.cell (j:=0) rfl;have g2:=y2.free 0;have l2:=y2.lt;have Y2:=lh y2;clear y2;go_wp2;have s0:=(Y2.out.set 0 (.slice none 0 0)).cell (j:=0) rfl;refine bodyPost_ret (v := .tuple #[.agg #[.slice none 0 0],.bool false]) (by simp[results,Tryz.results44,go_sem,s0];try rfl) rfl ?_;rw[HN.out];exact⟨none,0,rfl,(E.out.tr X5.out).set (p:=⟨w.heap.size,0,none⟩) (Nat.le_refl _) _,Au.nil _ _ _ _⟩
   ·have HVV:=lh (show Sg.AR f=false by simpa using hv);have HN:Hid (Sg.Ep (Sg.Cz (tx s))=([],false)):=lh (Sg.EK (by rw[HPJ.out,if_neg (fun e=>hv e.1)]));clear hv;go_wp2_with fail
    refine HV.out.mono ?_;rintro e w4 ⟨rfl,he4⟩;have X4:=lh he4;rw[HVV.out];clear he4 q0 ql;have y2:Bx w4 w.heap.size [.slice none 0 0]:=HY2.out.ext X4.out;have x2:=y2.cell (j:=0) rfl;have g2:=y2.free 0;have l2:=y2.lt;have Y2:=lh y2;clear y2;go_wp2;have s0:=(Y2.out.set 0 (.slice none 0 0)).cell (j:=0) rfl;refine bodyPost_ret (v := .tuple #[.agg #[.slice none 0 0],.bool false]) (by simp[results,Tryz.results44,go_sem,s0];try rfl) rfl ?_;rw[HN.out];exact⟨none,0,rfl,(E.out.tr X4.out).set (p:=⟨w.heap.size,0,none⟩) (Nat.le_refl _) _,Au.nil _ _ _ _⟩
end Go.Proofs.YthibllkleakiiaaGreatDoor
namespace Sg
open Go
theorem IV {s:AO}(h:Fs s=none):Ff (Dc s)=([],[],false):=by rw[Kq,h];rfl
def MG:List ByteArray:=[⟨#[99,101,108,108]⟩,⟨#[100,101,114,105,118,101,100]⟩,⟨#[101,102,102,101,99,116]⟩]
def Lo (w:AO):Int:=if w=De then 0 else if w=EZ then 1 else if w=E_ then 2 else -1
theorem Lp (w:AO):(Lo w = -1/\w≠De/\w≠EZ/\w≠E_)\/(Lo w=0/\w=De)\/(Lo w=1/\w=EZ)\/(Lo w=2/\w=E_):=by
 unfold Lo;by_cases h0:w=De
 ·exact .inr (.inl ⟨by rw[if_pos h0],h0⟩)
 ·by_cases h1:w=EZ
  ·exact .inr (.inr (.inl ⟨by rw[if_neg h0,if_pos h1],h1⟩))
  ·by_cases h2:w=E_
   ·exact .inr (.inr (.inr ⟨by rw[if_neg h0,if_neg h1,if_pos h2],h2⟩))
   ·exact .inl ⟨by rw[if_neg h0,if_neg h1,if_neg h2],h0,h1,h2⟩
theorem UY {l w t:AO}{b:Bool}(h:Lib.cut l [32]=(w,t,b)):DS l=if w=De then (C4 t).map fun (n:Nat)=>((⟨0,[]⟩:BV),(n:Int)) else if w=EZ then (Cz t).map fun f=>(⟨1,f⟩,0) else if w=E_ then (Cz t).map fun f=>(⟨2,f⟩,0) else none:=by
 unfold DS;rw[h]
end Sg
namespace Go.Proofs.YthibllkleakiiaaGreatDoor
open Go.RowKit
def X0 (v:Value):Nat:=match v with | .string s=>s.size | _=>0
theorem Xa (r:Sg.AO)(c:UInt8)(w:World)(hr:r.length<=2000000)(hG:Ge w) :
  Calls Tryz.prog 41 #[.string (ts r),.string ⟨#[c]⟩] w fun e w'=>e= .returned (.tuple #[.string (ts (Lib.cut r [c]).1),.string (ts (Lib.cut r [c]).2.1),.bool (Lib.cut r [c]).2.2])/\Aa w w':=by
 obtain⟨m,hm⟩:=hG.max;refine(Tryz.strings_Cut (ts r) ⟨#[c]⟩ m w (by rw[BB];omega) hm).mono ?_;rintro e w' ⟨rfl,n,rfl⟩;exact⟨rfl,rfl,rfl,rfl,by simp[World.drewN],fun b hb=>rfl⟩
theorem VE (s:Sg.AO)(w:World)(b c:Nat)(h0:w.cell? ⟨b,0,none⟩=some (.string ⟨#[99,101,108,108]⟩))(h1:w.cell? ⟨b,1,none⟩=some (.string ⟨#[100,101,114,105,118,101,100]⟩))(h2:w.cell? ⟨b,2,none⟩=some (.string ⟨#[101,102,102,101,99,116]⟩)) :
  Calls Tryz.prog 42 #[.slice (some ⟨b,0,none⟩) 3 c,.string (ts s)] w fun e w'=>e= .returned (.int .i64 (Sg.Lo s))/\w=w':=by
 refine(Tryz.slices_Index_string b 0 3 c Sg.MG (ts s) w (by decide) (by decide) (fun j hj=>?_)).mono ?_
 ·have hj3:j<3:=hj;have:j=0\/j=1\/j=2:=by omega
  rcases this with rfl | rfl | rfl
  ·exact h0
  ·exact h1
  ·exact h2
 rintro e w' ⟨rfl,rfl⟩;refine⟨?_,rfl⟩;have e0:Sg.MG.getD 0 ByteArray.empty=ts Sg.De:=rfl;have e1:Sg.MG.getD 1 ByteArray.empty=ts Sg.EZ:=rfl;have e2:Sg.MG.getD 2 ByteArray.empty=ts Sg.E_:=rfl;rcases Sg.Lp s with ⟨hk,n0,n1,n2⟩ | ⟨hk,rfl⟩ | ⟨hk,rfl⟩ | ⟨hk,rfl⟩
 ·rw[hk,Lib.idxOfS_miss];intro j hj e;have hj3:j<3:=hj;have:j=0\/j=1\/j=2:=by omega
  rcases this with rfl | rfl | rfl
  ·rw[e0] at e;exact n0 (K8.1 e).symm
  ·rw[e1] at e;exact n1 (K8.1 e).symm
  ·rw[e2] at e;exact n2 (K8.1 e).symm
 ·rw[hk,Lib.idxOfS_hit Sg.MG 3 0 (ts Sg.De) (by decide) (by decide) rfl (fun j hj=>by omega)];rfl
 ·rw[hk,Lib.idxOfS_hit Sg.MG 3 1 (ts Sg.EZ) (by decide) (by decide) rfl (fun j hj e=>by
   obtain rfl:j=0:=by omega
   rw[e0] at e;exact absurd (K8.1 e) (by decide))]
  rfl
 ·rw[hk,Lib.idxOfS_hit Sg.MG 3 2 (ts Sg.E_) (by decide) (by decide) rfl (fun j hj e=>by
   have:j=0\/j=1:=by omega
   rcases this with rfl | rfl
   ·rw[e0] at e;exact absurd (K8.1 e) (by decide)
   ·rw[e1] at e;exact absurd (K8.1 e) (by decide))]
  rfl
theorem WN (A:Option Addr)(n c:Nat)(w:World)(h:n<=c)(_hm:c<=maxLen):Calls Tryz.prog 47 #[.slice A n c] w fun e w'=>e= .returned (.slice A n n)/\w=w':=by
 unfold maxLen at _hm;go_enter Tryz.func47,Tryz.ntmps47;go_wp2;go_ret;exact⟨rfl,rfl⟩
theorem Gj.clipD {w:World}{B c:Nat}{A:Option Addr}{g:Sg.Ae}{hs:List (Option Addr × Nat)}(h:Gj w B A c g hs):Gj w B A g.length g hs:=by
 have:=h.out.clip;simp only[length_nodeIts] at this;exact⟨h.len,by simpa using this,h.inn,h.dis,h.dio⟩
theorem Jw (B:Nat)(W:World):Ai [Th.ownN B none 0 [] [],Th.own B 3 1 none 0 0 (Ah [])] W :=
 ⟨Gj.nil _ _,fun s hs b hb=>by simp[Th.ownN,Gi,AE] at hb,Au.nil _ _ _ _,fun s hs=>(by cases hs),trivial⟩
theorem Ur {B c c6:Nat}{A A6:Option Addr}{g:Sg.Ae}{ks:List (Option Addr × Nat)}{l:List Int}{W:World}{r:List (Th B)}(h:Ai (Th.ownN B A c g ks :: Th.own B 3 1 A6 l.length c6 (Ah l) :: r) W) :
  Ai [Th.ownN B A g.length g ks,Th.own B 3 1 A6 l.length l.length (Ah l)] W :=
 ⟨Gj.clipD h.1,fun s hs b hb=>by
  rw[List.mem_singleton] at hs;subst hs;exact h.2.1 (Th.own B 3 1 A6 l.length c6 (Ah l)) (by simp) b hb,Au.clip h.2.2.1,fun s hs=>(by cases hs),trivial⟩
set_option maxRecDepth 100000 in
set_option maxHeartbeats 8000000 in
theorem Pi (s:ByteArray)(w:World)(hs:s.size<=1048576)(hG:Ge w) :
  Calls Tryz.prog 16 #[.string s] w fun e w'=>∃ (A1:Option Addr) (c1:Nat) (ks:List (Option Addr × Nat)) (A2:Option Addr) (c2:Nat),e= .returned (.tuple #[.agg #[.slice A1 (Sg.Ff (Sg.Dc (tx s))).1.length c1],.slice A2 (Sg.Ff (Sg.Dc (tx s))).2.1.length c2,.bool (Sg.Ff (Sg.Dc (tx s))).2.2])/\Aa w w' /\
   Ai [Th.ownN w.heap.size A1 c1 (Sg.Ff (Sg.Dc (tx s))).1 ks,Th.own w.heap.size 3 1 A2 (Sg.Ff (Sg.Dc (tx s))).2.1.length c2 (Ah (Sg.Ff (Sg.Dc (tx s))).2.1)] w':=by
 have HG:=lh hG;have S1:=Ai.add (B:=w.heap.size) (ts:=[]) (W:=w) trivial (xr.al (.cells #[.slice none 0 0] 35)) (Th.box w.heap.size w.heap.size [.slice none 0 0]) ⟨Bx.new w #[.slice none 0 0] 35,Nat.le_refl _⟩ (fun b e=>by have e2:b=w.heap.size:=e;omega);have S2:=Ai.add S1 (xr.al (.cells #[.slice none 0 0] 35)) (Th.box w.heap.size (w.heap.size+1) [.slice none 0 0]) ⟨by have:=Bx.new (World.alloc w (.cells #[.slice none 0 0] 35)) #[.slice none 0 0] 35;simpa[go_sem] using this,by omega⟩ (fun b e=>by have e2:b=w.heap.size+1:=e;simp[go_sem];omega);have S3:=Ai.add S2 xr (Th.own w.heap.size 3 1 none 0 0 (Ah [])) (Au.nil _ _ _ _) (fun b e=>by simp[Th.own,AE] at e);have S4:=lh (Ai.add S3 xr (Th.ownN w.heap.size none 0 [] []) (Gj.nil _ _) (fun b e=>by simp[Th.ownN,Gi,AE] at e));have E0:=lh (((Aa.rfl' w).al (.cells #[.slice none 0 0] 35)).al (.cells #[.slice none 0 0] 35));have HRI:Hid (Sg.Fs (tx s)=(Sg.Fs (tx s)).map fun y=>(([]:Sg.Ae)++y.1,([]:List Int)++y.2)):=lh (by simp);have hlen:=DU s;clear S1 S2 S3 hG;go_enter Tryz.func16,Tryz.ntmps16;go_wp2_with fail
 go_loopw [6,7] (fun s6 s7 wr=>∃ (r:Sg.AO) (g:Sg.Ae) (c:List Int) (A6:Option Addr) (c6:Nat) (Ag:Option Addr) (cg:Nat) (ks:List (Option Addr × Nat)),s6= .slice A6 c.length c6/\s7= .string (ts r)/\g.length+r.length<=1048576/\Hid (c.length=g.length)/\Hid (∀ n ∈ g,n.f.length<=1048576)/\Hid (Sg.Fs (tx s)=(Sg.Fs r).map fun y=>(g++y.1,c++y.2))/\Hid (Aa w wr) /\
  Hid (Ai [Th.ownN w.heap.size Ag cg g ks,Th.own w.heap.size 3 1 A6 c.length c6 (Ah c),Th.box w.heap.size (w.heap.size+1) [.slice Ag g.length cg],Th.box w.heap.size w.heap.size [.slice none 0 0]] wr)) (fun _ s7 _=>X0 s7)
 case atStart=>exact⟨tx s,[],[],none,0,none,0,[],rfl,by rw[Ti],by simp;omega,lh rfl,lh (by simp),HRI,E0,S4⟩
 case round =>
  clear S4 E0 HRI;obtain⟨r,g,c,A6,c6,Ag,cg,ks,rfl,rfl,hgr,HCL,HNF,HR,E,SS⟩:=hrel;by_cases hr0:r=[]
  ·subst hr0;have HPJ:Hid (Sg.Dc (tx s)=if Sg.AG g=true/\Sg.AT g c=true/\Sg.Ht g c=tx s then some (g,c) else none):=lh (by rw[Sg.Kq,HR.out,Sg.TQ];simp);have yg:Bx wr (w.heap.size+1) [.slice Ag g.length cg]:=(Ai.get SS.out 2 rfl:Bx _ _ _/\_).1;have YG:=lh yg;have q0:=yg.cell (j:=0) rfl;have ql:=yg.lt;have ON:=lh (show Gj wr w.heap.size Ag cg g ks from Ai.get SS.out 0 rfl);have OC:=lh (show Au wr w.heap.size 3 1 A6 c.length c6 (Ah c) from Ai.get SS.out 1 rfl);have RN:=lh (ON.out.rdN (by simp at hgr;omega) HNF.out);have HVC:=lh (Gu Ag A6 cg c6 g c wr RN.out OC.out.rd);have b0:(([]:Sg.AO) == [])=true:=rfl;clear yg HR HNF;go_wp2_with fail
   refine HVC.out.mono ?_;rintro e w3 ⟨rfl,he3⟩;have E3:=lh (E.out.tr he3);have X3:=lh he3;have S3:=lh (Ai.ext SS.out he3);have q3:=he3.cellE q0;have l3:=AA q3;clear he3 q0 ql E SS;cases hv:(Sg.AG g && Sg.AT g c)
   ·have HN:=lh (show Sg.Ff (Sg.Dc (tx s))=([],[],false) by
     rw[HPJ.out,if_neg (by rintro ⟨a,b,-⟩;rw[a,b] at hv;simp at hv)];rfl)
    clear hv;have y2:Bx w3 w.heap.size [.slice none 0 0]:=(Ai.get S3.out 3 rfl:Bx _ _ _/\_).1;have x2:=y2.cell (j:=0) rfl;have g2:=y2.free 0;have l2:=y2.lt;have Y2:=lh y2;clear y2;go_wp2;have s0:=(Y2.out.set 0 (.slice none 0 0)).cell (j:=0) rfl;refine bodyPost_ret (v := .tuple #[.agg #[.slice none 0 0],.slice none 0 0,.bool false]) (by simp[results,Tryz.results16,go_sem,s0];try rfl) rfl ?_;rw[HN.out];exact⟨none,0,[],none,0,rfl,E3.out.set (p:=⟨w.heap.size,0,none⟩) (Nat.le_refl _) _,Jw _ _⟩
   ·have hvv:=hv;rw[Bool.and_eq_true] at hvv;have HVV:=lh hvv;have HFG:=lh (Nx Ag A6 cg c6 g c w3 (HG.out.ext E3.out).gl (RN.out.ext X3.out) (OC.out.rd.ext X3.out));clear hvv hv;by_cases ht:tx s=Sg.Ht g c
    ·have b1:(Sg.Ht g c == s.toList)=true:=by rw[Bool.beq_comm,C_];simp[ht]
     have HP:Hid (Sg.Ff (Sg.Dc (tx s))=(g,c,true)):=lh (by rw[HPJ.out,if_pos ⟨HVV.out.1,HVV.out.2,ht.symm⟩];rfl);clear ht;go_wp2_with fail
     refine HFG.out.mono ?_;rintro e w4 ⟨rfl,he4⟩;have E4:=lh (E3.out.tr he4);have S4:=lh (Ai.ext S3.out he4);have q4:=he4.cellE q3;have l4:=AA q4;clear he4 q3 l3 E3 S3;have hcg:=ON.out.out.2.1;have hcm:=ON.out.out.2.2.1;simp only[length_nodeIts] at hcg;have hc6:=OC.out.2.1;have hm6:=OC.out.2.2.1;go_wp2_with fail
     refine(WN Ag g.length cg _ hcg hcm).mono ?_;rintro e w5 ⟨rfl,rfl⟩;go_wp2_with fail
     refine(J9 A6 c.length c6 _ hc6 hm6).mono ?_;rintro e w5 ⟨rfl,rfl⟩;have y2:Bx w4 w.heap.size [.slice none 0 0]:=(Ai.get S4.out 3 rfl:Bx _ _ _/\_).1;have x2:=y2.cell (j:=0) rfl;have g2:=y2.free 0;have l2:=y2.lt;have Y2:=lh y2;clear y2;have S5:=lh (Ai.st S4.out 3 rfl ⟨w.heap.size,0,none⟩ (.slice Ag g.length g.length) rfl (Th.box w.heap.size w.heap.size [.slice Ag g.length g.length]) ⟨Y2.out.set 0 _,Nat.le_refl _⟩ (fun _ e=>e));go_wp2;have s0:=(Y2.out.set 0 (.slice Ag g.length g.length)).cell (j:=0) rfl;refine bodyPost_ret (v := .tuple #[.agg #[.slice Ag g.length g.length],.slice A6 c.length c.length,.bool true]) (by simp[results,Tryz.results16,go_sem,s0];try rfl) rfl ?_;rw[HP.out];exact⟨Ag,_,ks,A6,_,rfl,E4.out.set (p:=⟨w.heap.size,0,none⟩) (Nat.le_refl _) _,Ur S5.out⟩
    ·have b1:(Sg.Ht g c == s.toList)=false:=by rw[Bool.beq_comm,C_];simp[ht]
     have HN:Hid (Sg.Ff (Sg.Dc (tx s))=([],[],false)):=lh (by rw[HPJ.out,if_neg (fun e=>ht e.2.2.symm)];rfl);clear ht;go_wp2_with fail
     refine HFG.out.mono ?_;rintro e w4 ⟨rfl,he4⟩;have E4:=lh (E3.out.tr he4);have S4:=lh (Ai.ext S3.out he4);clear he4 q3 l3 E3 S3;have y2:Bx w4 w.heap.size [.slice none 0 0]:=(Ai.get S4.out 3 rfl:Bx _ _ _/\_).1;have x2:=y2.cell (j:=0) rfl;have g2:=y2.free 0;have l2:=y2.lt;have Y2:=lh y2;clear y2;go_wp2;have s0:=(Y2.out.set 0 (.slice none 0 0)).cell (j:=0) rfl;refine bodyPost_ret (v := .tuple #[.agg #[.slice none 0 0],.slice none 0 0,.bool false]) (by simp[results,Tryz.results16,go_sem,s0];try rfl) rfl ?_;rw[HN.out];exact⟨none,0,[],none,0,rfl,E4.out.set (p:=⟨w.heap.size,0,none⟩) (Nat.le_refl _) _,Jw _ _⟩
  ·have b0:(r == [])=false:=by simp[hr0]
   have hrl:r.length<=2000000:=by omega
   obtain⟨l,m,en,hcut⟩:∃ l m en,Lib.cut r [10]=(l,m,en):=⟨_,_,_,rfl⟩
   have hll:l.length<=r.length:=by
    rcases Sg.SR r with ⟨_,h⟩ | ⟨p,q,_,e,h⟩
    ·rw[hcut] at h;injection h with h1;rw[h1];exact Nat.le_refl _
    ·rw[hcut] at h;injection h with h1;rw[h1,e];simp
   obtain⟨wd,tl,fd,hcut2⟩:∃ wd tl fd,Lib.cut l [32]=(wd,tl,fd):=⟨_,_,_,rfl⟩
   have htl:tl.length<=l.length:=by
    by_cases h:(32:UInt8) ∈ l
    ·obtain⟨p,q,e,hp⟩:=Sg.GK l h;rw[e,Sg.LO p q hp] at hcut2;injection hcut2 with _ h2;injection h2 with h2;rw[e,<- h2];simp
     omega
    ·rw[Sg.Ke l h] at hcut2;injection hcut2 with _ h2;injection h2 with h2;rw[<- h2];simp
   have HC1:=lh fun w' (e:Aa w w')=>Xa r 10 w' hrl (HG.out.ext e);have HC2:=lh fun w' (e:Aa w w')=>Xa l 32 w' (by omega) (HG.out.ext e);rw[hcut] at HC1;rw[hcut2] at HC2;have HCUT:=lh hcut;have HLI:=lh (Sg.UY hcut2);have hkc:=Sg.Lp wd;have HLL:=lh hll;clear hcut hcut2 hr0 hll;have b00:(r == #[].toList)=false:=b0;go_wp2_with fail
   refine(HC1.out _ E.out).mono ?_;rintro e v1 ⟨rfl,he1⟩;have E1:=lh (E.out.tr he1);have S1:=lh (Ai.ext SS.out he1);clear he1 E SS;go_wp2_with fail
   refine(HC2.out _ E1.out).mono ?_;rintro e v2 ⟨rfl,he2⟩;have E2:=lh ((E1.out.tr he2).al (.cells #[.string ⟨#[99,101,108,108]⟩,.string ⟨#[100,101,114,105,118,101,100]⟩,.string ⟨#[101,102,102,101,99,116]⟩] 9));have S2:=lh ((Ai.ext S1.out he2).ext ((Aa.rfl' v2).al (.cells #[.string ⟨#[99,101,108,108]⟩,.string ⟨#[100,101,114,105,118,101,100]⟩,.string ⟨#[101,102,102,101,99,116]⟩] 9)));have HIX:=lh (VE wd (World.alloc v2 (.cells #[.string ⟨#[99,101,108,108]⟩,.string ⟨#[100,101,114,105,118,101,100]⟩,.string ⟨#[101,102,102,101,99,116]⟩] 9)) v2.heap.size 3 (by simp[go_sem]) (by simp[go_sem]) (by simp[go_sem]));clear he2 E1 S1;go_wp2_with fail
   refine HIX.out.mono ?_;rintro e v3 ⟨rfl,rfl⟩;clear HIX;generalize World.alloc v2 (.cells #[.string ⟨#[99,101,108,108]⟩,.string ⟨#[100,101,114,105,118,101,100]⟩,.string ⟨#[101,102,102,101,99,116]⟩] 9)=v3 at *;rcases Sg.SR r with ⟨hm,h⟩ | ⟨p,q,hp,hre,h⟩
   ·rw[HCUT.out] at h;injection h with h1 h2;injection h2 with h2 h3;subst h3;have HN:=lh (Sg.IV (s:=tx s) (by rw[HR.out,Sg.RI hm (by intro e;rw[e] at b0;simp at b0)];rfl));clear hm h1 h2 hkc;have y2:Bx v3 w.heap.size [.slice none 0 0]:=(Ai.get S2.out 3 rfl:Bx _ _ _/\_).1;have x2:=y2.cell (j:=0) rfl;have g2:=y2.free 0;have l2:=y2.lt;have Y2:=lh y2;clear y2;go_wp2;have s0:=(Y2.out.set 0 (.slice none 0 0)).cell (j:=0) rfl;refine bodyPost_ret (v := .tuple #[.agg #[.slice none 0 0],.slice none 0 0,.bool false]) (by simp[results,Tryz.results16,go_sem,s0];try rfl) rfl ?_;rw[HN.out];exact⟨none,0,[],none,0,rfl,E2.out.set (p:=⟨w.heap.size,0,none⟩) (Nat.le_refl _) _,Jw _ _⟩
   ·rw[HCUT.out] at h;injection h with h1 h2;injection h2 with h2 h3;subst h1 h2 h3;have HRE:=lh hre;have HP:=lh hp;have hgq:g.length+1+m.length<=1048576:=by rw[hre] at hgr;simp at hgr;omega
    have hlr:m.length+1<=r.length:=by rw[hre];simp
    have hlx:l.length<=1048576:=by have:=HLL.out;omega
    clear hre hp;by_cases hkn:Sg.Lo wd = -1
    ·have HN:=lh (Sg.IV (s:=tx s) (by
      rcases hkc with ⟨_,n0,n1,n2⟩ | ⟨k,_⟩ | ⟨k,_⟩ | ⟨k,_⟩
      ·rw[HR.out,HRE.out,Sg.Mx HP.out (by rw[HLI.out,if_neg n0,if_neg n1,if_neg n2])];rfl
      all_goals (rw[k] at hkn;omega)))
     rw[hkn];clear hkc hkn;have y2:Bx v3 w.heap.size [.slice none 0 0]:=(Ai.get S2.out 3 rfl:Bx _ _ _/\_).1;have x2:=y2.cell (j:=0) rfl;have g2:=y2.free 0;have l2:=y2.lt;have Y2:=lh y2;clear y2;go_wp2;have s0:=(Y2.out.set 0 (.slice none 0 0)).cell (j:=0) rfl;refine bodyPost_ret (v := .tuple #[.agg #[.slice none 0 0],.slice none 0 0,.bool false]) (by simp[results,Tryz.results16,go_sem,s0];try rfl) rfl ?_;rw[HN.out];exact⟨none,0,[],none,0,rfl,E2.out.set (p:=⟨w.heap.size,0,none⟩) (Nat.le_refl _) _,Jw _ _⟩
    ·obtain⟨k,hk⟩:∃ k,k=Sg.Lo wd:=⟨_,rfl⟩;rw[<- hk]
     have hkk:(k=0/\wd=Sg.De)\/((k=1\/k=2)/\Sg.DS l=(Sg.Cz tl).map fun f=>(⟨k,f⟩,0)):=by
      rcases hkc with ⟨k1,_⟩ | ⟨k1,k2⟩ | ⟨k1,k2⟩ | ⟨k1,k2⟩
      ·exact absurd k1 hkn
      ·exact .inl ⟨hk.trans k1,k2⟩
      ·refine .inr ⟨.inl (hk.trans k1),?_⟩;rw[HLI.out,if_neg (by rw[k2];decide),if_pos k2,hk,k1]
      ·refine .inr ⟨.inr (hk.trans k1),?_⟩;rw[HLI.out,if_neg (by rw[k2];decide),if_neg (by rw[k2];decide),if_pos k2,hk,k1]
     have hk0:¬ k<0:=by rcases hkk with ⟨h,_⟩ | ⟨h | h,_⟩ <;> omega
     have HKK:=lh hkk;clear hkc hkn hkk hk;have S3:=lh (Ai.add S2.out ((Aa.rfl' v3).al (.cells #[.int .i64 k,.slice none 0 0] 70)) (Th.box w.heap.size v3.heap.size [.int .i64 k,.slice none 0 0]) ⟨Bx.new v3 _ _,E2.out.size⟩ (fun b e=>by have e2:b=v3.heap.size:=e;omega));have E3:=lh (E2.out.al (.cells #[.int .i64 k,.slice none 0 0] 70));go_upto_region 12 with fail
     have hnb:=E2.out.size;generalize World.alloc v3 (.cells #[.int .i64 k,.slice none 0 0] 70)=v4 at *;generalize v3.heap.size=nb at *;clear E2 S2;go_upto_if 47 with fail
     go_cut [15,17] (fun s15 s17 wx=>∃ (x:Int) (ok:Bool) (f:List Sg.At) (Af:Option Addr) (cf:Nat),s15= .int .i64 x/\s17= .bool ok/\Hid (f.length<=1048576)/\Hid (Sg.DS l=if ok=true then some (⟨k,f⟩,x) else none)/\Hid (Aa w wx) /\
      Hid (Ai [Th.own w.heap.size 111 5 Af f.length cf (AH f),Th.box w.heap.size nb [.int .i64 k,.slice Af f.length cf],Th.ownN w.heap.size Ag cg g ks,Th.own w.heap.size 3 1 A6 c.length c6 (Ah c),Th.box w.heap.size (w.heap.size+1) [.slice Ag g.length cg],Th.box w.heap.size w.heap.size [.slice none 0 0]] wx))
     case first =>
      rcases HKK.out with ⟨rfl,hwd⟩ | ⟨hk12,hli⟩
      ·have HDC:=lh fun w' (e:Aa w w')=>JI (ts tl) (by rw[BB];omega) w' (HG.out.ext e);have HLD:=lh (show Sg.DS l=(Sg.C4 tl).map fun (n:Nat)=>((⟨0,[]⟩:Sg.BV),(n:Int)) by rw[HLI.out,if_pos hwd]);clear hwd HLI HKK;go_wp2_with fail
       refine(HDC.out _ E3.out).mono ?_;rintro e v5 ⟨n,ok,rfl,he5,ht,hf⟩;rw[Fm] at ht hf;have E5:=lh (E3.out.tr he5);have S5:=lh (Ai.add (Ai.ext S3.out he5) xr (Th.own w.heap.size 111 5 none 0 0 (AH [])) (Au.nil _ _ _ _) (fun b e=>by simp[Th.own,AE] at e))
       have HL5:Hid (Sg.DS l=if ok=true then some (⟨0,[]⟩,n) else none):=lh (by
        rw[HLD.out];cases ok
        ·rw[hf rfl];rfl
        ·obtain⟨k,rfl,hk⟩:=ht rfl;rw[hk];rfl)
       clear ht hf he5 S3 E3;go_wp2_with fail
       go_meet
       exact⟨n,ok,[],none,0,rfl,rfl,lh (by simp),HL5,E5,S5⟩
      ·have hkb:(k == 0)=false:=by simp;omega
       have HPF:=lh fun w' (e:Aa w w')=>MQ (ts tl) w' (by rw[BB];omega) (HG.out.ext e);rw[Fm] at HPF
       have HL5:Hid (Sg.DS l=if (Sg.Ep (Sg.Cz tl)).2=true then some (⟨k,(Sg.Ep (Sg.Cz tl)).1⟩,0) else none):=lh (by
        rw[hli];cases Sg.Cz tl <;> rfl)
       have HFL:Hid ((Sg.Ep (Sg.Cz tl)).1.length<=1048576):=lh (by
        rw[Sg.Gy];cases hq:Sg.Es tl with
        | none=>simp[Sg.Ep]
        | some f=>have:=(Sg.Cg (Sg.IG hq).1).2;simp only[Sg.Ep];omega)
       clear hli HLI HKK hk12;go_wp2_with fail
       refine(HPF.out _ E3.out).mono ?_;rintro e v5 ⟨Af,cf,rfl,he5,ho5⟩;generalize (Sg.Ep (Sg.Cz tl)).1=f at *;generalize (Sg.Ep (Sg.Cz tl)).2=ok at *;have E5:=lh (E3.out.tr he5);have S5:=lh (Ai.add S3.out he5 (Th.own w.heap.size 111 5 Af f.length cf (AH f)) (ho5.mono E3.out.size) (fun b hb=>(ho5.lt hb).1));clear ho5 he5 S3 E3;have y7:Bx v5 nb [.int .i64 k,.slice none 0 0]:=(Ai.get S5.out 1 rfl:Bx _ _ _/\_).1;have z1:=y7.cell (j:=1) rfl;have f1:=y7.free 1;have zl:=y7.lt;have Y7:=lh y7;clear y7;have S6:=lh (Ai.st S5.out 1 rfl ⟨nb,1,none⟩ (.slice Af f.length cf) rfl (Th.box w.heap.size nb [.int .i64 k,.slice Af f.length cf]) ⟨Y7.out.set 1 _,hnb⟩ (fun _ e=>e));have E6:=lh (E5.out.set (p:=⟨nb,1,none⟩) hnb (.slice Af f.length cf));go_wp2_with fail
       go_meet
       exact⟨0,ok,f,Af,cf,rfl,rfl,HFL,HL5,E6,S6⟩
     case rest =>
      clear S3 E3 HLI HKK;obtain⟨x,ok,f,Af,cf,rfl,rfl,HFL,HL5,E5,S5⟩:=hcut;obtain⟨v5,rfl⟩:∃ W:World,W=wc:=⟨_,rfl⟩;cases ok
      ·have HN:=lh (Sg.IV (s:=tx s) (by rw[HR.out,HRE.out,Sg.Mx HP.out (by rw[HL5.out];rfl)];rfl));clear HL5;have y2:Bx v5 w.heap.size [.slice none 0 0]:=(Ai.get S5.out 5 rfl:Bx _ _ _/\_).1;have x2:=y2.cell (j:=0) rfl;have g2:=y2.free 0;have l2:=y2.lt;have Y2:=lh y2;clear y2;go_wp2;have s0:=(Y2.out.set 0 (.slice none 0 0)).cell (j:=0) rfl;refine bodyPost_ret (v := .tuple #[.agg #[.slice none 0 0],.slice none 0 0,.bool false]) (by simp[results,Tryz.results16,go_sem,s0];try rfl) rfl ?_;rw[HN.out];exact⟨none,0,[],none,0,rfl,E5.out.set (p:=⟨w.heap.size,0,none⟩) (Nat.le_refl _) _,Jw _ _⟩
      ·have HST:=lh (Sg.TR (r:=m) HP.out HL5.out (by rw[<- HRE.out];exact HR.out));have yn:Bx v5 nb [.int .i64 k,.slice Af f.length cf]:=(Ai.get S5.out 1 rfl:Bx _ _ _/\_).1;have n0:=yn.cell (j:=0) rfl;have n1:=yn.cell (j:=1) rfl;have nl:=yn.lt;have yg:Bx v5 (w.heap.size+1) [.slice Ag g.length cg]:=(Ai.get S5.out 4 rfl:Bx _ _ _/\_).1;have q0:=yg.cell (j:=0) rfl;have ql:=yg.lt;have ON:Gj v5 w.heap.size Ag cg g ks:=Ai.get S5.out 2 rfl;have hON:=ON.out;simp only[length_nodeIts] at hON;have HON:=lh hON;have eW:=lh E5.out.size;clear yn yg ON hON HL5;go_upto_region 19 with (at_builtin;refine AB (cs:=[.int .i64 k,.slice Af f.length cf]) rfl rfl Sd rfl HON.out rfl rfl (by intro u hu;simp at hu;rcases hu with rfl | rfl <;> rfl) (by omega) (by omega) eW.out ?_;intro A8 c8 v6 hown8 hg8 hat8;have S6:=lh (Ai.node k S5.out 1 rfl hown8 hg8 hat8);have E6:=lh (E5.out.gr hg8 fun x hx=>(HON.out.lt hx).1);clear hown8 hg8 hat8 S5 E5 HON n0 n1 nl q0 ql;have y6:Bx v6 (w.heap.size+1) [.slice Ag g.length cg]:=(Ai.get S6.out 3 rfl:Bx _ _ _/\_).1;have r6:=y6.cell (j:=0) rfl;have f6:=y6.free 0;have l6:=y6.lt;have Y6:=lh y6;clear y6)
       have S8:=lh (Ai.tail (Ai.st S6.out 3 rfl ⟨w.heap.size+1,0,none⟩ (.slice A8 (g.length+1) c8) rfl (Th.box w.heap.size (w.heap.size+1) [.slice A8 (g.length+1) c8]) ⟨Y6.out.set 0 _,by omega⟩ (fun _ e=>e)));have E8:=lh (E6.out.set (p:=⟨w.heap.size+1,0,none⟩) (by simp) (.slice A8 (g.length+1) c8));clear S6 E6 Y6 r6 f6 l6;generalize World.setCell v6 ⟨w.heap.size+1,0,none⟩ (.slice A8 (g.length+1) c8)=v8 at *;have OC:=lh (show Au v8 w.heap.size 3 1 A6 c.length c6 (Ah c) from Ai.get S8.out 1 rfl);have eV:=lh E8.out.size;have eC:=lh (show c.length+1<=1099511627776 by have:=HCL.out;omega);go_wp2_with (at_builtin;refine AB (cs:=[.int .i64 x]) rfl rfl Bc rfl OC.out rfl rfl (Bn .i64 _) eC.out (by omega) eV.out ?_;intro A9 c9 v9 hown9 hg9 hat9;have S9:=lh (Ai.app S8.out 1 rfl hown9 hg9 hat9);have E9:=lh (E8.out.gr hg9 fun x hx=>(OC.out.lt hx).1);clear hown9 hg9 hat9 S8 E8 OC)
       have el:c.length+1=(c++[x]).length:=by simp
       have eg:g.length+1=(g++[(⟨k,f⟩:Sg.BV)]).length:=by simp
       have eo:Ah c++[Value.int .i64 x]=Ah (c++[x]):=by simp[Ah]
       rw[eo,el,eg] at S9;go_roundw
       case rel=>exact⟨m,g++[(⟨k,f⟩:Sg.BV)],c++[x],A9,c9,A8,c8,ks++[(Af,cf)],by rw[<- el],rfl,by rw[<- eg];exact hgq,lh (by rw[<- el,<- eg,HCL.out]),lh (fun n hn=>by
        rcases List.mem_append.1 hn with hn | hn
        ·exact HNF.out n hn
        ·simp at hn;subst hn;exact HFL.out),HST,E9,S9⟩
       case measure=>show m.length<r.length;omega
end Go.Proofs.YthibllkleakiiaaGreatDoor
namespace Sg
theorem UW (g:Ae)(l:List Int):(Ht g l).length<=910:=by
 by_cases h:(AG g && AT g l)=true
 ·rw[Bool.and_eq_true] at h;obtain⟨h1,h2⟩:=h;rw[Mk h1 h2];have:=Ie (Cu h2) (fun x hx=>(CX h2 x hx).2) g.length;have:=FE h1;omega
 ·rw[LP (by simpa using h)];simp
end Sg
namespace Go.Proofs.YthibllkleakiiaaGreatDoor
open Go.RowKit
set_option maxRecDepth 100000 in
set_option maxHeartbeats 4000000 in
theorem Sn (R m:Nat)(w:World)(h:Gn w R m)(hm:m<=700000) :
  Calls Tryz.prog 23 #[.pointer (some ⟨R,0,none⟩)] w (YQ R (m+1300) 1000 w):=by
 have hRl:=h.lt;have HGG:=lh (QB R m w h (by omega));clear h;go_enter Tryz.func23,Tryz.ntmps23;go_wp2_with fail
 refine HGG.out.mono ?_;rintro e w1 ⟨g,A,c,hs,rfl,hown,hg2,hg10,hnf,hr1,hm1⟩;have hRl1:=hr1.lt;have hw1:=hm1.size;have OW:=lh hown;have HNF:=lh hnf;have R2:=lh (hr1.ext ((Aa.rfl' w1).al (.cells #[.slice A g.length c] 35)));have M2:=lh (hm1.al (.cells #[.slice A g.length c] 35));have HRN:=lh (fun (W:World) (hW:AF (fun b=>b=R) w1 W)=>Gj.rdN (Bj.mod OW.out hW (fun b hb e=>by have:=(Bj.lt OW.out hb).1;omega)) (show g.length<=1048576 by omega) (fun n hn=>by have:=HNF.out n hn;omega));have XW:=lh (AF.of (F:=fun b=>b=R) ((Aa.rfl' w1).al (.cells #[.slice A g.length c] 35)));have q0:World.cell? (World.alloc w1 (.cells #[.slice A g.length c] 35)) ⟨w1.heap.size,0,none⟩=some (.slice A g.length c):=by simp[go_sem]
 have hqR:w1.heap.size≠R:=by omega
 clear hown hnf hr1 hm1 HGG;go_upto_region 2 with fail
 generalize World.alloc w1 (.cells #[.slice A g.length c] 35)=v2 at *;generalize w1.heap.size=bq at *;have Q0:=lh q0;clear q0;refine zb 5 (fun W=>W.cell? ⟨bq,0,none⟩=some (.slice A g.length c)) ?_ (fun hHeld=>?_)
 ·exact((Aa.rfl' v2).dr).cellE Q0.out
 refine zy 0 ?_;refine zy 1 ?_;refine zy 2 ?_;refine zr 3 rfl fun K hK=>?_;go_simp;refine(QC R (m+1200) A c g v2.drew (R2.out.ext ((Aa.rfl' v2).dr)) (fun W hW=>HRN.out W ((XW.out.tr' (AF.of ((Aa.rfl' v2).dr))).tr' hW)) hg10 (by omega)).mono ?_;rintro e v3 ⟨cl,A3,c3,rfl,ho3,hl3,hl4,hr3,hm3⟩;have R3:=lh hr3;have D3:=lh ((AF.of (F:=fun b=>b=R) ((Aa.rfl' v2).dr)).tr' hm3);have O3:=lh ho3;clear ho3 hl3 hl4 hr3 hm3;try go_wp2_with fail
 refine zh (hK.out _ _) (D3.out.cellE Q0.out hqR) fun hHeld=>?_;clear hK K;try simp only[Act.put,pu]
 refine zr 4 rfl fun K hK=>?_;go_simp;refine(NC A A3 c c3 g cl v3 (HRN.out _ (XW.out.tr' D3.out)) O3.out.rd).mono ?_;rintro e v4 ⟨rfl,he4⟩;have X4:=lh he4;clear he4;try go_wp2_with fail
 refine zh (hK.out _ _) (X4.out.cellE (D3.out.cellE Q0.out hqR)) fun hHeld=>?_;clear hK K;try simp only[Act.put,pu]
 refine zr 5 rfl fun K hK=>?_;go_simp;refine hK.out _ _ (fun e=>absurd rfl e) (fun hh=>?_);clear hK K hHeld hh;try simp only[Act.put,pu]
 refine zn ?_;have RX:=lh (R3.out.ext X4.out);have MX:=lh ((M2.out.tr' D3.out).tr' (AF.of X4.out));clear R3 X4 D3 O3;have hm3:=MX.out;go_wp2_with fail
 refine(D7 R (m+1220) 3 v4 RX.out (by omega) (by omega) (by omega)).mono ?_;rintro e v5 ⟨x,rfl,x0,x1,hr5,hm5⟩;have R5:=lh hr5;have M5:=lh (MX.out.tr' hm5);clear x0 x1 hr5 hm5 hm3;have HSZ:=lh (show (ts (Sg.Ht g cl)).size<=910 by rw[BB];exact Sg.UW g cl);by_cases hx:x=0
 ·have bx:(x == 0)=true:=by simp[hx]
  clear hx;go_wp2_with fail
  refine(Vw R (m+1221) (ts (Sg.Ht g cl)) v5 R5.out (by have:=HSZ.out;omega) (by omega)).mono ?_;rintro e v6 ⟨y,rfl,hy,hr6,hm6⟩;go_wp2;go_ret;exact⟨y,rfl,by have:=HSZ.out;omega,hr6.more (by omega),M5.out.tr' hm6⟩
 ·have bx:(x == 0)=false:=by simp[hx]
  clear hx;go_wp2;go_ret;exact⟨_,rfl,by have:=HSZ.out;omega,R5.out.more (by omega),M5.out⟩
open Go.RowKit
def MP:List ByteArray:=[⟨#[115,101,116,32,48,32,53]⟩,⟨#[115,101,116,32,49,32,51]⟩,⟨#[115,101,116,32,48,32,48]⟩,⟨#[103,101,116,32,51]⟩,⟨#[103,101,116,32,53]⟩,⟨#[103,101,116,32,50]⟩,⟨#[118,97,108,117,101,115]⟩,⟨#[115,116,97,108,101]⟩,⟨#[103,101,116,32,57]⟩,⟨#[115,101,116,32,48,32,48,53]⟩,⟨#[104,101,108,112]⟩,⟨#[]⟩]
theorem Sm {x:ByteArray}(h:x ∈ MP):x.size<=8:=by
 have:=List.all_eq_true.1 (show MP.all (fun b=>b.size<=8)=true from rfl) x h;simpa using this
set_option maxRecDepth 100000 in
set_option maxHeartbeats 8000000 in
theorem Nw (A:Option Addr)(c:Nat)(l:List Int)(w:World)(h:Rd w 1 A l.length (Vc l))(hr:∀ x ∈ l,0<=x/\x<=255)(hc:l.length<=c)(hcm:c<=maxLen) :
  Calls Tryz.prog 10 #[.slice A l.length c] w fun e w'=>∃ (s:ByteArray) (A':Option Addr) (c':Nat) (ss:List ByteArray),e= .returned (.tuple #[.string s,.slice A' ss.length c'])/\s.size<=1000/\ss.length<=8/\(∀ x ∈ ss,x.size<=8)/\ss.length<=c'/\Rd w' 1 A' ss.length (Bh ss)/\Aa w w':=by
 have HN:=lh (Qq A c l w h hr hc hcm);clear h;go_enter Tryz.func10,Tryz.ntmps10;go_wp2_with fail
 refine HN.out.mono ?_;rintro e w1 ⟨rfl,hr1,he1⟩;have E1:=lh he1;have R1:=lh hr1;clear hr1 he1 HN;go_wp2_with fail
 refine(Sn _ 0 _ R1.out (by omega)).mono ?_;rintro e w2 ⟨y,rfl,hy,hr2,hm2⟩;have E2:=lh (show Aa w w2 from Aa.md E1.out hm2 (fun b e=>by subst e;exact Nat.le_refl _));have R2:=lh hr2;clear hr2 hm2 R1 E1;have hRl:w.heap.size<w2.heap.size:=R2.out.lt;have OW:=lh (show Au (w2.alloc (.cells #[] 9)) w2.heap.size 9 1 (some ⟨w2.heap.size,0,none⟩) 0 0 (Bh []) from Au.new w2 9 1 #[] 0 (Nat.le_refl _) (by unfold maxLen;omega) rfl);have E3:=lh ((Aa.rfl' w2).al (.cells #[] 9));go_upto_region 4 with fail
 have hs9:(World.alloc w2 (.cells #[] 9)).heap.size=w2.heap.size+1:=by simp
 have hS9:w2.heap.size<=(World.alloc w2 (.cells #[] 9)).heap.size:=by omega
 generalize hw9:World.alloc w2 (.cells #[] 9)=w9 at *;clear hw9;have R9:=lh (R2.out.ext E3.out);have E9:=lh (E2.out.tr E3.out);have hR9:w.heap.size<w9.heap.size:=R9.out.lt;have HLI:=lh (show Rd (w9.alloc (.cells #[.int .i64 5,.int .i64 8,.int .i64 3,.int .i64 0] 3)) 1 (some ⟨w9.heap.size,0,none⟩) 4 (Ah [5,8,3,0]) from (Au.new w9 (B:=w9.heap.size) 3 1 #[.int .i64 5,.int .i64 8,.int .i64 3,.int .i64 0] 4 (Nat.le_refl _) (by unfold maxLen;omega) rfl).rd);clear hs9 R2 E2 E3;go_wp2_with fail
 refine(Oi w.heap.size 1300 (some ⟨w9.heap.size,0,none⟩) 4 [5,8,3,0] _ (R9.out.ext ((Aa.rfl' w9).al _)) HLI.out (by simp) (by simp) (fun b hb=>by simp[AE] at hb;omega) (by omega)).mono ?_;rintro e w3 ⟨x,rfl,hx,hr3,hm3⟩
 obtain⟨k,rfl,hk8⟩:∃ k:Nat,x=(k:Int)/\k<=8:=by
  simp only[List.mem_cons,List.not_mem_nil,or_false] at hx;rcases hx with rfl | rfl | rfl | rfl
  ·exact⟨5,rfl,by omega⟩
  ·exact⟨8,rfl,by omega⟩
  ·exact⟨3,rfl,by omega⟩
  ·exact⟨0,rfl,by omega⟩
 have M3:=lh ((AF.of (F:=fun b=>b=w.heap.size) ((Aa.rfl' w9).al (.cells #[.int .i64 5,.int .i64 8,.int .i64 3,.int .i64 0] 3))).tr' hm3);have R3:=lh hr3;have E3:=lh (Aa.md E9.out M3.out (fun b e=>by subst e;exact Nat.le_refl _));have OW:=lh (OW.out.mod M3.out (fun b hb=>by have:=(OW.out.lt hb).1;omega));have HB:=lh (show w2.heap.size<=w3.heap.size from Nat.le_trans hS9 M3.out.size);clear hx hr3 hm3 M3 R9 E9 HLI hS9;go_wp2_with fail
 go_loopw [6,7] (fun s6 s7 wr=>∃ (k n:Nat) (ss:List ByteArray) (A6:Option Addr) (c6:Nat),s7= .int .i64 k/\s6= .slice A6 n c6/\n+k<=8/\Hid (ss.length=n)/\Hid (Au wr w2.heap.size 9 1 A6 n c6 (Bh ss))/\Hid (∀ x ∈ ss,x.size<=8)/\Hid (Gn wr w.heap.size (1301+n))/\Hid (Aa w wr)/\Hid (w2.heap.size<=wr.heap.size)) (fun _ s7 _=>(intOf s7).toNat)
 case atStart=>exact⟨k,0,[],_,_,rfl,rfl,by omega,lh rfl,OW,lh (fun x hx=>by cases hx),R3,E3,HB⟩
 case round =>
  clear OW R3 E3 hk8 HB;obtain⟨k,n,ss,A6,c6,rfl,rfl,hnk,HN,OW,HX,RR,EE,HB⟩:=hrel;by_cases hk:0<k
  ·have hki:(0:Int)<(k:Int):=by omega
   have HL:=lh (Pc wr MP 9 (by simp[MP]));have hwr:w.heap.size<wr.heap.size:=RR.out.lt;go_wp2_with fail
   refine(Wg w.heap.size (1301+n) (some ⟨wr.heap.size,0,none⟩) 12 12 MP _ (RR.out.ext ((Aa.rfl' wr).al (.cells (Bh MP).toArray 9))) HL.out (by omega) (by omega) (fun b hb=>by simp[AE] at hb;omega) (by omega)).mono ?_;rintro e w4 ⟨x,rfl,hx,hr4,hm4⟩;have HX8:=lh (Sm hx);have M4:=lh ((AF.of (F:=fun b=>b=w.heap.size) ((Aa.rfl' wr).al (.cells (Bh MP).toArray 9))).tr' hm4);have R4:=lh hr4;have E4:=lh (Aa.md EE.out M4.out (fun b e=>by subst e;exact Nat.le_refl _));have OW:=lh (OW.out.mod M4.out (fun b hb=>by have:=(OW.out.lt hb).1;omega));have hB4:w2.heap.size<=w4.heap.size:=Nat.le_trans HB.out M4.out.size;clear hx hr4 hm4 M4 EE RR HL;go_wp2_with (at_builtin;refine AB (cs:=[.string x]) rfl rfl Lr rfl OW.out rfl rfl (IX _) (by omega) (by omega) (by omega) ?_;intro A5 c5 w5 hown2 hg2 hat2)
   go_roundw
   case rel=>exact⟨k - 1,n+1,ss++[x],A5,c5,by go_num,rfl,by omega,lh (by rw[List.length_append,HN.out];rfl),lh (by rw[<- FK];exact hown2),lh (fun y hy=>by rcases List.mem_append.1 hy with hy | hy;exact HX.out y hy;rw[List.mem_singleton] at hy;subst hy;exact HX8.out),lh (R4.out.gr hg2 (fun b e=>by have:=(OW.out.lt e).1;omega)),lh (E4.out.gr hg2 fun b e=>by have:=(OW.out.lt e).1;omega),lh (Nat.le_trans hB4 hg2.size)⟩
   case measure=>simp[intOf];omega
  ·obtain rfl:k=0:=by omega
   go_wp2;go_ret2;exact⟨y,A6,c6,ss,by rw[HN.out];rfl,hy,by rw[HN.out];omega,HX.out,by rw[HN.out];exact OW.out.2.1,by rw[HN.out];exact OW.out.rd,EE.out⟩
end Go.Proofs.YthibllkleakiiaaGreatDoor
namespace Sg
theorem RH {l:AO}{c b:UInt8}{j:Nat}(h:l[j]? = some b):(l.take (j+1)).count c=(l.take j).count c+if b=c then 1 else 0:=by
 rw[List.take_add_one,h,List.count_append];show _ + [b].count c=_;rw[List.count_singleton];simp
end Sg
namespace Go.Proofs.YthibllkleakiiaaGreatDoor
open Go.RowKit
set_option maxHeartbeats 2000000 in
theorem St (s:ByteArray)(w:World)(hs:s.size<=2000000) :
  Calls Tryz.prog 11 #[.string s] w fun e w'=>e= .returned (.int .i64 (((tx s).count 10:Nat):Int))/\w=w':=by
 go_enter Tryz.func11,Tryz.ntmps11;go_wp2_with fail
 go_loop [3,4] (fun s1 s2=>∃ (j n:Nat),j<=s.size/\n<=j/\s1= .int .i64 n/\s2= .int .i64 j/\Hid (n=((tx s).take j).count 10)) (fun _ s2=>s.size - (intOf s2).toNat)
 case atStart=>exact⟨0,0,Nat.zero_le _,Nat.le_refl _,rfl,rfl,lh (by simp)⟩
 case round =>
  obtain⟨j,n,hj,hn,rfl,rfl,HC⟩:=hrel;by_cases hlt:j<s.size
  ·have hb:(tx s)[j]? = some (s[j]'hlt):=by rw[<- Qf];exact getElem?_pos s j hlt
   have hjx:(j:Int)<(s.size:Int):=by omega
   have HT:=lh (Sg.RH (c:=10) hb);by_cases hbc:s[j]'hlt=10
   ·have bq:(((s[j]'hlt).toNat:Int) == 10)=true:=by rw[hbc];simp
    rw[hbc] at HT;clear hb;go_wp2;go_round
    case rel=>exact⟨j+1,n+1,by omega,by omega,by go_num,by go_num,lh (by rw[HT.out,HC.out];rfl)⟩
    case measure=>simp[intOf];omega
   ·have bq:(((s[j]'hlt).toNat:Int) == 10)=false:=by
     rw[beq_eq_false_iff_ne];intro e;exact hbc (UInt8.toNat_inj.1 (by show (s[j]'hlt).toNat=10;omega))
    rw[if_neg hbc] at HT;clear hb;go_wp2;go_round
    case rel=>exact⟨j+1,n,by omega,by omega,rfl,by go_num,lh (by rw[HT.out,HC.out];rfl)⟩
    case measure=>simp[intOf];omega
  ·obtain rfl:j=s.size:=by omega
   have HE:=lh (show n=(tx s).count 10 by rw[HC.out,List.take_of_length_le (by rw[<- DU];exact Nat.le_refl _)]);go_wp2;go_ret;exact⟨by rw[HE.out];simp,rfl⟩
end Go.Proofs.YthibllkleakiiaaGreatDoor
namespace Sg
end Sg
namespace Go.Proofs.YthibllkleakiiaaGreatDoor
open Go.RowKit
end Go.Proofs.YthibllkleakiiaaGreatDoor
