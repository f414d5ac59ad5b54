/- The reference's reading of a formula, in memory: its contract. Conditions: at most 2^21 words of at most 2^20 bytes. -/
import Derived.Test.YthibllkleakiiaaGreatDoorTxJ
namespace Sg
theorem Wa (st:List At × List Int)(s:AO):DM K9 st s=if (Fe s).n<0\/st.2.length<(AD (Fe s)).length then none else
  some (st.1++[LK (Fe s) (st.2.drop (st.2.length - (AD (Fe s)).length))],st.2.take (st.2.length - (AD (Fe s)).length)++[(st.1.length:Int)]):=by
 unfold DM;rw[VU];by_cases h:(Fe s).n<0
 ·rw[if_pos h,if_pos (.inl h)]
 ·rw[if_neg h];simp only;by_cases h2:st.2.length<(AD (Fe s)).length
  ·rw[if_pos h2,if_pos (.inr h2)]
  ·rw[if_neg h2,if_neg (by rintro (e | e);exact h e;exact h2 e)]
theorem Qc (s:AO):∃ k n,Fe s=⟨k,-1,-1,-1,n⟩/\((2<=k/\k<=7/\n=0)\/(k=8/\n=0)\/((k=0\/k=1)/\(n = -1\/0<=n/\n<=999))):=by
 have key:∀ t:AO,AV t = -1\/0<=AV t/\AV t<=999:=fun t=>(FV t).imp id fun ⟨n,h,h9⟩=>by omega
 unfold Fe;split
 ·rename_i h
  rcases EJ s with e | ⟨h2,h8,-⟩
  ·exact absurd e h
  ·refine⟨C9 s,0,rfl,?_⟩;by_cases h:C9 s=8
   ·exact .inr (.inl ⟨h,rfl⟩)
   ·exact .inl ⟨h2,by omega,rfl⟩
 ·split
  ·exact⟨1,_,rfl,.inr (.inr ⟨.inr rfl,key _⟩)⟩
  ·exact⟨0,_,rfl,.inr (.inr ⟨.inl rfl,key _⟩)⟩
theorem N8 {ws:List AO}{f:List At}{op:List Int}(h:Ej K9 ws ([],[])=some (f,op)):CD ws=if op.length=1/\AR f=true then some f else none:=by
 unfold CD;rw[h]
theorem Jn {ws:List AO}(h:Ej K9 ws ([],[])=none):CD ws=none:=by
 unfold CD;rw[h]
theorem Yw {op:List Int}{x y:Int}(h0:op[op.length - 2]? = some x)(h1:op[op.length - 1]? = some y)(h:2<=op.length):op.drop (op.length - 2)=[x,y]:=by
 refine List.ext_getElem? fun k=>?_;rw[List.getElem?_drop];match k with
 | 0=>exact h0
 | 1=>rw[show op.length - 2+1=op.length - 1 by omega];exact h1
 | k+2=>rw[List.getElem?_eq_none (by omega)];rfl
theorem Yx {op:List Int}{x y z:Int}(h0:op[op.length - 3]? = some x)(h1:op[op.length - 2]? = some y)(h2:op[op.length - 1]? = some z)(h:3<=op.length):op.drop (op.length - 3)=[x,y,z]:=by
 refine List.ext_getElem? fun k=>?_;rw[List.getElem?_drop];match k with
 | 0=>exact h0
 | 1=>rw[show op.length - 3+1=op.length - 2 by omega];exact h1
 | 2=>rw[show op.length - 3+2=op.length - 1 by omega];exact h2
 | k+3=>rw[List.getElem?_eq_none (by omega)];rfl
theorem T4 {ws:List AO}{i:Nat}{x:AO}(h:ws[i]? = some x)(st:List At × List Int):Ej K9 (ws.drop i) st=match DM K9 st x with
  | none=>none
  | some st'=>Ej K9 (ws.drop (i+1)) st':=by
 obtain⟨hl,he⟩:=List.getElem?_eq_some_iff.1 h;rw[List.drop_eq_getElem_cons hl,he];rfl
end Sg
namespace Go.Proofs.YthibllkleakiiaaGreatDoor
open Go.RowKit
theorem Rd.takeK {w:World}{A:Option Addr}{n:Nat}{l:List Int}(h:Rd w 1 A n (Ah l)){i:Nat}(hi:i<=n):Rd w 1 A i (Ah (l.take i)):=by
 obtain⟨h1,h0,h2⟩:=h;refine⟨by simp at h1 ⊢;omega,by omega,fun hp=>?_⟩;obtain⟨b,o,rfl,h3⟩:=h2 (by omega);refine⟨b,o,rfl,fun k u hu=>h3 k u ?_⟩;unfold Ah at hu ⊢;rw[List.map_take] at hu;rw[List.getElem?_take] at hu;split at hu
 ·exact hu
 ·cases hu
theorem Om {w:World}{b o n k:Nat}{l:List Int}(h:Rd w 1 (some ⟨b,o,none⟩) n (Ah l))(hk:k<n):∃ y,l[k]? = some y/\w.cell? ⟨b,o+k,none⟩=some (.int .i64 y):=by
 obtain⟨b',o',x,hA,hx,hc⟩:=h.at1 hk;simp only[Option.some.injEq,Addr.mk.injEq,and_true] at hA;obtain⟨rfl,rfl⟩:=hA;exact⟨x,hx,hc⟩
theorem zp1{p:Prop}(h:p:=by
 have HN:Hid (Sg.CD (ws.map tx)=none):=lh (Sg.Jn (by rw[HR.out,HC.out,HST.out]));have y2:Bx v2 w.heap.size [.slice none 0 0]:=(Ai.get S2.out 4 rfl:Bx _ _ _/\_).1;have x2:=y2.cell (j:=0) rfl;have g2:=y2.free 0;have l2:=y2.lt;have Y2:=lh y2;clear y2;go_wp2;have s0:=(Y2.out.set 0 (.slice none 0 0)).cell (j:=0) rfl;refine bodyPost_ret (v := .tuple #[.agg #[.slice none 0 0],.bool false]) (by simp[results,Tryz.results28,go_sem,s0];try rfl) rfl ?_;exact⟨[],false,none,0,rfl,by rw[HN.out];rfl,E2.out.set (p:=⟨w.heap.size,0,none⟩) (Nat.le_refl _) _,Au.nil _ _ _ _⟩):p:=h
set_option maxRecDepth 100000 in
set_option maxHeartbeats 8000000 in
theorem FT (A:Option Addr)(c:Nat)(ws:List ByteArray)(w:World)(h:Rd w 1 A ws.length (Bh ws))(hb:ws.length<=2100000)(hx:∀ s ∈ ws,s.size<=2000000)(hne:(∀ s ∈ ws,tx s≠[])->ws.length<=1048576) :
  Calls Tryz.prog 28 #[.slice A ws.length c] w fun e w'=>∃ (f:List Sg.At) (ok:Bool) (A1:Option Addr) (c1:Nat),e= .returned (.tuple #[.agg #[.slice A1 f.length c1],.bool ok]) /\
   Sg.CD (ws.map tx)=(if ok=true then some f else none)/\Aa w w'/\Au w' w.heap.size 111 5 A1 f.length c1 (AH f):=by
 have H:=lh h;have HX:=lh hx;have HNW:=lh hne;obtain⟨B,hB⟩:∃ B,B=w.heap.size:=⟨_,rfl⟩;have S1:=Ai.add (B:=w.heap.size) (ts:=[]) (W:=w) trivial (xr.al (.cells #[.slice none 0 0] 68)) (Th.box w.heap.size w.heap.size [.slice none 0 0]) ⟨Bx.new w #[.slice none 0 0] 68,Nat.le_refl _⟩ (fun b e=>by have e2:b=w.heap.size:=e;omega);have S2:=Ai.add S1 (xr.al (.cells #[.slice none 0 0] 68)) (Th.box w.heap.size (w.heap.size+1) [.slice none 0 0]) ⟨by have:=Bx.new (World.alloc w (.cells #[.slice none 0 0] 68)) #[.slice none 0 0] 68;simpa[go_sem] using this,by omega⟩ (fun b e=>by have e2:b=w.heap.size+1:=e;simp[go_sem];omega);have S3:=Ai.add S2 (xr.al (.cells #[] 3)) (Th.own w.heap.size 3 1 (some ⟨w.heap.size+1+1,0,none⟩) 0 0 (Ah [])) (by have:=Au.new (World.alloc (World.alloc w (.cells #[.slice none 0 0] 68)) (.cells #[.slice none 0 0] 68)) (B:=w.heap.size) 3 1 #[] 0 (by simp[go_sem];omega) (by decide) rfl;show Au _ _ _ _ _ 0 0 [];simpa[go_sem] using this) (fun b e=>by simp[Th.own,AE] at e;simp[go_sem];omega);have S4:=lh (Ai.add S3 xr (Th.own w.heap.size 111 5 none 0 0 (AH [])) (Au.nil _ _ _ _) (fun b e=>by simp[Th.own,AE] at e));have E0:=lh ((((Aa.rfl' w).al (.cells #[.slice none 0 0] 68)).al (.cells #[.slice none 0 0] 68)).al (.cells #[] 3));clear S1 S2 S3 h hx hB hne;go_enter Tryz.func28,Tryz.ntmps28;go_wp2_with fail
 go_loopw [5,6] (fun s5 s6 wr=>∃ (i:Nat) (f:List Sg.At) (op:List Int) (b5 c5:Nat) (Af:Option Addr) (cf:Nat),i<=ws.length/\s5= .slice (some ⟨b5,0,none⟩) op.length c5/\s6= .int .i64 i/\f.length=i/\op.length<=i/\Hid (Sg.Ej Sg.K9 (ws.map tx) ([],[])=Sg.Ej Sg.K9 ((ws.map tx).drop i) (f,op))/\Hid (∀ s ∈ ws.take i,tx s≠[])/\Hid (Aa w wr)/\Hid (Ai [Th.own w.heap.size 111 5 Af f.length cf (AH f),Th.own w.heap.size 3 1 (some ⟨b5,0,none⟩) op.length c5 (Ah op),Th.box w.heap.size (w.heap.size+1) [.slice Af f.length cf],Th.box w.heap.size w.heap.size [.slice none 0 0]] wr)) (fun _ s6 _=>ws.length - (intOf s6).toNat)
 case atStart=>exact⟨0,[],[],_,_,none,0,Nat.zero_le _,rfl,rfl,rfl,Nat.le_refl _,lh rfl,lh (by simp),E0,S4⟩
 case round =>
  clear S4 E0;obtain⟨i,f,op,b5,c5,Af,cf,hi,rfl,rfl,hfi,hop,HR,HNE0,E,SS⟩:=hrel;have Hfi:=lh hfi;clear hfi;by_cases hlt:i<ws.length
  ·obtain⟨bw,ow,s,rfl,hs,hc⟩:=(H.out.ext E.out).atT hlt;have hsz:=HX.out s (List.mem_of_getElem? hs);have HC:=lh (Sg.T4 (show (ws.map tx)[i]? = some (tx s) by rw[List.getElem?_map,hs];rfl) (f,op));have HQ:=lh (Sg.Wa (f,op) (tx s));have HP:=lh (Sk s · hsz);have bc:=AA hc;have hix:(i:Int)<(ws.length:Int):=by omega
   obtain⟨k,n,hq,hkn⟩:=Sg.Qc (tx s);have HTK1:=lh (show ws.take (i+1)=ws.take i++[s] by rw[List.take_add_one,hs];rfl);have HEM:=lh (show tx s=[]->k=0/\n = -1 from fun e=>by rw[e] at hq;injection (show (⟨0,-1,-1,-1,-1⟩:Sg.At)=⟨k,-1,-1,-1,n⟩ from hq) with e1 _ _ _ e2;exact⟨e1.symm,e2.symm⟩);rw[hq] at HQ HP;clear hs hsz hq;go_wp2_with fail
   refine(HP.out _).mono ?_;rintro e v1 ⟨rfl,he1⟩;have S1:=lh (Ai.ext SS.out he1);have E1:=lh (E.out.tr he1);clear he1 hc bc HP;go_upto_region 7 with fail
   have hs1:=E1.out.size;have S2:=lh (Ai.add S1.out ((Aa.rfl' v1).al (.cells #[.int .i64 k,.int .i64 (-1),.int .i64 (-1),.int .i64 (-1),.int .i64 n] 111)) (Th.box w.heap.size v1.heap.size (Dn ⟨k,-1,-1,-1,n⟩)) ⟨Bx.new v1 _ _,hs1⟩ (fun b e=>by have e2:b=v1.heap.size:=e;omega));have E2:=lh (E1.out.al (.cells #[.int .i64 k,.int .i64 (-1),.int .i64 (-1),.int .i64 (-1),.int .i64 n] 111));generalize World.alloc v1 (.cells #[.int .i64 k,.int .i64 (-1),.int .i64 (-1),.int .i64 (-1),.int .i64 n] 111)=v2 at *;generalize v1.heap.size=bp at *;have hbp:w.heap.size<=bp:=hs1;clear S1 E1 hs1;have y7:Bx v2 bp (Dn ⟨k,-1,-1,-1,n⟩):=(Ai.get S2.out 0 rfl:Bx _ _ _/\_).1;have z0:=y7.cell (j:=0) rfl;have z4:=y7.cell (j:=4) rfl;have bz:=y7.lt;clear y7;rcases hkn with ⟨hk2,hk7,rfl⟩ | ⟨rfl,rfl⟩ | ⟨hk,hn⟩
   ·have HAR:=lh (show Fn k=2 by unfold Fn;rw[if_neg (by omega),if_pos ⟨hk2,hk7⟩]);have HBL:=lh (show Sg.AD ⟨k,-1,-1,-1,0⟩=[-1,-1] by unfold Sg.AD;simp only;rw[if_neg (by omega),if_pos ⟨hk2,hk7⟩]);rw[HBL.out] at HQ;go_wp2_with fail
    refine(Gw k _).mono ?_;rintro e w' ⟨rfl,rfl⟩;rw[HAR.out];by_cases hlo:op.length<2
    ·have HST:Hid (Sg.DM Sg.K9 (f,op) (tx s)=none):=lh (by rw[HQ.out];exact if_pos (.inr hlo));have hlx:(2:Int) > (op.length:Int):=by omega
     exact zp1
    ·have hlx:¬ ((2:Int) > (op.length:Int)):=by omega
     have h00:¬ ((0:Int)<0):=by omega
     have ho5:Au v2 w.heap.size 3 1 (some ⟨b5,0,none⟩) op.length c5 (Ah op):=Ai.get S2.out 2 rfl;have hc5:=ho5.2.1;have ix0:IntKind.i64.wrap ((op.length:Int) - 2)=((op.length - 2:Nat):Int):=by rw[IntWalk.i64_in _ (by omega)];omega
     have ix1:IntKind.i64.wrap ((op.length:Int) - 1)=((op.length - 1:Nat):Int):=by rw[IntWalk.i64_in _ (by omega)];omega
     obtain⟨y0,hy0,cy0⟩:=Om ho5.rd (show op.length - 2<op.length by omega);have HY0:=lh hy0;have CY0:=lh cy0;clear hy0 cy0;have ixx0:((op.length - 2:Nat):Int)<(op.length:Int):=by omega
     have ixn0:(0:Int)<=((op.length - 2:Nat):Int):=by omega
     obtain⟨y1,hy1,cy1⟩:=Om ho5.rd (show op.length - 1<op.length by omega);have HY1:=lh hy1;have CY1:=lh cy1;clear hy1 cy1;have ixx1:((op.length - 1:Nat):Int)<(op.length:Int):=by omega
     have ixn1:(0:Int)<=((op.length - 1:Nat):Int):=by omega
     clear ho5;have yb:Bx v2 bp (Dn ⟨k,(-1),(-1),(-1),0⟩):=(Ai.get S2.out 0 rfl:Bx _ _ _/\_).1;have u0:=yb.cell (j:=1) rfl;have uf:=yb.free 1;have ul:=yb.lt;have YB:=lh yb;have cy:=(Ai.get S2.out 2 rfl:Au _ _ _ _ _ _ _ _).cell (j:=op.length - 2) (by rw[Ah,List.getElem?_map,HY0.out];rfl);have bcy:=AA cy;have SN:=lh (Ai.st S2.out 0 rfl ⟨bp,1,none⟩ (.int .i64 y0) rfl (Th.box w.heap.size bp (Dn ⟨k,y0,(-1),(-1),0⟩)) ⟨YB.out.set 1 _,hbp⟩ (fun _ e=>e));have EN:=lh (E2.out.set (p:=⟨bp,1,none⟩) hbp (.int .i64 y0));clear yb;go_upto_region 14 with fail
     generalize World.setCell v2 ⟨bp,1,none⟩ (.int .i64 y0)=x1 at *;clear z0 z4 bz;have T0:=SN;have F0:=EN;clear SN EN YB u0 uf ul cy bcy S2 E2 CY0;have yb:Bx x1 bp (Dn ⟨k,y0,(-1),(-1),0⟩):=(Ai.get T0.out 0 rfl:Bx _ _ _/\_).1;have u1:=yb.cell (j:=2) rfl;have uf:=yb.free 2;have ul:=yb.lt;have YB:=lh yb;have cy:=(Ai.get T0.out 2 rfl:Au _ _ _ _ _ _ _ _).cell (j:=op.length - 1) (by rw[Ah,List.getElem?_map,HY1.out];rfl);have bcy:=AA cy;have SN:=lh (Ai.st T0.out 0 rfl ⟨bp,2,none⟩ (.int .i64 y1) rfl (Th.box w.heap.size bp (Dn ⟨k,y0,y1,(-1),0⟩)) ⟨YB.out.set 2 _,hbp⟩ (fun _ e=>e));have EN:=lh (F0.out.set (p:=⟨bp,2,none⟩) hbp (.int .i64 y1));clear yb;go_upto_region 19 with fail
     generalize World.setCell x1 ⟨bp,2,none⟩ (.int .i64 y1)=x2 at *;have T1:=SN;have F1:=EN;clear SN EN YB u1 uf ul cy bcy T0 F0 CY1;have hlc:((op.length - 2:Nat):Int)<=(c5:Int):=by omega
     have hln:(0:Int)<=((op.length - 2:Nat):Int):=by omega
     have ixl:IntKind.i64.wrap ((op.length:Int) - 2)=((op.length - 2:Nat):Int):=by rw[IntWalk.i64_in _ (by omega)];omega
     have HTK:=lh ((Ai.get T1.out 2 rfl:Au _ _ _ _ _ _ _ _).rd.takeK (i:=op.length - 2) (by omega));go_wp2_with fail
     refine(DZ _ (op.length - 2) c5 (op.take (op.length - 2)) _ HTK.out (by omega)).mono ?_;rintro e v4 ⟨A6,c6,rfl,ho6,he6⟩;have HO6:=lh ho6;have X4:=lh he6;have h64:=he6.size;clear ho6 he6 HTK;have HI1:=lh (Bn .i64 (i:Int));go_upto_region 20 with (at_builtin;refine AB (cs:=[.int .i64 (i:Int)]) rfl rfl Bc rfl HO6.out rfl rfl HI1.out (by omega) (by omega) (by omega) ?_;intro A7 c7 v5 hown7 hg7 hat7;have HN7:=lh hown7;have X5:=lh (X4.out.gr hg7 fun x hx=>(HO6.out.lt hx).1);clear hown7 hg7 hat7 HO6 X4)
     obtain⟨b7,rfl,-⟩:=HN7.out.at_ (by omega);have hWs:=F1.out.size;have h75:=X5.out.size;have S5:=lh (Ai.add T1.out X5.out (Th.own w.heap.size 3 1 (some ⟨b7,0,none⟩) (op.length - 2+1) c7 (Ah (op.take (op.length - 2))++[Value.int .i64 (i:Int)])) (HN7.out.mono hWs) (fun b e=>(HN7.out.lt e).1));have E5:=lh (F1.out.tr X5.out);clear HN7 X5 T1 F1;have yp:Bx v5 bp (Dn ⟨k,y0,y1,(-1),0⟩):=(Ai.get S5.out 1 rfl:Bx _ _ _/\_).1;have p0:=yp.cell (j:=0) rfl;have p1:=yp.cell (j:=1) rfl;have p2:=yp.cell (j:=2) rfl;have p3:=yp.cell (j:=3) rfl;have p4:=yp.cell (j:=4) rfl;have lp:=yp.lt;have yf:Bx v5 (w.heap.size+1) [.slice Af f.length cf]:=(Ai.get S5.out 4 rfl:Bx _ _ _/\_).1;have q0:=yf.cell (j:=0) rfl;have lf:=yf.lt;clear yp yf;have HOF:=lh (show Au v5 w.heap.size 111 5 Af f.length cf (AH f) from Ai.get S5.out 2 rfl);have HPC:=lh (IE ⟨k,y0,y1,(-1),0⟩);have hfl:=Hfi.out;have h55:=E5.out.size;have eL:=lh (show f.length+1<=1099511627776 by omega);have eW:=lh (show w.heap.size<=v5.heap.size by omega);clear hfl;go_wp2_with (at_builtin;refine AB (cs:=Dn ⟨k,y0,y1,(-1),0⟩) rfl rfl FL rfl HOF.out rfl rfl HPC.out eL.out (by omega) eW.out ?_;intro A8 c8 v6 hown8 hg8 hat8;have S6:=lh (Ai.app S5.out 2 rfl hown8 hg8 hat8);have E6:=lh (E5.out.gr hg8 fun x hx=>(HOF.out.lt hx).1);clear hown8 hg8 hat8 S5 E5 HOF p0 p1 p2 p3 p4 lp q0 lf;have y6:Bx v6 (w.heap.size+1) [.slice Af f.length cf]:=(Ai.get S6.out 4 rfl:Bx _ _ _/\_).1;have r6:=y6.cell (j:=0) rfl;have f6:=y6.free 0;have l6:=y6.lt;have Y6:=lh y6;clear y6)
     have S7:=Ai.st S6.out 4 rfl ⟨w.heap.size+1,0,none⟩ (.slice A8 (f.length+1) c8) rfl (Th.box w.heap.size (w.heap.size+1) [.slice A8 (f.length+1) c8]) ⟨Y6.out.set 0 _,by omega⟩ (fun _ e=>e);have S8:=lh (SepT.perm (SepT.sub S7 (us:=[Th.own w.heap.size 3 1 (some ⟨b7,0,none⟩) (op.length - 2+1) c7 (Ah (op.take (op.length - 2))++[Value.int .i64 (i:Int)]),Th.own w.heap.size 111 5 A8 (f.length+1) c8 (AH f++Dn ⟨k,y0,y1,(-1),0⟩),Th.box w.heap.size (w.heap.size+1) [.slice A8 (f.length+1) c8],Th.box w.heap.size w.heap.size [.slice none 0 0]]) (.cons_cons _ (.cons _ (.cons_cons _ (.cons _ (.refl _)))))) (List.Perm.swap _ _ _));have E8:=lh (E6.out.set (p:=⟨w.heap.size+1,0,none⟩) (by simp) (.slice A8 (f.length+1) c8));clear S6 S7 E6 Y6;have HST:Hid (Sg.DM Sg.K9 (f,op) (tx s)=some (f++[⟨k,y0,y1,(-1),0⟩],op.take (op.length - 2)++[(f.length:Int)])):=lh (by rw[HQ.out,if_neg (by rintro (e | e);exact Int.lt_irrefl 0 e;exact hlo e)];simp only[List.length_cons,List.length_nil,Nat.zero_add,Nat.reduceAdd];rw[Sg.Yw HY0.out HY1.out (by omega)];rfl);have ef:AH f++Dn ⟨k,y0,y1,(-1),0⟩=AH (f++[⟨k,y0,y1,(-1),0⟩]):=by simp[AH]
     have el:f.length+1=(f++[(⟨k,y0,y1,(-1),0⟩:Sg.At)]).length:=by simp
     have eo:Ah (op.take (op.length - 2))++[Value.int .i64 (i:Int)]=Ah (op.take (op.length - 2)++[(i:Int)]):=by simp[Ah]
     have em:op.length - 2+1=(op.take (op.length - 2)++[(i:Int)]).length:=by rw[List.length_append,List.length_take,List.length_singleton];omega
     generalize World.setCell v6 ⟨w.heap.size+1,0,none⟩ (.slice A8 (f.length+1) c8)=v9 at *;rw[ef,el,eo,em] at S8;have HNE1:Hid (∀ s ∈ ws.take (i+1),tx s≠[]):=lh (by rw[HTK1.out];intro y hy;rcases List.mem_append.1 hy with hy | hy;exact HNE0.out y hy;rw[List.mem_singleton] at hy;subst hy;intro e;have:=HEM.out e;omega);go_roundw
     case rel=>exact⟨i+1,f++[⟨k,y0,y1,(-1),0⟩],op.take (op.length - 2)++[(i:Int)],b7,c7,A8,c8,by omega,by rw[em],by go_num,by rw[<- el,Hfi.out],by rw[<- em];omega,lh (by rw[HR.out,HC.out,HST.out,Hfi.out]),HNE1,E8,S8⟩
     case measure=>simp[intOf];omega
   ·have HAR:=lh (show Fn 8=3 by rfl);have HBL:=lh (show Sg.AD ⟨8,-1,-1,-1,0⟩=[-1,-1,-1] by rfl);rw[HBL.out] at HQ;go_wp2_with fail
    refine(Gw 8 _).mono ?_;rintro e w' ⟨rfl,rfl⟩;rw[HAR.out];by_cases hlo:op.length<3
    ·have HST:Hid (Sg.DM Sg.K9 (f,op) (tx s)=none):=lh (by rw[HQ.out];exact if_pos (.inr hlo));have hlx:(3:Int) > (op.length:Int):=by omega
     exact zp1
    ·have hlx:¬ ((3:Int) > (op.length:Int)):=by omega
     have h00:¬ ((0:Int)<0):=by omega
     have ho5:Au v2 w.heap.size 3 1 (some ⟨b5,0,none⟩) op.length c5 (Ah op):=Ai.get S2.out 2 rfl;have hc5:=ho5.2.1;have ix0:IntKind.i64.wrap ((op.length:Int) - 3)=((op.length - 3:Nat):Int):=by rw[IntWalk.i64_in _ (by omega)];omega
     have ix1:IntKind.i64.wrap ((op.length:Int) - 2)=((op.length - 2:Nat):Int):=by rw[IntWalk.i64_in _ (by omega)];omega
     have ix2:IntKind.i64.wrap ((op.length:Int) - 1)=((op.length - 1:Nat):Int):=by rw[IntWalk.i64_in _ (by omega)];omega
     obtain⟨y0,hy0,cy0⟩:=Om ho5.rd (show op.length - 3<op.length by omega);have HY0:=lh hy0;have CY0:=lh cy0;clear hy0 cy0;have ixx0:((op.length - 3:Nat):Int)<(op.length:Int):=by omega
     have ixn0:(0:Int)<=((op.length - 3:Nat):Int):=by omega
     obtain⟨y1,hy1,cy1⟩:=Om ho5.rd (show op.length - 2<op.length by omega);have HY1:=lh hy1;have CY1:=lh cy1;clear hy1 cy1;have ixx1:((op.length - 2:Nat):Int)<(op.length:Int):=by omega
     have ixn1:(0:Int)<=((op.length - 2:Nat):Int):=by omega
     obtain⟨y2,hy2,cy2⟩:=Om ho5.rd (show op.length - 1<op.length by omega);have HY2:=lh hy2;have CY2:=lh cy2;clear hy2 cy2;have ixx2:((op.length - 1:Nat):Int)<(op.length:Int):=by omega
     have ixn2:(0:Int)<=((op.length - 1:Nat):Int):=by omega
     clear ho5;have yb:Bx v2 bp (Dn ⟨8,(-1),(-1),(-1),0⟩):=(Ai.get S2.out 0 rfl:Bx _ _ _/\_).1;have u0:=yb.cell (j:=1) rfl;have uf:=yb.free 1;have ul:=yb.lt;have YB:=lh yb;have cy:=(Ai.get S2.out 2 rfl:Au _ _ _ _ _ _ _ _).cell (j:=op.length - 3) (by rw[Ah,List.getElem?_map,HY0.out];rfl);have bcy:=AA cy;have SN:=lh (Ai.st S2.out 0 rfl ⟨bp,1,none⟩ (.int .i64 y0) rfl (Th.box w.heap.size bp (Dn ⟨8,y0,(-1),(-1),0⟩)) ⟨YB.out.set 1 _,hbp⟩ (fun _ e=>e));have EN:=lh (E2.out.set (p:=⟨bp,1,none⟩) hbp (.int .i64 y0));clear yb;go_upto_region 17 with fail
     generalize World.setCell v2 ⟨bp,1,none⟩ (.int .i64 y0)=x1 at *;clear z0 z4 bz;have T0:=SN;have F0:=EN;clear SN EN YB u0 uf ul cy bcy S2 E2 CY0;have yb:Bx x1 bp (Dn ⟨8,y0,(-1),(-1),0⟩):=(Ai.get T0.out 0 rfl:Bx _ _ _/\_).1;have u1:=yb.cell (j:=2) rfl;have uf:=yb.free 2;have ul:=yb.lt;have YB:=lh yb;have cy:=(Ai.get T0.out 2 rfl:Au _ _ _ _ _ _ _ _).cell (j:=op.length - 2) (by rw[Ah,List.getElem?_map,HY1.out];rfl);have bcy:=AA cy;have SN:=lh (Ai.st T0.out 0 rfl ⟨bp,2,none⟩ (.int .i64 y1) rfl (Th.box w.heap.size bp (Dn ⟨8,y0,y1,(-1),0⟩)) ⟨YB.out.set 2 _,hbp⟩ (fun _ e=>e));have EN:=lh (F0.out.set (p:=⟨bp,2,none⟩) hbp (.int .i64 y1));clear yb;go_upto_region 18 with fail
     generalize World.setCell x1 ⟨bp,2,none⟩ (.int .i64 y1)=x2 at *;have T1:=SN;have F1:=EN;clear SN EN YB u1 uf ul cy bcy T0 F0 CY1;have yb:Bx x2 bp (Dn ⟨8,y0,y1,(-1),0⟩):=(Ai.get T1.out 0 rfl:Bx _ _ _/\_).1;have u2:=yb.cell (j:=3) rfl;have uf:=yb.free 3;have ul:=yb.lt;have YB:=lh yb;have cy:=(Ai.get T1.out 2 rfl:Au _ _ _ _ _ _ _ _).cell (j:=op.length - 1) (by rw[Ah,List.getElem?_map,HY2.out];rfl);have bcy:=AA cy;have SN:=lh (Ai.st T1.out 0 rfl ⟨bp,3,none⟩ (.int .i64 y2) rfl (Th.box w.heap.size bp (Dn ⟨8,y0,y1,y2,0⟩)) ⟨YB.out.set 3 _,hbp⟩ (fun _ e=>e));have EN:=lh (F1.out.set (p:=⟨bp,3,none⟩) hbp (.int .i64 y2));clear yb;go_upto_region 19 with fail
     generalize World.setCell x2 ⟨bp,3,none⟩ (.int .i64 y2)=x3 at *;have T2:=SN;have F2:=EN;clear SN EN YB u2 uf ul cy bcy T1 F1 CY2;have hlc:((op.length - 3:Nat):Int)<=(c5:Int):=by omega
     have hln:(0:Int)<=((op.length - 3:Nat):Int):=by omega
     have ixl:IntKind.i64.wrap ((op.length:Int) - 3)=((op.length - 3:Nat):Int):=by rw[IntWalk.i64_in _ (by omega)];omega
     have HTK:=lh ((Ai.get T2.out 2 rfl:Au _ _ _ _ _ _ _ _).rd.takeK (i:=op.length - 3) (by omega));go_wp2_with fail
     refine(DZ _ (op.length - 3) c5 (op.take (op.length - 3)) _ HTK.out (by omega)).mono ?_;rintro e v4 ⟨A6,c6,rfl,ho6,he6⟩;have HO6:=lh ho6;have X4:=lh he6;have h64:=he6.size;clear ho6 he6 HTK;have HI1:=lh (Bn .i64 (i:Int));go_upto_region 20 with (at_builtin;refine AB (cs:=[.int .i64 (i:Int)]) rfl rfl Bc rfl HO6.out rfl rfl HI1.out (by omega) (by omega) (by omega) ?_;intro A7 c7 v5 hown7 hg7 hat7;have HN7:=lh hown7;have X5:=lh (X4.out.gr hg7 fun x hx=>(HO6.out.lt hx).1);clear hown7 hg7 hat7 HO6 X4)
     obtain⟨b7,rfl,-⟩:=HN7.out.at_ (by omega);have hWs:=F2.out.size;have h75:=X5.out.size;have S5:=lh (Ai.add T2.out X5.out (Th.own w.heap.size 3 1 (some ⟨b7,0,none⟩) (op.length - 3+1) c7 (Ah (op.take (op.length - 3))++[Value.int .i64 (i:Int)])) (HN7.out.mono hWs) (fun b e=>(HN7.out.lt e).1));have E5:=lh (F2.out.tr X5.out);clear HN7 X5 T2 F2;have yp:Bx v5 bp (Dn ⟨8,y0,y1,y2,0⟩):=(Ai.get S5.out 1 rfl:Bx _ _ _/\_).1;have p0:=yp.cell (j:=0) rfl;have p1:=yp.cell (j:=1) rfl;have p2:=yp.cell (j:=2) rfl;have p3:=yp.cell (j:=3) rfl;have p4:=yp.cell (j:=4) rfl;have lp:=yp.lt;have yf:Bx v5 (w.heap.size+1) [.slice Af f.length cf]:=(Ai.get S5.out 4 rfl:Bx _ _ _/\_).1;have q0:=yf.cell (j:=0) rfl;have lf:=yf.lt;clear yp yf;have HOF:=lh (show Au v5 w.heap.size 111 5 Af f.length cf (AH f) from Ai.get S5.out 2 rfl);have HPC:=lh (IE ⟨8,y0,y1,y2,0⟩);have hfl:=Hfi.out;have h55:=E5.out.size;have eL:=lh (show f.length+1<=1099511627776 by omega);have eW:=lh (show w.heap.size<=v5.heap.size by omega);clear hfl;go_wp2_with (at_builtin;refine AB (cs:=Dn ⟨8,y0,y1,y2,0⟩) rfl rfl FL rfl HOF.out rfl rfl HPC.out eL.out (by omega) eW.out ?_;intro A8 c8 v6 hown8 hg8 hat8;have S6:=lh (Ai.app S5.out 2 rfl hown8 hg8 hat8);have E6:=lh (E5.out.gr hg8 fun x hx=>(HOF.out.lt hx).1);clear hown8 hg8 hat8 S5 E5 HOF p0 p1 p2 p3 p4 lp q0 lf;have y6:Bx v6 (w.heap.size+1) [.slice Af f.length cf]:=(Ai.get S6.out 4 rfl:Bx _ _ _/\_).1;have r6:=y6.cell (j:=0) rfl;have f6:=y6.free 0;have l6:=y6.lt;have Y6:=lh y6;clear y6)
     have S7:=Ai.st S6.out 4 rfl ⟨w.heap.size+1,0,none⟩ (.slice A8 (f.length+1) c8) rfl (Th.box w.heap.size (w.heap.size+1) [.slice A8 (f.length+1) c8]) ⟨Y6.out.set 0 _,by omega⟩ (fun _ e=>e);have S8:=lh (SepT.perm (SepT.sub S7 (us:=[Th.own w.heap.size 3 1 (some ⟨b7,0,none⟩) (op.length - 3+1) c7 (Ah (op.take (op.length - 3))++[Value.int .i64 (i:Int)]),Th.own w.heap.size 111 5 A8 (f.length+1) c8 (AH f++Dn ⟨8,y0,y1,y2,0⟩),Th.box w.heap.size (w.heap.size+1) [.slice A8 (f.length+1) c8],Th.box w.heap.size w.heap.size [.slice none 0 0]]) (.cons_cons _ (.cons _ (.cons_cons _ (.cons _ (.refl _)))))) (List.Perm.swap _ _ _));have E8:=lh (E6.out.set (p:=⟨w.heap.size+1,0,none⟩) (by simp) (.slice A8 (f.length+1) c8));clear S6 S7 E6 Y6;have HST:Hid (Sg.DM Sg.K9 (f,op) (tx s)=some (f++[⟨8,y0,y1,y2,0⟩],op.take (op.length - 3)++[(f.length:Int)])):=lh (by rw[HQ.out,if_neg (by rintro (e | e);exact Int.lt_irrefl 0 e;exact hlo e)];simp only[List.length_cons,List.length_nil,Nat.zero_add,Nat.reduceAdd];rw[Sg.Yx HY0.out HY1.out HY2.out (by omega)];rfl);have ef:AH f++Dn ⟨8,y0,y1,y2,0⟩=AH (f++[⟨8,y0,y1,y2,0⟩]):=by simp[AH]
     have el:f.length+1=(f++[(⟨8,y0,y1,y2,0⟩:Sg.At)]).length:=by simp
     have eo:Ah (op.take (op.length - 3))++[Value.int .i64 (i:Int)]=Ah (op.take (op.length - 3)++[(i:Int)]):=by simp[Ah]
     have em:op.length - 3+1=(op.take (op.length - 3)++[(i:Int)]).length:=by rw[List.length_append,List.length_take,List.length_singleton];omega
     generalize World.setCell v6 ⟨w.heap.size+1,0,none⟩ (.slice A8 (f.length+1) c8)=v9 at *;rw[ef,el,eo,em] at S8;have HNE1:Hid (∀ s ∈ ws.take (i+1),tx s≠[]):=lh (by rw[HTK1.out];intro y hy;rcases List.mem_append.1 hy with hy | hy;exact HNE0.out y hy;rw[List.mem_singleton] at hy;subst hy;intro e;have:=HEM.out e;omega);go_roundw
     case rel=>exact⟨i+1,f++[⟨8,y0,y1,y2,0⟩],op.take (op.length - 3)++[(i:Int)],b7,c7,A8,c8,by omega,by rw[em],by go_num,by rw[<- el,Hfi.out],by rw[<- em];omega,lh (by rw[HR.out,HC.out,HST.out,Hfi.out]),HNE1,E8,S8⟩
     case measure=>simp[intOf];omega
   ·have HAR:=lh (show Fn k=0 by unfold Fn;rw[if_pos hk]);have HBL:=lh (show Sg.AD ⟨k,-1,-1,-1,n⟩=[] by unfold Sg.AD;simp only;rcases hk with rfl | rfl <;> rfl);rw[HBL.out] at HQ;go_wp2_with fail
    refine(Gw k _).mono ?_;rintro e w' ⟨rfl,rfl⟩;rw[HAR.out];by_cases hn0:n<0
    ·have HST:Hid (Sg.DM Sg.K9 (f,op) (tx s)=none):=lh (by rw[HQ.out];exact if_pos (.inl hn0));have hlx:¬ ((0:Int) > (op.length:Int)):=by omega
     exact zp1
    ·have HST:Hid (Sg.DM Sg.K9 (f,op) (tx s)=some (f++[⟨k,-1,-1,-1,n⟩],op++[(f.length:Int)])):=lh (by rw[HQ.out,if_neg (by rintro (e | e);exact hn0 e;simp at e)];simp[Sg.LK]);have hlx:¬ ((0:Int) > (op.length:Int)):=by omega
     have ho5:Au v2 w.heap.size 3 1 (some ⟨b5,0,none⟩) op.length c5 (Ah op):=Ai.get S2.out 2 rfl;have hc5:=ho5.2.1;clear ho5;have hlc:((op.length:Nat):Int)<=(c5:Int):=by omega
     have hln:(0:Int)<=((op.length:Nat):Int):=by omega
     have ixl:IntKind.i64.wrap ((op.length:Int) - 0)=(op.length:Int):=by rw[IntWalk.i64_in _ (by omega)];omega
     have HTK:=lh ((Ai.get S2.out 2 rfl:Au _ _ _ _ _ _ _ _).rd.takeK (i:=op.length) (by omega));go_wp2_with fail
     refine(DZ _ (op.length) c5 (op.take (op.length)) _ HTK.out (by omega)).mono ?_;clear z0 z4 bz;rintro e v4 ⟨A6,c6,rfl,ho6,he6⟩;have HO6:=lh ho6;have X4:=lh he6;have h64:=he6.size;clear ho6 he6 HTK;have HI1:=lh (Bn .i64 (i:Int));go_upto_region 20 with (at_builtin;refine AB (cs:=[.int .i64 (i:Int)]) rfl rfl Bc rfl HO6.out rfl rfl HI1.out (by omega) (by omega) (by omega) ?_;intro A7 c7 v5 hown7 hg7 hat7;have HN7:=lh hown7;have X5:=lh (X4.out.gr hg7 fun x hx=>(HO6.out.lt hx).1);clear hown7 hg7 hat7 HO6 X4)
     obtain⟨b7,rfl,-⟩:=HN7.out.at_ (by omega);have hWs:=E2.out.size;have h75:=X5.out.size;have S5:=lh (Ai.add S2.out X5.out (Th.own w.heap.size 3 1 (some ⟨b7,0,none⟩) (op.length+1) c7 (Ah (op.take (op.length))++[Value.int .i64 (i:Int)])) (HN7.out.mono hWs) (fun b e=>(HN7.out.lt e).1));have E5:=lh (E2.out.tr X5.out);clear HN7 X5 S2 E2;have yp:Bx v5 bp (Dn ⟨k,(-1),(-1),(-1),n⟩):=(Ai.get S5.out 1 rfl:Bx _ _ _/\_).1;have p0:=yp.cell (j:=0) rfl;have p1:=yp.cell (j:=1) rfl;have p2:=yp.cell (j:=2) rfl;have p3:=yp.cell (j:=3) rfl;have p4:=yp.cell (j:=4) rfl;have lp:=yp.lt;have yf:Bx v5 (w.heap.size+1) [.slice Af f.length cf]:=(Ai.get S5.out 4 rfl:Bx _ _ _/\_).1;have q0:=yf.cell (j:=0) rfl;have lf:=yf.lt;clear yp yf;have HOF:=lh (show Au v5 w.heap.size 111 5 Af f.length cf (AH f) from Ai.get S5.out 2 rfl);have HPC:=lh (IE ⟨k,(-1),(-1),(-1),n⟩);have hfl:=Hfi.out;have h55:=E5.out.size;have eL:=lh (show f.length+1<=1099511627776 by omega);have eW:=lh (show w.heap.size<=v5.heap.size by omega);clear hfl;go_wp2_with (at_builtin;refine AB (cs:=Dn ⟨k,(-1),(-1),(-1),n⟩) rfl rfl FL rfl HOF.out rfl rfl HPC.out eL.out (by omega) eW.out ?_;intro A8 c8 v6 hown8 hg8 hat8;have S6:=lh (Ai.app S5.out 2 rfl hown8 hg8 hat8);have E6:=lh (E5.out.gr hg8 fun x hx=>(HOF.out.lt hx).1);clear hown8 hg8 hat8 S5 E5 HOF p0 p1 p2 p3 p4 lp q0 lf;have y6:Bx v6 (w.heap.size+1) [.slice Af f.length cf]:=(Ai.get S6.out 4 rfl:Bx _ _ _/\_).1;have r6:=y6.cell (j:=0) rfl;have f6:=y6.free 0;have l6:=y6.lt;have Y6:=lh y6;clear y6)
     have S7:=Ai.st S6.out 4 rfl ⟨w.heap.size+1,0,none⟩ (.slice A8 (f.length+1) c8) rfl (Th.box w.heap.size (w.heap.size+1) [.slice A8 (f.length+1) c8]) ⟨Y6.out.set 0 _,by omega⟩ (fun _ e=>e);have S8:=lh (SepT.perm (SepT.sub S7 (us:=[Th.own w.heap.size 3 1 (some ⟨b7,0,none⟩) (op.length+1) c7 (Ah (op.take (op.length))++[Value.int .i64 (i:Int)]),Th.own w.heap.size 111 5 A8 (f.length+1) c8 (AH f++Dn ⟨k,(-1),(-1),(-1),n⟩),Th.box w.heap.size (w.heap.size+1) [.slice A8 (f.length+1) c8],Th.box w.heap.size w.heap.size [.slice none 0 0]]) (.cons_cons _ (.cons _ (.cons_cons _ (.cons _ (.refl _)))))) (List.Perm.swap _ _ _));have E8:=lh (E6.out.set (p:=⟨w.heap.size+1,0,none⟩) (by simp) (.slice A8 (f.length+1) c8));clear S6 S7 E6 Y6;have ef:AH f++Dn ⟨k,(-1),(-1),(-1),n⟩=AH (f++[⟨k,(-1),(-1),(-1),n⟩]):=by simp[AH]
     have el:f.length+1=(f++[(⟨k,(-1),(-1),(-1),n⟩:Sg.At)]).length:=by simp
     have eo:Ah (op.take (op.length))++[Value.int .i64 (i:Int)]=Ah (op.take (op.length)++[(i:Int)]):=by simp[Ah]
     have em:op.length+1=(op.take (op.length)++[(i:Int)]).length:=by rw[List.length_append,List.length_take,List.length_singleton];omega
     generalize World.setCell v6 ⟨w.heap.size+1,0,none⟩ (.slice A8 (f.length+1) c8)=v9 at *;rw[ef,el,eo,em] at S8;have HNE1:Hid (∀ s ∈ ws.take (i+1),tx s≠[]):=lh (by rw[HTK1.out];intro y hy;rcases List.mem_append.1 hy with hy | hy;exact HNE0.out y hy;rw[List.mem_singleton] at hy;subst hy;intro e;have:=HEM.out e;omega);go_roundw
     case rel=>exact⟨i+1,f++[⟨k,(-1),(-1),(-1),n⟩],op.take (op.length)++[(i:Int)],b7,c7,A8,c8,by omega,by rw[em],by go_num,by rw[<- el,Hfi.out],by rw[<- em];omega,lh (by rw[HR.out,HC.out,HST.out,Hfi.out];simp),HNE1,E8,S8⟩
     case measure=>simp[intOf];omega
  ·obtain rfl:i=ws.length:=by omega
   have HRW:Hid (Sg.Ej Sg.K9 (ws.map tx) ([],[])=some (f,op)):=lh (by rw[HR.out,List.drop_eq_nil_of_le (by simp)];rfl);have HNE:=lh (show AE Af≠some w.heap.size from fun e=>SS.out.2.1 (Th.box w.heap.size w.heap.size [.slice none 0 0]) (by simp) w.heap.size e rfl);have yf:Bx wr (w.heap.size+1) [.slice Af f.length cf]:=(Ai.get SS.out 2 rfl:Bx _ _ _/\_).1;by_cases h1:op.length=1
   ·have b1:((op.length:Int) == 1)=true:=by simp[h1]
    have HFW:Hid (Sg.CD (ws.map tx)=if Sg.AR f=true then some f else none):=lh (by rw[Sg.N8 HRW.out];by_cases hv:Sg.AR f=true;rw[if_pos ⟨h1,hv⟩,if_pos hv];rw[if_neg (fun e=>hv e.2),if_neg hv]);clear h1;have q0:=yf.cell (j:=0) rfl;have Q0:=lh q0;have lf:=yf.lt;have E0:=lh ((Aa.rfl' wr).dr);have HOF:=lh (show Au wr w.heap.size 111 5 Af f.length cf (AH f) from Ai.get SS.out 0 rfl);have HV:=lh fun w' (e:Aa wr w')=>Fl Af cf f w' (HOF.out.rd.ext e) (by have:=Hfi.out;have:=HNW.out (by have:=HNE0.out;rw[List.take_length] at this;exact this);omega);clear yf;go_wp2_with fail
    refine zb 9 (fun W=>W.cell? ⟨w.heap.size+1,0,none⟩=some (.slice Af f.length cf)) ?_ (fun hHeld=>?_)
    ·exact E0.out.cellE Q0.out
    refine zy 0 ?_;refine zy 1 ?_;refine zy 2 ?_;refine zy 3 ?_;refine zy 4 ?_;refine zy 5 ?_;refine zr 6 rfl fun K hK=>?_;go_simp;refine(HV.out _ E0.out).mono ?_;rintro e v1 ⟨rfl,he1⟩;have E1:=lh (E0.out.tr he1);clear he1;try go_wp2_with fail
    refine zh (hK.out _ _) (E1.out.cellE Q0.out) fun hHeld=>?_;clear hK K;try simp only[Act.put,pu]
    refine zy 7 ?_;refine zr 8 rfl fun K hK=>?_;have y2:=(Ai.get SS.out 3 rfl:Bx _ _ _/\_).1.ext E1.out;have r2:=y2.cell (j:=0) rfl;have g2:=y2.free 0;have l2:=y2.lt;have Y2:=lh (y2.set 0 (.slice Af f.length cf));have C2:=lh (E1.out.cellE Q0.out);clear y2;go_simp;try simp only[pg]
    refine zh (hK.out _ _) ((by have:=C2.out;(try simp only[World.cell?_drew] at this ⊢);rw[co];exact this)) fun hHeld=>?_;clear hK K;try simp only[Act.put,pu]
    refine zr 9 rfl fun K hK=>?_;go_simp;refine hK.out _ _ (fun e=>absurd rfl e) (fun hh=>?_);clear hK K hHeld hh;try simp only[Act.put,pu]
    refine zn ?_;go_wp2;have s0:=Y2.out.cell (j:=0) rfl;refine bodyPost_ret (v := .tuple #[.agg #[.slice Af f.length cf],.bool (Sg.AR f)]) (by simp[results,Tryz.results28,go_sem,s0];try rfl) rfl ?_;have hn:AE Af≠some w.heap.size:=fun e=>HNE.out e;exact⟨f,Sg.AR f,Af,cf,rfl,HFW.out,(E.out.tr E1.out).set (p:=⟨w.heap.size,0,none⟩) (Nat.le_refl _) _,(HOF.out.ext E1.out).set hn _⟩
   ·have b1:((op.length:Int) == 1)=false:=by simp;omega
    have HFW:Hid (Sg.CD (ws.map tx)=if false=true then some f else none):=lh (by rw[Sg.N8 HRW.out,if_neg (fun e=>h1 e.1)];rfl);clear h1;have q0:=yf.cell (j:=0) rfl;have Q0:=lh q0;have lf:=yf.lt;have E0:=lh ((Aa.rfl' wr).dr);have HOF:=lh (show Au wr w.heap.size 111 5 Af f.length cf (AH f) from Ai.get SS.out 0 rfl);have HV:=lh fun w' (e:Aa wr w')=>Fl Af cf f w' (HOF.out.rd.ext e) (by have:=Hfi.out;have:=HNW.out (by have:=HNE0.out;rw[List.take_length] at this;exact this);omega);clear yf;go_wp2_with fail
    refine zb 9 (fun W=>W.cell? ⟨w.heap.size+1,0,none⟩=some (.slice Af f.length cf)) ?_ (fun hHeld=>?_)
    ·exact E0.out.cellE Q0.out
    refine zy 0 ?_;refine zy 1 ?_;refine zy 2 ?_;refine zy 3 ?_;refine zy 4 ?_;refine zr 5 rfl fun K hK=>?_;go_simp;try simp only[pg]
    refine zh (hK.out _ _) (E0.out.cellE Q0.out) fun hHeld=>?_;clear hK K;try simp only[Act.put,pu]
    refine zr 6 rfl fun K hK=>?_;go_simp;try go_wp2_with fail
    refine zh (hK.out _ _) (E0.out.cellE Q0.out) fun hHeld=>?_;clear hK K;try simp only[Act.put,pu]
    refine zy 7 ?_;refine zr 8 rfl fun K hK=>?_;have y2:=(Ai.get SS.out 3 rfl:Bx _ _ _/\_).1.ext E0.out;have r2:=y2.cell (j:=0) rfl;have g2:=y2.free 0;have l2:=y2.lt;have Y2:=lh (y2.set 0 (.slice Af f.length cf));have C2:=lh (E0.out.cellE Q0.out);clear y2;go_simp;try simp only[pg]
    refine zh (hK.out _ _) ((by have:=C2.out;(try simp only[World.cell?_drew] at this ⊢);rw[co];exact this)) fun hHeld=>?_;clear hK K;try simp only[Act.put,pu]
    refine zr 9 rfl fun K hK=>?_;go_simp;refine hK.out _ _ (fun e=>absurd rfl e) (fun hh=>?_);clear hK K hHeld hh;try simp only[Act.put,pu]
    refine zn ?_;go_wp2;have s0:World.cell? (World.setCell wr ⟨w.heap.size,0,none⟩ (.slice Af f.length cf)) ⟨w.heap.size,0,none⟩=some (.slice Af f.length cf):=Y2.out.cell (j:=0) rfl;refine bodyPost_ret (v := .tuple #[.agg #[.slice Af f.length cf],.bool false]) (by simp[results,Tryz.results28,go_sem,s0];try rfl) rfl ?_;have hn:AE Af≠some w.heap.size:=fun e=>HNE.out e;exact⟨f,false,Af,cf,rfl,HFW.out,(E.out.tr E0.out).set (p:=⟨w.heap.size,0,none⟩) (Nat.le_refl _) _,(HOF.out.ext E0.out).set hn _⟩
end Go.Proofs.YthibllkleakiiaaGreatDoor
