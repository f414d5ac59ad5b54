/- The reference's reading of a graph, in memory: its contract. Conditions: texts of at most 2^20 bytes. -/
import Derived.Deep.CutBlock
import Derived.Deep.DeepCutAuto
import Derived.Test.YthibllkleakiiaaGreatDoorTxL
namespace Sg
theorem RP {l w:AO}{ws:List AO}(h:AC 32 l=w :: ws):DB l=if w=De/\ws.length=1 then (if AV (ws.getD 0 []) = -1 then none else some (⟨0,[]⟩,AV (ws.getD 0 [])))
  else if w=EZ then (CD ws).map fun f=>(⟨1,f⟩,0)
  else if w=E_ then (CD ws).map fun f=>(⟨2,f⟩,0)
  else none:=by
 unfold DB;rw[h]
theorem P3 {s:AO}(h:Ed DB (AC 10 s).dropLast=none):Do s=none:=by
 unfold Do;rw[h]
theorem TT {s:AO}{g:Ae}{c:List Int}(h:Ed DB (AC 10 s).dropLast=some (g,c)):Do s=if (AC 10 s).getLastD []=[]/\AG g=true/\AT g c=true then some (g,c) else none:=by
 unfold Do;rw[h]
theorem Gt {ws:List AO}{f:List At}(h:CD ws=some f):AR f=true:=by
 unfold CD at h;split at h
 ·split at h
  ·rename_i h2
   injection h with h;rw[<- h];exact h2.2
  ·cases h
 ·cases h
theorem VZ {ls:List AO}{x:AO}(h:ls[ls.length - 1]? = some x):ls.getLastD []=x:=by
 rw[<- List.getLast?_eq_getElem?] at h;rw[List.getLastD_eq_getLast?,h];rfl
theorem P4 {ls:List AO}{i:Nat}{x:AO}(h:ls[i]? = some x)(hi:i+1<ls.length):ls.dropLast[i]? = some x:=by
 rw[List.getElem?_dropLast,if_pos (by omega)];exact h
end Sg
namespace Go.Proofs.YthibllkleakiiaaGreatDoor
open Go.RowKit
theorem KF (B:Nat)(W:World):Ai [Th.ownN B none 0 [] [],Th.own B 3 1 none 0 0 (Ah [])] W :=
 ⟨Gj.nil _ _,fun s hs b hb=>by simp[Th.ownN,Gi,AE] at hb,Au.nil _ _ _ _,fun s hs=>(by cases hs),trivial⟩
theorem Ai.two {B:Nat}{a b:Th B}{r:List (Th B)}{W:World}(h:Ai (a :: b :: r) W):Ai [a,b] W :=
 ⟨h.1,fun s hs=>h.2.1 s (by rw[List.mem_singleton] at hs;subst hs;simp),h.2.2.1,fun s hs=>(by cases hs),trivial⟩
theorem Rd.tailS {w:World}{b o n:Nat}{x:ByteArray}{l:List ByteArray}(h:Rd w 1 (some ⟨b,o,none⟩) (n+1) (Bh (x :: l))):Rd w 1 (some ⟨b,o+1,none⟩) n (Bh l):=by
 obtain⟨h1,h0,h2⟩:=h;refine⟨by simp at h1 ⊢;omega,by omega,fun _=>?_⟩;obtain⟨b',o',e,h3⟩:=h2 (by omega);injection e with e;injection e with e1 e2;subst e1 e2;refine⟨b,o+1,rfl,fun k u hu=>?_⟩;have:=h3 (k+1) u (by simpa[Bh] using hu);rw[<- this];congr 2
 omega
theorem zr1{p:Prop}(h:p:=by
 rw[List.getElem?_map] at hx;cases hw:ls[i]? with
 | none=>rw[hw] at hx;cases hx
 | some y=>rw[hw] at hx;exact⟨y,rfl,(Option.some.inj hx).symm⟩):p:=h
set_option maxRecDepth 100000 in
set_option maxHeartbeats 8000000 in
theorem Wu (s:ByteArray)(w:World)(hs:s.size<=1048576) :
  Calls Tryz.prog 12 #[.string s] w fun e w'=>∃ (g:Sg.Ae) (c:List Int) (ok:Bool) (A1:Option Addr) (c1:Nat) (ks:List (Option Addr × Nat)) (A2:Option Addr) (c2:Nat),e= .returned (.tuple #[.agg #[.slice A1 g.length c1],.slice A2 c.length c2,.bool ok])/\Sg.Do (tx s)=(if ok=true then some (g,c) else none)/\Aa w w' /\
   Ai [Th.ownN w.heap.size A1 c1 g ks,Th.own w.heap.size 3 1 A2 c.length c2 (Ah c)] w':=by
 have S1:=Ai.add (B:=w.heap.size) (ts:=[]) (W:=w) trivial (xr.al (.cells #[.slice none 0 0] 35)) (Th.box w.heap.size w.heap.size [.slice none 0 0]) ⟨Bx.new w #[.slice none 0 0] 35,Nat.le_refl _⟩ (fun b e=>by have e2:b=w.heap.size:=e;omega);have S2:=Ai.add S1 (xr.al (.cells #[.slice none 0 0] 35)) (Th.box w.heap.size (w.heap.size+1) [.slice none 0 0]) ⟨by have:=Bx.new (World.alloc w (.cells #[.slice none 0 0] 35)) #[.slice none 0 0] 35;simpa[go_sem] using this,by omega⟩ (fun b e=>by have e2:b=w.heap.size+1:=e;simp[go_sem];omega);have S3:=Ai.add S2 (xr.al (.cells #[] 3)) (Th.own w.heap.size 3 1 (some ⟨w.heap.size+1+1,0,none⟩) 0 0 (Ah [])) (show Au _ _ _ _ _ 0 0 (Ah []) from by have:=Au.new (World.alloc (World.alloc w (.cells #[.slice none 0 0] 35)) (.cells #[.slice none 0 0] 35)) (B:=w.heap.size) 3 1 #[] 0 (by simp[go_sem];omega) (by unfold maxLen;omega) rfl;simpa[go_sem,Ah] using this) (fun b e=>by simp[Th.own,AE] at e;simp[go_sem];omega);have S4:=lh (Ai.add S3 xr (Th.ownN w.heap.size none 0 [] []) (Gj.nil _ _) (fun b e=>by simp[Th.ownN,Gi,AE] at e));have E0:=lh ((((Aa.rfl' w).al (.cells #[.slice none 0 0] 35)).al (.cells #[.slice none 0 0] 35)).al (.cells #[] 3));have HSP:=lh fun w'=>K1 s 10 w' (by omega);have hsum:=Sg.Jy 10 (tx s);rw[<- DU] at hsum;have HWL:=lh (show ∀ p ∈ Sg.AC 10 (tx s),p.length<=1048576 from fun p hp=>by have:=Sg.QX hp;have:=List.length_pos_iff.2 (Sg.CC 10 (tx s));omega);have hn1:(Sg.AC 10 (tx s)).length<=1048577:=by omega
 have hn0:0<(Sg.AC 10 (tx s)).length:=List.length_pos_iff.2 (Sg.CC _ _);have HPN:=lh (fun h=>Sg.P3 (s:=tx s) h);have HPO:=lh (fun g c h=>Sg.TT (s:=tx s) (g:=g) (c:=c) h);clear S1 S2 S3 hsum;generalize Sg.AC 10 (tx s)=ls at *;have HM0:Hid (Sg.Ed Sg.DB ls.dropLast=(Sg.Ed Sg.DB (ls.dropLast.drop 0)).map fun y=>(([]:Sg.Ae)++y.1,([]:List Int)++y.2)):=lh (by simp);go_enter Tryz.func12,Tryz.ntmps12;go_wp2_with fail
 refine(HSP.out _).mono ?_;rintro e w2 ⟨A7,c7,rfl,he2,ho2⟩;have E2:=lh (E0.out.tr he2);obtain⟨n,hnn⟩:∃ n,n=ls.length:=⟨_,rfl⟩;have HNN:=lh hnn;rw[<- hnn] at hn0 hn1 ho2;rw[<- hnn];have S5:=lh (Ai.add S4.out he2 (Th.own w.heap.size 9 1 A7 n c7 (Bh (ls.map ts))) (ho2.mono E0.out.size) (fun b hb=>(ho2.lt hb).1));clear hnn he2 ho2 S4 E0 HSP;go_wp2_with fail
 go_loopw [6,8] (fun s6 s8 wr=>∃ (i:Nat) (g:Sg.Ae) (c:List Int) (A6:Option Addr) (c6:Nat) (Ag:Option Addr) (cg:Nat) (ks:List (Option Addr × Nat)),i<n/\s6= .slice A6 c.length c6/\s8= .int .i64 i/\Hid (g.length=i)/\Hid (c.length=i)/\Hid (∀ n ∈ g,n.f.length<=1048576) /\
  Hid (Sg.Ed Sg.DB ls.dropLast=(Sg.Ed Sg.DB (ls.dropLast.drop i)).map fun y=>(g++y.1,c++y.2))/\Hid (Aa w wr) /\
  Hid (Ai [Th.own w.heap.size 9 1 A7 n c7 (Bh (ls.map ts)),Th.ownN w.heap.size Ag cg g ks,Th.own w.heap.size 3 1 A6 c.length c6 (Ah c),Th.box w.heap.size (w.heap.size+1) [.slice Ag g.length cg],Th.box w.heap.size w.heap.size [.slice none 0 0]] wr)) (fun _ s8 _=>n - (intOf s8).toNat)
 case atStart=>exact⟨0,[],[],_,_,none,0,[],hn0,rfl,rfl,lh rfl,lh rfl,lh (by simp),HM0,E2,S5⟩
 case round =>
  clear S5 HM0 E2;obtain⟨i,g,c,A6,c6,Ag,cg,ks,hi,rfl,rfl,HGL,HCL,HNF,HR,E,SS⟩:=hrel;have wi:IntKind.i64.wrap ((i:Int)+1)=(i:Int)+1:=IntWalk.i64_in _ (by omega);by_cases hlt:i+1<n
  ·obtain⟨bl,ol,x,hA7,hx,hc⟩:=(show Au wr w.heap.size 9 1 A7 n c7 (Bh (ls.map ts)) from Ai.get SS.out 0 rfl).rd.atT (show i<n by omega)
   obtain⟨l,hl,rfl⟩:∃ y,ls[i]? = some y/\x=ts y:=by
    exact zr1
   have hll:=HWL.out l (List.mem_of_getElem? hl);have HD:=lh (Sg.P4 hl (by rw[<- HNN.out];exact hlt));have hilt:(i:Int)+1<(n:Int):=by omega
   have hil:(i:Int)<(n:Int):=by omega
   have bc:=AA hc;clear hx hl;subst hA7;have HSW:=lh fun w'=>K1 (ts l) 32 w' (by rw[BB];omega);rw[Fm] at HSW;have hsum:=Sg.Jy 32 l;have HW1:=lh (show ∀ p ∈ Sg.AC 32 l,p.length<=1048576 from fun p hp=>by have:=Sg.QX hp;have:=List.length_pos_iff.2 (Sg.CC 32 l);omega);have HW2:=lh (show (Sg.AC 32 l).length<=1048577 by omega)
   obtain⟨w0,ws,hws⟩:∃ w0 ws,Sg.AC 32 l=w0 :: ws:=by
    cases h:Sg.AC 32 l with
    | nil=>exact absurd h (Sg.CC _ _)
    | cons a t=>exact⟨a,t,rfl⟩
   have HLS:=lh (Sg.RP hws)
   have HW3:Hid ((∀ y ∈ ws.map ts,tx y≠[])->(ws.map ts).length<=1048576):=lh (fun h=>by
    have h1:=Sg.Xb (l:=ws) (fun p hp=>by have:=h (ts p) (List.mem_map_of_mem hp);exact this);have h2:(ws.map List.length).sum<=((Sg.AC 32 l).map List.length).sum:=by rw[hws];simp
    rw[List.length_map];have h3:0<(Sg.AC 32 l).length:=by rw[hws];simp
    omega)
   rw[hws] at HSW HW1 HW2;clear hsum hws;go_wp2_with fail
   refine(HSW.out _).mono ?_;rintro e v1 ⟨Aw,cw,rfl,he1,ho1⟩;have E1:=lh (E.out.tr he1);have S1:=lh (Ai.ext SS.out he1);have HRW:=lh ho1.rd;have hcw:=ho1.2.1;have hcw2:=ho1.2.2.1;clear he1 ho1 E SS HSW hc bc;simp only[List.length_cons] at HRW hcw;have S2:=lh (Ai.add S1.out ((Aa.rfl' v1).al (.cells #[.int .i64 0,.slice none 0 0] 70)) (Th.box w.heap.size v1.heap.size [.int .i64 0,.slice none 0 0]) ⟨Bx.new v1 _ _,E1.out.size⟩ (fun b e=>by have e2:b=v1.heap.size:=e;omega));have E2x:=lh (E1.out.al (.cells #[.int .i64 0,.slice none 0 0] 70));have EV2:=lh ((Aa.rfl' v1).al (.cells #[.int .i64 0,.slice none 0 0] 70));have HST:=lh (fun (u:Value) (j:Nat) (v:World) (h:Aa v1 v)=>h.set (p:=⟨v1.heap.size,j,none⟩) (Nat.le_refl _) u);go_upto_region 9 with fail
   have hnb:=E1.out.size;generalize World.alloc v1 (.cells #[.int .i64 0,.slice none 0 0] 70)=v2 at *;generalize v1.heap.size=nb at *;clear S1 E1;have hnw:ws.length<=1048576:=by have:=HW2.out;simp at this;omega
   obtain⟨bw,ow,y,hAw,hy,hy0⟩:=(HRW.out.ext EV2.out).atT (show 0<ws.length+1 by omega);obtain rfl:y=ts w0:=by simpa using hy.symm
   subst hAw;rw[Nat.add_zero] at hy0;have by0:=AA hy0;clear hy;have hwp:(0:Int)<(ws.length:Int)+1:=by omega
   go_upto_block 2 with fail
   go_cut [11,12] (fun s11 s12 wx=>∃ (x:Int) (ok:Bool) (k:Int) (f:List Sg.At) (Af:Option Addr) (cf:Nat),s11= .int .i64 x/\s12= .bool ok/\Hid (ok=true->f.length<=1048576)/\Hid (Sg.DB l=if ok=true/\0<=x then some (⟨k,f⟩,x) else none)/\Hid (Aa w wx) /\
    Hid (Ai [Th.own w.heap.size 111 5 Af f.length cf (AH f),Th.box w.heap.size nb [.int .i64 k,.slice Af f.length cf],Th.own w.heap.size 9 1 (some ⟨bl,ol,none⟩) n c7 (Bh (ls.map ts)),Th.ownN w.heap.size Ag cg g ks,Th.own w.heap.size 3 1 A6 c.length c6 (Ah c),Th.box w.heap.size (w.heap.size+1) [.slice Ag g.length cg],Th.box w.heap.size w.heap.size [.slice none 0 0]] wx))
   case first =>
    by_cases hc0:w0=Sg.De
    ·have b0:(w0 == [99,101,108,108])=true:=beq_iff_eq.2 hc0;by_cases h1:ws.length=1
     ·obtain⟨y1,hy1⟩:∃ y1,ws[0]? = some y1:=⟨_,gg (by omega)⟩;have b1:((ws.length:Int)+1 == 2)=true:=by rw[h1];rfl
      have hyd:ws.getD 0 []=y1:=by simp[hy1]
      obtain⟨b',o',z1,e1,hz,hz1⟩:=(HRW.out.ext EV2.out).atT (show 1<ws.length+1 by omega);injection e1 with e1;injection e1 with e1 e2;subst e1 e2;obtain rfl:z1=ts y1:=by simpa[hy1] using hz.symm
      have bz1:=AA hz1;have HRN:=lh fun w'=>D9 (ts y1) w' (by rw[BB];have:=HW1.out y1 (by simp[List.mem_of_getElem? hy1]);omega);rw[Fm] at HRN;have hw1:(1:Int)<(ws.length:Int)+1:=by omega
      have HL5:Hid (Sg.DB l=if 0<=Sg.AV y1 then some (⟨0,[]⟩,Sg.AV y1) else none):=lh (by
       rw[HLS.out,if_pos ⟨hc0,h1⟩,hyd];rcases Sg.FV y1 with h | ⟨q,h,hq⟩
       ·rw[if_pos h,if_neg (by rw[h];omega)]
       ·rw[if_neg (by rw[h];omega),if_pos (by rw[h];omega)])
      have S3:=lh (Ai.add S2.out xr (Th.own w.heap.size 111 5 none 0 0 (AH [])) (Au.nil _ _ _ _) (fun b e=>by simp[Th.own,AE] at e));clear HLS HW3 hz h1 hyd hy1;go_wp2_with fail
      refine(HRN.out _).mono ?_;rintro e w' ⟨rfl,rfl⟩;go_wp2_with fail
      go_meet
      exact⟨Sg.AV y1,true,0,[],none,0,rfl,rfl,lh (by simp),lh (by rw[HL5.out];simp),E2x,S3⟩
     ·have b1:((ws.length:Int)+1 == 2)=false:=by rw[beq_eq_false_iff_ne];omega
      have b2:(w0 == [100,101,114,105,118,101,100])=false:=by rw[hc0];decide
      have b3:(w0 == [101,102,102,101,99,116])=false:=by rw[hc0];decide
      have HL5:Hid (Sg.DB l=none):=lh (by rw[HLS.out,if_neg (fun e=>h1 e.2),if_neg (by rw[hc0];decide),if_neg (by rw[hc0];decide)]);have S3:=lh (Ai.add S2.out xr (Th.own w.heap.size 111 5 none 0 0 (AH [])) (Au.nil _ _ _ _) (fun b e=>by simp[Th.own,AE] at e));clear HLS HW3;go_wp2_with fail
      go_meet
      exact⟨0,false,0,[],none,0,rfl,rfl,lh (by simp),lh (by rw[HL5.out];rfl),E2x,S3⟩
    ·have b0:(w0 == [99,101,108,108])=false:=beq_eq_false_iff_ne.2 hc0;by_cases hc1:w0=Sg.EZ
     ·have b1:(w0 == [100,101,114,105,118,101,100])=true:=beq_iff_eq.2 hc1;by_cases hcw1:cw=1
      ·have hw00:ws.length=0:=by omega
       have hrd0:∀ v,Rd v 1 (some ⟨bw,ow,none⟩) ws.length (Bh (ws.map ts)):=fun v=>⟨by simp,by omega,fun h=>absurd h (by omega)⟩;have HR0:=lh hrd0;clear hrd0 hw00;have HRF:=fun c0 v (h:Rd v 1 (some ⟨bw,ow,none⟩) ws.length (Bh (ws.map ts)))=>FT (some ⟨bw,ow,none⟩) c0 (ws.map ts) v (by rw[List.length_map];exact h) (by rw[List.length_map];omega) (fun y hy=>by obtain⟨p,hp,rfl⟩:=List.mem_map.1 hy;rw[BB];have:=HW1.out p (by simp[hp]);omega) HW3.out;have hmap:(ws.map ts).map tx=ws:=by rw[List.map_map];exact List.map_id' _
       rw[hmap,List.length_map] at HRF;have HRF:=lh HRF;have HLK:=lh (show Sg.DB l=(Sg.CD ws).map fun f=>(⟨1,f⟩,0) by rw[HLS.out,if_neg (fun e=>hc0 e.1),if_pos hc1]);have y7:Bx v2 nb [.int .i64 0,.slice none 0 0]:=(Ai.get S2.out 0 rfl:Bx _ _ _/\_).1;have z0:=y7.cell (j:=0) rfl;have f0:=y7.free 0;have zl:=y7.lt;have Y7:=lh y7;clear y7 hmap HLS HW3;have S3:=lh (Ai.st S2.out 0 rfl ⟨nb,0,none⟩ (.int .i64 1) rfl (Th.box w.heap.size nb [.int .i64 1,.slice none 0 0]) ⟨Y7.out.set 0 _,hnb⟩ (fun _ e=>e));have E3:=lh (E2x.out.set (p:=⟨nb,0,none⟩) hnb (.int .i64 1));have HRW3:=lh (HRW.out.ext (HST.out (.int .i64 1) 0 v2 EV2.out));go_upto_region 16 with fail
       generalize World.setCell v2 ⟨nb,0,none⟩ (.int .i64 1)=v3 at *;clear z0 f0 zl Y7;have hlx:(1:Int)<=(ws.length:Int)+1:=by omega
       have hcx:(ws.length:Int)+1<=(cw:Int):=by omega
       go_wp2_with fail
       refine(HRF.out _ _ (HR0.out _)).mono ?_;rintro e v4 ⟨f,ok,Af,cf,rfl,hf,he4,ho4⟩;have E4:=lh (E3.out.tr he4);have S4:=lh (Ai.add S3.out he4 (Th.own w.heap.size 111 5 Af f.length cf (AH f)) (ho4.mono E3.out.size) (fun b hb=>(ho4.lt hb).1))
       have HL5:Hid (Sg.DB l=if ok=true/\0<=(0:Int) then some (⟨1,f⟩,0) else none):=lh (by
        rw[HLK.out,hf];cases ok <;> rfl)
       have HFL:Hid (ok=true->f.length<=1048576):=lh (fun e=>by
        rw[e] at hf;have:=(Sg.Cg (Sg.Gt hf)).2;omega)
       clear hf he4 ho4 S3 E3 HRW3;have y8:Bx v4 nb [.int .i64 1,.slice none 0 0]:=(Ai.get S4.out 1 rfl:Bx _ _ _/\_).1;have z1:=y8.cell (j:=1) rfl;have f1:=y8.free 1;have zl:=y8.lt;have Y8:=lh y8;clear y8;have S5:=lh (Ai.st S4.out 1 rfl ⟨nb,1,none⟩ (.slice Af f.length cf) rfl (Th.box w.heap.size nb [.int .i64 1,.slice Af f.length cf]) ⟨Y8.out.set 1 _,hnb⟩ (fun _ e=>e));have E5:=lh (E4.out.set (p:=⟨nb,1,none⟩) hnb (.slice Af f.length cf));go_wp2_with fail
       subst hcw1;go_meet
       exact⟨0,ok,1,f,Af,cf,rfl,rfl,HFL,HL5,E5,S5⟩
      ·have HRF:=fun c0 v (h:Rd v 1 (some ⟨bw,ow+1,none⟩) ws.length (Bh (ws.map ts)))=>FT (some ⟨bw,ow+1,none⟩) c0 (ws.map ts) v (by rw[List.length_map];exact h) (by rw[List.length_map];omega) (fun y hy=>by obtain⟨p,hp,rfl⟩:=List.mem_map.1 hy;rw[BB];have:=HW1.out p (by simp[hp]);omega) HW3.out;have hmap:(ws.map ts).map tx=ws:=by rw[List.map_map];exact List.map_id' _
       rw[hmap,List.length_map] at HRF;have HRF:=lh HRF;have HLK:=lh (show Sg.DB l=(Sg.CD ws).map fun f=>(⟨1,f⟩,0) by rw[HLS.out,if_neg (fun e=>hc0 e.1),if_pos hc1]);have y7:Bx v2 nb [.int .i64 0,.slice none 0 0]:=(Ai.get S2.out 0 rfl:Bx _ _ _/\_).1;have z0:=y7.cell (j:=0) rfl;have f0:=y7.free 0;have zl:=y7.lt;have Y7:=lh y7;clear y7 hmap HLS HW3;have S3:=lh (Ai.st S2.out 0 rfl ⟨nb,0,none⟩ (.int .i64 1) rfl (Th.box w.heap.size nb [.int .i64 1,.slice none 0 0]) ⟨Y7.out.set 0 _,hnb⟩ (fun _ e=>e));have E3:=lh (E2x.out.set (p:=⟨nb,0,none⟩) hnb (.int .i64 1));have HRW3:=lh (HRW.out.ext (HST.out (.int .i64 1) 0 v2 EV2.out));go_upto_region 16 with fail
       generalize World.setCell v2 ⟨nb,0,none⟩ (.int .i64 1)=v3 at *;clear z0 f0 zl Y7;have hlx:(1:Int)<=(ws.length:Int)+1:=by omega
       have hcx:(ws.length:Int)+1<=(cw:Int):=by omega
       go_wp2_with fail
       refine(HRF.out _ _ (Rd.tailS HRW3.out)).mono ?_;rintro e v4 ⟨f,ok,Af,cf,rfl,hf,he4,ho4⟩;have E4:=lh (E3.out.tr he4);have S4:=lh (Ai.add S3.out he4 (Th.own w.heap.size 111 5 Af f.length cf (AH f)) (ho4.mono E3.out.size) (fun b hb=>(ho4.lt hb).1))
       have HL5:Hid (Sg.DB l=if ok=true/\0<=(0:Int) then some (⟨1,f⟩,0) else none):=lh (by
        rw[HLK.out,hf];cases ok <;> rfl)
       have HFL:Hid (ok=true->f.length<=1048576):=lh (fun e=>by
        rw[e] at hf;have:=(Sg.Cg (Sg.Gt hf)).2;omega)
       clear hf he4 ho4 S3 E3 HRW3;have y8:Bx v4 nb [.int .i64 1,.slice none 0 0]:=(Ai.get S4.out 1 rfl:Bx _ _ _/\_).1;have z1:=y8.cell (j:=1) rfl;have f1:=y8.free 1;have zl:=y8.lt;have Y8:=lh y8;clear y8;have S5:=lh (Ai.st S4.out 1 rfl ⟨nb,1,none⟩ (.slice Af f.length cf) rfl (Th.box w.heap.size nb [.int .i64 1,.slice Af f.length cf]) ⟨Y8.out.set 1 _,hnb⟩ (fun _ e=>e));have E5:=lh (E4.out.set (p:=⟨nb,1,none⟩) hnb (.slice Af f.length cf));go_wp2_with fail
       go_meet
       exact⟨0,ok,1,f,Af,cf,rfl,rfl,HFL,HL5,E5,S5⟩
     ·have b1:(w0 == [100,101,114,105,118,101,100])=false:=beq_eq_false_iff_ne.2 hc1;by_cases hc2:w0=Sg.E_
      ·have b2:(w0 == [101,102,102,101,99,116])=true:=beq_iff_eq.2 hc2;by_cases hcw1:cw=1
       ·have hw00:ws.length=0:=by omega
        have hrd0:∀ v,Rd v 1 (some ⟨bw,ow,none⟩) ws.length (Bh (ws.map ts)):=fun v=>⟨by simp,by omega,fun h=>absurd h (by omega)⟩;have HR0:=lh hrd0;clear hrd0 hw00;have HRF:=fun c0 v (h:Rd v 1 (some ⟨bw,ow,none⟩) ws.length (Bh (ws.map ts)))=>FT (some ⟨bw,ow,none⟩) c0 (ws.map ts) v (by rw[List.length_map];exact h) (by rw[List.length_map];omega) (fun y hy=>by obtain⟨p,hp,rfl⟩:=List.mem_map.1 hy;rw[BB];have:=HW1.out p (by simp[hp]);omega) HW3.out;have hmap:(ws.map ts).map tx=ws:=by rw[List.map_map];exact List.map_id' _
        rw[hmap,List.length_map] at HRF;have HRF:=lh HRF;have HLK:=lh (show Sg.DB l=(Sg.CD ws).map fun f=>(⟨2,f⟩,0) by rw[HLS.out,if_neg (fun e=>hc0 e.1),if_neg hc1,if_pos hc2]);have y7:Bx v2 nb [.int .i64 0,.slice none 0 0]:=(Ai.get S2.out 0 rfl:Bx _ _ _/\_).1;have z0:=y7.cell (j:=0) rfl;have f0:=y7.free 0;have zl:=y7.lt;have Y7:=lh y7;clear y7 hmap HLS HW3;have S3:=lh (Ai.st S2.out 0 rfl ⟨nb,0,none⟩ (.int .i64 2) rfl (Th.box w.heap.size nb [.int .i64 2,.slice none 0 0]) ⟨Y7.out.set 0 _,hnb⟩ (fun _ e=>e));have E3:=lh (E2x.out.set (p:=⟨nb,0,none⟩) hnb (.int .i64 2));have HRW3:=lh (HRW.out.ext (HST.out (.int .i64 2) 0 v2 EV2.out));go_upto_region 19 with fail
        generalize World.setCell v2 ⟨nb,0,none⟩ (.int .i64 2)=v3 at *;clear z0 f0 zl Y7;have hlx:(1:Int)<=(ws.length:Int)+1:=by omega
        have hcx:(ws.length:Int)+1<=(cw:Int):=by omega
        go_wp2_with fail
        refine(HRF.out _ _ (HR0.out _)).mono ?_;rintro e v4 ⟨f,ok,Af,cf,rfl,hf,he4,ho4⟩;have E4:=lh (E3.out.tr he4);have S4:=lh (Ai.add S3.out he4 (Th.own w.heap.size 111 5 Af f.length cf (AH f)) (ho4.mono E3.out.size) (fun b hb=>(ho4.lt hb).1))
        have HL5:Hid (Sg.DB l=if ok=true/\0<=(0:Int) then some (⟨2,f⟩,0) else none):=lh (by
         rw[HLK.out,hf];cases ok <;> rfl)
        have HFL:Hid (ok=true->f.length<=1048576):=lh (fun e=>by
         rw[e] at hf;have:=(Sg.Cg (Sg.Gt hf)).2;omega)
        clear hf he4 ho4 S3 E3 HRW3;have y8:Bx v4 nb [.int .i64 2,.slice none 0 0]:=(Ai.get S4.out 1 rfl:Bx _ _ _/\_).1;have z1:=y8.cell (j:=1) rfl;have f1:=y8.free 1;have zl:=y8.lt;have Y8:=lh y8;clear y8;have S5:=lh (Ai.st S4.out 1 rfl ⟨nb,1,none⟩ (.slice Af f.length cf) rfl (Th.box w.heap.size nb [.int .i64 2,.slice Af f.length cf]) ⟨Y8.out.set 1 _,hnb⟩ (fun _ e=>e));have E5:=lh (E4.out.set (p:=⟨nb,1,none⟩) hnb (.slice Af f.length cf));go_wp2_with fail
        subst hcw1;go_meet
        exact⟨0,ok,2,f,Af,cf,rfl,rfl,HFL,HL5,E5,S5⟩
       ·have HRF:=fun c0 v (h:Rd v 1 (some ⟨bw,ow+1,none⟩) ws.length (Bh (ws.map ts)))=>FT (some ⟨bw,ow+1,none⟩) c0 (ws.map ts) v (by rw[List.length_map];exact h) (by rw[List.length_map];omega) (fun y hy=>by obtain⟨p,hp,rfl⟩:=List.mem_map.1 hy;rw[BB];have:=HW1.out p (by simp[hp]);omega) HW3.out;have hmap:(ws.map ts).map tx=ws:=by rw[List.map_map];exact List.map_id' _
        rw[hmap,List.length_map] at HRF;have HRF:=lh HRF;have HLK:=lh (show Sg.DB l=(Sg.CD ws).map fun f=>(⟨2,f⟩,0) by rw[HLS.out,if_neg (fun e=>hc0 e.1),if_neg hc1,if_pos hc2]);have y7:Bx v2 nb [.int .i64 0,.slice none 0 0]:=(Ai.get S2.out 0 rfl:Bx _ _ _/\_).1;have z0:=y7.cell (j:=0) rfl;have f0:=y7.free 0;have zl:=y7.lt;have Y7:=lh y7;clear y7 hmap HLS HW3;have S3:=lh (Ai.st S2.out 0 rfl ⟨nb,0,none⟩ (.int .i64 2) rfl (Th.box w.heap.size nb [.int .i64 2,.slice none 0 0]) ⟨Y7.out.set 0 _,hnb⟩ (fun _ e=>e));have E3:=lh (E2x.out.set (p:=⟨nb,0,none⟩) hnb (.int .i64 2));have HRW3:=lh (HRW.out.ext (HST.out (.int .i64 2) 0 v2 EV2.out));go_upto_region 19 with fail
        generalize World.setCell v2 ⟨nb,0,none⟩ (.int .i64 2)=v3 at *;clear z0 f0 zl Y7;have hlx:(1:Int)<=(ws.length:Int)+1:=by omega
        have hcx:(ws.length:Int)+1<=(cw:Int):=by omega
        go_wp2_with fail
        refine(HRF.out _ _ (Rd.tailS HRW3.out)).mono ?_;rintro e v4 ⟨f,ok,Af,cf,rfl,hf,he4,ho4⟩;have E4:=lh (E3.out.tr he4);have S4:=lh (Ai.add S3.out he4 (Th.own w.heap.size 111 5 Af f.length cf (AH f)) (ho4.mono E3.out.size) (fun b hb=>(ho4.lt hb).1))
        have HL5:Hid (Sg.DB l=if ok=true/\0<=(0:Int) then some (⟨2,f⟩,0) else none):=lh (by
         rw[HLK.out,hf];cases ok <;> rfl)
        have HFL:Hid (ok=true->f.length<=1048576):=lh (fun e=>by
         rw[e] at hf;have:=(Sg.Cg (Sg.Gt hf)).2;omega)
        clear hf he4 ho4 S3 E3 HRW3;have y8:Bx v4 nb [.int .i64 2,.slice none 0 0]:=(Ai.get S4.out 1 rfl:Bx _ _ _/\_).1;have z1:=y8.cell (j:=1) rfl;have f1:=y8.free 1;have zl:=y8.lt;have Y8:=lh y8;clear y8;have S5:=lh (Ai.st S4.out 1 rfl ⟨nb,1,none⟩ (.slice Af f.length cf) rfl (Th.box w.heap.size nb [.int .i64 2,.slice Af f.length cf]) ⟨Y8.out.set 1 _,hnb⟩ (fun _ e=>e));have E5:=lh (E4.out.set (p:=⟨nb,1,none⟩) hnb (.slice Af f.length cf));go_wp2_with fail
        go_meet
        exact⟨0,ok,2,f,Af,cf,rfl,rfl,HFL,HL5,E5,S5⟩
      ·have b2:(w0 == [101,102,102,101,99,116])=false:=beq_eq_false_iff_ne.2 hc2;have HL5:Hid (Sg.DB l=none):=lh (by rw[HLS.out,if_neg (fun e=>hc0 e.1),if_neg hc1,if_neg hc2]);have S3:=lh (Ai.add S2.out xr (Th.own w.heap.size 111 5 none 0 0 (AH [])) (Au.nil _ _ _ _) (fun b e=>by simp[Th.own,AE] at e));clear HLS HW3;go_wp2_with fail
       go_meet
       exact⟨0,false,0,[],none,0,rfl,rfl,lh (by simp),lh (by rw[HL5.out];rfl),E2x,S3⟩
   case rest =>
    obtain⟨x,ok,k,f,Af,cf,rfl,rfl,HFL,HL5,E5,S5⟩:=hcut;obtain⟨v5,rfl⟩:∃ W:World,W=wc:=⟨_,rfl⟩;clear S2 E2x EV2 HST HRW HLS HW1 HW2 HW3 hy0 by0;by_cases hgd:ok=true/\0<=x
    ·obtain⟨rfl,hx0⟩:=hgd;rw[if_pos ⟨rfl,hx0⟩] at HL5;have HST:=lh (Sg.TS HD.out HL5.out HR.out);have hx1:¬ x<0:=by omega
     have yn:Bx v5 nb [.int .i64 k,.slice Af f.length cf]:=(Ai.get S5.out 1 rfl:Bx _ _ _/\_).1;have n0:=yn.cell (j:=0) rfl;have n1:=yn.cell (j:=1) rfl;have nl:=yn.lt;have yg:Bx v5 (w.heap.size+1) [.slice Ag g.length cg]:=(Ai.get S5.out 5 rfl:Bx _ _ _/\_).1;have q0:=yg.cell (j:=0) rfl;have ql:=yg.lt;have ON:Gj v5 w.heap.size Ag cg g ks:=Ai.get S5.out 3 rfl;have hON:=ON.out;simp only[length_nodeIts] at hON;have HON:=lh hON;have eW:=lh E5.out.size;have eG:=lh (show g.length+1<=1099511627776 by have:=HGL.out;omega);clear yn yg ON hON HL5 hx0;go_upto_region 23 with (at_builtin;refine AB (cs:=[.int .i64 k,.slice Af f.length cf]) rfl rfl Sd rfl HON.out rfl rfl (by intro u hu;simp at hu;rcases hu with rfl | rfl <;> rfl) eG.out (by omega) eW.out ?_;intro A8 c8 v6 hown8 hg8 hat8;have S6:=lh (Ai.node k S5.out 2 rfl hown8 hg8 hat8);have E6:=lh (E5.out.gr hg8 fun x hx=>(HON.out.lt hx).1);clear hown8 hg8 hat8 S5 E5 HON n0 n1 nl q0 ql;have y6:Bx v6 (w.heap.size+1) [.slice Ag g.length cg]:=(Ai.get S6.out 4 rfl:Bx _ _ _/\_).1;have r6:=y6.cell (j:=0) rfl;have f6:=y6.free 0;have l6:=y6.lt;have Y6:=lh y6;clear y6)
     have S8:=lh (Ai.tail (Ai.st S6.out 4 rfl ⟨w.heap.size+1,0,none⟩ (.slice A8 (g.length+1) c8) rfl (Th.box w.heap.size (w.heap.size+1) [.slice A8 (g.length+1) c8]) ⟨Y6.out.set 0 _,by omega⟩ (fun _ e=>e)));have E8:=lh (E6.out.set (p:=⟨w.heap.size+1,0,none⟩) (by simp) (.slice A8 (g.length+1) c8));clear S6 E6 Y6 r6 f6 l6;generalize World.setCell v6 ⟨w.heap.size+1,0,none⟩ (.slice A8 (g.length+1) c8)=v8 at *;have OC:=lh (show Au v8 w.heap.size 3 1 A6 c.length c6 (Ah c) from Ai.get S8.out 2 rfl);have eV:=lh E8.out.size;have eC:=lh (show c.length+1<=1099511627776 by have:=HCL.out;omega);go_wp2_with (at_builtin;refine AB (cs:=[.int .i64 x]) rfl rfl Bc rfl OC.out rfl rfl (Bn .i64 _) eC.out (by omega) eV.out ?_;intro A9 c9 v9 hown9 hg9 hat9;have S9:=lh (Ai.app S8.out 2 rfl hown9 hg9 hat9);have E9:=lh (E8.out.gr hg9 fun x hx=>(OC.out.lt hx).1);clear hown9 hg9 hat9 S8 E8 OC)
     have el:c.length+1=(c++[x]).length:=by simp
     have eg:g.length+1=(g++[(⟨k,f⟩:Sg.BV)]).length:=by simp
     have eo:Ah c++[Value.int .i64 x]=Ah (c++[x]):=by simp[Ah]
     rw[eo,el,eg] at S9;go_roundw
     case rel=>exact⟨i+1,g++[(⟨k,f⟩:Sg.BV)],c++[x],A9,c9,A8,c8,ks++[(Af,cf)],hlt,by rw[<- el],by go_num,lh (by rw[<- eg,HGL.out]),lh (by rw[<- el,HCL.out]),lh (fun n hn=>by
      rcases List.mem_append.1 hn with hn | hn
      ·exact HNF.out n hn
      ·simp at hn;subst hn;exact HFL.out rfl),HST,E9,S9⟩
     case measure=>simp[intOf];omega
    ·rw[if_neg hgd] at HL5;have HN:=lh (HPN.out (Sg.UV HD.out HL5.out HR.out));clear HL5;cases ok
     ·have hok:True:=trivial;have y2:Bx v5 w.heap.size [.slice none 0 0]:=(Ai.get S5.out 6 rfl:Bx _ _ _/\_).1;have x2:=y2.cell (j:=0) rfl;have g2:=y2.free 0;have l2:=y2.lt;have Y2:=lh y2;clear y2;go_wp2;have s0:=(Y2.out.set 0 (.slice none 0 0)).cell (j:=0) rfl;refine bodyPost_ret (v := .tuple #[.agg #[.slice none 0 0],.slice none 0 0,.bool false]) (by simp[results,Tryz.results12,go_sem,s0];try rfl) rfl ?_
      first | exact⟨[],[],false,none,0,[],none,0,rfl,by rw[HN.out];rfl,E5.out.set (p:=⟨w.heap.size,0,none⟩) (Nat.le_refl _) _,KF _ _⟩ | exact⟨[],[],.inl ⟨none,0,[],none,0,rfl,HN.out,E5.out.set (p:=⟨w.heap.size,0,none⟩) (Nat.le_refl _) _,KF _ _⟩⟩
     ·have hx1:x<0:=by
       rcases Int.lt_or_le x 0 with h | h
       ·exact h
       ·exact absurd ⟨rfl,h⟩ hgd
      have y2:Bx v5 w.heap.size [.slice none 0 0]:=(Ai.get S5.out 6 rfl:Bx _ _ _/\_).1;have x2:=y2.cell (j:=0) rfl;have g2:=y2.free 0;have l2:=y2.lt;have Y2:=lh y2;clear y2;go_wp2;have s0:=(Y2.out.set 0 (.slice none 0 0)).cell (j:=0) rfl;refine bodyPost_ret (v := .tuple #[.agg #[.slice none 0 0],.slice none 0 0,.bool false]) (by simp[results,Tryz.results12,go_sem,s0];try rfl) rfl ?_
      first | exact⟨[],[],false,none,0,[],none,0,rfl,by rw[HN.out];rfl,E5.out.set (p:=⟨w.heap.size,0,none⟩) (Nat.le_refl _) _,KF _ _⟩ | exact⟨[],[],.inl ⟨none,0,[],none,0,rfl,HN.out,E5.out.set (p:=⟨w.heap.size,0,none⟩) (Nat.le_refl _) _,KF _ _⟩⟩
  ·obtain rfl:n=i+1:=by omega
   have hni:¬ (i:Int)+1<((i+1:Nat):Int):=by omega
   have wn:IntKind.i64.wrap (((i+1:Nat):Int) - 1)=(i:Int):=by rw[IntWalk.i64_in _ (by omega)];omega
   have hni2:¬ (i:Int)+1<(i:Int)+1:=by omega
   have wn2:IntKind.i64.wrap ((i:Int)+1 - 1)=(i:Int):=by rw[IntWalk.i64_in _ (by omega)];omega
   have hni3:(i:Int)<(i:Int)+1:=by omega
   have wn3:IntKind.i64.wrap (i:Int)=(i:Int):=IntWalk.i64_in _ (by omega);obtain⟨bl,ol,x,hA7,hx,hc⟩:=(show Au wr w.heap.size 9 1 A7 (i+1) c7 (Bh (ls.map ts)) from Ai.get SS.out 0 rfl).rd.atT (show i<i+1 by omega)
   obtain⟨l,hl,rfl⟩:∃ y,ls[i]? = some y/\x=ts y:=by
    exact zr1
   subst hA7;have HLD:=lh (Sg.VZ (show ls[ls.length - 1]? = some l by rw[<- HNN.out];exact hl))
   have HME:Hid (Sg.Ed Sg.DB ls.dropLast=some (g,c)):=lh (by
    rw[HR.out,List.drop_eq_nil_of_le (by rw[List.length_dropLast,<- HNN.out];omega)];simp[Sg.Ed])
   have HPG:=lh (HPO.out g c HME.out);have yg:Bx wr (w.heap.size+1) [.slice Ag g.length cg]:=(Ai.get SS.out 3 rfl:Bx _ _ _/\_).1;have q0:=yg.cell (j:=0) rfl;have ql:=yg.lt;have bc:=AA hc;have ON:=lh (show Gj wr w.heap.size Ag cg g ks from Ai.get SS.out 1 rfl);have OC:=lh (show Au wr w.heap.size 3 1 A6 c.length c6 (Ah c) from Ai.get SS.out 2 rfl);have RN:=lh (ON.out.rdN (by have:=HGL.out;omega) HNF.out);have HVG:=lh fun v (e:Aa wr v)=>I3 Ag cg g v (RN.out.ext e);have HVC:=lh fun v (e:Aa wr v)=>Kt Ag A6 cg c6 g c v (RN.out.ext e) (OC.out.rd.ext e);have YG:=lh yg;have XC:=lh hc;clear yg hx hl HR HNF HPO HPN HME;have HBL:=lh (show bl≠w.heap.size from fun e=>SS.out.2.1 (Th.box w.heap.size w.heap.size [.slice none 0 0]) (by simp) bl rfl e);by_cases hle:l=[]
   ·have b0:(l == [])=true:=by simp[hle]
    cases hvg:Sg.AG g
    ·have HVg:=lh hvg;go_upto_region 24 with fail
     refine wp_region_held_drew (S:=(fun W=>W.cell? ⟨w.heap.size+1,0,none⟩=some (.slice Ag g.length cg)/\W.cell? ⟨bl,ol+i,none⟩=some (.string (ts l)))) (by kernel_rfl) ?_ (fun hHeld=>?_)
     ·exact⟨(YG.out.ext ((Aa.rfl' wr).dr)).cell (j:=0) rfl,((Aa.rfl' wr).dr).cellE XC.out⟩
     refine ty 0 ?_;refine ty 1 ?_;refine ty 2 ?_;refine ty 3 ?_;refine ty 4 ?_;refine ty 5 ?_;refine ty 6 ?_;refine ty 7 ?_;refine ty 8 ?_;refine ty 9 ?_;refine ty 10 ?_;refine DL 11 rfl fun K hK=>?_;go_simp;refine(HVG.out _ ((Aa.rfl' wr).dr)).mono ?_;rintro e va ⟨rfl,hea⟩;rw[HVg.out];try go_wp2_with fail
     clear hHeld;refine hK.out _ _ (by exact⟨(YG.out.ext (((Aa.rfl' wr).dr).tr hea)).cell (j:=0) rfl,(((Aa.rfl' wr).dr).tr hea).cellE XC.out⟩) fun hHeld=>?_;clear hK K;try simp only[Act.put,pu]
     refine ty 12 ?_;refine ty 13 ?_;refine tn 14 ?_;refine tn 15 ?_;refine tn 16 ?_;refine ty 17 ?_;refine DL 18 rfl fun K hK=>?_;have Y2:=lh ((show Bx wr w.heap.size [.slice none 0 0] from (Ai.get SS.out 4 rfl:Bx _ _ _/\_).1).ext (((Aa.rfl' wr).dr).tr hea));have x2:=Y2.out.cell (j:=0) rfl;have g2:=Y2.out.free 0;have l2:=Y2.out.lt;have S9:=lh (Ai.st (Ai.ext SS.out (((Aa.rfl' wr).dr).tr hea)) 4 rfl ⟨w.heap.size,0,none⟩ (.slice Ag g.length cg) rfl (Th.box w.heap.size w.heap.size [.slice Ag g.length cg]) ⟨Y2.out.set 0 _,Nat.le_refl _⟩ (fun _ e=>e));have E9:=lh ((E.out.tr (((Aa.rfl' wr).dr).tr hea)).set (p:=⟨w.heap.size,0,none⟩) (Nat.le_refl _) (.slice Ag g.length cg));have YG9:=lh ((YG.out.ext (((Aa.rfl' wr).dr).tr hea)).oth (p:=⟨w.heap.size,0,none⟩) (show w.heap.size≠w.heap.size+1 by omega) (.slice Ag g.length cg));have XC9:=lh ((World.cell?_setCell_other va ⟨w.heap.size,0,none⟩ ⟨bl,ol+i,none⟩ (.slice Ag g.length cg) (by intro e;injection e with e1;exact HBL.out e1.symm)).trans ((((Aa.rfl' wr).dr).tr hea).cellE XC.out));have s0:=(Y2.out.set 0 (.slice Ag g.length cg)).cell (j:=0) rfl;go_simp;clear x2 g2 l2;try simp only[pg]
     clear hHeld;refine hK.out _ _ (by exact⟨YG9.out.cell (j:=0) rfl,XC9.out⟩) fun hHeld=>?_;clear hK K;try simp only[Act.put]
     refine ty 19 ?_;refine ty 20 ?_;refine dn ?_;clear q0 ql bc;go_wp2;refine bodyPost_ret (v := .tuple #[.agg #[.slice Ag g.length cg],.slice A6 c.length c6,.bool (false)]) (by simp[results,Tryz.results12,go_sem,s0];try rfl) rfl ?_
     first | exact⟨g,c,false,Ag,cg,ks,A6,c6,rfl,by rw[HPG.out,if_neg (by rintro ⟨_,h,_⟩;rw[HVg.out] at h;cases h)];rfl,E9.out,Ai.two (Ai.tail S9.out)⟩ | exact⟨g,c,.inl ⟨Ag,cg,ks,A6,c6,rfl,by rw[HPG.out,if_neg (by rintro ⟨_,h,_⟩;rw[HVg.out] at h;cases h)],E9.out,Ai.two (Ai.tail S9.out)⟩⟩
    ·have HVg:=lh hvg;go_upto_region 24 with fail
     refine wp_region_held_drew (S:=(fun W=>W.cell? ⟨w.heap.size+1,0,none⟩=some (.slice Ag g.length cg)/\W.cell? ⟨bl,ol+i,none⟩=some (.string (ts l)))) (by kernel_rfl) ?_ (fun hHeld=>?_)
     ·exact⟨(YG.out.ext ((Aa.rfl' wr).dr)).cell (j:=0) rfl,((Aa.rfl' wr).dr).cellE XC.out⟩
     refine ty 0 ?_;refine ty 1 ?_;refine ty 2 ?_;refine ty 3 ?_;refine ty 4 ?_;refine ty 5 ?_;refine ty 6 ?_;refine ty 7 ?_;refine ty 8 ?_;refine ty 9 ?_;refine ty 10 ?_;refine DL 11 rfl fun K hK=>?_;go_simp;refine(HVG.out _ ((Aa.rfl' wr).dr)).mono ?_;rintro e va ⟨rfl,hea⟩;rw[HVg.out];try go_wp2_with fail
     clear hHeld;refine hK.out _ _ (by exact⟨(YG.out.ext (((Aa.rfl' wr).dr).tr hea)).cell (j:=0) rfl,(((Aa.rfl' wr).dr).tr hea).cellE XC.out⟩) fun hHeld=>?_;clear hK K;try simp only[Act.put,pu]
     refine ty 12 ?_;refine ty 13 ?_;refine ty 14 ?_;refine ty 15 ?_;refine DL 16 rfl fun K hK=>?_;go_simp;refine(HVC.out _ (((Aa.rfl' wr).dr).tr hea)).mono ?_;rintro e vb ⟨rfl,heb⟩;try go_wp2_with fail
     clear hHeld;refine hK.out _ _ (by exact⟨(YG.out.ext (((Aa.rfl' wr).dr).tr (hea.tr heb))).cell (j:=0) rfl,(((Aa.rfl' wr).dr).tr (hea.tr heb)).cellE XC.out⟩) fun hHeld=>?_;clear hK K;try simp only[Act.put,pu]
     refine ty 17 ?_;refine DL 18 rfl fun K hK=>?_;have Y2:=lh ((show Bx wr w.heap.size [.slice none 0 0] from (Ai.get SS.out 4 rfl:Bx _ _ _/\_).1).ext (((Aa.rfl' wr).dr).tr (hea.tr heb)));have x2:=Y2.out.cell (j:=0) rfl;have g2:=Y2.out.free 0;have l2:=Y2.out.lt;have S9:=lh (Ai.st (Ai.ext SS.out (((Aa.rfl' wr).dr).tr (hea.tr heb))) 4 rfl ⟨w.heap.size,0,none⟩ (.slice Ag g.length cg) rfl (Th.box w.heap.size w.heap.size [.slice Ag g.length cg]) ⟨Y2.out.set 0 _,Nat.le_refl _⟩ (fun _ e=>e));have E9:=lh ((E.out.tr (((Aa.rfl' wr).dr).tr (hea.tr heb))).set (p:=⟨w.heap.size,0,none⟩) (Nat.le_refl _) (.slice Ag g.length cg));have YG9:=lh ((YG.out.ext (((Aa.rfl' wr).dr).tr (hea.tr heb))).oth (p:=⟨w.heap.size,0,none⟩) (show w.heap.size≠w.heap.size+1 by omega) (.slice Ag g.length cg));have XC9:=lh ((World.cell?_setCell_other vb ⟨w.heap.size,0,none⟩ ⟨bl,ol+i,none⟩ (.slice Ag g.length cg) (by intro e;injection e with e1;exact HBL.out e1.symm)).trans ((((Aa.rfl' wr).dr).tr (hea.tr heb)).cellE XC.out));have s0:=(Y2.out.set 0 (.slice Ag g.length cg)).cell (j:=0) rfl;go_simp;clear x2 g2 l2;try simp only[pg]
     clear hHeld;refine hK.out _ _ (by exact⟨YG9.out.cell (j:=0) rfl,XC9.out⟩) fun hHeld=>?_;clear hK K;try simp only[Act.put]
     refine ty 19 ?_;refine ty 20 ?_;refine dn ?_;clear q0 ql bc;go_wp2;refine bodyPost_ret (v := .tuple #[.agg #[.slice Ag g.length cg],.slice A6 c.length c6,.bool (Sg.AT g c)]) (by simp[results,Tryz.results12,go_sem,s0];try rfl) rfl ?_
     first | exact⟨g,c,Sg.AT g c,Ag,cg,ks,A6,c6,rfl,by rw[HPG.out,HLD.out];cases hvc:Sg.AT g c <;> simp[hle,HVg.out],E9.out,Ai.two (Ai.tail S9.out)⟩ | exact⟨g,c,.inl ⟨Ag,cg,ks,A6,c6,rfl,by rw[HPG.out,HLD.out];cases hvc:Sg.AT g c <;> simp[hle,HVg.out],E9.out,Ai.two (Ai.tail S9.out)⟩⟩
   ·have b0:(l == [])=false:=by simp[hle]
    go_upto_region 24 with fail
    refine wp_region_held_drew (S:=(fun W=>W.cell? ⟨w.heap.size+1,0,none⟩=some (.slice Ag g.length cg)/\W.cell? ⟨bl,ol+i,none⟩=some (.string (ts l)))) (by kernel_rfl) ?_ (fun hHeld=>?_)
    ·exact⟨(YG.out.ext ((Aa.rfl' wr).dr)).cell (j:=0) rfl,((Aa.rfl' wr).dr).cellE XC.out⟩
    refine ty 0 ?_;refine ty 1 ?_;refine ty 2 ?_;refine ty 3 ?_;refine ty 4 ?_;refine ty 5 ?_;refine ty 6 ?_;refine ty 7 ?_;refine ty 8 ?_;refine ty 9 ?_;refine tn 10 ?_;refine tn 11 ?_;refine ty 12 ?_;refine ty 13 ?_;refine tn 14 ?_;refine tn 15 ?_;refine tn 16 ?_;refine ty 17 ?_;refine DL 18 rfl fun K hK=>?_;have Y2:=lh ((show Bx wr w.heap.size [.slice none 0 0] from (Ai.get SS.out 4 rfl:Bx _ _ _/\_).1).ext (((Aa.rfl' wr).dr)));have x2:=Y2.out.cell (j:=0) rfl;have g2:=Y2.out.free 0;have l2:=Y2.out.lt;have S9:=lh (Ai.st (Ai.ext SS.out (((Aa.rfl' wr).dr))) 4 rfl ⟨w.heap.size,0,none⟩ (.slice Ag g.length cg) rfl (Th.box w.heap.size w.heap.size [.slice Ag g.length cg]) ⟨Y2.out.set 0 _,Nat.le_refl _⟩ (fun _ e=>e));have E9:=lh ((E.out.tr (((Aa.rfl' wr).dr))).set (p:=⟨w.heap.size,0,none⟩) (Nat.le_refl _) (.slice Ag g.length cg));have YG9:=lh ((YG.out.ext (((Aa.rfl' wr).dr))).oth (p:=⟨w.heap.size,0,none⟩) (show w.heap.size≠w.heap.size+1 by omega) (.slice Ag g.length cg));have XC9:=lh ((World.cell?_setCell_other (World.drew wr) ⟨w.heap.size,0,none⟩ ⟨bl,ol+i,none⟩ (.slice Ag g.length cg) (by intro e;injection e with e1;exact HBL.out e1.symm)).trans ((((Aa.rfl' wr).dr)).cellE XC.out));have s0:=(Y2.out.set 0 (.slice Ag g.length cg)).cell (j:=0) rfl;have s0:World.cell? (World.setCell wr ⟨w.heap.size,0,none⟩ (.slice Ag g.length cg)) ⟨w.heap.size,0,none⟩=some (.slice Ag g.length cg):=s0;go_simp;clear x2 g2 l2;try simp only[pg]
    clear hHeld;refine hK.out _ _ (by exact⟨YG9.out.cell (j:=0) rfl,XC9.out⟩) fun hHeld=>?_;clear hK K;try simp only[Act.put]
    refine ty 19 ?_;refine ty 20 ?_;refine dn ?_;clear q0 ql bc;go_wp2;refine bodyPost_ret (v := .tuple #[.agg #[.slice Ag g.length cg],.slice A6 c.length c6,.bool (false)]) (by simp[results,Tryz.results12,go_sem,s0];try rfl) rfl ?_
    first | exact⟨g,c,false,Ag,cg,ks,A6,c6,rfl,by rw[HPG.out,HLD.out,if_neg (fun e=>hle e.1)];rfl,E9.out,Ai.two (Ai.tail S9.out)⟩ | exact⟨g,c,.inl ⟨Ag,cg,ks,A6,c6,rfl,by rw[HPG.out,HLD.out,if_neg (fun e=>hle e.1)],E9.out,Ai.two (Ai.tail S9.out)⟩⟩
end Go.Proofs.YthibllkleakiiaaGreatDoor
