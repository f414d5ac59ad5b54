/- The reference's goodFormula: its contract. Conditions: bounds on the number of draws. -/
import Derived.Deep.DeepCutAuto
import Derived.Test.YthibllkleakiiaaGreatDoorImplA1
namespace Go.Proofs.YthibllkleakiiaaGreatDoor
open Go.RowKit
def XJ (R m:Nat)(w:World)(e:Ending)(w':World):Prop:=∃ (f:List Sg.At) (A:Option Addr) (c:Nat),e= .returned (.agg #[.slice A f.length c])/\Au w' w.heap.size 111 5 A f.length c (AH f)/\1<=f.length/\f.length<=30/\Gn w' R (m+100)/\AF (fun b=>b=R) w w'
def Wz (R m:Nat)(l:List Int)(w:World)(e:Ending)(w':World):Prop:=∃ (f:List Sg.At) (A:Option Addr) (c:Nat),e= .returned (.agg #[.slice A f.length c])/\Au w' w.heap.size 111 5 A f.length c (AH f)/\1<=f.length/\f.length<=30/\Gn w' R (m+100)/\AF (fun b=>b=R) w w'/\(0<l.length->(∀ x ∈ l,0<=x/\x<=3)->Sg.AR f=true)
def W_ (v:Value):Nat:=match v with | .slice _ n _=>n | _=>0
theorem GF.start {R m:Nat}{w:World}(h:Gn w R m):GF w.heap.size R m w 0 0 (some ⟨w.heap.size+1+1,0,none⟩) 0 (World.alloc (World.alloc (World.alloc (World.alloc w (.cells #[.slice none 0 0] 68)) (.cells #[.slice none 0 0] 68)) (.cells #[] 3)) (.cells #[.int .i64 3,.int .i64 4,.int .i64 5,.int .i64 6,.int .i64 2,.int .i64 1] 3)):=by
 have hR:=h.lt;have b0:=((Bx.new w #[.slice none 0 0] 68).al (.cells #[.slice none 0 0] 68)).al (.cells #[] 3) |>.al (.cells #[.int .i64 3,.int .i64 4,.int .i64 5,.int .i64 6,.int .i64 2,.int .i64 1] 3);have b1:=((Bx.new (World.alloc w (.cells #[.slice none 0 0] 68)) #[.slice none 0 0] 68).al (.cells #[] 3)).al (.cells #[.int .i64 3,.int .i64 4,.int .i64 5,.int .i64 6,.int .i64 2,.int .i64 1] 3);have o1:=(Au.new (World.alloc (World.alloc w (.cells #[.slice none 0 0] 68)) (.cells #[.slice none 0 0] 68)) (B:=w.heap.size+2) 3 1 #[] 0 (by simp) (by unfold maxLen;omega) rfl).al (.cells #[.int .i64 3,.int .i64 4,.int .i64 5,.int .i64 6,.int .i64 2,.int .i64 1] 3);simp only[World.size_alloc] at b1 o1;have e1:Aa w (World.alloc (World.alloc (World.alloc (World.alloc w (.cells #[.slice none 0 0] 68)) (.cells #[.slice none 0 0] 68)) (.cells #[] 3)) (.cells #[.int .i64 3,.int .i64 4,.int .i64 5,.int .i64 6,.int .i64 2,.int .i64 1] 3)):=((((Aa.rfl' w).al _).al _).al _).al _;exact⟨[],none,0,[],rfl,rfl,rfl,hR,b0,b1,Au.nil _ _ _ _,o1,by intro b hb;simp[AE] at hb,h.ext e1,AF.of e1⟩
set_option maxRecDepth 100000 in
set_option maxHeartbeats 16000000 in
theorem MZ (R m:Nat)(A:Option Addr)(c:Nat)(l:List Int)(w:World)(h:Gn w R m)(hl:Rd w 1 A l.length (Ah l))(hn2:l.length<=1000)(hoff:∀ b,AE A=some b->b≠R)(hm:m<=900000) :
  Calls Tryz.prog 102 #[.pointer (some ⟨R,0,none⟩),.slice A l.length c] w (Wz R m l w):=by
 have hRl:=h.lt;have G0:=lh (GF.start h);have HL:=lh hl;have HO:=lh hoff;have HLW:=lh (fun (W:World) (hW:AF (fun b=>b=R) w W)=>hl.mod0 hW (fun _ b hb e=>hoff b hb e));clear h hl hoff;go_enter Tryz.func102,Tryz.ntmps102;go_wp2_with fail
 have RL:=(Au.new (World.alloc (World.alloc (World.alloc w (.cells #[.slice none 0 0] 68)) (.cells #[.slice none 0 0] 68)) (.cells #[] 3)) (B:=0) 3 1 #[.int .i64 3,.int .i64 4,.int .i64 5,.int .i64 6,.int .i64 2,.int .i64 1] 6 (Nat.zero_le _) (by unfold maxLen;omega) rfl).rd;simp only[World.size_alloc] at RL;refine(Oi R m _ 6 [3,4,5,6,2,1] _ G0.out.rdr RL (by simp) (by simp) (by intro b hb;simp[AE] at hb;omega) (by omega)).mono ?_;rintro e w1 ⟨x,rfl,hx,hr,hm1⟩;obtain⟨k0,rfl,hk0⟩:∃ k:Nat,x=k/\k<=6:=⟨x.toNat,by simp at hx;omega,by simp at hx;omega⟩;have G1:=lh (G0.out.pick hm1 hr);clear RL hx hr hm1 G0;go_wp2_with fail
 go_loopw [6,7] (fun s6 s7 wr=>∃ (k n6 nf:Nat) (A6:Option Addr) (c6:Nat),s7= .int .i64 k/\s6= .slice A6 n6 c6/\k<=6/\n6+k<=6/\nf+2 * k<=12/\Hid (GF w.heap.size R (m+1+7 * (6 - k)) w nf n6 A6 c6 wr)) (fun _ s7 _=>(intOf s7).toNat)
 case atStart=>exact⟨k0,0,0,_,_,rfl,rfl,hk0,by omega,by omega,lh (G1.out.more (by omega))⟩
 case round =>
  obtain⟨kk,n6,nf,A6,c6,rfl,rfl,hk6,hn6,hnf,hG⟩:=hrel;clear G1;have hsz:=hG.out.size;by_cases hk:0<kk
  ·have HRP:=lh (fun M W hr hl hM=>Pk R M A c l W hr hl hn2 HO.out hM);obtain⟨k,rfl⟩:∃ k,kk=k+1:=⟨kk - 1,by omega⟩;clear hk;obtain⟨M,hM⟩:∃ M,M=m+1+7 * (6 - (k+1)):=⟨_,rfl⟩;have hMb:M<=m+50:=by omega
   have HMe:=lh hM;rw[<- hM] at hG;clear hM;go_wp2_with fail
   refine(HRP.out M _ hG.out.rdr (HLW.out _ hG.out.md) (by omega)).mono ?_;rintro e w2 ⟨p,rfl,hr2,hm2⟩;have G2:=lh (hG.out.pick hm2 hr2);have hs2:=G2.out.size;clear hr2 hm2 hG;have B8:=lh (Bx.new w2 #[.int .i64 p.kind,.int .i64 p.a,.int .i64 p.b,.int .i64 p.c,.int .i64 p.n] 111);have E8:=lh ((Aa.rfl' w2).al (.cells #[.int .i64 p.kind,.int .i64 p.a,.int .i64 p.b,.int .i64 p.c,.int .i64 p.n] 111));have G3:=lh (G2.out.ext E8.out);go_upto_if 25 with (go_at_call 65;refine(D7 R (M+1) 4 _ G3.out.rdr (by omega) (by omega) (by omega)).mono ?_;rintro e w3 ⟨x,rfl,hx0,hx1,hr3,hm3⟩)
   have G4:=lh (G3.out.pick hm3 hr3);have MM3:=lh ((AF.of (F:=fun b=>b=R) E8.out).tr' hm3);have B9:=lh (B8.out.mod hm3 (by have:=G2.out.base;omega));have hne8:∀ b,AE A6=some b->b≠w2.heap.size:=fun b hb e=>by have:=(G2.out.lt hb).2;omega
   have HN8:=lh hne8;have hL:=G2.out.base;clear hr3 hm3 hne8 G3 E8 B8;go_cut [8] (fun s8 wx=>∃ q:Sg.At,s8= .pointer (some ⟨w2.heap.size,0,none⟩)/\Hid (Bx wx w2.heap.size (Dn q))/\Hid (GF w.heap.size R (M+3) w nf n6 A6 c6 wx))
   case first =>
    by_cases hx:x=0
    ·have z1:(x == 0)=true:=by simp[hx]
     clear hx hx0 hx1;go_wp2_with fail
     have RL:=(Au.new w3 (B:=0) 3 1 #[.int .i64 0,.int .i64 1,.int .i64 2,.int .i64 5,.int .i64 99,.int .i64 10] 6 (Nat.zero_le _) (by unfold maxLen;omega) rfl).rd;refine(Oi R (M+1+1) _ 6 [0,1,2,5,99,10] _ (G4.out.rdr.ext ((Aa.rfl' w3).al _)) RL (by simp) (by simp) (by intro b hb;simp[AE] at hb;have:=G4.out.size;omega) (by omega)).mono ?_;rintro e w4 ⟨y,rfl,hy,hr4,hm4⟩;have G5:=lh ((G4.out.ext ((Aa.rfl' w3).al (.cells #[.int .i64 0,.int .i64 1,.int .i64 2,.int .i64 5,.int .i64 99,.int .i64 10] 3))).pick hm4 hr4);have MM4:=lh ((MM3.out.al (.cells #[.int .i64 0,.int .i64 1,.int .i64 2,.int .i64 5,.int .i64 99,.int .i64 10] 3)).tr' hm4);have B10:=lh ((B9.out.al (.cells #[.int .i64 0,.int .i64 1,.int .i64 2,.int .i64 5,.int .i64 99,.int .i64 10] 3)).mod hm4 (by omega));clear hy hr4 hm4 RL;go_wp2_with fail
     refine(KE y w4).mono ?_;rintro e w5 ⟨rfl,he5⟩;have G6:=lh (G5.out.ext he5);have MM5:=lh (MM4.out.tr' (AF.of he5));have B11:=lh (B10.out.ext he5);have c0:=B11.out.cell (j:=0) rfl;have c1:=B11.out.cell (j:=1) rfl;have c2:=B11.out.cell (j:=2) rfl;have c3:=B11.out.cell (j:=3) rfl;have c4:=B11.out.cell (j:=4) rfl;have f0:=B11.out.free 0;have f1:=B11.out.free 1;have f2:=B11.out.free 2;have f3:=B11.out.free 3;have f4:=B11.out.free 4;have bl:=B11.out.lt;clear he5;go_wp2_with fail
     go_meet
     refine⟨⟨0,-1,-1,-1,y⟩,rfl,lh ?_,lh ?_⟩
     ·exact((((B11.out.set 0 _).set 1 _).set 2 _).set 3 _).set 4 _
     ·have hs:AF (fun b=>b=w2.heap.size) w5 (World.setCell (World.setCell (World.setCell (World.setCell (World.setCell w5 ⟨w2.heap.size,0,none⟩ (.int .i64 0)) ⟨w2.heap.size,1,none⟩ (.int .i64 (-1))) ⟨w2.heap.size,2,none⟩ (.int .i64 (-1))) ⟨w2.heap.size,3,none⟩ (.int .i64 (-1))) ⟨w2.heap.size,4,none⟩ (.int .i64 y)) :=
       (((((AF.rfl' (fun b=>b=w2.heap.size) w5).set (p:=⟨w2.heap.size,0,none⟩) (.inl rfl) _).set (p:=⟨w2.heap.size,1,none⟩) (.inl rfl) _).set (p:=⟨w2.heap.size,2,none⟩) (.inl rfl) _).set (p:=⟨w2.heap.size,3,none⟩) (.inl rfl) _).set (p:=⟨w2.heap.size,4,none⟩) (.inl rfl) _
      exact G2.out.pick (((((MM5.out.set (p:=⟨w2.heap.size,0,none⟩) (.inr (Nat.le_refl _)) _).set (p:=⟨w2.heap.size,1,none⟩) (.inr (Nat.le_refl _)) _).set (p:=⟨w2.heap.size,2,none⟩) (.inr (Nat.le_refl _)) _).set (p:=⟨w2.heap.size,3,none⟩) (.inr (Nat.le_refl _)) _).set (p:=⟨w2.heap.size,4,none⟩) (.inr (Nat.le_refl _)) _) (G6.out.rdr.mod hs (fun b e=>by omega))
    ·have z1:(x == 0)=false:=by rw[beq_eq_false_iff_ne];exact hx
     clear hx hx0 hx1;go_wp2_with fail
     go_meet
     exact⟨p,rfl,B9,lh (G4.out.more (by omega))⟩
   case rest =>
    obtain⟨q,rfl,hB,hG⟩:=hcut;clear G2 G4 B9 MM3;have hsz:=hG.out.size;obtain⟨f,Af,cf,hfl,hcf,hff,hfo,_⟩:=hG.out.f;obtain⟨op,hol,hoo⟩:=hG.out.op;have Hfo:=lh hfo;have Hoo:=lh hoo;have Hfl:=lh hfl;have Hol:=lh hol;have blf:=AA hcf;have q0:=hB.out.cell (j:=0) rfl;have q1:=hB.out.cell (j:=1) rfl;have q2:=hB.out.cell (j:=2) rfl;have q3:=hB.out.cell (j:=3) rfl;have q4:=hB.out.cell (j:=4) rfl;have bl8:=hB.out.lt;clear hfo hoo hfl hol;by_cases c3:2<=n6
    ·obtain⟨j,rfl⟩:∃ j,n6=j+2:=⟨n6 - 2,by omega⟩;clear c3
     go_wp2_with (first
      | (at_builtin;refine AB rfl rfl Bc rfl Hoo.out rfl rfl (Bn _ _) (by omega) (by omega) (by omega) ?_;intro A7 c7 w4 ho4 hg4 hat4;have G7:=lh (GF.push hG.out _ ho4 Hol.out hg4 hat4);have B7:=lh (hB.out.gr hg4 (fun e=>HN8.out _ e rfl));clear ho4 hg4 hat4 hcf hff blf q0 q1 q2 q3 q4 bl8 Hfo Hoo Hfl Hol hsz;have hsz:=G7.out.size;obtain⟨f2,Af2,cf2,hfl,hcf,hff,hfo,_⟩:=G7.out.f;have Hfo:=lh hfo;have Hfl:=lh hfl;clear hfo hfl;have blf:=AA hcf;have q0:=B7.out.cell (j:=0) rfl;have q1:=B7.out.cell (j:=1) rfl;have q2:=B7.out.cell (j:=2) rfl;have q3:=B7.out.cell (j:=3) rfl;have q4:=B7.out.cell (j:=4) rfl;have bl8:=B7.out.lt)
      | (at_builtin;refine AB (cs:=Dn q) rfl rfl FL rfl Hfo.out rfl rfl (I4 q) (by omega) (by omega) (by omega) ?_;intro A8 c8 w5 ho5 hg5 hat5;have hne5:AE Af2≠some (w.heap.size+1):=(fun e=>by have:=(Hfo.out.lt e).1;omega);have hcf5:=AP hg5 hcf hne5;have hff5:=Db hg5 blf hff hne5;have blf5:=AA hcf5;have G8:=lh (GF.part G7.out hcf Hfl.out q ho5 hg5 hat5);clear hcf hff blf q0 q1 q2 q3 q4 bl8 ho5 hg5 hat5 hne5 B7 G7 Hfo Hfl))
     go_wp2_with fail
     refine(D7 R (M+3) 2 _ G8.out.rdr (by omega) (by omega) (by omega)).mono ?_;rintro e w6 ⟨x0,rfl,hx0,hx1,hrw6,hmw6⟩;have G9:=lh (GF.pick G8.out hmw6 hrw6);clear hx0 hx1 hrw6 hmw6;by_cases hz:x0=0
     ·have z1:(x0 == 0)=true:=by simp[hz]
      clear hz;have hsz:=G9.out.size;obtain⟨f3,Af3,cf3,hfl,hcf,hff,hfo,hdj⟩:=G9.out.f;have Hfo:=lh hfo;have Hfl:=lh hfl;have HDJ:=lh hdj;clear hfo hfl hdj;have blf:=AA hcf;obtain⟨b7,y0,hA7,hy0,hb7⟩:=G9.out.at_ (j) (by omega);subst hA7;have bb7:=AA hy0;obtain⟨b7',y1,hA7,hy1,_⟩:=G9.out.at_ (j+1) (by omega);simp only[Option.some.injEq,Addr.mk.injEq,and_true] at hA7;subst hA7;obtain⟨b7',y2,hA7,hy2,_⟩:=G9.out.at_ (j+2) (by omega);simp only[Option.some.injEq,Addr.mk.injEq,and_true] at hA7;subst hA7;have hdb:∀ b,AE Af3=some b->b≠b7:=fun b hb e=>HDJ.out b hb (by rw[e];rfl);have HDB:=lh hdb;clear hdb;have i0:IntKind.i64.wrap ((j:Int)+2+1 - 3)=(j:Int):=by rw[IntWalk.i64_in _ (by omega)];omega
      have i1:IntKind.i64.wrap ((j:Int)+2+1 - 2)=(j:Int)+1:=by rw[IntWalk.i64_in _ (by omega)];omega
      have i2:IntKind.i64.wrap ((j:Int)+2)=(j:Int)+2:=IntWalk.i64_in _ (by omega);have k0:(j:Int)<(j:Int)+2+1:=by omega
      have k1:(0:Int)<=(j:Int)+1:=by omega
      have k1':(j:Int)+1<(j:Int)+2+1:=by omega
      have k2:(0:Int)<=(j:Int)+2:=by omega
      have k2':(j:Int)+2<(j:Int)+2+1:=by omega
      have t1:((j:Int)+1).toNat=j+1:=by omega
      have t2:((j:Int)+2).toNat=j+2:=by omega
      go_wp2_with fail
      refine zb 21 (fun W=>W.cell? ⟨b7,j,none⟩=some (.int .i64 y0)/\W.cell? ⟨b7,j+1,none⟩=some (.int .i64 y1)/\W.cell? ⟨b7,j+2,none⟩=some (.int .i64 y2)/\W.cell? ⟨w.heap.size+1,0,none⟩=some (.slice Af3 (nf+1) cf3)) ?_ (fun hHeld=>?_)
      ·exact⟨xd.cellE hy0,xd.cellE hy1,xd.cellE hy2,xd.cellE hcf⟩
      refine zy 0 ?_;refine zy 1 ?_;refine zy 2 ?_;refine zy 3 ?_;refine zy 4 ?_;refine zy 5 ?_;refine zy 6 ?_;refine zy 7 ?_;refine zy 8 ?_;refine zy 9 ?_;refine zy 10 ?_;refine zy 11 ?_;refine zy 12 ?_;refine zy 13 ?_;refine zy 14 ?_;refine zy 15 ?_;refine zy 16 ?_;refine zy 17 ?_;refine zr 18 rfl fun K hK=>?_;go_simp;try simp only[pg]
      refine zh (hK.out _ _) (⟨(xd.al _).cellE hy0,(xd.al _).cellE hy1,(xd.al _).cellE hy2,(xd.al _).cellE hcf⟩) fun hHeld=>?_;clear hK K;try simp only[Act.put,pu]
      refine zr 19 rfl fun K hK=>?_;refine CP (cs:=Dn ⟨8,y0,y1,y2,0⟩) rfl rfl FL rfl Hfo.out.dr rfl rfl (I4 _) (by omega) (by omega) (by first | exact hsz | (simp;omega)) ?_;intro A9 c9 w9 ho9 hg9 hat9;have hne9:AE Af3≠some (w.heap.size+1):=fun e=>by have:=(Hfo.out.lt e).1;omega
      have hne7:AE Af3≠some b7:=fun e=>HDB.out _ e rfl;have hz0:=AP hg9 (xd.cellE hy0) hne7;have hz1:=AP hg9 (xd.cellE hy1) hne7;have hz2:=AP hg9 (xd.cellE hy2) hne7;have hcf9:=AP hg9 (xd.cellE hcf) hne9;have hff9:=Db hg9 (by simpa using blf) ((xd.frozen (p:=⟨w.heap.size+1,0,none⟩) blf).trans hff) hne9;have blf9:=AA hcf9;try simp only[pg]
      refine zh (hK.out _ _) (⟨hz0,hz1,hz2,hcf9⟩) fun hHeld=>?_;clear hK K;try simp only[Act.put,pu]
      refine zy 20 ?_;refine zr 21 rfl fun K hK=>?_;go_simp;refine hK.out _ _ (fun e=>absurd rfl e) (fun hh=>?_);clear hK K hHeld hh;try simp only[Act.put]
      refine zn ?_;go_wp2_with fail
      have G10:=lh (GF.part (G9.out.ext xd) (xd.cellE hcf) Hfl.out ⟨8,y0,y1,y2,0⟩ ho9 hg9 hat9);clear ho9 hg9 hat9 hcf blf hsz hHeld Hfo Hfl HDJ HDB hne9 hne7 hcf9 hff9 blf9 hff;generalize (World.setCell w9 ⟨w.heap.size+1,0,none⟩ (.slice A9 (nf+1+1) c9))=W10 at *;have hsz:=G10.out.size;obtain⟨f4,Af4,cf4,_,hcf,_,_,_⟩:=G10.out.f;have blf:=AA hcf;have hroom:=G10.out.room;have G11:=lh (G10.out.cut (j) (by omega));obtain⟨op2,hol2,hoo2⟩:=G11.out.op;have Hol2:=lh hol2;have Hoo2:=lh hoo2;clear hol2 hoo2;have hr1:j<=c7:=by omega
      have hr3:(j:Int)<=(c7:Int):=by omega
      have hr2:=hroom.2;unfold maxLen at hr2;refine zb 10 (fun W=>W.cell? ⟨w.heap.size+1,0,none⟩=some (.slice Af4 (nf+1+1) cf4)) ?_ (fun hHeld=>?_)
      ·exact xd.cellE hcf
      refine zy 0 ?_;refine zy 1 ?_;refine zy 2 ?_;refine zy 3 ?_;refine zy 4 ?_;refine zy 5 ?_;refine zy 6 ?_;refine zy 7 ?_;refine zr 8 rfl fun K hK=>?_;go_simp;try simp only[pg]
      refine zh (hK.out _ _) ((xd.al _).cellE hcf) fun hHeld=>?_;clear hK K;try simp only[Act.put,pu]
      refine zr 9 rfl fun K hK=>?_;refine CP rfl rfl Bc rfl Hoo2.out.dr rfl rfl (Bn _ _) (by omega) (by omega) (by first | exact hsz | (simp;omega)) ?_;intro A12 Uk w12 ho12 hg12 hat12;have hz:=AP hg12 (xd.cellE hcf) (by intro e;simp[AE] at e;omega);try simp only[pg]
      refine zh (hK.out _ _) (hz) fun hHeld=>?_;clear hK K;try simp only[Act.put,pu]
      refine zr 10 rfl fun K hK=>?_;go_simp;refine hK.out _ _ (fun e=>absurd rfl e) (fun hh=>?_);clear hK K hHeld hh;try simp only[Act.put,pu]
      refine zn ?_;have G12:=lh (GF.push (G11.out.ext xd) _ ho12 Hol2.out hg12 hat12);clear ho12 hg12 hat12 hz;go_wp2;go_roundw
      case rel=>exact⟨k,j+1,nf+1+1,A12,Uk,(by simp),(by simp),by omega,by omega,by omega,lh (GF.more G12.out (by have:=HMe.out;omega))⟩
      case measure=>(simp[intOf] <;> omega)
     ·have z1:(x0 == 0)=false:=by rw[beq_eq_false_iff_ne];exact hz
      clear hz;go_wp2_with fail
      refine(D7 R (M+3+1) 2 _ G9.out.rdr (by omega) (by omega) (by omega)).mono ?_;rintro e w7 ⟨x1,rfl,hx0,hx1,hrw7,hmw7⟩;have G9b:=lh (GF.pick G9.out hmw7 hrw7);clear hx0 hx1 hrw7 hmw7;by_cases hz:x1=0
      ·have z2:(x1 == 0)=true:=by simp[hz]
       clear hz;have hsz:=G9b.out.size;obtain⟨f3,Af3,cf3,hfl,hcf,hff,hfo,hdj⟩:=G9b.out.f;have Hfo:=lh hfo;have Hfl:=lh hfl;have HDJ:=lh hdj;clear hfo hfl hdj;have blf:=AA hcf;obtain⟨b7,y0,hA7,hy0,hb7⟩:=G9b.out.at_ (j+1) (by omega);subst hA7;have bb7:=AA hy0;obtain⟨b7',y1,hA7,hy1,_⟩:=G9b.out.at_ (j+2) (by omega);simp only[Option.some.injEq,Addr.mk.injEq,and_true] at hA7;subst hA7;have hdb:∀ b,AE Af3=some b->b≠b7:=fun b hb e=>HDJ.out b hb (by rw[e];rfl);have HDB:=lh hdb;clear hdb;have i1:IntKind.i64.wrap ((j:Int)+2+1 - 2)=(j:Int)+1:=by rw[IntWalk.i64_in _ (by omega)];omega
       have i2:IntKind.i64.wrap ((j:Int)+2)=(j:Int)+2:=IntWalk.i64_in _ (by omega);have k1:(0:Int)<=(j:Int)+1:=by omega
       have k1':(j:Int)+1<(j:Int)+2+1:=by omega
       have k2:(0:Int)<=(j:Int)+2:=by omega
       have k2':(j:Int)+2<(j:Int)+2+1:=by omega
       have t1:((j:Int)+1).toNat=j+1:=by omega
       have t2:((j:Int)+2).toNat=j+2:=by omega
       go_wp2_with fail
       refine zb 19 (fun W=>W.cell? ⟨b7,j+1,none⟩=some (.int .i64 y0)/\W.cell? ⟨b7,j+2,none⟩=some (.int .i64 y1)/\W.cell? ⟨w.heap.size+1,0,none⟩=some (.slice Af3 (nf+1) cf3)) ?_ (fun hHeld=>?_)
       ·exact⟨xd.cellE hy0,xd.cellE hy1,xd.cellE hcf⟩
       refine zy 0 ?_;refine zy 1 ?_;refine zy 2 ?_;refine zy 5 ?_;refine zy 6 ?_;refine zy 7 ?_;refine zy 8 ?_;refine zy 9 ?_;refine zy 10 ?_;refine zy 11 ?_;refine zy 12 ?_;refine zy 13 ?_;refine zy 14 ?_;refine zr 3 rfl fun K hK=>?_;go_simp;refine(D7 R (M+3+1+1) 6 _ (G9b.out.rdr.ext xd) (by omega) (by omega) (by omega)).mono ?_;rintro e wc8 ⟨yk,rfl,hk0,hk1,hr8,hm8⟩;have wk8:IntKind.i64.wrap (2+yk)=2+yk:=IntWalk.i64_in _ (by omega);clear hk0 hk1;have G9:=lh ((G9b.out.ext xd).pick hm8 hr8);have hRL:=G9.out.base;have Hfo8:=lh (Hfo.out.dr.mod hm8 (fun b hb e=>by have:=(Hfo.out.lt hb).1;omega));have hx0:=hm8.cellE (xd.cellE hy0) (by omega);have hx1:=hm8.cellE (xd.cellE hy1) (by omega);have hcf8:=hm8.cellE (xd.cellE hcf) (by omega);have blf8:=AA hcf8;have bx8:=AA hx0;have hff8:wc8.frozen? ⟨w.heap.size+1,0,none⟩=false:=by obtain⟨_,_,_,_,_,h,_⟩:=G9.out.f;exact h
       have hsz8:=G9.out.size;clear hsz;have hsz:=hsz8;clear hsz8;try go_wp2_with fail
       refine zh (hK.out _ _) (⟨hx0,hx1,hcf8⟩) fun hHeld=>?_;clear hK K;try simp only[Act.put,pu]
       refine zy 4 ?_;refine zy 15 ?_;refine zr 16 rfl fun K hK=>?_;go_simp;try simp only[pg]
       refine zh (hK.out _ _) (⟨(xr.al _).cellE hx0,(xr.al _).cellE hx1,(xr.al _).cellE hcf8⟩) fun hHeld=>?_;clear hK K;try simp only[Act.put,pu]
       refine zr 17 rfl fun K hK=>?_;refine CP (cs:=Dn ⟨2+yk,y0,y1,-1,0⟩) rfl rfl FL rfl Hfo8.out rfl rfl (I4 _) (by omega) (by omega) (by first | exact hsz | (simp;omega)) ?_;intro A9 c9 w9 ho9 hg9 hat9;have hne9:AE Af3≠some (w.heap.size+1):=fun e=>by have:=(Hfo.out.lt e).1;omega
       have hne7:AE Af3≠some b7:=fun e=>HDB.out _ e rfl;have hz0:=AP hg9 hx0 hne7;have hz1:=AP hg9 hx1 hne7;have hcf9:=AP hg9 hcf8 hne9;have hff9:=Db hg9 blf8 hff8 hne9;have blf9:=AA hcf9;try simp only[pg]
       refine zh (hK.out _ _) (⟨hz0,hz1,hcf9⟩) fun hHeld=>?_;clear hK K;try simp only[Act.put,pu]
       refine zy 18 ?_;refine zr 19 rfl fun K hK=>?_;go_simp;refine hK.out _ _ (fun e=>absurd rfl e) (fun hh=>?_);clear hK K hHeld hh;try simp only[Act.put]
       refine zn ?_;go_wp2_with fail
       have G10:=lh (GF.part (G9.out) hcf8 Hfl.out ⟨2+yk,y0,y1,-1,0⟩ ho9 hg9 hat9);clear ho9 hg9 hat9 hcf blf hsz hHeld Hfo Hfl HDJ HDB hne9 hne7 hcf9 hff9 blf9 hcf8 hff8 blf8 bx8 hRL Hfo8;generalize (World.setCell w9 ⟨w.heap.size+1,0,none⟩ (.slice A9 (nf+1+1) c9))=W10 at *;have hsz:=G10.out.size;obtain⟨f4,Af4,cf4,_,hcf,_,_,_⟩:=G10.out.f;have blf:=AA hcf;have hroom:=G10.out.room;have G11:=lh (G10.out.cut (j+1) (by omega));obtain⟨op2,hol2,hoo2⟩:=G11.out.op;have Hol2:=lh hol2;have Hoo2:=lh hoo2;clear hol2 hoo2;have hr1:j+1<=c7:=by omega
       have hr3:(j:Int)+1<=(c7:Int):=by omega
       have hr2:=hroom.2;unfold maxLen at hr2;refine zb 10 (fun W=>W.cell? ⟨w.heap.size+1,0,none⟩=some (.slice Af4 (nf+1+1) cf4)) ?_ (fun hHeld=>?_)
       ·exact xd.cellE hcf
       refine zy 0 ?_;refine zy 1 ?_;refine zy 2 ?_;refine zy 3 ?_;refine zy 4 ?_;refine zy 5 ?_;refine zy 6 ?_;refine zy 7 ?_;refine zr 8 rfl fun K hK=>?_;go_simp;try simp only[pg]
       refine zh (hK.out _ _) ((xd.al _).cellE hcf) fun hHeld=>?_;clear hK K;try simp only[Act.put,pu]
       refine zr 9 rfl fun K hK=>?_;refine CP rfl rfl Bc rfl Hoo2.out.dr rfl rfl (Bn _ _) (by omega) (by omega) (by first | exact hsz | (simp;omega)) ?_;intro A12 Uk w12 ho12 hg12 hat12;have hz:=AP hg12 (xd.cellE hcf) (by intro e;simp[AE] at e;omega);try simp only[pg]
       refine zh (hK.out _ _) (hz) fun hHeld=>?_;clear hK K;try simp only[Act.put,pu]
       refine zr 10 rfl fun K hK=>?_;go_simp;refine hK.out _ _ (fun e=>absurd rfl e) (fun hh=>?_);clear hK K hHeld hh;try simp only[Act.put,pu]
       refine zn ?_;have G12:=lh (GF.push (G11.out.ext xd) _ ho12 Hol2.out hg12 hat12);clear ho12 hg12 hat12 hz;go_wp2;go_roundw
       case rel=>exact⟨k,j+1+1,nf+1+1,A12,Uk,(by simp),(by simp),by omega,by omega,by omega,lh (GF.more G12.out (by have:=HMe.out;omega))⟩
       case measure=>(simp[intOf] <;> omega)
      ·have z2:(x1 == 0)=false:=by rw[beq_eq_false_iff_ne];exact hz
       clear hz;go_wp2;go_roundw
       case rel=>exact⟨k,j+2+1,nf+1,A7,c7,(by simp),(by simp),by omega,by omega,by omega,lh (GF.more G9b.out (by have:=HMe.out;omega))⟩
       case measure=>(simp[intOf] <;> omega)
    ·by_cases c1:n6=1
     ·subst c1;clear c3
      go_wp2_with (first
       | (at_builtin;refine AB rfl rfl Bc rfl Hoo.out rfl rfl (Bn _ _) (by omega) (by omega) (by omega) ?_;intro A7 c7 w4 ho4 hg4 hat4;have G7:=lh (GF.push hG.out _ ho4 Hol.out hg4 hat4);have B7:=lh (hB.out.gr hg4 (fun e=>HN8.out _ e rfl));clear ho4 hg4 hat4 hcf hff blf q0 q1 q2 q3 q4 bl8 Hfo Hoo Hfl Hol hsz;have hsz:=G7.out.size;obtain⟨f2,Af2,cf2,hfl,hcf,hff,hfo,_⟩:=G7.out.f;have Hfo:=lh hfo;have Hfl:=lh hfl;clear hfo hfl;have blf:=AA hcf;have q0:=B7.out.cell (j:=0) rfl;have q1:=B7.out.cell (j:=1) rfl;have q2:=B7.out.cell (j:=2) rfl;have q3:=B7.out.cell (j:=3) rfl;have q4:=B7.out.cell (j:=4) rfl;have bl8:=B7.out.lt)
       | (at_builtin;refine AB (cs:=Dn q) rfl rfl FL rfl Hfo.out rfl rfl (I4 q) (by omega) (by omega) (by omega) ?_;intro A8 c8 w5 ho5 hg5 hat5;have hne5:AE Af2≠some (w.heap.size+1):=(fun e=>by have:=(Hfo.out.lt e).1;omega);have hcf5:=AP hg5 hcf hne5;have hff5:=Db hg5 blf hff hne5;have blf5:=AA hcf5;have G8:=lh (GF.part G7.out hcf Hfl.out q ho5 hg5 hat5);clear hcf hff blf q0 q1 q2 q3 q4 bl8 ho5 hg5 hat5 hne5 B7 G7 Hfo Hfl))
      go_wp2_with fail
      refine(D7 R (M+3) 2 _ G8.out.rdr (by omega) (by omega) (by omega)).mono ?_;rintro e w6 ⟨x1,rfl,hx0,hx1,hrw6,hmw6⟩;have G9b:=lh (GF.pick G8.out hmw6 hrw6);clear hx0 hx1 hrw6 hmw6;by_cases hz:x1=0
      ·have z2:(x1 == 0)=true:=by simp[hz]
       clear hz;have hsz:=G9b.out.size;obtain⟨f3,Af3,cf3,hfl,hcf,hff,hfo,hdj⟩:=G9b.out.f;have Hfo:=lh hfo;have Hfl:=lh hfl;have HDJ:=lh hdj;clear hfo hfl hdj;have blf:=AA hcf;obtain⟨b7,y0,hA7,hy0,hb7⟩:=G9b.out.at_ (0) (by omega);subst hA7;have bb7:=AA hy0;obtain⟨b7',y1,hA7,hy1,_⟩:=G9b.out.at_ (1) (by omega);simp only[Option.some.injEq,Addr.mk.injEq,and_true] at hA7;subst hA7;have hdb:∀ b,AE Af3=some b->b≠b7:=fun b hb e=>HDJ.out b hb (by rw[e];rfl);have HDB:=lh hdb;clear hdb;have i0:IntKind.i64.wrap 0=0:=IntWalk.i64_in _ (by omega);have i1:IntKind.i64.wrap 1=1:=IntWalk.i64_in _ (by omega);go_wp2_with fail
       refine zb 19 (fun W=>W.cell? ⟨b7,0,none⟩=some (.int .i64 y0)/\W.cell? ⟨b7,1,none⟩=some (.int .i64 y1)/\W.cell? ⟨w.heap.size+1,0,none⟩=some (.slice Af3 (nf+1) cf3)) ?_ (fun hHeld=>?_)
       ·exact⟨xd.cellE hy0,xd.cellE hy1,xd.cellE hcf⟩
       refine zy 0 ?_;refine zy 1 ?_;refine zy 2 ?_;refine zy 5 ?_;refine zy 6 ?_;refine zy 7 ?_;refine zy 8 ?_;refine zy 9 ?_;refine zy 10 ?_;refine zy 11 ?_;refine zy 12 ?_;refine zy 13 ?_;refine zy 14 ?_;refine zr 3 rfl fun K hK=>?_;go_simp;refine(D7 R (M+3+1) 6 _ (G9b.out.rdr.ext xd) (by omega) (by omega) (by omega)).mono ?_;rintro e wc8 ⟨yk,rfl,hk0,hk1,hr8,hm8⟩;have wk8:IntKind.i64.wrap (2+yk)=2+yk:=IntWalk.i64_in _ (by omega);clear hk0 hk1;have G9:=lh ((G9b.out.ext xd).pick hm8 hr8);have hRL:=G9.out.base;have Hfo8:=lh (Hfo.out.dr.mod hm8 (fun b hb e=>by have:=(Hfo.out.lt hb).1;omega));have hx0:=hm8.cellE (xd.cellE hy0) (by omega);have hx1:=hm8.cellE (xd.cellE hy1) (by omega);have hcf8:=hm8.cellE (xd.cellE hcf) (by omega);have blf8:=AA hcf8;have bx8:=AA hx0;have hff8:wc8.frozen? ⟨w.heap.size+1,0,none⟩=false:=by obtain⟨_,_,_,_,_,h,_⟩:=G9.out.f;exact h
       have hsz8:=G9.out.size;clear hsz;have hsz:=hsz8;clear hsz8;try go_wp2_with fail
       refine zh (hK.out _ _) (⟨hx0,hx1,hcf8⟩) fun hHeld=>?_;clear hK K;try simp only[Act.put,pu]
       refine zy 4 ?_;refine zy 15 ?_;refine zr 16 rfl fun K hK=>?_;go_simp;try simp only[pg]
       refine zh (hK.out _ _) (⟨(xr.al _).cellE hx0,(xr.al _).cellE hx1,(xr.al _).cellE hcf8⟩) fun hHeld=>?_;clear hK K;try simp only[Act.put,pu]
       refine zr 17 rfl fun K hK=>?_;refine CP (cs:=Dn ⟨2+yk,y0,y1,-1,0⟩) rfl rfl FL rfl Hfo8.out rfl rfl (I4 _) (by omega) (by omega) (by first | exact hsz | (simp;omega)) ?_;intro A9 c9 w9 ho9 hg9 hat9;have hne9:AE Af3≠some (w.heap.size+1):=fun e=>by have:=(Hfo.out.lt e).1;omega
       have hne7:AE Af3≠some b7:=fun e=>HDB.out _ e rfl;have hz0:=AP hg9 hx0 hne7;have hz1:=AP hg9 hx1 hne7;have hcf9:=AP hg9 hcf8 hne9;have hff9:=Db hg9 blf8 hff8 hne9;have blf9:=AA hcf9;try simp only[pg]
       refine zh (hK.out _ _) (⟨hz0,hz1,hcf9⟩) fun hHeld=>?_;clear hK K;try simp only[Act.put,pu]
       refine zy 18 ?_;refine zr 19 rfl fun K hK=>?_;go_simp;refine hK.out _ _ (fun e=>absurd rfl e) (fun hh=>?_);clear hK K hHeld hh;try simp only[Act.put]
       refine zn ?_;go_wp2_with fail
       have G10:=lh (GF.part (G9.out) hcf8 Hfl.out ⟨2+yk,y0,y1,-1,0⟩ ho9 hg9 hat9);clear ho9 hg9 hat9 hcf blf hsz hHeld Hfo Hfl HDJ HDB hne9 hne7 hcf9 hff9 blf9 hcf8 hff8 blf8 bx8 hRL Hfo8;generalize (World.setCell w9 ⟨w.heap.size+1,0,none⟩ (.slice A9 (nf+1+1) c9))=W10 at *;have hsz:=G10.out.size;obtain⟨f4,Af4,cf4,_,hcf,_,_,_⟩:=G10.out.f;have blf:=AA hcf;have hroom:=G10.out.room;have G11:=lh (G10.out.cut (0) (by omega));obtain⟨op2,hol2,hoo2⟩:=G11.out.op;have Hol2:=lh hol2;have Hoo2:=lh hoo2;clear hol2 hoo2;have hr1:0<=c7:=by omega
       have hr3:=hr1;have hr2:=hroom.2;unfold maxLen at hr2;refine zb 10 (fun W=>W.cell? ⟨w.heap.size+1,0,none⟩=some (.slice Af4 (nf+1+1) cf4)) ?_ (fun hHeld=>?_)
       ·exact xd.cellE hcf
       refine zy 0 ?_;refine zy 1 ?_;refine zy 2 ?_;refine zy 3 ?_;refine zy 4 ?_;refine zy 5 ?_;refine zy 6 ?_;refine zy 7 ?_;refine zr 8 rfl fun K hK=>?_;go_simp;try simp only[pg]
       refine zh (hK.out _ _) ((xd.al _).cellE hcf) fun hHeld=>?_;clear hK K;try simp only[Act.put,pu]
       refine zr 9 rfl fun K hK=>?_;refine CP rfl rfl Bc rfl Hoo2.out.dr rfl rfl (Bn _ _) (by omega) (by omega) (by first | exact hsz | (simp;omega)) ?_;intro A12 Uk w12 ho12 hg12 hat12;have hz:=AP hg12 (xd.cellE hcf) (by intro e;simp[AE] at e;omega);try simp only[pg]
       refine zh (hK.out _ _) (hz) fun hHeld=>?_;clear hK K;try simp only[Act.put,pu]
       refine zr 10 rfl fun K hK=>?_;go_simp;refine hK.out _ _ (fun e=>absurd rfl e) (fun hh=>?_);clear hK K hHeld hh;try simp only[Act.put,pu]
       refine zn ?_;have G12:=lh (GF.push (G11.out.ext xd) _ ho12 Hol2.out hg12 hat12);clear ho12 hg12 hat12 hz;go_wp2;go_roundw
       case rel=>exact⟨k,0+1,nf+1+1,A12,Uk,(by simp),(by simp),by omega,by omega,by omega,lh (GF.more G12.out (by have:=HMe.out;omega))⟩
       case measure=>(simp[intOf] <;> omega)
      ·have z2:(x1 == 0)=false:=by rw[beq_eq_false_iff_ne];exact hz
       clear hz;go_wp2;go_roundw
       case rel=>exact⟨k,1+1,nf+1,A7,c7,(by simp),(by simp),by omega,by omega,by omega,lh (GF.more G9b.out (by have:=HMe.out;omega))⟩
       case measure=>(simp[intOf] <;> omega)
     ·obtain rfl:n6=0:=by omega
      clear c3 c1
      go_wp2_with (first
       | (at_builtin;refine AB rfl rfl Bc rfl Hoo.out rfl rfl (Bn _ _) (by omega) (by omega) (by omega) ?_;intro A7 c7 w4 ho4 hg4 hat4;have G7:=lh (GF.push hG.out _ ho4 Hol.out hg4 hat4);have B7:=lh (hB.out.gr hg4 (fun e=>HN8.out _ e rfl));clear ho4 hg4 hat4 hcf hff blf q0 q1 q2 q3 q4 bl8 Hfo Hoo Hfl Hol hsz;have hsz:=G7.out.size;obtain⟨f2,Af2,cf2,hfl,hcf,hff,hfo,_⟩:=G7.out.f;have Hfo:=lh hfo;have Hfl:=lh hfl;clear hfo hfl;have blf:=AA hcf;have q0:=B7.out.cell (j:=0) rfl;have q1:=B7.out.cell (j:=1) rfl;have q2:=B7.out.cell (j:=2) rfl;have q3:=B7.out.cell (j:=3) rfl;have q4:=B7.out.cell (j:=4) rfl;have bl8:=B7.out.lt)
       | (at_builtin;refine AB (cs:=Dn q) rfl rfl FL rfl Hfo.out rfl rfl (I4 q) (by omega) (by omega) (by omega) ?_;intro A8 c8 w5 ho5 hg5 hat5;have hne5:AE Af2≠some (w.heap.size+1):=(fun e=>by have:=(Hfo.out.lt e).1;omega);have hcf5:=AP hg5 hcf hne5;have hff5:=Db hg5 blf hff hne5;have blf5:=AA hcf5;have G8:=lh (GF.part G7.out hcf Hfl.out q ho5 hg5 hat5);clear hcf hff blf q0 q1 q2 q3 q4 bl8 ho5 hg5 hat5 hne5 B7 G7 Hfo Hfl))
      go_wp2;go_roundw
      case rel=>exact⟨k,0+1,nf+1,A7,c7,(by simp),(by simp),by omega,by omega,by omega,lh (GF.more G8.out (by have:=HMe.out;omega))⟩
      case measure=>(simp[intOf] <;> omega)
  ·have hk2:kk<=0:=by omega
   have hk3:¬ (0:Int)<(kk:Int):=by omega
   obtain⟨wo,rfl⟩:∃ wo:World,wo=wr:=⟨_,rfl⟩;go_wp2_with fail
   go_loopw [6,10] (fun s6 _ wr=>∃ (a nf:Nat) (A6:Option Addr) (c6:Nat),s6= .slice A6 a c6/\a<=6/\nf+a<=20/\Hid (GF w.heap.size R (m+60+(6 - a)) w nf a A6 c6 wr)) (fun s6 _ _=>W_ s6)
   case atStart=>exact⟨n6,nf,A6,c6,rfl,by omega,by omega,lh (hG.out.more (by omega))⟩
   case round =>
    clear hG hsz hn6 hnf hk6;obtain⟨a,nf,A7,c7,rfl,ha,hna,hG⟩:=hrel;by_cases c1:1<a
    ·obtain⟨j,rfl⟩:∃ j,a=j+2:=⟨a - 2,by omega⟩;clear c1;obtain⟨M,hM⟩:∃ M,M=m+60+(6 - (j+2)):=⟨_,rfl⟩;have hMb:M<=m+70:=by omega
     have HMe:=lh hM;rw[<- hM] at hG;clear hM;have hsz:=hG.out.size;obtain⟨f3,Af3,cf3,hfl,hcf,hff,hfo,hdj⟩:=hG.out.f;have Hfo:=lh hfo;have Hfl:=lh hfl;have HDJ:=lh hdj;clear hfo hfl hdj;have blf:=AA hcf;obtain⟨b7,y0,hA7,hy0,hb7⟩:=hG.out.at_ (j) (by omega);subst hA7;have bb7:=AA hy0;obtain⟨b7',y1,hA7,hy1,_⟩:=hG.out.at_ (j+1) (by omega);simp only[Option.some.injEq,Addr.mk.injEq,and_true] at hA7;subst hA7;have hdb:∀ b,AE Af3=some b->b≠b7:=fun b hb e=>HDJ.out b hb (by rw[e];rfl);have HDB:=lh hdb;clear hdb;have i0:IntKind.i64.wrap (j:Int)=(j:Int):=IntWalk.i64_in _ (by omega);have i1:IntKind.i64.wrap ((j:Int)+2 - 1)=(j:Int)+1:=by rw[IntWalk.i64_in _ (by omega)];omega
     have k0:(j:Int)<(j:Int)+2:=by omega
     have k1:(0:Int)<=(j:Int)+1:=by omega
     have k1':(j:Int)+1<(j:Int)+2:=by omega
     have t1:((j:Int)+1).toNat=j+1:=by omega
     go_wp2_with fail
     refine zb 19 (fun W=>W.cell? ⟨b7,j,none⟩=some (.int .i64 y0)/\W.cell? ⟨b7,j+1,none⟩=some (.int .i64 y1)/\W.cell? ⟨w.heap.size+1,0,none⟩=some (.slice Af3 (nf) cf3)) ?_ (fun hHeld=>?_)
     ·exact⟨xd.cellE hy0,xd.cellE hy1,xd.cellE hcf⟩
     refine zy 0 ?_;refine zy 1 ?_;refine zy 2 ?_;refine zy 5 ?_;refine zy 6 ?_;refine zy 7 ?_;refine zy 8 ?_;refine zy 9 ?_;refine zy 10 ?_;refine zy 11 ?_;refine zy 12 ?_;refine zy 13 ?_;refine zy 14 ?_;refine zr 3 rfl fun K hK=>?_;go_simp;refine(D7 R (M) 6 _ (hG.out.rdr.ext xd) (by omega) (by omega) (by omega)).mono ?_;rintro e wc8 ⟨yk,rfl,hk0,hk1,hr8,hm8⟩;have wk8:IntKind.i64.wrap (2+yk)=2+yk:=IntWalk.i64_in _ (by omega);clear hk0 hk1;have G9:=lh ((hG.out.ext xd).pick hm8 hr8);have hRL:=G9.out.base;have Hfo8:=lh (Hfo.out.dr.mod hm8 (fun b hb e=>by have:=(Hfo.out.lt hb).1;omega));have hx0:=hm8.cellE (xd.cellE hy0) (by omega);have hx1:=hm8.cellE (xd.cellE hy1) (by omega);have hcf8:=hm8.cellE (xd.cellE hcf) (by omega);have blf8:=AA hcf8;have bx8:=AA hx0;have hff8:wc8.frozen? ⟨w.heap.size+1,0,none⟩=false:=by obtain⟨_,_,_,_,_,h,_⟩:=G9.out.f;exact h
     have hsz8:=G9.out.size;clear hsz;have hsz:=hsz8;clear hsz8;try go_wp2_with fail
     refine zh (hK.out _ _) (⟨hx0,hx1,hcf8⟩) fun hHeld=>?_;clear hK K;try simp only[Act.put,pu]
     refine zy 4 ?_;refine zy 15 ?_;refine zr 16 rfl fun K hK=>?_;go_simp;try simp only[pg]
     refine zh (hK.out _ _) (⟨(xr.al _).cellE hx0,(xr.al _).cellE hx1,(xr.al _).cellE hcf8⟩) fun hHeld=>?_;clear hK K;try simp only[Act.put,pu]
     refine zr 17 rfl fun K hK=>?_;refine CP (cs:=Dn ⟨2+yk,y0,y1,-1,0⟩) rfl rfl FL rfl Hfo8.out rfl rfl (I4 _) (by omega) (by omega) (by first | exact hsz | (simp;omega)) ?_;intro A9 c9 w9 ho9 hg9 hat9;have hne9:AE Af3≠some (w.heap.size+1):=fun e=>by have:=(Hfo.out.lt e).1;omega
     have hne7:AE Af3≠some b7:=fun e=>HDB.out _ e rfl;have hz0:=AP hg9 hx0 hne7;have hz1:=AP hg9 hx1 hne7;have hcf9:=AP hg9 hcf8 hne9;have hff9:=Db hg9 blf8 hff8 hne9;have blf9:=AA hcf9;try simp only[pg]
     refine zh (hK.out _ _) (⟨hz0,hz1,hcf9⟩) fun hHeld=>?_;clear hK K;try simp only[Act.put,pu]
     refine zy 18 ?_;refine zr 19 rfl fun K hK=>?_;go_simp;refine hK.out _ _ (fun e=>absurd rfl e) (fun hh=>?_);clear hK K hHeld hh;try simp only[Act.put]
     refine zn ?_;go_wp2_with fail
     have G10:=lh (GF.part (G9.out) hcf8 Hfl.out ⟨2+yk,y0,y1,-1,0⟩ ho9 hg9 hat9);clear ho9 hg9 hat9 hcf blf hsz hHeld Hfo Hfl HDJ HDB hne9 hne7 hcf9 hff9 blf9 hcf8 hff8 blf8 bx8 hRL Hfo8;generalize (World.setCell w9 ⟨w.heap.size+1,0,none⟩ (.slice A9 (nf+1) c9))=W10 at *;have hsz:=G10.out.size;obtain⟨f4,Af4,cf4,_,hcf,_,_,_⟩:=G10.out.f;have blf:=AA hcf;have hroom:=G10.out.room;have G11:=lh (G10.out.cut (j) (by omega));obtain⟨op2,hol2,hoo2⟩:=G11.out.op;have Hol2:=lh hol2;have Hoo2:=lh hoo2;clear hol2 hoo2;have hr1:j<=c7:=by omega
     have hr3:(j:Int)<=(c7:Int):=by omega
     have hr2:=hroom.2;unfold maxLen at hr2;refine zb 10 (fun W=>W.cell? ⟨w.heap.size+1,0,none⟩=some (.slice Af4 (nf+1) cf4)) ?_ (fun hHeld=>?_)
     ·exact xd.cellE hcf
     refine zy 0 ?_;refine zy 1 ?_;refine zy 2 ?_;refine zy 3 ?_;refine zy 4 ?_;refine zy 5 ?_;refine zy 6 ?_;refine zy 7 ?_;refine zr 8 rfl fun K hK=>?_;go_simp;try simp only[pg]
     refine zh (hK.out _ _) ((xd.al _).cellE hcf) fun hHeld=>?_;clear hK K;try simp only[Act.put,pu]
     refine zr 9 rfl fun K hK=>?_;refine CP rfl rfl Bc rfl Hoo2.out.dr rfl rfl (Bn _ _) (by omega) (by omega) (by first | exact hsz | (simp;omega)) ?_;intro A12 Uk w12 ho12 hg12 hat12;have hz:=AP hg12 (xd.cellE hcf) (by intro e;simp[AE] at e;omega);try simp only[pg]
     refine zh (hK.out _ _) (hz) fun hHeld=>?_;clear hK K;try simp only[Act.put,pu]
     refine zr 10 rfl fun K hK=>?_;go_simp;refine hK.out _ _ (fun e=>absurd rfl e) (fun hh=>?_);clear hK K hHeld hh;try simp only[Act.put,pu]
     refine zn ?_;have G12:=lh (GF.push (G11.out.ext xd) _ ho12 Hol2.out hg12 hat12);clear ho12 hg12 hat12 hz;go_wp2;go_roundw
     case rel=>exact⟨j+1,nf+1,A12,Uk,(by simp),by omega,by omega,lh (GF.more G12.out (by have:=HMe.out;omega))⟩
     case measure=>(simp[W_] <;> omega)
    ·have hsz:=hG.out.size;have hbase:=hG.out.base;obtain⟨f,Af,cf,hfl,hcf,hff,hfo,_⟩:=hG.out.f;have Hfo:=lh hfo;have blf:=AA hcf;subst hfl;clear hfo hff;have HVF:=lh (Fl Af cf f);go_wp2_with fail
     refine(HVF.out wr Hfo.out.rd (by omega)).mono ?_;rintro e wv ⟨rfl,hev⟩;have Gv:=lh (hG.out.ext hev);have Rv:=lh (Gv.out.res);have hcv:=hev.cellE hcf;have Hfv:=lh (Hfo.out.ext hev);clear hev hcf blf;cases hV:Sg.AR f
     ·have HV:=lh hV;clear hV;go_wp2_with fail
      refine(JW R _ A c l wv Gv.out.rdr (HLW.out _ Gv.out.md) hn2 HO.out (by omega)).mono ?_;rintro e wp ⟨p,rfl,hrp,hmp,hpf⟩;have HPF:=lh hpf;clear hpf;have Gp:=lh (Gv.out.pick hmp hrp);have Bp:=lh Gp.out.res;have c0:=Bp.out.cell (j:=0) rfl;have f0:=Bp.out.free 0;have bl:=Bp.out.lt;clear hrp hmp hcv;go_wp2;have s0:∀ (u:Value) (o:Obj),World.cell? (World.alloc (World.setCell wp ⟨w.heap.size,0,none⟩ u) o) ⟨w.heap.size,0,none⟩=some u:=fun u o=>((Bp.out.set 0 u).al o).cell (j:=0) rfl;refine bodyPost_ret (v := .agg #[.slice (some ⟨wp.heap.size,0,none⟩) 1 1]) (by simp[results,Tryz.results102,go_sem,s0];try rfl) rfl ?_;have hgs:=Gp.out.size;have on:=Au.new (World.setCell wp ⟨w.heap.size,0,none⟩ (.slice (some ⟨wp.heap.size,0,none⟩) 1 1)) (B:=w.heap.size) 111 5 #[.int .i64 p.kind,.int .i64 p.a,.int .i64 p.b,.int .i64 p.c,.int .i64 p.n] 1 (by simp;omega) (by unfold maxLen;omega) rfl;simp only[World.size_setCell] at on;refine⟨[p],_,1,rfl,by simpa[AH,Dn] using on,by simp,by simp,?_,?_,?_⟩
      ·exact(((Gp.out.rdr.mod (F:=fun b=>b=w.heap.size) (AF.set (F:=fun b=>b=w.heap.size) (AF.rfl' (fun b=>b=w.heap.size) wp) (p:=⟨w.heap.size,0,none⟩) (.inl rfl) _) (fun b e=>by have:=hbase.2;omega)).ext (xr.al _)).more (by omega))
      ·exact(Gp.out.md.set (p:=⟨w.heap.size,0,none⟩) (.inr (Nat.le_refl _)) _).al _
      ·intro h0 hx;obtain⟨x,hx2,hpe⟩:=HPF.out h0;obtain⟨h3,h4⟩:=hx x hx2;have h5:x=0\/x=1\/x=2\/x=3:=by omega
       rw[hpe];rcases h5 with rfl | rfl | rfl | rfl <;> decide
     ·have HV:=lh hV;have hl1:=(Sg.Cg hV).1;clear hV;have bv:=AA hcv;have c0:=Rv.out.cell (j:=0) rfl;have f0:=Rv.out.free 0;have bl:=Rv.out.lt;go_wp2;have s0:∀ u:Value,World.cell? (World.setCell wv ⟨w.heap.size,0,none⟩ u) ⟨w.heap.size,0,none⟩=some u:=fun u=>(Rv.out.set 0 u).cell (j:=0) rfl;refine bodyPost_ret (v := .agg #[.slice Af f.length cf]) (by simp[results,Tryz.results102,go_sem,s0];try rfl) rfl ?_;refine⟨f,Af,cf,rfl,(Hfv.out.set (p:=⟨w.heap.size,0,none⟩) (fun e=>by have h9:w.heap.size+2<=w.heap.size:=(Hfv.out.lt e).1;omega) _).mono (by omega),hl1,by omega,?_,?_,fun _ _=>HV.out⟩
      ·exact(Gv.out.rdr.mod (F:=fun b=>b=w.heap.size) (AF.set (F:=fun b=>b=w.heap.size) (AF.rfl' (fun b=>b=w.heap.size) _) (p:=⟨w.heap.size,0,none⟩) (.inl rfl) _) (fun b e=>by omega)).more (by omega)
      ·exact Gv.out.md.set (p:=⟨w.heap.size,0,none⟩) (.inr (Nat.le_refl _)) _
theorem Iq (R m:Nat)(A:Option Addr)(c:Nat)(l:List Int)(w:World)(h:Gn w R m)(hl:Rd w 1 A l.length (Ah l))(hn2:l.length<=1000)(hoff:∀ b,AE A=some b->b≠R)(hm:m<=900000) :
  Calls Tryz.prog 102 #[.pointer (some ⟨R,0,none⟩),.slice A l.length c] w (XJ R m w) :=
 (MZ R m A c l w h hl hn2 hoff hm).mono fun _ _ ⟨f,A,c,h1,h2,h3,h4,h5,h6,_⟩=>⟨f,A,c,h1,h2,h3,h4,h5,h6⟩
end Go.Proofs.YthibllkleakiiaaGreatDoor
