/- Parts of one proof, joined. The reference's startLazy: its contract. Conditions: bounds on lengths. -/
import Derived.Test.YthibllkleakiiaaGreatDoorLazTwo
import Derived.Test.YthibllkleakiiaaGreatDoorModLaz
namespace Go.Proofs.YthibllkleakiiaaGreatDoor
open Go.RowKit
theorem Dd.nil (w:World)(B:Nat):Dd w B none 0 none 0 none 0 [] ⟨[],[],[]⟩ :=
 ⟨by simpa[Ah] using AA.nil w B 3 1,⟨by simp[AM],by simpa[Bb,AM] using AA.nil w B 36 1,by simp[AM],by simp,by simp⟩,by simpa[Ah] using AA.nil w B 3 1,by simp[AD],by simp[AD]⟩
theorem Em.l {w:World}{A:Option Addr}{ll:List (List Int)}(h:Em w A ll):KO w A ll :=
 ⟨h.1,fun i l hi=>let ⟨b,o,Al,cl,h1,h2,h3,h4,_⟩:=h.2 i l hi;⟨b,o,Al,cl,h1,h2,h3,h4⟩⟩
theorem Dd.turn {w w':World}{B gv gq c1 c2 c3:Nat}{A2:Option Addr}{hs:List (Option Addr × Nat)}{v q v' q':List Int}{r:List (List Int)}(h:Dd w B (some ⟨gv,0,none⟩) c1 A2 c2 (some ⟨gq,0,none⟩) c3 hs ⟨v,r,q⟩)(hv:AA w' B 3 1 (some ⟨gv,0,none⟩) v.length c1 (Ah v'))(hq:AA w' B 3 1 (some ⟨gq,0,none⟩) q.length c3 (Ah q'))(m:AH (fun b=>b=gv\/b=gq) w w')(lv:v'.length=v.length)(lq:q'.length=q.length) :
  Dd w' B (some ⟨gv,0,none⟩) c1 A2 c2 (some ⟨gq,0,none⟩) c3 hs ⟨v',r,q'⟩ :=
 ⟨by show AA _ _ _ _ _ v'.length _ _;rw[lv];exact hv,Bn.mod h.r m (fun b hb e=>by
  rcases e with rfl | rfl
  ·exact(h.d b rfl).1 hb
  ·exact h.e b rfl hb),by show AA _ _ _ _ _ q'.length _ _;rw[lq];exact hq,h.d,h.e⟩
theorem EH {g:Sg.Ae}{st:Sg.Bv}(h:Sg.AO g st=true):∀ l ∈ st.reads,l.length<=10:=by
 intro l hl;obtain⟨hs,hC⟩:=Sg.BH.1 h;obtain⟨i,hi⟩:=List.getElem?_of_mem hl;have hil:=(List.getElem?_eq_some_iff.1 hi).1;have hn:g[i]? = some g[i]:=List.getElem?_eq_getElem (by omega);have hd:st.reads.getD i []=l:=by simp[hi]
 have hA:=Sg.CW h i;rw[hd] at hA;have h10:=Sg.CM hs.1;have hk:=hC i _ hn;by_cases h0:g[i].kind=0
 ·rw[<- hd,(hk.cell h0).2];simp
 ·have hm:=(hk.may hs.1 hn h0).2;rw[hd] at hm;exact Nat.le_trans (Gn 10 l hm (fun x hx=>by have:=hA x hx;omega)) (by omega)
end Go.Proofs.YthibllkleakiiaaGreatDoor
namespace Sg
end Sg
namespace Go.Proofs.YthibllkleakiiaaGreatDoor
open Go.RowKit
open Go.RowKit
theorem AH.grown {F:Nat->Prop}{w w':World}{row:Option Nat}(hg:w.grownBy w' row)(h:∀ b,row=some b->F b):AH F w w' :=
 ⟨hg.os,hg.tape,hg.output,hg.size,fun b hb hn=>hg.block b hb fun e=>hn (h b e.symm)⟩
theorem Bx.set3z {w:World}{b:Nat}{x0 x1 x2:Value}(h:Bx w b [x0,x1,x2])(u0 u1 u2:Value):Bx (((w.setCell ⟨b,0,none⟩ u0).setCell ⟨b,1,none⟩ u1).setCell ⟨b,2,none⟩ u2) b [u0,u1,u2]:=((h.set 0 u0).set 1 u1).set 2 u2
theorem AH.set3z (w:World)(b:Nat)(u0 u1 u2:Value):AH (fun x=>x=b) w (((w.setCell ⟨b,0,none⟩ u0).setCell ⟨b,1,none⟩ u1).setCell ⟨b,2,none⟩ u2):=AH.set (F:=fun x=>x=b) (AH.set (F:=fun x=>x=b) (AH.set (F:=fun x=>x=b) (AH.rfl' _ w) (.inl rfl) u0) (.inl rfl) u1) (.inl rfl) u2
section
variable {wr w1 w9:World} {B c1 c2 c3 c9:Nat} {A1 A2 A3 A9:Option Addr} {hs:List (Option Addr × Nat)} {v q:List Int} {r:List (List Int)}
theorem Dd.appR (h:Dd wr B A1 c1 A2 c2 A3 c3 hs ⟨v,r,q⟩)(e:Aa wr w1)(hB:B<=wr.heap.size){l0:List Int}{A0:Option Addr}{c0:Nat}(own:AA w1 wr.heap.size 3 1 A0 l0.length c0 (Ah l0))(out:AA w9 B 36 1 A9 (r.length+1) c9 (Bb (AM r) hs++[.slice A0 l0.length c0]))(hg:w1.grownBy w9 (AD A2))(hat:AD A9=AD A2\/∃ g,AD A9=some g/\w1.heap.size<=g) :
  Dd w9 B A1 c1 A9 c9 A3 c3 (hs++[(A0,c0)]) ⟨v,r++[l0],q⟩/\∀ b,M8 A1 A9 A3 (hs++[(A0,c0)]) b->M8 A1 A2 A3 hs b\/wr.heap.size<=b:=by
 have hsz:=e.size
 have key:∀ b,FR A9 (hs++[(A0,c0)]) b->FR A2 hs b\/wr.heap.size<=b:=by
  rintro b (hb | ⟨x,hx,hb⟩)
  ·rcases hat with ha | ⟨g,ha,hle⟩
   ·exact .inl (.inl (by rw[<- ha];exact hb))
   ·rw[ha] at hb;injection hb with hb;exact .inr (by omega)
  ·rcases List.mem_append.1 hx with hx | hx
   ·exact .inl (.inr ⟨x,hx,hb⟩)
   ·rw[List.mem_singleton.1 hx] at hb;exact .inr (own.lt hb).1
 have hits:AM (r++[l0])=AM r++[⟨[],l0.length,Ah l0⟩]:=by simp[AM]
 have hlen:(AM r).length=r.length:=by simp[AM]
 refine⟨⟨(h.v.ext e).keep fun b hb=>hg.block b ((h.v.ext e).lt hb).2 (fun k=>(h.d b hb).1 (.inl k.symm)),?_,(h.q.ext e).keep fun b hb=>hg.block b ((h.q.ext e).lt hb).2 (fun k=>h.e b hb (.inl k.symm)),fun b hb=>⟨fun k=>?_,(h.d b hb).2⟩,fun b hb k=>?_⟩,?_⟩
 ·show Cy w9 B A9 c9 (r++[l0]) (hs++[(A0,c0)]);unfold Cy;rw[hits];exact Bn.snoc h.r e hB (it:=⟨[],l0.length,Ah l0⟩) own (by rw[hlen];exact out) hg hat
 ·rcases key b k with k | k
  ·exact(h.d b hb).1 k
  ·have:=(h.v.lt hb).2;omega
 ·rcases key b k with k | k
  ·exact h.e b hb k
  ·have:=(h.q.lt hb).2;omega
 ·rintro b (hb | hb | hb)
  ·exact .inl (.inl hb)
  ·rcases key b hb with hb | hb
   ·exact .inl (.inr (.inl hb))
   ·exact .inr hb
  ·exact .inl (.inr (.inr hb))
theorem Dd.appQ (h:Dd wr B A1 c1 A2 c2 A3 c3 hs ⟨v,r,q⟩)(e:Aa wr w1){x:Int}(out:AA w9 B 3 1 A9 (q.length+1) c9 (Ah (q++[x])))(hg:w1.grownBy w9 (AD A3))(hat:AD A9=AD A3\/∃ g,AD A9=some g/\w1.heap.size<=g) :
  Dd w9 B A1 c1 A2 c2 A9 c9 hs ⟨v,r,q++[x]⟩/\∀ b,M8 A1 A2 A9 hs b->M8 A1 A2 A3 hs b\/wr.heap.size<=b:=by
 have hsz:=e.size
 have key:∀ b,AD A9=some b->AD A3=some b\/wr.heap.size<=b:=by
  intro b hb;rcases hat with ha | ⟨g,ha,hle⟩
  ·exact .inl (by rw[<- ha];exact hb)
  ·rw[ha] at hb;injection hb with hb;exact .inr (by omega)
 have hm:AH (fun b=>AD A3=some b) w1 w9:=AH.grown hg fun b hb=>hb;refine⟨⟨(h.v.ext e).keep fun b hb=>hg.block b ((h.v.ext e).lt hb).2 (fun k=>(h.d b hb).2 k.symm),Bn.mod (Bn.ext h.r e) hm (fun b hb k=>h.e b k hb),by simpa using out,fun b hb=>⟨(h.d b hb).1,fun k=>?_⟩,fun b hb k=>?_⟩,?_⟩
 ·rcases key b k with k | k
  ·exact(h.d b hb).2 k
  ·have:=(h.v.lt hb).2;omega
 ·rcases key b hb with hb | hb
  ·exact h.e b hb k
  ·have:=(Bn.lt h.r k).2;omega
 ·rintro b (hb | hb | hb)
  ·exact .inl (.inl hb)
  ·exact .inl (.inr (.inl hb))
  ·rcases key b hb with hb | hb
   ·exact .inl (.inr (.inr hb))
   ·exact .inr hb
end
set_option maxRecDepth 100000 in
set_option maxHeartbeats 4000000 in
theorem Ps (A Ac:Option Addr)(c cc:Nat)(g:Sg.Ae)(l:List Int)(w:World)(h:Eg w A g)(hc:Rd w 1 Ac l.length (Ah l))(hl:l.length<=1048576) :
  Calls Tryz.prog 14 #[.agg #[.slice A g.length c],.slice Ac l.length cc] w fun e w'=>∃ A1 c1 A2 c2 A3 c3 hs,e= .returned (.agg #[.slice A1 l.length c1,.slice A2 g.length c2,.slice A3 g.length c3]) /\
   Dd w' w.heap.size A1 c1 A2 c2 A3 c3 hs (Sg.Co g l)/\Aa w w':=by
 have hgl:=h.1;have e0:Aa w (World.alloc (World.alloc w (.cells #[.slice A g.length c] 35)) (.cells #[.slice none 0 0,.slice none 0 0,.slice none 0 0] 44)):=((Aa.rfl' w).al _).al _;have G0:=lh ((Bx.new w #[.slice A g.length c] 35).al (.cells #[.slice none 0 0,.slice none 0 0,.slice none 0 0] 44));have d0:=Bx.new (World.alloc w (.cells #[.slice A g.length c] 35)) #[.slice none 0 0,.slice none 0 0,.slice none 0 0] 44;simp only[World.size_alloc] at d0;have D0:=lh d0;have E0:=lh e0;have H:=lh h;have HC:=lh (DL Ac l.length cc l _ (hc.ext e0) (by omega));clear h hc e0 d0;go_enter Tryz.func14,Tryz.ntmps14;go_wp2_with fail
 refine HC.out.mono ?_;rintro e w1 ⟨A1,c1,rfl,ho1,he1⟩;have hw1:=he1.size;simp only[World.size_alloc] at hw1 ho1;have G1:=lh ((G0.out.ext he1).al (.cells #[.slice A1 l.length c1,.slice none 0 0,.slice none 0 0] 44));have D1:=lh ((D0.out.ext he1).al (.cells #[.slice A1 l.length c1,.slice none 0 0,.slice none 0 0] 44));have P1:=lh (Bx.new w1 #[.slice A1 l.length c1,.slice none 0 0,.slice none 0 0] 44);have E1:=lh ((E0.out.tr he1).al (.cells #[.slice A1 l.length c1,.slice none 0 0,.slice none 0 0] 44));have hbn:∀ b:Nat,AD none≠some b:=fun b k=>by cases k
 have hdn:∀ b:Nat,¬ FR none [] b:=by
  rintro b (k | ⟨x,hx,_⟩)
  ·cases k
  ·cases hx
 have O1:=lh (show Dd (w1.alloc (.cells #[.slice A1 l.length c1,.slice none 0 0,.slice none 0 0] 44)) (w.heap.size+1+1) A1 c1 none 0 none 0 [] ⟨l,List.replicate 0 [],(g.map fun n=>if n.kind=0 then (0:Int) else 2).take 0⟩ from
  ⟨ho1.al _,(Dd.nil _ _).r,AA.nil _ _ _ _,fun b _=>⟨hdn b,hbn b⟩,fun b k=>absurd k (hbn b)⟩)
 have N1:=lh (show ∀ b,M8 A1 none none [] b->b≠w1.heap.size from by
  rintro b (k | k | k)
  ·have:=(ho1.lt k).2;omega
  ·exact absurd k (hdn b)
  ·exact absurd k (hbn b))
 clear ho1 he1 G0 D0 HC hbn hdn;go_wp2_with fail
 have hwp:w1.heap.size<(w1.alloc (.cells #[.slice A1 l.length c1,.slice none 0 0,.slice none 0 0] 44)).heap.size:=by simp
 generalize w1.alloc (.cells #[.slice A1 l.length c1,.slice none 0 0,.slice none 0 0] 44)=w2 at *;generalize w1.heap.size=P at *
 go_loopw [6] (fun i wr=>∃ (k:Nat) (A2:Option Addr) (c2:Nat) (A3:Option Addr) (c3:Nat) (hs:List (Option Addr × Nat)),k<=g.length/\i= .int .i64 k/\P<wr.heap.size /\
  Hid (Bx wr P [.slice A1 l.length c1,.slice A2 k c2,.slice A3 k c3])/\Hid (Dd wr (w.heap.size+1+1) A1 c1 A2 c2 A3 c3 hs ⟨l,List.replicate k [],(g.map fun n=>if n.kind=0 then (0:Int) else 2).take k⟩)/\Hid (∀ b,M8 A1 A2 A3 hs b->b≠P) /\
  Hid (Bx wr w.heap.size [.slice A g.length c])/\Hid (Bx wr (w.heap.size+1) [.slice none 0 0,.slice none 0 0,.slice none 0 0])/\Hid (Aa w wr)) (fun i _=>g.length - (intOf i).toNat)
 case atStart=>exact⟨0,none,0,none,0,[],Nat.zero_le _,rfl,hwp,P1,O1,N1,G1,D1,E1⟩
 case round =>
  clear P1 O1 N1 G1 D1 E1 hwp;obtain⟨k,A2,c2,A3,c3,hs,hk,rfl,hPw,hP,hO,hN,hG,hD,hE⟩:=hrel;have gq:=hG.out.cell (j:=0) rfl;have bgq:=Au gq;by_cases hlt:k<g.length
  ·obtain⟨⟨nk,nf⟩,b,o,Ap,cp,hn,rfl,hkc,hsc,hf,hfl⟩:=(H.out.ext hE.out).at_ hlt;dsimp only at *;have bkc:=Au hkc;have x1:=hP.out.cell (j:=1) rfl;have x2:=hP.out.cell (j:=2) rfl;have f1:=hP.out.free 1;have f2:=hP.out.free 2
   have HQ:=lh (show (g.map fun n=>if n.kind=0 then (0:Int) else 2).take (k+1)=(g.map fun n=>if n.kind=0 then (0:Int) else 2).take k++[if nk=0 then (0:Int) else 2] by
    have hm:(g.map fun n=>if n.kind=0 then (0:Int) else 2)[k]? = some (if nk=0 then (0:Int) else 2):=by rw[List.getElem?_map,hn];rfl
    obtain⟨h1,h2⟩:=List.getElem?_eq_some_iff.1 hm;rw[List.take_succ_eq_append_getElem h1,h2])
   have HTL:=lh (show ((g.map fun n=>if n.kind=0 then (0:Int) else 2).take k).length=k by simp;omega);have Ea:=lh ((Aa.rfl' wr).al (.cells #[] 3));have oR:=lh (show AA (wr.alloc (.cells #[] 3)) (w.heap.size+1+1) 36 1 A2 k c2 (Bb (AM (List.replicate k [])) hs) from by have:=hO.out.r.out.ext Ea.out;simpa[AM] using this);have oN:=lh (AA.new wr (B:=wr.heap.size) 3 1 #[] 0 (Nat.le_refl _) (by unfold maxLen;omega) rfl);generalize (g.map fun n=>if n.kind=0 then (0:Int) else 2).take k=Q at *;clear hn hf hsc;have step:∀ x:Int,x=(if nk=0 then (0:Int) else 2)->True:=fun _ _=>trivial;by_cases hz:nk=0
   ·have z1:(nk == 0)=true:=by simp[hz]
    have HX:=lh (show (if nk=0 then (0:Int) else 2)=0 by rw[if_pos hz]);clear hz;go_upto_region 9 with (at_builtin;refine AF rfl rfl Bq rfl oR.out (by simp only[World.size_alloc];rfl) rfl (Gm _ _ _) (by omega) (by omega) (by simp;omega) ?_;intro A9 c9 w9 ho9 hg9 hat9;have Ho9:=lh ho9;have Hg9:=lh hg9;have Ha9:=lh hat9;clear ho9 hg9 hat9;have y1:=((hP.out.ext Ea.out).gr Hg9.out (fun e=>hN.out P (.inr (.inl (.inl e))) rfl)).cell (j:=1) rfl;have g1:=((hP.out.ext Ea.out).gr Hg9.out (fun e=>hN.out P (.inr (.inl (.inl e))) rfl)).free 1)
    have hBw:w.heap.size+1+1<=wr.heap.size:=by omega
    obtain⟨hZ,hF⟩:=Dd.appR hO.out Ea.out hBw (l0:=[]) oN.out (by simpa using Ho9.out) Hg9.out Ha9.out;have hS:=lh (AH.set (F:=fun b=>b=P) (AH.rfl' (fun b=>b=P) w9) (p:=⟨P,1,none⟩) (.inl rfl) (.slice A9 (k+1) c9));have hlo:∀ b,AD A2=some b->w.heap.size+1+1<=b:=fun b hb=>(hO.out.lt (.inr (.inl (.inl hb)))).1;have ZZ:=lh (hZ.mod hS.out (fun b hb e=>by rcases hF b hb with h1 | h1;exact hN.out b h1 e;omega));have FF:=lh hF;have PP:=lh (((hP.out.ext Ea.out).gr Hg9.out (fun e=>hN.out P (.inr (.inl (.inl e))) rfl)).set 1 (.slice A9 (k+1) c9));have GG:=lh (((hG.out.ext Ea.out).gr Hg9.out (fun e=>by have:=hlo _ e;omega)).mod hS.out (by omega));have DD:=lh (((hD.out.ext Ea.out).gr Hg9.out (fun e=>by have:=hlo _ e;omega)).mod hS.out (by omega));have EE:=lh (((hE.out.tr Ea.out).gr Hg9.out (fun b e=>by have:=hlo b e;omega)).set (p:=⟨P,1,none⟩) (by dsimp only;omega) (.slice A9 (k+1) c9));have hsz9:wr.heap.size<=w9.heap.size:=by have:=Hg9.out.size;simp at this;omega
    have hsz10:w9.heap.size<=(w9.setCell ⟨P,1,none⟩ (.slice A9 (k+1) c9)).heap.size:=by simp
    clear hZ hF hlo hS hP hO hG hD hE oR oN Ho9 Hg9 Ha9 Ea x1 x2 f1 f2 y1 g1;generalize w9.setCell ⟨P,1,none⟩ (.slice A9 (k+1) c9)=w10 at *;simp only[List.set_cons_succ,List.set_cons_zero] at PP;have x2:=PP.out.cell (j:=2) rfl;have f2:=PP.out.free 2;have oQ:=lh (show AA w10 (w.heap.size+1+1) 3 1 A3 k c3 (Ah Q) from by have:=ZZ.out.q;rw[show (Sg.Bv.mk l (List.replicate k []++[[]]) Q).cols.length=k from HTL.out] at this;exact this);go_wp2_with (at_builtin;refine AF rfl rfl Bc rfl oQ.out rfl rfl (B_ _ _) (by omega) (by omega) (by omega) ?_;intro A8 c8 w11 ho8 hg8 hat8;have Ho8:=lh ho8;have Hg8:=lh hg8;have Ha8:=lh hat8;clear ho8 hg8 hat8;have hP3:AD A3≠some P:=fun e=>hN.out P (.inr (.inr e)) rfl;have y2:=(PP.out.gr Hg8.out hP3).cell (j:=2) rfl;have g2:=(PP.out.gr Hg8.out hP3).free 2)
    go_roundw
    case rel =>
     have hlo:∀ b,AD A3=some b->w.heap.size+1+1<=b:=fun b hb=>(ZZ.out.lt (.inr (.inr hb))).1;obtain⟨hZ,hF⟩:=Dd.appQ ZZ.out (Aa.rfl' w10) (x:=0) (by rw[HTL.out];simpa[Ah] using Ho8.out) Hg8.out Ha8.out;have hS:=AH.set (F:=fun b=>b=P) (AH.rfl' (fun b=>b=P) w11) (p:=⟨P,2,none⟩) (.inl rfl) (.slice A8 (k+1) c8)
     have hN2:∀ b,M8 A1 A9 A8 (hs++[(some ⟨wr.heap.size,0,none⟩,0)]) b->b≠P:=fun b hb e=>by
      rcases hF b hb with h1 | h1
      ·rcases FF.out b h1 with h2 | h2
       ·exact hN.out b h2 e
       ·omega
      ·omega
     have hsz11:w10.heap.size<=w11.heap.size:=Hg8.out.size;refine⟨k+1,A9,c9,A8,c8,_,by omega,by go_num,by simp;omega,lh ((PP.out.gr Hg8.out hP3).set 2 _),lh ?_,lh hN2,lh ((GG.out.gr Hg8.out (fun e=>by have:=hlo _ e;omega)).mod hS (by omega)),lh ((DD.out.gr Hg8.out (fun e=>by have:=hlo _ e;omega)).mod hS (by omega)),lh ((EE.out.gr Hg8.out (fun b e=>by have:=hlo b e;omega)).set (p:=⟨P,2,none⟩) (by dsimp only;omega) _)⟩;rw[HQ.out,HX.out,List.replicate_succ'];exact hZ.mod hS (fun b hb e=>hN2 b hb e)
    case measure=>simp[intOf];omega
   ·have z1:(nk == 0)=false:=by simp[hz]
    have HX:=lh (show (if nk=0 then (0:Int) else 2)=2 by rw[if_neg hz]);clear hz;go_upto_region 9 with (at_builtin;refine AF rfl rfl Bq rfl oR.out (by simp only[World.size_alloc];rfl) rfl (Gm _ _ _) (by omega) (by omega) (by simp;omega) ?_;intro A9 c9 w9 ho9 hg9 hat9;have Ho9:=lh ho9;have Hg9:=lh hg9;have Ha9:=lh hat9;clear ho9 hg9 hat9;have y1:=((hP.out.ext Ea.out).gr Hg9.out (fun e=>hN.out P (.inr (.inl (.inl e))) rfl)).cell (j:=1) rfl;have g1:=((hP.out.ext Ea.out).gr Hg9.out (fun e=>hN.out P (.inr (.inl (.inl e))) rfl)).free 1)
    have hBw:w.heap.size+1+1<=wr.heap.size:=by omega
    obtain⟨hZ,hF⟩:=Dd.appR hO.out Ea.out hBw (l0:=[]) oN.out (by simpa using Ho9.out) Hg9.out Ha9.out;have hS:=lh (AH.set (F:=fun b=>b=P) (AH.rfl' (fun b=>b=P) w9) (p:=⟨P,1,none⟩) (.inl rfl) (.slice A9 (k+1) c9));have hlo:∀ b,AD A2=some b->w.heap.size+1+1<=b:=fun b hb=>(hO.out.lt (.inr (.inl (.inl hb)))).1;have ZZ:=lh (hZ.mod hS.out (fun b hb e=>by rcases hF b hb with h1 | h1;exact hN.out b h1 e;omega));have FF:=lh hF;have PP:=lh (((hP.out.ext Ea.out).gr Hg9.out (fun e=>hN.out P (.inr (.inl (.inl e))) rfl)).set 1 (.slice A9 (k+1) c9));have GG:=lh (((hG.out.ext Ea.out).gr Hg9.out (fun e=>by have:=hlo _ e;omega)).mod hS.out (by omega));have DD:=lh (((hD.out.ext Ea.out).gr Hg9.out (fun e=>by have:=hlo _ e;omega)).mod hS.out (by omega));have EE:=lh (((hE.out.tr Ea.out).gr Hg9.out (fun b e=>by have:=hlo b e;omega)).set (p:=⟨P,1,none⟩) (by dsimp only;omega) (.slice A9 (k+1) c9));have hsz9:wr.heap.size<=w9.heap.size:=by have:=Hg9.out.size;simp at this;omega
    have hsz10:w9.heap.size<=(w9.setCell ⟨P,1,none⟩ (.slice A9 (k+1) c9)).heap.size:=by simp
    clear hZ hF hlo hS hP hO hG hD hE oR oN Ho9 Hg9 Ha9 Ea x1 x2 f1 f2 y1 g1;generalize w9.setCell ⟨P,1,none⟩ (.slice A9 (k+1) c9)=w10 at *;simp only[List.set_cons_succ,List.set_cons_zero] at PP;have x2:=PP.out.cell (j:=2) rfl;have f2:=PP.out.free 2;have oQ:=lh (show AA w10 (w.heap.size+1+1) 3 1 A3 k c3 (Ah Q) from by have:=ZZ.out.q;rw[show (Sg.Bv.mk l (List.replicate k []++[[]]) Q).cols.length=k from HTL.out] at this;exact this);go_wp2_with (at_builtin;refine AF rfl rfl Bc rfl oQ.out rfl rfl (B_ _ _) (by omega) (by omega) (by omega) ?_;intro A8 c8 w11 ho8 hg8 hat8;have Ho8:=lh ho8;have Hg8:=lh hg8;have Ha8:=lh hat8;clear ho8 hg8 hat8;have hP3:AD A3≠some P:=fun e=>hN.out P (.inr (.inr e)) rfl;have y2:=(PP.out.gr Hg8.out hP3).cell (j:=2) rfl;have g2:=(PP.out.gr Hg8.out hP3).free 2)
    go_roundw
    case rel =>
     have hlo:∀ b,AD A3=some b->w.heap.size+1+1<=b:=fun b hb=>(ZZ.out.lt (.inr (.inr hb))).1;obtain⟨hZ,hF⟩:=Dd.appQ ZZ.out (Aa.rfl' w10) (x:=2) (by rw[HTL.out];simpa[Ah] using Ho8.out) Hg8.out Ha8.out;have hS:=AH.set (F:=fun b=>b=P) (AH.rfl' (fun b=>b=P) w11) (p:=⟨P,2,none⟩) (.inl rfl) (.slice A8 (k+1) c8)
     have hN2:∀ b,M8 A1 A9 A8 (hs++[(some ⟨wr.heap.size,0,none⟩,0)]) b->b≠P:=fun b hb e=>by
      rcases hF b hb with h1 | h1
      ·rcases FF.out b h1 with h2 | h2
       ·exact hN.out b h2 e
       ·omega
      ·omega
     have hsz11:w10.heap.size<=w11.heap.size:=Hg8.out.size;refine⟨k+1,A9,c9,A8,c8,_,by omega,by go_num,by simp;omega,lh ((PP.out.gr Hg8.out hP3).set 2 _),lh ?_,lh hN2,lh ((GG.out.gr Hg8.out (fun e=>by have:=hlo _ e;omega)).mod hS (by omega)),lh ((DD.out.gr Hg8.out (fun e=>by have:=hlo _ e;omega)).mod hS (by omega)),lh ((EE.out.gr Hg8.out (fun b e=>by have:=hlo b e;omega)).set (p:=⟨P,2,none⟩) (by dsimp only;omega) _)⟩;rw[HQ.out,HX.out,List.replicate_succ'];exact hZ.mod hS (fun b hb e=>hN2 b hb e)
    case measure=>simp[intOf];omega
  ·obtain rfl:k=g.length:=by omega
   have hfin:=hO.out;rw[show (g.map fun n=>if n.kind=0 then (0:Int) else 2).take g.length=g.map fun n=>if n.kind=0 then (0:Int) else 2 by rw[List.take_of_length_le (by simp)]] at hfin;have HZ:=lh hfin;clear hfin hO;have p0:=hP.out.cell (j:=0) rfl;have p1:=hP.out.cell (j:=1) rfl;have p2:=hP.out.cell (j:=2) rfl;have d0:=hD.out.cell (j:=0) rfl;have d1:=hD.out.cell (j:=1) rfl;have d2:=hD.out.cell (j:=2) rfl;have f0:=hD.out.free 0;have f1:=hD.out.free 1;have f2:=hD.out.free 2;have bl:=hD.out.lt;go_wp2;have bx:=Bx.set3z hD.out (.slice A1 l.length c1) (.slice A2 g.length c2) (.slice A3 g.length c3);have s0:=bx.cell (j:=0) rfl;have s1:=bx.cell (j:=1) rfl;have s2:=bx.cell (j:=2) rfl;have hm:=AH.set3z wr (w.heap.size+1) (.slice A1 l.length c1) (.slice A2 g.length c2) (.slice A3 g.length c3);refine bodyPost_ret (v := .agg #[.slice A1 l.length c1,.slice A2 g.length c2,.slice A3 g.length c3]) (by simp[results,Tryz.results14,go_sem,s0,s1,s2];try rfl) rfl ?_;refine⟨A1,c1,A2,c2,A3,c3,hs,rfl,(HZ.out.mod hm (fun b hb e=>by have:=(HZ.out.lt hb).1;omega)).mono (by omega),?_⟩;exact(((hE.out.set (p:=⟨w.heap.size+1,0,none⟩) (by dsimp only;omega) _).set (p:=⟨w.heap.size+1,1,none⟩) (by dsimp only;omega) _).set (p:=⟨w.heap.size+1,2,none⟩) (by dsimp only;omega) _)
end Go.Proofs.YthibllkleakiiaaGreatDoor
