/- Parts of one proof, joined. The reference's someActs, sessionOf: contracts. Conditions: bounds on the number of draws. equalShows at equal contents; parts of acts and shows. Conditions: none. -/
import Derived.Test.YtgojnefiephafaaGreatDrawTwo
import Derived.Test.YtgojnefiephafaaGreatSesST
namespace Go.Proofs.YtgojnefiephafaaGreat
open Go.RowKit
structure AQ (w:World) (R t:Nat) (A:Option Addr) (c:Nat) (g:Sg.Graph) (l:List Sg.Act) (A1:Option Addr) (c1:Nat) (ef:List Int) (A2:Option Addr) (c2:Nat) (W:World):Prop where
 s:Sep [Th.own w.heap.size 58 3 A1 l.length c1 (acts l),Th.own w.heap.size 3 1 A2 ef.length c2 (ints ef),Th.box w.heap.size w.heap.size [.slice A g.length c]] W
 r:Rdr W R t
 m:Mod (fun b=>b=R) w W
 hR:R<w.heap.size
section
variable {w W W':World} {R t t' c c1 c2:Nat} {A A1 A2:Option Addr} {g:Sg.Graph} {l:List Sg.Act} {ef:List Int}
theorem AQ.ext (h:AQ w R t A c g l A1 c1 ef A2 c2 W) (e:Ext W W'):AQ w R t A c g l A1 c1 ef A2 c2 W':=⟨Sep.ext h.s e,h.r.ext e,h.m.tr' (Mod.of e),h.hR⟩
theorem AQ.draw (h:AQ w R t A c g l A1 c1 ef A2 c2 W) (m:Mod (fun b=>b=R) W W') (r:Rdr W' R t'):AQ w R t' A c g l A1 c1 ef A2 c2 W':=⟨Sep.mod h.s m (fun b e=>by have:=h.hR;omega),r,h.m.tr' m,h.hR⟩
theorem AQ.more (h:AQ w R t A c g l A1 c1 ef A2 c2 W) (ht:t≤t'):AQ w R t' A c g l A1 c1 ef A2 c2 W:=⟨h.s,h.r.more ht,h.m,h.hR⟩
theorem AQ.gc (h:AQ w R t A c g l A1 c1 ef A2 c2 W):W.cell? ⟨w.heap.size,0,none⟩=some (.slice A g.length c):=((Sep.get h.s 2 rfl:Bx _ _ _∧_).1).cell (j:=0) rfl
theorem AQ.o (h:AQ w R t A c g l A1 c1 ef A2 c2 W):Own W w.heap.size 58 3 A1 l.length c1 (acts l):=Sep.get h.s 0 rfl
theorem AQ.e (h:AQ w R t A c g l A1 c1 ef A2 c2 W):Own W w.heap.size 3 1 A2 ef.length c2 (ints ef):=Sep.get h.s 1 rfl
theorem AQ.sz (h:AQ w R t A c g l A1 c1 ef A2 c2 W):w.heap.size<W.heap.size:=blt h.gc
theorem AQ.app (h:AQ w R t A c g l A1 c1 ef A2 c2 W) (a:Sg.Act) {A3:Option Addr} {c3:Nat} (ho:Own W' w.heap.size 58 3 A3 (l.length + 1) c3 (acts l++acs a)) (hg:W.grownBy W' (blk A1)) (hat:blk A3=blk A1∨∃ g,blk A3=some g∧W.heap.size≤g) :
  AQ w R t A c g (l++[a]) A3 c3 ef A2 c2 W':=by
 have hlt:∀ b,blk A1=some b→w.heap.size≤b:=fun b hb=>(h.o.lt hb).1;have hm:Mod (fun b=>blk A1=some b) W W':=⟨hg.os,hg.tape,hg.output,hg.size,fun b hb hn=>hg.block b hb (fun e=>hn e.symm)⟩;refine ⟨?_,h.r.mod hm (fun b e=>by have:=hlt b e;have:=h.hR;omega),?_,h.hR⟩
 ·have:=Sep.app h.s 0 rfl ho hg hat;rw [List.length_append,← acts_snoc];exact this
 ·exact h.m.tr hm (fun b e=>.inr (hlt b e))
theorem AQ.off (h:AQ w R t A c g l A1 c1 ef A2 c2 W):R<W.heap.size:=Nat.lt_trans h.hR h.sz
end
def Acted (R m:Nat) (w:World) (e:Ending) (w':World):Prop:=∃ (l:List Sg.Act) (A1:Option Addr) (c1:Nat),e = .returned (.slice A1 l.length c1)∧Own w' w.heap.size 58 3 A1 l.length c1 (acts l)∧l.length≤12∧Rdr w' R (m + 60)∧Mod (fun b=>b=R) w w'
theorem lit_rd (W:World) (cs:Array Value) (l:List Int) (n:Nat) (hn:l.length=n) (h:cs.toList=ints l) (hb:n≤1000):Rd (W.alloc (.cells cs 3)) 1 (some ⟨W.heap.size,0,none⟩) n (ints l):=by
 rw [← h];exact (Own.new W (B:=0) 3 1 cs n (Nat.zero_le _) (by unfold maxLen;omega) (by have:=congrArg List.length h;simp at this;omega)).rd
theorem own_put {w W:World} {A1:Option Addr} {c1:Nat} {l:List Sg.Act} (h:Own W w.heap.size 58 3 A1 l.length c1 (acts l)) (hl:0<l.length) (a:Sg.Act):∃ b,A1=some ⟨b,0,none⟩∧w.heap.size≤b ∧
  (∀ j,j<3→∃ u,W.cell? ⟨b,j,none⟩=some u)∧(∀ j,W.frozen? ⟨b,j,none⟩=false)∧Own (((W.setCell ⟨b,0,none⟩ (.int .i64 a.kind)).setCell ⟨b,1,none⟩ (.int .i64 a.node)).setCell ⟨b,2,none⟩ (.int .i64 a.val)) w.heap.size 58 3 A1 l.length c1 (acts (l.set 0 a)):=by
 obtain ⟨b,rfl,hb⟩:=h.at_ (by omega);refine ⟨b,rfl,hb,fun j hj=>?_,fun j=>h.free j,?_⟩
 ·obtain ⟨u,hu⟩:∃ u,(acts l)[j]? = some u:=⟨_,List.getElem?_eq_getElem (by rw [h.1];omega)⟩;exact ⟨u,h.cell hu⟩
 ·have:=((h.st 0 (.int .i64 a.kind)).st 1 (.int .i64 a.node)).st 2 (.int .i64 a.val);refine cast ?_ this;congr 1
  cases l with
  | nil=>simp at hl
  | cons x l=>simp [acts,acs]
set_option maxRecDepth 100000 in
set_option maxHeartbeats 16000000 in
theorem s_someActs (R m:Nat) (A:Option Addr) (c:Nat) (g:Sg.Graph) (w:World) (h:Rdr w R m) (hg:∀ W,Mod (fun b=>b=R) w W→RdN W A g) (hg10:g.length≤10) (hm:m≤800000) :
  Calls Tryz.prog 88 #[.pointer (some ⟨R,0,none⟩),.agg #[.slice A g.length c]] w (Acted R m w):=by
 have hRl:=h.lt;have HG:=lh hg;have e0:=((Ext.rfl' w).al (.cells #[.slice A g.length c] 33)).al (.cells #[] 58);have b0:=(Bx.new w #[.slice A g.length c] 33).al (.cells #[] 58);have o0:=Own.new (World.alloc w (.cells #[.slice A g.length c] 33)) (B:=w.heap.size) 58 3 #[] 0 (by simp) (by unfold maxLen;omega) rfl;simp only [World.size_alloc] at o0
 have S0:=lh (show Sep [Th.own w.heap.size 58 3 (some ⟨w.heap.size + 1,0,none⟩) ([]:List Sg.Act).length 0 (acts []),Th.box w.heap.size w.heap.size [.slice A g.length c]] _ from
  ⟨o0,fun s hs b hb=>by
   simp only [List.mem_cons,List.not_mem_nil,or_false] at hs;have h1:w.heap.size + 1=b:=by have:=hb;simpa [Th.own,blk] using this
   subst hs;intro (e:b=w.heap.size);omega,⟨b0,Nat.le_refl _⟩,by simp,trivial⟩)
 have E0:=lh e0;have R0:=lh (h.ext e0);have q0:=b0.cell (j:=0) rfl;have bq0:=blt q0;clear h hg e0 b0 o0;go_enter Tryz.func88,Tryz.ntmps88;go_wp2_with fail
 refine (s_effects A c g _ (HG.out _ (Mod.of E0.out))).mono ?_;rintro e w1 ⟨A2,c2,rfl,hO,he1⟩
 have Q1:=lh (show AQ w R m A c g [] (some ⟨w.heap.size + 1,0,none⟩) 0 (Sg.effs g (List.replicate g.length false)) A2 c2 w1 from
  ⟨⟨(Sep.get S0.out 0 rfl:Own _ _ _ _ _ _ _ _).ext he1,fun s hs b hb=>by
   have h1:w.heap.size + 1=b:=by have:=hb;simpa [Th.own,blk] using this
   simp only [List.mem_cons,List.not_mem_nil,or_false] at hs;rcases hs with rfl | rfl
   ·intro h2;have:=(hO.lt h2).1;simp only [World.size_alloc] at this;omega
   ·intro (e:b=w.heap.size);omega,hO.mono (by simp only [World.size_alloc];omega),fun s hs b hb=>by
   simp only [List.mem_cons,List.not_mem_nil,or_false] at hs;subst hs;have:=(hO.lt hb).1;simp only [World.size_alloc] at this;intro (e:b=w.heap.size);omega,Sep.ext S0.out.2.2 he1⟩,R0.out.ext he1,Mod.of (E0.out.tr he1),hRl⟩)
 have hel:=Sg.effs_len g (List.replicate g.length false);generalize Sg.effs g (List.replicate g.length false)=ef at *;clear S0 E0 R0 q0 bq0 hO he1;have hz1:=Q1.out.sz;have hof1:=Q1.out.off;have L1:=lh (lit_rd w1 #[.int .i64 6,.int .i64 8,.int .i64 4,.int .i64 12,.int .i64 2,.int .i64 0] [6,8,4,12,2,0] 6 rfl rfl (by omega));have Q1x:=lh (Q1.out.ext ((Ext.rfl' w1).al (.cells #[.int .i64 6,.int .i64 8,.int .i64 4,.int .i64 12,.int .i64 2,.int .i64 0] 3)));go_wp2_with fail
 refine (s_one R m _ 6 [6,8,4,12,2,0] _ Q1x.out.r L1.out (by simp) (by simp) (by intro y hy;simp [blk] at hy;omega) (by omega)).mono ?_;rintro e w3 ⟨x,rfl,hx,hr3,hm3⟩
 obtain ⟨n0,rfl,hn3⟩:∃ n0:Nat,x=n0∧n0≤12:=by
  simp only [List.mem_cons,List.not_mem_nil,or_false] at hx;exact ⟨x.toNat,by omega,by omega⟩
 have Q3:=lh (Q1x.out.draw hm3 hr3);clear Q1 Q1x L1 hx hr3 hm3 hz1 hof1;go_wp2_with fail
 go_loopw [5,7] (fun s5 s7 wr=>∃ (n:Nat) (l:List Sg.Act) (A1:Option Addr) (c1 t:Nat),n≤12∧s7 = .int .i64 n∧s5 = .slice A1 l.length c1∧l.length + n≤12∧t + 4 * n≤m + 49∧Hid (AQ w R t A c g l A1 c1 ef A2 c2 wr)) (fun _ i _=>(intOf i).toNat)
 case atStart=>exact ⟨n0,[],_,_,m + 1,hn3,rfl,rfl,by simpa using hn3,by omega,Q3⟩
 case round =>
  clear Q3;obtain ⟨n,l,A1,c1,t,hn,rfl,rfl,hln,ht,Q4⟩:=hrel;have hz4:=Q4.out.sz;by_cases hn0:0<n
  ·have hgp:decide ((0:Int)<(n:Int))=true:=decide_eq_true (by omega);have iw:IntKind.i64.wrap ((n:Int) - 1)=((n - 1:Nat):Int):=by rw [show ((n:Int) - 1)=((n - 1:Nat):Int) by omega];exact IntWalk.i64_in _ (by omega)
   go_wp2_with fail
   refine (s_pick R t 8 _ Q4.out.r (by omega) (by omega) (by omega)).mono ?_;rintro e w5 ⟨x,rfl,hx0,hx1,hr5,hm5⟩;have Q5:=lh (Q4.out.draw hm5 hr5);have hz5:=Q5.out.sz;have hx8:x<8:=by omega
   clear hr5 hm5 hx1 Q4;by_cases h0:x=0
   ·subst h0;go_wp2_with (at_builtin;refine wpList_app1 (cs:=[.int .i64 2,.int .i64 0,.int .i64 0]) rfl rfl eiAct rfl Q5.out.o rfl rfl (one_acs ⟨2,0,0⟩) (by omega) (by omega) (by omega) ?_;intro A9 c9 w9 ho9 hg9 hat9;have Q9:=lh (Q5.out.app ⟨2,0,0⟩ ho9 hg9 hat9);clear ho9 hg9 hat9)
    go_roundw
    case rel=>exact ⟨n - 1,l++[⟨2,0,0⟩],A9,c9,t + 1,by omega,by go_num,by simp,by simp;omega,by omega,Q9⟩
    case measure=>simp [intOf];omega
   have y0:(x == 0)=false:=by simp [h0]
   by_cases h1:x=1
   ·subst h1;go_wp2_with (at_builtin;refine wpList_app1 (cs:=[.int .i64 3,.int .i64 0,.int .i64 0]) rfl rfl eiAct rfl Q5.out.o rfl rfl (one_acs ⟨3,0,0⟩) (by omega) (by omega) (by omega) ?_;intro A9 c9 w9 ho9 hg9 hat9;have Q9:=lh (Q5.out.app ⟨3,0,0⟩ ho9 hg9 hat9);clear ho9 hg9 hat9)
    go_roundw
    case rel=>exact ⟨n - 1,l++[⟨3,0,0⟩],A9,c9,t + 1,by omega,by go_num,by simp,by simp;omega,by omega,Q9⟩
    case measure=>simp [intOf];omega
   have y1:(x == 1)=false:=by simp [h1]
   by_cases h2:x=2
   ·subst h2;go_wp2_with (at_builtin;refine wpList_app1 (cs:=[.int .i64 3,.int .i64 0,.int .i64 0]) rfl rfl eiAct rfl Q5.out.o rfl rfl (one_acs ⟨3,0,0⟩) (by omega) (by omega) (by omega) ?_;intro A9 c9 w9 ho9 hg9 hat9;have Q9:=lh (Q5.out.app ⟨3,0,0⟩ ho9 hg9 hat9);clear ho9 hg9 hat9)
    go_roundw
    case rel=>exact ⟨n - 1,l++[⟨3,0,0⟩],A9,c9,t + 1,by omega,by go_num,by simp,by simp;omega,by omega,Q9⟩
    case measure=>simp [intOf];omega
   have y2:(x == 2)=false:=by simp [h2]
   by_cases h3:x=3
   ·subst h3;by_cases he:ef.length=0
    ·have z0:¬ (0:Int)<(ef.length:Int):=by omega
     clear he;go_wp2;go_roundw
     case rel=>exact ⟨n - 1,l,A1,c1,t + 1,by omega,by go_num,rfl,by omega,by omega,Q5⟩
     case measure=>simp [intOf];omega
    have z0:(0:Int)<(ef.length:Int):=by omega
    have HNE:=lh he;clear he;go_wp2_with fail
    refine (s_pick R (t + 1) 3 _ Q5.out.r (by omega) (by omega) (by omega)).mono ?_;rintro e w6 ⟨y,rfl,hy0,hy1,hr6,hm6⟩;have Q6:=lh (Q5.out.draw hm6 hr6);have hz6:=Q6.out.sz;clear hr6 hm6 Q5 hy1;by_cases hy:y=0
    ·subst hy;go_wp2_with fail
     refine (s_pick R (t + 1 + 1) (ef.length:Int) _ Q6.out.r (by omega) (by omega) (by omega)).mono ?_;rintro e w7 ⟨z,rfl,hz0,hz1,hr7,hm7⟩;have Q7:=lh (Q6.out.draw hm7 hr7);have hz7:=Q7.out.sz;obtain ⟨q,rfl⟩:=Int.eq_ofNat_of_zero_le hz0;have hq:q<ef.length:=by have:=HNE.out;omega
     have hqx:(q:Int)<(ef.length:Int):=by omega
     obtain ⟨be,oe,v,hAe,hv,hcv⟩:=Q7.out.e.rd.at1 hq;subst hAe;have bcv:=blt hcv;clear hr7 hm7 Q6 hz1 hv;go_wp2_with (at_builtin;refine wpList_app1 (cs:=[.int .i64 1,.int .i64 v,.int .i64 0]) rfl rfl eiAct rfl Q7.out.o rfl rfl (one_acs ⟨1,v,0⟩) (by omega) (by omega) (by omega) ?_;intro A9 c9 w9 ho9 hg9 hat9;have Q9:=lh (Q7.out.app ⟨1,v,0⟩ ho9 hg9 hat9);clear ho9 hg9 hat9)
     go_roundw
     case rel=>exact ⟨n - 1,l++[⟨1,v,0⟩],A9,c9,t + 1 + 1 + 1,by omega,by go_num,by simp,by simp;omega,by omega,Q9⟩
     case measure=>simp [intOf];omega
    ·have z1:(y == 0)=false:=by simp [hy]
     go_wp2;go_roundw
     case rel=>exact ⟨n - 1,l,A1,c1,t + 1 + 1,by omega,by go_num,rfl,by omega,by omega,Q6⟩
     case measure=>simp [intOf];omega
   have y3:(x == 3)=false:=by simp [h3]
   have cg:=Q5.out.gc;have bcg:=blt cg;go_wp2_with fail
   refine (s_pick R (t + 1) (g.length:Int) _ Q5.out.r (by omega) (by omega) (by omega)).mono ?_;rintro e w6 ⟨k,rfl,hk0,hk1,hr6,hm6⟩;have Q6:=lh (Q5.out.draw hm6 hr6);have hz6:=Q6.out.sz;have cg6:=Q6.out.gc;have bcg6:=blt cg6;clear hr6 hm6 Q5 hk1 cg bcg;cases hc:Sg.isCell g k
   ·have HC:=lh hc;clear hc;go_wp2_with fail
    refine (s_isCell A c g k _ (HG.out _ Q6.out.m)).mono ?_;rw [HC.out];rintro e w7 ⟨rfl,he7⟩;have Q7:=lh (Q6.out.ext he7);have hz7:=Q7.out.sz;have cg7:=Q7.out.gc;have bcg7:=blt cg7;clear he7 Q6 cg6 bcg6;cases hc:Sg.isCell g 0
    ·have HC2:=lh hc;clear hc;go_wp2_with fail
     refine (s_isCell A c g 0 _ (HG.out _ Q7.out.m)).mono ?_;rw [HC2.out];rintro e w8 ⟨rfl,he8⟩;have Q8:=lh (Q7.out.ext he8);clear he8 Q7 cg7 bcg7;go_wp2;go_roundw
     case rel=>exact ⟨n - 1,l,A1,c1,t + 1 + 1,by omega,by go_num,rfl,by omega,by omega,Q8⟩
     case measure=>simp [intOf];omega
    ·have HC2:=lh hc;clear hc;go_wp2_with fail
     refine (s_isCell A c g 0 _ (HG.out _ Q7.out.m)).mono ?_;rw [HC2.out];rintro e w8 ⟨rfl,he8⟩;have Q8:=lh (Q7.out.ext he8);have hz8:=Q8.out.sz;clear he8 Q7 cg7 bcg7;go_wp2_with fail
     refine (s_pick R (t + 1 + 1) 1000 _ Q8.out.r (by omega) (by omega) (by omega)).mono ?_;rintro e wa ⟨vv,rfl,hv0,hv1,hra,hma⟩;have Qa:=lh (Q8.out.draw hma hra);have hza:=Qa.out.sz;have hofa:=Qa.out.off;clear hra hma Q8 hv1;have La:=lh (lit_rd wa #[.int .i64 0,.int .i64 1,.int .i64 vv,.int .i64 3] [0,1,vv,3] 4 rfl rfl (by omega));have Qax:=lh (Qa.out.ext ((Ext.rfl' wa).al (.cells #[.int .i64 0,.int .i64 1,.int .i64 vv,.int .i64 3] 3)));go_wp2_with fail
     refine (s_one R (t + 1 + 1 + 1) _ 4 [0,1,vv,3] _ Qax.out.r La.out (by simp) (by simp) (by intro y hy;simp [blk] at hy;omega) (by omega)).mono ?_;rintro e wb ⟨va,rfl,hx,hrb,hmb⟩;have Qb:=lh (Qax.out.draw hmb hrb);have hzb:=Qb.out.sz;clear hx hrb hmb Qa Qax La;go_wp2_with (at_builtin;refine wpList_app1 (cs:=[.int .i64 0,.int .i64 0,.int .i64 va]) rfl rfl eiAct rfl Qb.out.o rfl rfl (one_acs ⟨0,0,va⟩) (by omega) (by omega) (by omega) ?_;intro A9 c9 w9 ho9 hg9 hat9;have Q9:=lh (Qb.out.app ⟨0,0,va⟩ ho9 hg9 hat9);clear ho9 hg9 hat9)
     go_roundw
     case rel=>exact ⟨n - 1,l++[⟨0,0,va⟩],A9,c9,t + 1 + 1 + 1 + 1,by omega,by go_num,by simp,by simp;omega,by omega,Q9⟩
     case measure=>simp [intOf];omega
   ·have HC:=lh hc;clear hc;go_wp2_with fail
    refine (s_isCell A c g k _ (HG.out _ Q6.out.m)).mono ?_;rw [HC.out];rintro e w8 ⟨rfl,he8⟩;have Q8:=lh (Q6.out.ext he8);have hz8:=Q8.out.sz;clear he8 Q6 cg6 bcg6;go_wp2_with fail
    refine (s_pick R (t + 1 + 1) 1000 _ Q8.out.r (by omega) (by omega) (by omega)).mono ?_;rintro e wa ⟨vv,rfl,hv0,hv1,hra,hma⟩;have Qa:=lh (Q8.out.draw hma hra);have hza:=Qa.out.sz;have hofa:=Qa.out.off;clear hra hma Q8 hv1;have La:=lh (lit_rd wa #[.int .i64 0,.int .i64 1,.int .i64 vv,.int .i64 3] [0,1,vv,3] 4 rfl rfl (by omega));have Qax:=lh (Qa.out.ext ((Ext.rfl' wa).al (.cells #[.int .i64 0,.int .i64 1,.int .i64 vv,.int .i64 3] 3)));go_wp2_with fail
    refine (s_one R (t + 1 + 1 + 1) _ 4 [0,1,vv,3] _ Qax.out.r La.out (by simp) (by simp) (by intro y hy;simp [blk] at hy;omega) (by omega)).mono ?_;rintro e wb ⟨va,rfl,hx,hrb,hmb⟩;have Qb:=lh (Qax.out.draw hmb hrb);have hzb:=Qb.out.sz;clear hx hrb hmb Qa Qax La;go_wp2_with (at_builtin;refine wpList_app1 (cs:=[.int .i64 0,.int .i64 k,.int .i64 va]) rfl rfl eiAct rfl Qb.out.o rfl rfl (one_acs ⟨0,k,va⟩) (by omega) (by omega) (by omega) ?_;intro A9 c9 w9 ho9 hg9 hat9;have Q9:=lh (Qb.out.app ⟨0,k,va⟩ ho9 hg9 hat9);clear ho9 hg9 hat9)
    go_roundw
    case rel=>exact ⟨n - 1,l++[⟨0,k,va⟩],A9,c9,t + 1 + 1 + 1 + 1,by omega,by go_num,by simp,by simp;omega,by omega,Q9⟩
    case measure=>simp [intOf];omega
  ·obtain rfl:n=0:=by omega
   by_cases hl0:l.length=0
   ·have z0:¬ (0:Int)<(l.length:Int):=by omega
    clear hl0;go_wp2;go_ret;exact ⟨l,A1,c1,rfl,Q4.out.o,by omega,Q4.out.r.more (by omega),Q4.out.m⟩
   have z0:(0:Int)<(l.length:Int):=by omega
   have HL0:=lh hl0;clear hl0;go_wp2_with fail
   refine (s_pick R t 24 _ Q4.out.r (by omega) (by omega) (by omega)).mono ?_;rintro e w5 ⟨y,rfl,hy0,hy1,hr5,hm5⟩;have Q5:=lh (Q4.out.draw hm5 hr5);have hz5:=Q5.out.sz;have hof5:=Q5.out.off;clear hr5 hm5 hy1 Q4;by_cases hy:y=0
   ·subst hy;have L5:=lh (lit_rd w5 #[.int .i64 (-1),.int .i64 4,.int .i64 2] [-1,4,2] 3 rfl rfl (by omega));have Q5x:=lh (Q5.out.ext ((Ext.rfl' w5).al (.cells #[.int .i64 (-1),.int .i64 4,.int .i64 2] 3)));go_wp2_with fail
    refine (s_one R (t + 1) _ 3 [-1,4,2] _ Q5x.out.r L5.out (by simp) (by simp) (by intro y hy;simp [blk] at hy;omega) (by omega)).mono ?_;rintro e w6 ⟨kk,rfl,hx,hr6,hm6⟩;have Q6:=lh (Q5x.out.draw hm6 hr6);clear hx hr6 hm6 Q5 Q5x L5;obtain ⟨bp,rfl,hbp,hcs,hfs,hop⟩:=own_put Q6.out.o (by have:=HL0.out;omega) ⟨kk,0,1⟩;obtain ⟨u0,d0⟩:=hcs 0 (by omega);obtain ⟨u1,d1⟩:=hcs 1 (by omega);obtain ⟨u2,d2⟩:=hcs 2 (by omega);have g0:=hfs 0;have g1:=hfs 1;have g2:=hfs 2;have bd:=blt d0;have hlp:(0:Int)<(l.length:Int):=by have:=HL0.out;omega
    have hlp2:0<l.length:=by omega
    have HOP:=lh hop;clear hcs hfs hop;go_wp2;go_ret;have hMp:Mod (fun b=>b=bp) w6 (((w6.setCell ⟨bp,0,none⟩ (.int .i64 kk)).setCell ⟨bp,1,none⟩ (.int .i64 0)).setCell ⟨bp,2,none⟩ (.int .i64 1)):=Mod.set (F:=fun b=>b=bp) (Mod.set (F:=fun b=>b=bp) (Mod.set (F:=fun b=>b=bp) (Mod.rfl' (fun b=>b=bp) w6) (p:=⟨bp,0,none⟩) (.inl rfl) _) (p:=⟨bp,1,none⟩) (.inl rfl) _) (p:=⟨bp,2,none⟩) (.inl rfl) _;exact ⟨l.set 0 ⟨kk,0,1⟩,some ⟨bp,0,none⟩,c1,by simp,by rw [List.length_set];exact HOP.out,by rw [List.length_set];omega,(Q6.out.r.mod hMp (fun b e=>by have:=Q6.out.hR;omega)).more (by omega),Q6.out.m.tr hMp (fun b e=>.inr (by omega))⟩
   ·have z1:(y == 0)=false:=by simp [hy]
    go_wp2;go_ret;exact ⟨l,A1,c1,rfl,Q5.out.o,by omega,Q5.out.r.more (by omega),Q5.out.m⟩
def Sessed (R:Nat) (w:World) (e:Ending) (w':World):Prop:=∃ (g:Sg.Graph) (A:Option Addr) (c:Nat) (x:List Int) (A2:Option Addr) (c2:Nat) (l:List Sg.Act) (A3:Option Addr) (c3:Nat),e = .returned (.tuple #[.agg #[.slice A g.length c],.slice A2 x.length c2,.slice A3 l.length c3]) ∧
 g.length≤10∧x.length≤11∧l.length≤12∧l.length≤c3∧c3≤maxLen∧(∀ X,Mod (fun b=>b<w.heap.size) w' X→RdN X A g∧Rd X 1 A2 x.length (ints x)∧Rd X 3 A3 l.length (acts l))∧Mod (fun b=>b=R) w w'
set_option maxRecDepth 100000 in
set_option maxHeartbeats 8000000 in
theorem s_sessionOf (R m:Nat) (w:World) (h:Rdr w R m) (hm:m≤500000) :
  Calls Tryz.prog 45 #[.pointer (some ⟨R,0,none⟩)] w (Sessed R w):=by
 have hRl:=h.lt;have H0:=lh (h.ext (show Ext w (World.alloc w (.cells #[.slice none 0 0] 33)) from (Ext.rfl' w).al _));have M0:=lh (Mod.of (F:=fun b=>b=R) (show Ext w (World.alloc w (.cells #[.slice none 0 0] 33)) from (Ext.rfl' w).al _));have B0:=lh (Bx.new w #[.slice none 0 0] 33);clear h;go_enter Tryz.func45,Tryz.ntmps45;go_wp2_with fail
 refine (s_graphOf R m _ H0.out (by omega)).mono ?_;rintro e w1 ⟨g,A,c,hs,x,A2,c2,rfl,hk1,hx1,hx2,hx3,hd1,hr1,hm1⟩;have EA:=lh ((Ext.rfl' w1).al (.cells #[.slice A g.length c] 33));have M1:=lh ((M0.out.tr' hm1).al (.cells #[.slice A g.length c] 33));have B1:=lh ((B0.out.mod hm1 (by omega)).ext EA.out);have K1:=lh ((hk1.mono (B':=w.heap.size + 1) (by simp)).ext EA.out);have X1:=lh ((hx1.mono (B':=w.heap.size + 1) (by simp)).ext EA.out);have R1:=lh (hr1.ext EA.out);have hhi:=hk1.hi;have hb1:=(B0.out.mod hm1 (by omega)).lt;have q1:World.cell? (World.alloc w1 (.cells #[.slice A g.length c] 33)) ⟨w1.heap.size,0,none⟩=some (.slice A g.length c):=by simp [go_sem]
 have bq:=blt q1;clear hk1 hr1 hm1 M0 B0 H0 hx1;go_upto_region 2 with fail
 generalize World.alloc w1 (.cells #[.slice A g.length c] 33)=w2 at *;generalize w1.heap.size=bg at *;have E0:=lh ((Ext.rfl' w2).dr);refine zb 7 (fun W=>W.cell? ⟨bg,0,none⟩=some (.slice A g.length c)) ?_ (fun hHeld=>?_)
 ·exact E0.out.cellE q1
 refine zy 0 ?_;refine zy 1 ?_;refine zy 2 ?_;refine zy 3 ?_;refine zr 4 rfl fun K hK=>?_;go_simp;refine (s_someActs R (m + 1500) A c g _ (R1.out.ext E0.out) (fun W hW=>((K1.out.ext E0.out).mod hW (fun b e=>by omega)).rd) hhi (by omega)).mono ?_;rintro e v1 ⟨l,A3,c3,rfl,hO3,hl3,hr3,hm3⟩;have q3:=hm3.cellE (E0.out.cellE q1) (by omega);have K3:=lh ((K1.out.ext E0.out).mod hm3 (fun b e=>by omega));have X3:=lh ((X1.out.ext E0.out).mod hm3 (fun b e e2=>by have:=(X1.out.lt e).1;omega));have B3:=lh ((B1.out.ext E0.out).mod hm3 (by omega));have M3:=lh (M1.out.dr.tr' hm3);have O3:=lh (hO3.mono (B':=w.heap.size + 1) (by simp;omega));clear hO3 hr3 hm3;try go_wp2_with fail
 refine hK.out _ _ (fun _=>q3) (fun hh=>?_);have hHeld:=hh (by decide);clear hK K hh;try simp only [Act.put,pu]
 refine zr 5 rfl fun K hK=>?_;have f0:=B3.out.free 0;have x0:=B3.out.cell (j:=0) rfl;have bl:=B3.out.lt;go_simp;have q4:World.cell? (World.setCell v1 ⟨w.heap.size,0,none⟩ (.slice A g.length c)) ⟨bg,0,none⟩=some (.slice A g.length c):=(co).trans q3;try simp only [pg]
 refine hK.out _ _ (fun _=>q4) (fun hh=>?_);have hHeld:=hh (by decide);clear hK K hh;try simp only [Act.put,pu]
 refine zy 6 ?_;refine zr 7 rfl fun K hK=>?_;go_simp;refine hK.out _ _ (fun e=>absurd rfl e) (fun hh=>?_);clear hK K hHeld hh;try simp only [Act.put,pu]
 refine zn ?_;go_wp2;have hS:=lh (Mod.set (F:=fun b=>b=w.heap.size) (Mod.rfl' (fun b=>b=w.heap.size) v1) (p:=⟨w.heap.size,0,none⟩) (.inl rfl) (.slice A g.length c));have s0:∀ u0:Value,World.cell? (World.setCell v1 ⟨w.heap.size,0,none⟩ u0) ⟨w.heap.size,0,none⟩=some u0:=fun u0=>(B3.out.set 0 u0).cell (j:=0) rfl;refine bodyPost_ret (v := .tuple #[.agg #[.slice A g.length c],.slice A2 x.length c2,.slice A3 l.length c3]) (by simp [results,Tryz.results45,go_sem,s0];try rfl) rfl ?_;refine ⟨g,A,c,x,A2,c2,l,A3,c3,rfl,hhi,hx3,hl3,O3.out.2.1,O3.out.2.2.1,fun X hX=>?_,M3.out.tr hS.out (fun b e=>.inr (by omega))⟩;have m1:=hS.out.mono (F':=fun b=>b<w.heap.size + 1) (fun b _ e=>by omega);have m2:Mod (fun b=>b<w.heap.size + 1) _ X:=hX.mono (fun b _ e=>by omega);have m3:=m1.tr' m2;exact ⟨(K3.out.mod m3 (fun b e=>e)).rd,(X3.out.mod m3 (fun b e e2=>by have:=(X3.out.lt e).1;omega)).rd,(O3.out.mod m3 (fun b e e2=>by have:=(O3.out.lt e).1;omega)).rd⟩
set_option maxRecDepth 100000 in
set_option maxHeartbeats 1000000 in
theorem s_DrawRunsIn (A:Option Addr) (c:Nat) (l:List Int) (w:World) (h:Rd w 1 A l.length (u8s l)) (hr:∀ x ∈ l,0≤x∧x≤255) (hc:l.length≤c) (hcm:c≤maxLen) :
  Calls Tryz.prog 31 #[.slice A l.length c] w fun e w'=>∃ (g:Sg.Graph) (Ag:Option Addr) (cg:Nat) (x:List Int) (A2:Option Addr) (c2:Nat) (ac:List Sg.Act) (A3:Option Addr) (c3:Nat),e = .returned (.tuple #[.agg #[.slice Ag g.length cg],.slice A2 x.length c2,.slice A3 ac.length c3]) ∧
   g.length≤10∧x.length≤11∧ac.length≤12∧ac.length≤c3∧c3≤maxLen∧RdN w' Ag g∧Rd w' 1 A2 x.length (ints x)∧Rd w' 3 A3 ac.length (acts ac)∧Ext w w':=by
 have e0:Ext w (World.alloc w (.cells #[.slice none 0 0] 33)):=(Ext.rfl' w).al _;have HN:=lh (s_newReader A c l _ (h.ext e0) hr hc hcm);have B0:=lh (Bx.new w #[.slice none 0 0] 33);have E0:=lh e0;clear h e0;go_enter Tryz.func31,Tryz.ntmps31;go_wp2_with fail
 refine HN.out.mono ?_;rintro e w1 ⟨rfl,hr1,he1⟩;have B1:=lh (B0.out.ext he1);have E1:=lh (E0.out.tr he1);have R1:=lh hr1;have hw1:=hr1.lt;simp only [World.size_alloc] at hw1 hr1;clear hr1 he1 HN B0;go_wp2_with fail
 refine (s_sessionOf _ 0 _ (by have:=R1.out;simpa using this) (by omega)).mono ?_;rintro e w2 ⟨g,Ag,cg,x,A2,c2,ac,A3,c3,rfl,hg,hx,hac,hc3,hcm3,hok,hm2⟩;have HOK:=lh hok;have B2:=lh (B1.out.mod hm2 (by omega));have E2:=lh (Ext.md E1.out hm2 (fun b e=>by omega));have f0:=B2.out.free 0;have qr:=B2.out.cell (j:=0) rfl;have bl:=B2.out.lt;clear hok hm2 R1;go_wp2;have s0:∀ u0:Value,World.cell? (World.setCell w2 ⟨w.heap.size,0,none⟩ u0) ⟨w.heap.size,0,none⟩=some u0:=fun u0=>(B2.out.set 0 u0).cell (j:=0) rfl;refine bodyPost_ret (v := .tuple #[.agg #[.slice Ag g.length cg],.slice A2 x.length c2,.slice A3 ac.length c3]) (by simp [results,Tryz.results31,go_sem,s0];try rfl) rfl ?_;have hS:=lh (Mod.set (F:=fun b=>b=w.heap.size) (Mod.rfl' (fun b=>b=w.heap.size) w2) (p:=⟨w.heap.size,0,none⟩) (.inl rfl) (.slice Ag g.length cg));obtain ⟨x1,x2,x3⟩:=HOK.out _ (hS.out.mono (fun b _ e=>by omega));exact ⟨g,Ag,cg,x,A2,c2,ac,A3,c3,rfl,hg,hx,hac,hc3,hcm3,x1,x2,x3,Ext.md E2.out hS.out (fun b e=>by omega)⟩
end Go.Proofs.YtgojnefiephafaaGreat
namespace Go.Proofs.YtgojnefiephafaaGreat
open Go.RowKit
theorem Rd.cut {w:World} {size:Nat} {A:Option Addr} {n:Nat} {xs:List Value} (h:Rd w size A n xs) {k:Nat} (hk:k≤n):Rd w size A k (xs.take (k * size)):=by
 have hks:k * size≤n * size:=Nat.mul_le_mul_right _ hk;refine ⟨by rw [List.length_take,h.1];omega,Nat.le_trans hk h.2.1,fun h0=>?_⟩;obtain ⟨b,o,hA,hc⟩:=h.2.2 (by omega);refine ⟨b,o,hA,fun j u hu=>hc j u ?_⟩;rw [List.getElem?_take] at hu;split at hu
 ·exact hu
 ·cases hu
end Go.Proofs.YtgojnefiephafaaGreat
