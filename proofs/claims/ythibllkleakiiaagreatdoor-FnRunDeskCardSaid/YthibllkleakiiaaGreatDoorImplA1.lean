/- Parts of one proof, joined. The program's StaleOf and LazyCells: contracts. Conditions: bounds on lengths. -/
import Derived.Deep.QuietTactic
import Derived.BigQuiet
import Derived.IntWalk
import Derived.Laws.BitsLemmas
import Derived.Handy
import Derived.Test.YthibllkleakiiaaGreatDoorImplPX
namespace Go.Proofs.YthibllkleakiiaaGreatDoor
open Go.RowKit
def Vc (l:List Int):List Value:=l.map (Value.int .u8)
@[simp] theorem length_u8s (l:List Int):(Vc l).length=l.length:=by simp[Vc]
theorem K3 (l:List Int)(k:Nat):(Vc l)[k]? = (l[k]?).map (Value.int .u8):=by simp[Vc]
def Gn (w:World)(R m:Nat):Prop :=
 ∃ (A:Option Addr) (c:Nat) (l:List Int) (p:Nat),Bx w R [.slice A l.length c,.int .i64 (p:Int)]/\p<=m/\Rd w 1 A l.length (Vc l)/\l.length<=2000/\(∀ x ∈ l,0<=x/\x<=255)/\(0<l.length->∀ b,AE A=some b->b<R)
theorem Gn.more {w:World}{R m m':Nat}(h:Gn w R m)(hm:m<=m'):Gn w R m':=by
 obtain⟨A,c,l,p,h1,h2,h3⟩:=h;exact⟨A,c,l,p,h1,by omega,h3⟩
theorem Gn.lt {w:World}{R m:Nat}(h:Gn w R m):R<w.heap.size:=by
 obtain⟨A,c,l,p,h1,h2,h3⟩:=h;exact h1.lt
theorem Gn.mod {F:Nat->Prop}{w w':World}{R m:Nat}(h:Gn w R m)(k:AF F w w')(hF:∀ b,F b->R<b):Gn w' R m:=by
 obtain⟨A,c,l,p,h1,h2,h3,h4,h5,h6⟩:=h;exact⟨A,c,l,p,h1.mod k (fun e=>by have:=hF _ e;omega),h2,h3.mod0 k (fun h0 b hb e=>by have:=hF b e;have:=h6 (by omega) b hb;omega),h4,h5,h6⟩
theorem Gn.ext {w w':World}{R m:Nat}(h:Gn w R m)(e:Aa w w'):Gn w' R m:=h.mod (AF.of (F:=fun _=>False) e) (fun _=>False.elim)
def XR (R m:Nat)(n:Int)(w:World)(e:Ending)(w':World):Prop:=∃ x:Int,e= .returned (.int .i64 x)/\0<=x/\(x=0\/x<n)/\Gn w' R (m+1)/\AF (fun b=>b=R) w w'
theorem Oq (a n:Int)(h0:0<=a)(hn:1<=n):0<=a.tmod n/\a.tmod n<n:=by
 rw[Int.tmod_eq_emod_of_nonneg h0];exact⟨Int.emod_nonneg _ (by omega),Int.emod_lt_of_pos _ (by omega)⟩
theorem XS (a b:Int)(h0:0<=a)(h1:a<4611686018427387904)(k0:0<=b)(k1:b<4611686018427387904):0<=bits .xor .i64 a b:=by
 obtain⟨a,rfl⟩:=Int.eq_ofNat_of_zero_le h0;obtain⟨b,rfl⟩:=Int.eq_ofNat_of_zero_le k0;have ha:a<2 ^ 62:=by omega
 have hb:b<2 ^ 62:=by omega
 have ha':a % 2 ^ IntKind.i64.bits=a:=Nat.mod_eq_of_lt (by simp[IntKind.bits];omega);have hb':b % 2 ^ IntKind.i64.bits=b:=Nat.mod_eq_of_lt (by simp[IntKind.bits];omega);have hx:a ^^^ b<2 ^ 62:=Nat.xor_lt_two_pow ha hb;simp only[bits,BitVec.ofInt_natCast,BitVec.toNat_xor,BitVec.toNat_ofNat,ha',hb'];rw[IntWalk.i64_in _ (by omega)];omega
set_option maxRecDepth 100000 in
set_option maxHeartbeats 4000000 in
theorem D7 (R m:Nat)(n:Int)(w:World)(h:Gn w R m)(hm:m<=1000000)(hn:n<=1000000)(hn0 : -1000000<=n) :
  Calls Tryz.prog 65 #[.pointer (some ⟨R,0,none⟩),.int .i64 n] w (XR R m n w):=by
 obtain⟨A,c,l,p,hB,hp,hl,hlen,hran,hlt⟩:=h;have c0:=hB.cell (j:=0) rfl;have c1:=hB.cell (j:=1) rfl;have f1:=hB.free 1;have bl:=hB.lt;have HB:=lh hB;have HL:=lh hl;have HR:=lh hran;have HLT:=lh hlt
 have HRD:=lh (show Gn (w.setCell ⟨R,1,none⟩ (.int .i64 ((p:Int)+1))) R (m+1) from ⟨A,c,l,p+1,by have:=hB.set 1 (.int .i64 ((p:Int)+1));simpa using this,by omega,
  hl.mod0 ((AF.rfl' (fun b=>b=R) w).set (p:=⟨R,1,none⟩) (.inl rfl) (.int .i64 ((p:Int)+1))) (fun h0 b hb e=>by have h1:=hlt (by omega) b hb;have h2:b=R:=e;omega),hlen,hran,hlt⟩)
 have HMO:=lh ((AF.rfl' (fun b=>b=R) w).set (p:=⟨R,1,none⟩) (.inl rfl) (.int .i64 ((p:Int)+1)));by_cases h1:n<1
 ·clear hB hl hran hlt;go_enter Tryz.func65,Tryz.ntmps65;go_wp2;go_ret;exact⟨0,rfl,by omega,.inl rfl,HRD.out,HMO.out⟩
 by_cases h2:l.length=0
 ·have b2:((l.length:Int) == 0)=true:=by simp[h2]
  have n1:decide (n<1)=false:=by simp;omega
  clear hB hl hran hlt h2;go_enter Tryz.func65,Tryz.ntmps65;go_wp2;go_ret;exact⟨0,rfl,by omega,.inl rfl,HRD.out,HMO.out⟩
 have b2:((l.length:Int) == 0)=false:=by rw[beq_eq_false_iff_ne];omega
 have n1:decide (n<1)=false:=by simp;omega
 obtain⟨b,o,rfl,hcl⟩:=hl.2.2 (by omega);have hbR:b<R:=hlt (by omega) b rfl;by_cases h3:p<l.length
 ·obtain⟨x,hx⟩:∃ x,l[p]? = some x:=⟨_,gg h3⟩;have hxc:=hcl p (.int .u8 x) (by rw[K3,hx];rfl);have hxr:=hran x (List.mem_of_getElem? hx);have hxb:=AA hxc;have hmod:=Oq x n hxr.1 (by omega);have hne:n≠0:=by omega
  have hne2:(n == 0)=false:=by rw[beq_eq_false_iff_ne];omega
  clear hB hl hran hlt hx hcl h2;go_enter Tryz.func65,Tryz.ntmps65;go_wp2;go_ret;refine⟨_,rfl,?_,?_,HRD.out,HMO.out⟩
  ·exact Int.emod_nonneg _ hne
  ·exact .inr (Int.emod_lt_of_pos _ (by omega))
 ·have hq0:0<l.length:=by omega
  have hj1:p % l.length<l.length:=Nat.mod_lt _ hq0;have hj2:(p * 7+3) % l.length<l.length:=Nat.mod_lt _ hq0;obtain⟨x,hx⟩:∃ x,l[p % l.length]? = some x:=⟨_,gg hj1⟩;obtain⟨y,hy⟩:∃ y,l[(p * 7+3) % l.length]? = some y:=⟨_,gg hj2⟩;have hxc:=hcl _ (.int .u8 x) (by rw[K3,hx];rfl);have hyc:=hcl _ (.int .u8 y) (by rw[K3,hy];rfl);have hxr:=hran x (List.mem_of_getElem? hx);have hyr:=hran y (List.mem_of_getElem? hy);have hxb:=AA hxc;have t1:(p:Int).tmod (l.length:Int)=((p % l.length:Nat):Int):=by rw[Int.tmod_eq_emod_of_nonneg (by omega)];rfl
  have t2:((p:Int) * 7+3).tmod (l.length:Int)=(((p * 7+3) % l.length:Nat):Int):=by rw[Int.tmod_eq_emod_of_nonneg (by omega)];rfl
  generalize p % l.length=j1 at *;generalize (p * 7+3) % l.length=j2 at *;have w0:=IntWalk.i64_in ((p:Int) * 7) (by omega);have w1:=IntWalk.i64_in ((p:Int) * 7+3) (by omega);have w2:=IntWalk.i64_in (x * 131) (by omega);have w3:=IntWalk.i64_in (y * 1117) (by omega);have w4:=IntWalk.i64_in (x * 131+y * 1117) (by omega);have w5:=IntWalk.i64_in ((p:Int) * 29) (by omega);have w6:=IntWalk.i64_in (x * 131+y * 1117+(p:Int) * 29) (by omega);have hne:n≠0:=by omega
  have hne2:(n == 0)=false:=by rw[beq_eq_false_iff_ne];omega
  have hlne:((l.length:Int) == 0)=false:=b2;have hlt3:¬ (p:Int)<(l.length:Int):=by omega
  clear hB hl hran hlt hx hy hcl h2;go_enter Tryz.func65,Tryz.ntmps65;go_wp2;go_quiet (fail)
  go_wp2;go_ret;have hdv:0<=(p:Int) / (l.length:Int)/\(p:Int) / (l.length:Int)<=p:=⟨Int.ediv_nonneg (by omega) (by omega),Int.ediv_le_self _ (by omega)⟩;have q1:wrap64 ((p:Int) / (l.length:Int))=(p:Int) / (l.length:Int):=IntWalk.wrap64_in _ (by omega);rw[q1];generalize (p:Int) / (l.length:Int)=d at *;have q2:wrap64 (d * 53)=d * 53:=IntWalk.wrap64_in _ (by omega);rw[q2];have q3:wrap64 (x * 131+y * 1117+(p:Int) * 29+d * 53)=x * 131+y * 1117+(p:Int) * 29+d * 53:=IntWalk.wrap64_in _ (by omega);rw[q3];generalize hY:x * 131+y * 1117+(p:Int) * 29+d * 53=Y at *;have hY0:0<=Y/\Y<=1000000000:=by omega
  have q4:Y.tdiv 64=Y / 64:=Int.tdiv_eq_ediv_of_nonneg hY0.1;rw[q4,IntWalk.wrap64_in (Y / 64) (by omega)];have hX:=XS Y (Y / 64) (by omega) (by omega) (by omega) (by omega);have hM:=Oq _ n hX (by omega);refine⟨_,rfl,hM.1,.inr hM.2,HRD.out.ext (xr.drN _),HMO.out.tr' (AF.of (xr.drN _))⟩
def Y5 (R m:Nat)(l:List Int)(w:World)(e:Ending)(w':World):Prop:=∃ x:Int,e= .returned (.int .i64 x)/\x ∈ l/\Gn w' R (m+1)/\AF (fun b=>b=R) w w'
def XT (R m:Nat)(w:World)(e:Ending)(w':World):Prop:=∃ p:Sg.At,e= .returned (pv p)/\Gn w' R m/\AF (fun b=>b=R) w w'
def WD (R m:Nat)(l:List Int)(w:World)(e:Ending)(w':World):Prop:=∃ p:Sg.At,e= .returned (pv p)/\Gn w' R m/\AF (fun b=>b=R) w w'/\(0<l.length->∃ x ∈ l,p=⟨1,-1,-1,-1,x⟩)
set_option maxHeartbeats 1000000 in
theorem Oi (R m:Nat)(A:Option Addr)(c:Nat)(l:List Int)(w:World)(h:Gn w R m)(hl:Rd w 1 A l.length (Ah l))(hn:0<l.length)(hn2:l.length<=1000)(hoff:∀ b,AE A=some b->b≠R)(hm:m<=1000000) :
  Calls Tryz.prog 24 #[.pointer (some ⟨R,0,none⟩),.slice A l.length c] w (Y5 R m l w):=by
 have HP:=lh (D7 R m (l.length:Int) w h hm (by omega) (by omega));have HL:=lh hl;have HO:=lh hoff;clear hl hoff;go_enter Tryz.func24,Tryz.ntmps24;go_wp2_with fail
 refine HP.out.mono ?_;rintro e w1 ⟨x,rfl,h0,h1,hr,hm1⟩;obtain⟨j,rfl⟩:=Int.eq_ofNat_of_zero_le h0;have hj:j<l.length:=by omega
 have HL1:=lh (HL.out.mod0 hm1 (fun _ b hb e=>HO.out b hb e));obtain⟨b,o,y,rfl,hy,hc⟩:=HL1.out.at1 hj;have hb:=AA hc;have Hy:=lh hy;have Hr:=lh hr;have Hm:=lh hm1;clear hy hr hm1 h1 h0;go_wp2;go_ret;exact⟨y,rfl,List.mem_of_getElem? Hy.out,Hr.out,Hm.out⟩
theorem Qq (A:Option Addr)(c:Nat)(l:List Int)(w:World)(h:Rd w 1 A l.length (Vc l))(hr:∀ x ∈ l,0<=x/\x<=255)(hc:l.length<=c)(hcm:c<=maxLen) :
  Calls Tryz.prog 22 #[.slice A l.length c] w fun e w'=>e= .returned (.pointer (some ⟨w.heap.size,0,none⟩))/\Gn w' w.heap.size 0/\Aa w w':=by
 have hbig:=h.big;unfold maxLen at hcm
 have hlt:∀ n:Nat,n<=l.length->0<n->∀ b,AE A=some b->b<w.heap.size:=fun n hn h0 b hb=>by
  obtain⟨b0,o0,rfl,hc0⟩:=h.2.2 (by omega);simp[AE] at hb
  subst hb;have hx:l[0]? = some l[0]:=gg (by omega);exact AA (hc0 0 _ (by rw[K3,hx];rfl))
 have H:=lh h;have HR:=lh hr;have HL:=lh hlt;by_cases hg:2000<l.length
 ·have hRd:Rd w 1 A 2000 (Vc (l.take 2000)):=by
   refine⟨by simp;omega,by unfold maxLen;omega,fun h0=>?_⟩;obtain⟨b0,o0,ha,hc0⟩:=h.2.2 (by omega);refine⟨b0,o0,ha,fun j u hu=>hc0 j u ?_⟩;rw[K3] at hu ⊢;rw[List.getElem?_take] at hu;split at hu
   ·exact hu
   ·simp at hu
  have HR2:=lh hRd;obtain⟨b0,o0,rfl,hc0⟩:=h.2.2 (by omega);have e2:(l.take 2000).length=2000:=by simp;omega
  have E2:=lh e2;clear h hr hlt hRd hc0 e2;go_enter Tryz.func22,Tryz.ntmps22;go_wp2;go_ret;refine⟨rfl,⟨some ⟨b0,o0,none⟩,c,l.take 2000,0,?_,Nat.le_refl _,?_,by rw[E2.out];omega,fun x hx=>HR.out x (List.mem_of_mem_take hx),?_⟩,xr.al _⟩
  ·have:=Bx.new w #[.slice (some ⟨b0,o0,none⟩) (l.take 2000).length c,.int .i64 0] 104;rw[E2.out] at this ⊢;exact this
  ·rw[E2.out];exact HR2.out.ext (xr.al _)
  ·intro h0 b hb;exact HL.out 2000 (by omega) (by omega) b hb
 ·clear h hr hlt;go_enter Tryz.func22,Tryz.ntmps22;go_wp2;go_ret;exact⟨rfl,⟨A,c,l,0,Bx.new w #[.slice A l.length c,.int .i64 0] 104,Nat.le_refl _,H.out.ext (xr.al _),by omega,HR.out,fun h0 b hb=>HL.out l.length (Nat.le_refl _) h0 b hb⟩,xr.al _⟩
theorem KE (n:Int)(w:World):Calls Tryz.prog 141 #[.int .i64 n] w fun e w'=>e= .returned (pv ⟨0,-1,-1,-1,n⟩)/\Aa w w':=by
 go_enter Tryz.func141,Tryz.ntmps141;go_wp2;go_returns
 exact⟨rfl,xr.al _⟩
set_option maxHeartbeats 2000000 in
theorem JW (R m:Nat)(A:Option Addr)(c:Nat)(l:List Int)(w:World)(h:Gn w R m)(hl:Rd w 1 A l.length (Ah l))(hn2:l.length<=1000)(hoff:∀ b,AE A=some b->b≠R)(hm:m<=1000000) :
  Calls Tryz.prog 140 #[.pointer (some ⟨R,0,none⟩),.slice A l.length c] w (WD R (m+1) l w):=by
 have hRl:=h.lt;have B0:=lh (Bx.new w #[.int .i64 0,.int .i64 0,.int .i64 0,.int .i64 0,.int .i64 0] 111);have E0:=lh ((Aa.rfl' w).al (.cells #[.int .i64 0,.int .i64 0,.int .i64 0,.int .i64 0,.int .i64 0] 111));have H:=lh h;have HL:=lh hl;have HO:=lh hoff;have HN:=lh (fun n=>KE n);clear h hl hoff;by_cases h0:l.length=0
 ·have b0:((l.length:Int) == 0)=true:=by simp[h0]
  have HZ0:=lh (show ¬ 0<l.length by omega);clear h0;go_enter Tryz.func140,Tryz.ntmps140;go_wp2_with fail
  refine(D7 R m 10 _ (H.out.ext E0.out) hm (by omega) (by omega)).mono ?_;rintro e w1 ⟨x,rfl,hx0,hx1,hr,hm1⟩;have B1:=lh (B0.out.mod hm1 (by omega));have Hr:=lh hr;have Hm:=lh hm1;clear hx0 hx1 hr hm1;go_wp2_with fail
  refine(HN.out x w1).mono ?_;rintro e w2 ⟨rfl,he2⟩;have B2:=lh (B1.out.ext he2);have c0:=B2.out.cell (j:=0) rfl;have f0:=B2.out.free 0;have c1:=B2.out.cell (j:=1) rfl;have f1:=B2.out.free 1;have c2:=B2.out.cell (j:=2) rfl;have f2:=B2.out.free 2;have c3:=B2.out.cell (j:=3) rfl;have f3:=B2.out.free 3;have c4:=B2.out.cell (j:=4) rfl;have f4:=B2.out.free 4;have bl:=B2.out.lt;have Hr2:=lh (Hr.out.ext he2);have M2:=lh (((AF.of (F:=fun b=>b=R) E0.out).tr' Hm.out).tr' (AF.of he2));go_wp2;have s0:∀ u0:Value,World.cell? (World.setCell w2 ⟨w.heap.size,0,none⟩ u0) ⟨w.heap.size,0,none⟩=some u0:=fun u0=>(B2.out.set 0 u0).cell (j:=0) rfl;have s1:∀ u0 u1:Value,World.cell? (World.setCell (World.setCell w2 ⟨w.heap.size,0,none⟩ u0) ⟨w.heap.size,1,none⟩ u1) ⟨w.heap.size,1,none⟩=some u1:=fun u0 u1=>((B2.out.set 0 u0).set 1 u1).cell (j:=1) rfl;have s2:∀ u0 u1 u2:Value,World.cell? (World.setCell (World.setCell (World.setCell w2 ⟨w.heap.size,0,none⟩ u0) ⟨w.heap.size,1,none⟩ u1) ⟨w.heap.size,2,none⟩ u2) ⟨w.heap.size,2,none⟩=some u2:=fun u0 u1 u2=>(((B2.out.set 0 u0).set 1 u1).set 2 u2).cell (j:=2) rfl;have s3:∀ u0 u1 u2 u3:Value,World.cell? (World.setCell (World.setCell (World.setCell (World.setCell w2 ⟨w.heap.size,0,none⟩ u0) ⟨w.heap.size,1,none⟩ u1) ⟨w.heap.size,2,none⟩ u2) ⟨w.heap.size,3,none⟩ u3) ⟨w.heap.size,3,none⟩=some u3:=fun u0 u1 u2 u3=>((((B2.out.set 0 u0).set 1 u1).set 2 u2).set 3 u3).cell (j:=3) rfl;have s4:∀ u0 u1 u2 u3 u4:Value,World.cell? (World.setCell (World.setCell (World.setCell (World.setCell (World.setCell w2 ⟨w.heap.size,0,none⟩ u0) ⟨w.heap.size,1,none⟩ u1) ⟨w.heap.size,2,none⟩ u2) ⟨w.heap.size,3,none⟩ u3) ⟨w.heap.size,4,none⟩ u4) ⟨w.heap.size,4,none⟩=some u4:=fun u0 u1 u2 u3 u4=>(((((B2.out.set 0 u0).set 1 u1).set 2 u2).set 3 u3).set 4 u4).cell (j:=4) rfl;refine bodyPost_ret (v:=pv ⟨0,-1,-1,-1,x⟩) (by simp[results,Tryz.results140,go_sem,s0,s1,s2,s3,s4];try rfl) rfl ?_;have hz:∀ j:Nat,w.heap.size<=(⟨w.heap.size,j,none⟩:Addr).block:=fun j=>Nat.le_refl _
  have hs:AF (fun b=>b=w.heap.size) w2 (World.setCell (World.setCell (World.setCell (World.setCell (World.setCell w2 ⟨w.heap.size,0,none⟩ (.int .i64 0)) ⟨w.heap.size,1,none⟩ (.int .i64 (-1))) ⟨w.heap.size,2,none⟩ (.int .i64 (-1))) ⟨w.heap.size,3,none⟩ (.int .i64 (-1))) ⟨w.heap.size,4,none⟩ (.int .i64 x)) :=
   (((((AF.rfl' (fun b=>b=w.heap.size) w2).set (p:=⟨w.heap.size,0,none⟩) (.inl rfl) _).set (p:=⟨w.heap.size,1,none⟩) (.inl rfl) _).set (p:=⟨w.heap.size,2,none⟩) (.inl rfl) _).set (p:=⟨w.heap.size,3,none⟩) (.inl rfl) _).set (p:=⟨w.heap.size,4,none⟩) (.inl rfl) _
  exact⟨⟨0,-1,-1,-1,x⟩,rfl,Hr2.out.mod hs (fun b e=>by omega),M2.out.tr hs (fun b e=>.inr (by omega)),fun h=>absurd h HZ0.out⟩
 ·have b0:((l.length:Int) == 0)=false:=by rw[beq_eq_false_iff_ne];omega
  have hp0:0<l.length:=by omega
  clear h0;go_enter Tryz.func140,Tryz.ntmps140;go_wp2_with fail
  refine(D7 R m (l.length:Int) _ (H.out.ext E0.out) hm (by omega) (by omega)).mono ?_;rintro e w2 ⟨j0,rfl,hx0,hx1,hr,hm1⟩;obtain⟨j,rfl⟩:=Int.eq_ofNat_of_zero_le hx0;have hj:j<l.length:=by omega
  have B2:=lh (B0.out.mod hm1 (by omega));have Hr2:=lh hr;have M2:=lh ((AF.of (F:=fun b=>b=R) E0.out).tr' hm1);have HL1:=lh ((HL.out.ext E0.out).mod0 hm1 (fun _ b hb e=>HO.out b hb e));obtain⟨b,o,x,rfl,hy,hc⟩:=HL1.out.at1 hj;have hb:=AA hc;have HXM:=lh (List.mem_of_getElem? hy);clear hx0 hx1 hr hm1 hy;have c0:=B2.out.cell (j:=0) rfl;have f0:=B2.out.free 0;have c1:=B2.out.cell (j:=1) rfl;have f1:=B2.out.free 1;have c2:=B2.out.cell (j:=2) rfl;have f2:=B2.out.free 2;have c3:=B2.out.cell (j:=3) rfl;have f3:=B2.out.free 3;have c4:=B2.out.cell (j:=4) rfl;have f4:=B2.out.free 4;have bl:=B2.out.lt;go_wp2;have s0:∀ u0:Value,World.cell? (World.setCell w2 ⟨w.heap.size,0,none⟩ u0) ⟨w.heap.size,0,none⟩=some u0:=fun u0=>(B2.out.set 0 u0).cell (j:=0) rfl;have s1:∀ u0 u1:Value,World.cell? (World.setCell (World.setCell w2 ⟨w.heap.size,0,none⟩ u0) ⟨w.heap.size,1,none⟩ u1) ⟨w.heap.size,1,none⟩=some u1:=fun u0 u1=>((B2.out.set 0 u0).set 1 u1).cell (j:=1) rfl;have s2:∀ u0 u1 u2:Value,World.cell? (World.setCell (World.setCell (World.setCell w2 ⟨w.heap.size,0,none⟩ u0) ⟨w.heap.size,1,none⟩ u1) ⟨w.heap.size,2,none⟩ u2) ⟨w.heap.size,2,none⟩=some u2:=fun u0 u1 u2=>(((B2.out.set 0 u0).set 1 u1).set 2 u2).cell (j:=2) rfl;have s3:∀ u0 u1 u2 u3:Value,World.cell? (World.setCell (World.setCell (World.setCell (World.setCell w2 ⟨w.heap.size,0,none⟩ u0) ⟨w.heap.size,1,none⟩ u1) ⟨w.heap.size,2,none⟩ u2) ⟨w.heap.size,3,none⟩ u3) ⟨w.heap.size,3,none⟩=some u3:=fun u0 u1 u2 u3=>((((B2.out.set 0 u0).set 1 u1).set 2 u2).set 3 u3).cell (j:=3) rfl;have s4:∀ u0 u1 u2 u3 u4:Value,World.cell? (World.setCell (World.setCell (World.setCell (World.setCell (World.setCell w2 ⟨w.heap.size,0,none⟩ u0) ⟨w.heap.size,1,none⟩ u1) ⟨w.heap.size,2,none⟩ u2) ⟨w.heap.size,3,none⟩ u3) ⟨w.heap.size,4,none⟩ u4) ⟨w.heap.size,4,none⟩=some u4:=fun u0 u1 u2 u3 u4=>(((((B2.out.set 0 u0).set 1 u1).set 2 u2).set 3 u3).set 4 u4).cell (j:=4) rfl;refine bodyPost_ret (v:=pv ⟨1,-1,-1,-1,x⟩) (by simp[results,Tryz.results140,go_sem,s0,s1,s2,s3,s4];try rfl) rfl ?_;have hz:∀ j:Nat,w.heap.size<=(⟨w.heap.size,j,none⟩:Addr).block:=fun j=>Nat.le_refl _
  have hs:AF (fun b=>b=w.heap.size) w2 (World.setCell (World.setCell (World.setCell (World.setCell (World.setCell w2 ⟨w.heap.size,0,none⟩ (.int .i64 1)) ⟨w.heap.size,1,none⟩ (.int .i64 (-1))) ⟨w.heap.size,2,none⟩ (.int .i64 (-1))) ⟨w.heap.size,3,none⟩ (.int .i64 (-1))) ⟨w.heap.size,4,none⟩ (.int .i64 x)) :=
   (((((AF.rfl' (fun b=>b=w.heap.size) w2).set (p:=⟨w.heap.size,0,none⟩) (.inl rfl) _).set (p:=⟨w.heap.size,1,none⟩) (.inl rfl) _).set (p:=⟨w.heap.size,2,none⟩) (.inl rfl) _).set (p:=⟨w.heap.size,3,none⟩) (.inl rfl) _).set (p:=⟨w.heap.size,4,none⟩) (.inl rfl) _
  exact⟨⟨1,-1,-1,-1,x⟩,rfl,Hr2.out.mod hs (fun b e=>by omega),M2.out.tr hs (fun b e=>.inr (by omega)),fun _=>⟨x,HXM.out,rfl⟩⟩
theorem Pk (R m:Nat)(A:Option Addr)(c:Nat)(l:List Int)(w:World)(h:Gn w R m)(hl:Rd w 1 A l.length (Ah l))(hn2:l.length<=1000)(hoff:∀ b,AE A=some b->b≠R)(hm:m<=1000000) :
  Calls Tryz.prog 140 #[.pointer (some ⟨R,0,none⟩),.slice A l.length c] w (XT R (m+1) w) :=
 (JW R m A c l w h hl hn2 hoff hm).mono fun _ _ ⟨p,h1,h2,h3,_⟩=>⟨p,h1,h2,h3⟩
theorem K7 {w w':World}{B e size n c:Nat}{A:Option Addr}{xs:List Value}{row:Option Nat}(h:Au w B e size A n c xs)(hg:w.grownBy w' row)(hd:∀ b,row=some b->AE A≠some b):Au w' B e size A n c xs :=
 h.keep fun b hb=>hg.block b (h.lt hb).2 (fun e=>hd b e.symm hb)
theorem Bx.gr {w w':World}{b:Nat}{cs:List Value}{row:Option Nat}(h:Bx w b cs)(hg:w.grownBy w' row)(hd:row≠some b):Bx w' b cs:=h.keep (hg.block b h.lt (fun e=>hd e.symm))
theorem AF.gr {F:Nat->Prop}{w w' w2:World}{row:Option Nat}(h:AF F w w')(hg:w'.grownBy w2 row)(hr:∀ b,row=some b->F b\/w.heap.size<=b):AF F w w2 :=
 ⟨hg.os.trans h.os,hg.tape.trans h.tape,hg.output.trans h.output,Nat.le_trans h.size hg.size,fun b hb hn=>(hg.block b (Nat.lt_of_lt_of_le hb h.size) (fun e=>(hr b e.symm).elim hn (fun e=>by omega))).trans (h.block b hb hn)⟩
theorem Gn.gr {w w':World}{R m:Nat}{row:Option Nat}(h:Gn w R m)(hg:w.grownBy w' row)(hr:∀ b,row=some b->R<b):Gn w' R m :=
 h.mod (F:=fun b=>R<b) ((AF.rfl' _ w).gr hg (fun b e=>.inl (hr b e))) (fun _ e=>e)
theorem Au.fewer {w:World}{B e n c:Nat}{A:Option Addr}{xs:List Value}(h:Au w B e 1 A n c xs)(i:Nat)(hi:i<=n):Au w B e 1 A i c (xs.take i):=by
 have h1:=h.1;refine⟨by simp;omega,Nat.le_trans hi h.2.1,h.2.2.1,?_⟩;rcases h.2.2.2 with h2 | ⟨g,cur,ha,hb,hh,hc,ht⟩
 ·exact .inl h2
 ·refine .inr ⟨g,cur,ha,hb,hh,hc,?_⟩;rw[<- ht,List.take_take];congr 1
  omega
def GF (L R m:Nat)(w:World)(nf n6:Nat)(A6:Option Addr)(c6:Nat)(W:World):Prop :=
 ∃ (f:List Sg.At) (Af:Option Addr) (cf:Nat) (op:List Int),f.length=nf/\op.length=n6/\L=w.heap.size/\R<L/\Bx W L [.slice none 0 0]/\Bx W (L+1) [.slice Af nf cf] /\
  Au W (L+2) 111 5 Af nf cf (AH f)/\Au W (L+2) 3 1 A6 n6 c6 (Ah op)/\(∀ b,AE Af=some b->AE A6≠some b)/\Gn W R m/\AF (fun b=>b=R) w W
section
variable {L R m nf n6 c6:Nat} {w W W':World} {A6:Option Addr}
theorem GF.lt (h:GF L R m w nf n6 A6 c6 W){b:Nat}(hb:AE A6=some b):L+2<=b/\b<W.heap.size:=by
 obtain⟨f,Af,cf,op,_,_,_,_,_,_,_,h8,_⟩:=h;exact h8.lt hb
theorem GF.size (h:GF L R m w nf n6 A6 c6 W):L+2<=W.heap.size:=by
 obtain⟨f,Af,cf,op,_,_,_,_,_,h6,_⟩:=h;exact h6.lt
theorem GF.base (h:GF L R m w nf n6 A6 c6 W):L=w.heap.size/\R<L:=by
 obtain⟨f,Af,cf,op,_,_,h3,h4,_⟩:=h;exact⟨h3,h4⟩
theorem GF.rdr (h:GF L R m w nf n6 A6 c6 W):Gn W R m:=by
 obtain⟨f,Af,cf,op,_,_,_,_,_,_,_,_,_,h10,_⟩:=h;exact h10
theorem GF.md (h:GF L R m w nf n6 A6 c6 W):AF (fun b=>b=R) w W:=by
 obtain⟨f,Af,cf,op,_,_,_,_,_,_,_,_,_,_,h11⟩:=h;exact h11
theorem GF.more {m':Nat}(h:GF L R m w nf n6 A6 c6 W)(hm:m<=m'):GF L R m' w nf n6 A6 c6 W:=by
 obtain⟨f,Af,cf,op,h1,h2,h3,h4,h5,h6,h7,h8,h9,h10,h11⟩:=h;exact⟨f,Af,cf,op,h1,h2,h3,h4,h5,h6,h7,h8,h9,h10.more hm,h11⟩
theorem GF.pick {m':Nat}(h:GF L R m w nf n6 A6 c6 W)(hm:AF (fun b=>b=R) W W')(hr:Gn W' R m'):GF L R m' w nf n6 A6 c6 W':=by
 obtain⟨f,Af,cf,op,h1,h2,h3,h4,h5,h6,h7,h8,h9,h10,h11⟩:=h;exact⟨f,Af,cf,op,h1,h2,h3,h4,h5.mod hm (by omega),h6.mod hm (by omega),h7.mod hm (fun b hb e=>by have:=(h7.lt hb).1;omega),h8.mod hm (fun b hb e=>by have:=(h8.lt hb).1;omega),h9,hr,h11.tr' hm⟩
theorem GF.ext (h:GF L R m w nf n6 A6 c6 W)(e:Aa W W'):GF L R m w nf n6 A6 c6 W':=h.pick (AF.of e) (h.rdr.ext e)
theorem GF.oth {F:Nat->Prop}(h:GF L R m w nf n6 A6 c6 W)(hm:AF F W W')(h0:∀ b,F b->L+2<=b)(h6:∀ b,F b->AE A6≠some b)(hf:∀ b,F b->W.cell? ⟨L+1,0,none⟩≠none->∀ Af nf cf,W.cell? ⟨L+1,0,none⟩=some (.slice Af nf cf)->AE Af≠some b):GF L R m w nf n6 A6 c6 W':=by
 obtain⟨f,Af,cf,op,h1,h2,h3,h4,h5,h6',h7,h8,h9,h10,h11⟩:=h;have hc:=h6'.cell (j:=0) rfl;refine⟨f,Af,cf,op,h1,h2,h3,h4,h5.mod hm (fun e=>by have:=h0 _ e;omega),h6'.mod hm (fun e=>by have:=h0 _ e;omega),h7.mod hm (fun b hb e=>hf b e (by rw[hc];simp) _ _ _ hc hb),h8.mod hm (fun b hb e=>h6 b e hb),h9,h10.mod hm (fun b e=>by have:=h0 b e;omega),?_⟩;exact h11.tr hm (fun b e=>.inr (by have:=h0 b e;omega))
theorem GF.f (h:GF L R m w nf n6 A6 c6 W):∃ (f:List Sg.At) (Af:Option Addr) (cf:Nat),f.length=nf/\W.cell? ⟨L+1,0,none⟩=some (.slice Af nf cf)/\W.frozen? ⟨L+1,0,none⟩=false/\Au W (L+2) 111 5 Af nf cf (AH f)/\(∀ b,AE Af=some b->AE A6≠some b):=by
 obtain⟨f,Af,cf,op,h1,h2,h3,h4,h5,h6,h7,h8,h9,h10,h11⟩:=h;exact⟨f,Af,cf,h1,h6.cell (j:=0) rfl,h6.free 0,h7,h9⟩
theorem GF.res (h:GF L R m w nf n6 A6 c6 W):Bx W L [.slice none 0 0]:=by
 obtain⟨f,Af,cf,op,h1,h2,h3,h4,h5,h6,h7,h8,h9,h10,h11⟩:=h;exact h5
theorem GF.op (h:GF L R m w nf n6 A6 c6 W):∃ op:List Int,op.length=n6/\Au W (L+2) 3 1 A6 n6 c6 (Ah op):=by
 obtain⟨f,Af,cf,op,h1,h2,h3,h4,h5,h6,h7,h8,h9,h10,h11⟩:=h;exact⟨op,h2,h8⟩
theorem GF.at_ (h:GF L R m w nf n6 A6 c6 W)(j:Nat)(hj:j<n6):∃ b x,A6=some ⟨b,0,none⟩/\W.cell? ⟨b,j,none⟩=some (.int .i64 x)/\L+2<=b:=by
 obtain⟨op,h1,h2⟩:=h.op;obtain⟨b,rfl,hb⟩:=h2.at_ (by omega);obtain⟨x,hx⟩:∃ x,op[j]? = some x:=⟨_,gg (by omega)⟩;exact⟨b,x,rfl,h2.cell (by rw[CB,hx];rfl),hb⟩
theorem GF.cut (h:GF L R m w nf n6 A6 c6 W)(k:Nat)(hk:k<=n6):GF L R m w nf k A6 c6 W:=by
 obtain⟨f,Af,cf,op,h1,h2,h3,h4,h5,h6,h7,h8,h9,h10,h11⟩:=h;have:=h8.fewer k hk;rw[Oe] at this;exact⟨f,Af,cf,op.take k,h1,by simp;omega,h3,h4,h5,h6,h7,this,h9,h10,h11⟩
theorem GF.room (h:GF L R m w nf n6 A6 c6 W):n6<=c6/\c6<=maxLen:=by
 obtain⟨op,h1,h2⟩:=h.op;exact⟨h2.2.1,h2.2.2.1⟩
theorem GF.push {A':Option Addr}{c':Nat}{op:List Int}(h:GF L R m w nf n6 A6 c6 W)(x:Int)(ho:Au W' (L+2) 3 1 A' (n6+1) c' (Ah op++[.int .i64 x]))(hl:op.length=n6)(hg:W.grownBy W' (AE A6))(hat:AE A'=AE A6\/∃ g,AE A'=some g/\W.heap.size<=g):GF L R m w nf (n6+1) A' c' W':=by
 have hlt:=fun b hb=>h.lt (b:=b) hb;obtain⟨f,Af,cf,op0,h1,h2,h3,h4,h5,h6,h7,h8,h9,h10,h11⟩:=h;rw[ints_snoc] at ho;refine⟨f,Af,cf,op++[x],h1,by simp[hl],h3,h4,h5.gr hg (fun e=>by have:=(hlt _ e).1;omega),h6.gr hg (fun e=>by have:=(hlt _ e).1;omega),K7 h7 hg (fun b hb e=>h9 b e hb),ho,?_,h10.gr hg (fun b hb=>by have:=(hlt b hb).1;omega),h11.gr hg (fun b hb=>.inr (by have:=(hlt b hb).1;omega))⟩;intro b hb hb';rcases hat with hat | ⟨g,hg',hle⟩
 ·rw[hat] at hb';exact h9 b hb hb'
 ·rw[hg'] at hb';injection hb' with hb';subst hb';have:=(h7.lt hb).2;omega
theorem GF.part {f:List Sg.At}{Af A':Option Addr}{cf c':Nat}(h:GF L R m w nf n6 A6 c6 W)(hc:W.cell? ⟨L+1,0,none⟩=some (.slice Af nf cf))(hfl:f.length=nf)(p:Sg.At)(ho:Au W' (L+2) 111 5 A' (nf+1) c' (AH f++Dn p))(hg:W.grownBy W' (AE Af))(hat:AE A'=AE Af\/∃ g,AE A'=some g/\W.heap.size<=g):GF L R m w (nf+1) n6 A6 c6 (W'.setCell ⟨L+1,0,none⟩ (.slice A' (nf+1) c')):=by
 obtain⟨f0,Af0,cf0,op,h1,h2,h3,h4,h5,h6,h7,h8,h9,h10,h11⟩:=h;have hc0:=h6.cell (j:=0) rfl;rw[hc] at hc0;simp only[Option.some.injEq,Value.slice.injEq,true_and] at hc0;obtain⟨rfl,rfl⟩:=hc0;have hlt:=fun b hb=>h7.lt (g:=b) hb;have g5:=h5.gr hg (fun e=>by have:=(hlt _ e).1;omega);have g6:=h6.gr hg (fun e=>by have:=(hlt _ e).1;omega);have g8:=K7 h8 hg (fun b hb e=>h9 b hb e);have g10:=h10.gr hg (fun b hb=>by have:=(hlt b hb).1;omega);have g11:=h11.gr hg (fun b hb=>.inr (by have:=(hlt b hb).1;omega));rw[Se] at ho;refine⟨f++[p],A',c',op,by simp[hfl],h2,h3,h4,g5.oth (show L+1≠L by omega) _,by have:=g6.set 0 (.slice A' (nf+1) c');simpa using this,ho.set (fun e=>by have:=(ho.lt e).1;simp at this) _,g8.set (fun e=>by have:=(g8.lt e).1;simp at this) _,?_,?_,?_⟩
 ·intro b hb hb';rcases hat with hat | ⟨g,hg',hle⟩
  ·rw[hat] at hb;exact h9 b hb hb'
  ·rw[hg'] at hb;injection hb with hb;subst hb;have:=(h8.lt hb').2;omega
 ·exact g10.mod (F:=fun b=>b=L+1) (AF.set (F:=fun b=>b=L+1) (AF.rfl' (fun b=>b=L+1) W') (p:=⟨L+1,0,none⟩) (.inl rfl) _) (fun b e=>by omega)
 ·exact g11.set (p:=⟨L+1,0,none⟩) (.inr (show w.heap.size<=L+1 by omega)) _
end
theorem I4 (p:Sg.At):∀ u ∈ Dn p,u.oneCell'=true:=by
 intro u hu;simp[Dn] at hu
 rcases hu with rfl | rfl | rfl | rfl | rfl <;> rfl
open Go.RowKit
theorem Su (B:Nat)(Aq:Option Addr)(cq n:Nat)(q:List Int):Xv Tryz.prog 94 [.pointer (some ⟨B,0,none⟩)] (fun w=>w.cell? ⟨B,2,none⟩=some (.slice Aq n cq)/\Rd w 1 Aq n (Ah q)) (fun k=>Sg.rd q k != 0) (fun k=>0<=k/\k<n) where
 ent:=GZ Tryz.func94 rfl (by kernel_rfl)
 call:=fun w k h hk=>by
  obtain⟨h1,h3⟩:=h;obtain⟨j,rfl⟩:=Int.eq_ofNat_of_zero_le hk.1;have hj:j<n:=by omega
  have hb:=h3.big;obtain⟨ba,oa,x,rfl,hx,hcx⟩:=h3.at1 hj;have HP:=lh (show (Sg.rd q j != 0)=(x != 0) by simp[Sg.rd,hx]);have hb1:=AA h1;clear hx h3 hk;go_enter Tryz.func94,Tryz.ntmps94;go_wp2;go_ret;exact⟨Aj (by rw[HP.out]),Aa.rfl' _⟩
 ext:=fun _ _ h e=>⟨e.cellE h.1,h.2.ext e⟩
set_option maxRecDepth 100000 in
set_option maxHeartbeats 2000000 in
theorem Uj (A Av Ar Aq:Option Addr)(c cv cr cq:Nat)(g:Sg.Ae)(v q:List Int)(r:List (List Int))(w:World)(h:Eg w A g)(hv:Rd w 1 Av v.length (Ah v))(hr:Ex w Ar r)(hq:Rd w 1 Aq q.length (Ah q))(hvl:v.length<=1048576)(hql:q.length<=1048576) :
  Calls Tryz.prog 55 #[.agg #[.slice A g.length c],.agg #[.slice Av v.length cv,.slice Ar r.length cr,.slice Aq q.length cq]] w fun e w'=>∃ A' c',e= .returned (.slice A' (Sg.BP g ⟨v,r,q⟩).length c')/\Au w' w.heap.size 3 1 A' (Sg.BP g ⟨v,r,q⟩).length c' (Ah (Sg.BP g ⟨v,r,q⟩))/\Aa w w':=by
 have hgl:=h.1;have HV:=lh (fun w h hv hr hq=>Lw A Av Ar Aq c cv cr cq g v q r w h hv hr hq hvl hql);have H:=lh h;have Hv:=lh hv;have Hr:=lh hr;have Hq:=lh hq;clear h hv hr hq;have E0:=lh ((((Aa.rfl' w).al (.cells #[.slice A g.length c] 35)).al (.cells #[.slice Av v.length cv,.slice Ar r.length cr,.slice Aq q.length cq] 44)):Aa w (World.alloc (World.alloc w (.cells #[.slice A g.length c] 35)) (.cells #[.slice Av v.length cv,.slice Ar r.length cr,.slice Aq q.length cq] 44)));have qlg:World.cell? (World.alloc (World.alloc w (.cells #[.slice A g.length c] 35)) (.cells #[.slice Av v.length cv,.slice Ar r.length cr,.slice Aq q.length cq] 44)) ⟨w.heap.size,0,none⟩=some (.slice A g.length c):=by simp[go_sem]
 have Qlg:=lh qlg;clear qlg;have qlv:World.cell? (World.alloc (World.alloc w (.cells #[.slice A g.length c] 35)) (.cells #[.slice Av v.length cv,.slice Ar r.length cr,.slice Aq q.length cq] 44)) ⟨w.heap.size+1,0,none⟩=some (.slice Av v.length cv):=by simp[go_sem]
 have Qlv:=lh qlv;clear qlv;have qlr:World.cell? (World.alloc (World.alloc w (.cells #[.slice A g.length c] 35)) (.cells #[.slice Av v.length cv,.slice Ar r.length cr,.slice Aq q.length cq] 44)) ⟨w.heap.size+1,1,none⟩=some (.slice Ar r.length cr):=by simp[go_sem]
 have Qlr:=lh qlr;clear qlr;have qlq:World.cell? (World.alloc (World.alloc w (.cells #[.slice A g.length c] 35)) (.cells #[.slice Av v.length cv,.slice Ar r.length cr,.slice Aq q.length cq] 44)) ⟨w.heap.size+1,2,none⟩=some (.slice Aq q.length cq):=by simp[go_sem]
 have Qlq:=lh qlq;clear qlq;cases hE:Sg.AM g ⟨v,r,q⟩
 ·have HE:=lh hE;have HS:=lh (show Sg.BP g ⟨v,r,q⟩=[] by unfold Sg.BP;rw[hE];rfl);clear hE;go_enter Tryz.func55,Tryz.ntmps55;go_wp2_with fail
  refine(HV.out _ (H.out.ext E0.out) (Hv.out.ext E0.out) (Hr.out.ext E0.out) (Hq.out.ext E0.out)).mono ?_;rintro e w1 ⟨rfl,he1⟩;rw[HE.out];have U1:=lh ((Aa.rfl' (World.alloc (World.alloc w (.cells #[.slice A g.length c] 35)) (.cells #[.slice Av v.length cv,.slice Ar r.length cr,.slice Aq q.length cq] 44))).tr he1);have E1:=lh (E0.out.tr U1.out);have lg_1:=U1.out.cellE Qlg.out;have lv_1:=U1.out.cellE Qlv.out;have lr_1:=U1.out.cellE Qlr.out;have lq_1:=U1.out.cellE Qlq.out;clear he1 ;have blg_1:=AA lg_1;have blv_1:=AA lv_1;have blr_1:=AA lr_1;have blq_1:=AA lq_1;go_wp2;go_ret;rw[HS.out];exact⟨none,0,rfl,Au.nil _ _ _ _,E1.out⟩
 ·have HE:=lh hE;have HS:=lh (show Sg.BP g ⟨v,r,q⟩=Sg.Cm (fun i=>Sg.rd q (i:Int) != 0) g.length by unfold Sg.BP;rw[hE];rfl);have hqg:q.length=g.length:=by unfold Sg.AM Sg.Dq at hE;simp only[Bool.and_eq_true,decide_eq_true_eq] at hE;exact hE.1.1.2
  have Hqg:=lh hqg;clear hE hqg;go_enter Tryz.func55,Tryz.ntmps55;go_wp2_with fail
  refine(HV.out _ (H.out.ext E0.out) (Hv.out.ext E0.out) (Hr.out.ext E0.out) (Hq.out.ext E0.out)).mono ?_;rintro e w1 ⟨rfl,he1⟩;rw[HE.out];have U1:=lh ((Aa.rfl' (World.alloc (World.alloc w (.cells #[.slice A g.length c] 35)) (.cells #[.slice Av v.length cv,.slice Ar r.length cr,.slice Aq q.length cq] 44))).tr he1);have E1:=lh (E0.out.tr U1.out);have lg_1:=U1.out.cellE Qlg.out;have lv_1:=U1.out.cellE Qlv.out;have lr_1:=U1.out.cellE Qlr.out;have lq_1:=U1.out.cellE Qlq.out;clear he1 ;have blg_1:=AA lg_1;have blv_1:=AA lv_1;have blr_1:=AA lr_1;have blq_1:=AA lq_1;go_wp2_with fail
  refine(Wy (Su (w.heap.size+1) Aq cq q.length q) A g.length c _ ⟨lq_1,Hq.out.ext E1.out⟩ (fun k hk=>⟨by omega,by rw[Hqg.out];omega⟩) hgl).mono ?_;rintro e w2 ⟨A7,rfl,ho7,he2⟩;have Ho7:=lh ho7;clear ho7;have U2:=lh ((Aa.rfl' w1).tr he2);have E2:=lh (E1.out.tr U2.out);have lg_2:=U2.out.cellE lg_1;have lv_2:=U2.out.cellE lv_1;have lr_2:=U2.out.cellE lr_1;have lq_2:=U2.out.cellE lq_1;clear he2 lg_1 lv_1 lr_1 lq_1 blg_1 blv_1 blr_1 blq_1;have blg_2:=AA lg_2;have blv_2:=AA lv_2;have blr_2:=AA lr_2;have blq_2:=AA lq_2;have z6:=E1.out.size;go_wp2;go_ret;rw[HS.out];exact⟨A7,_,rfl,Ho7.out.mono z6,E2.out⟩
end Go.Proofs.YthibllkleakiiaaGreatDoor
