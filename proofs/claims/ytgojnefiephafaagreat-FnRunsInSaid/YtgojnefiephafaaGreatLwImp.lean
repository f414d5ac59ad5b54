/- Parts of one proof, joined. StartEager of the program and of the reference: contracts. Conditions: bounds on lengths. The program's MustRun: its contract. Conditions: bounds on lengths. -/
import Derived.Test.YtgojnefiephafaaGreatMeanAll
namespace Go.Proofs.YtgojnefiephafaaGreat
open Go.RowKit
set_option maxHeartbeats 1000000 in
theorem i_StartEager (A Ac:Option Addr) (c cc:Nat) (g:Sg.Graph) (l:List Int) (w:World) (h:RdN w A g) (hc:Rd w 1 Ac l.length (ints l)) :
  Calls Tryz.prog 103 #[.agg #[.slice A g.length c],.slice Ac l.length cc] w fun e w'=>∃ A1 A2 hs,e = .returned (.agg #[.slice A1 (startOr g l).vals.length (startOr g l).vals.length,.slice A2 (startOr g l).reads.length (startOr g l).reads.length]) ∧
   OwnE w' w.heap.size A1 (startOr g l).vals.length A2 (startOr g l).reads.length hs (startOr g l)∧Ext w w':=by
 have e0:=((Ext.rfl' w).al (.cells #[.slice A g.length c] 33)).al (.cells #[.slice none 0 0,.slice none 0 0] 139);have HVC:=lh (i_ValidCells A Ac c cc g l);have q0:((w.alloc (.cells #[.slice A g.length c] 33)).alloc (.cells #[.slice none 0 0,.slice none 0 0] 139)).cell? ⟨w.heap.size,0,none⟩=some (.slice A g.length c):=by simp [go_sem]
 have r0:((w.alloc (.cells #[.slice A g.length c] 33)).alloc (.cells #[.slice none 0 0,.slice none 0 0] 139)).cell? ⟨w.heap.size + 1,0,none⟩=some (.slice none 0 0):=by simp [go_sem]
 have r1:((w.alloc (.cells #[.slice A g.length c] 33)).alloc (.cells #[.slice none 0 0,.slice none 0 0] 139)).cell? ⟨w.heap.size + 1,1,none⟩=some (.slice none 0 0):=by simp [go_sem]
 have rf:∀ j,((w.alloc (.cells #[.slice A g.length c] 33)).alloc (.cells #[.slice none 0 0,.slice none 0 0] 139)).frozen? ⟨w.heap.size + 1,j,none⟩=false:=fun j=>by simp [go_sem]
 have HE:=lh e0;have H:=lh h;have Hc:=lh hc;have Q0:=lh q0;have R0:=lh r0;have R1:=lh r1;have RF:=lh rf;clear e0 h hc q0 r0 r1 rf;cases hV:(Sg.validG g && Sg.validC g l)
 ·have HV:=lh hV;have hS:startOr g l=⟨[],[]⟩:=by unfold startOr;rw [hV];rfl
  have HS:=lh hS;clear hV hS;go_enter Tryz.func103,Tryz.ntmps103;go_wp2_with (go_at_call 27;refine (HVC.out _ (H.out.ext HE.out) (Hc.out.ext HE.out)).mono ?_;rintro e w1 ⟨rfl,he1⟩;rw [HV.out];have t0:=he1.cellE R0.out;have t1:=he1.cellE R1.out;have tb:=blt t0;have tf0:=(he1.frozen (p:=⟨w.heap.size + 1,0,none⟩) (by simp)).trans (RF.out 0);have tf1:=(he1.frozen (p:=⟨w.heap.size + 1,1,none⟩) (by simp)).trans (RF.out 1))
  have g0:∀ u v:Value,((w1.setCell ⟨w.heap.size + 1,0,none⟩ u).setCell ⟨w.heap.size + 1,1,none⟩ v).cell? ⟨w.heap.size + 1,0,none⟩=some u:=fun u v=>(co).trans (World.cell?_setCell_same _ _ _ t0);have g1:∀ u v:Value,((w1.setCell ⟨w.heap.size + 1,0,none⟩ u).setCell ⟨w.heap.size + 1,1,none⟩ v).cell? ⟨w.heap.size + 1,1,none⟩=some v:=fun u v=>World.cell?_setCell_same _ _ _ (u := .slice none 0 0) ((co).trans t1);refine bodyPost_ret (v := .agg #[.slice none 0 0,.slice none 0 0]) (by simp [results,Tryz.results103,go_sem,g0,g1];try rfl) rfl ?_;rw [HS.out];exact ⟨none,none,[],rfl,OwnE.nil _ _,((HE.out.tr he1).set (by simp) _).set (by simp) _⟩
 ·have HV:=lh hV;have hS:startOr g l=Sg.startE g l:=by unfold startOr;rw [hV];rfl
  have HS:=lh hS;simp only [Bool.and_eq_true] at hV;have HM:=lh (fun w h hc=>i_meaning A Ac c cc g l w h hc hV.1 hV.2);clear hV hS;go_enter Tryz.func103,Tryz.ntmps103;go_wp2_with (go_at_call 27;refine (HVC.out _ (H.out.ext HE.out) (Hc.out.ext HE.out)).mono ?_;rintro e w1 ⟨rfl,he1⟩;rw [HV.out];have k0:=he1.cellE Q0.out;have t0:=he1.cellE R0.out;have t1:=he1.cellE R1.out;have tb:=blt t0;have tf0:=(he1.frozen (p:=⟨w.heap.size + 1,0,none⟩) (by simp)).trans (RF.out 0);have tf1:=(he1.frozen (p:=⟨w.heap.size + 1,1,none⟩) (by simp)).trans (RF.out 1))
  refine (HM.out _ (H.out.ext (HE.out.tr he1)) (Hc.out.ext (HE.out.tr he1))).mono ?_;rintro e w2 ⟨A1,A2,hs,rfl,ho1,ho2,hd,he2⟩;have s0:=he2.cellE t0;have s1:=he2.cellE t1;have sb:=blt s0;have sf0:=(he2.frozen (p:=⟨w.heap.size + 1,0,none⟩) tb).trans tf0;have sf1:=(he2.frozen (p:=⟨w.heap.size + 1,1,none⟩) tb).trans tf1;have Ho1:=lh ho1;have Ho2:=lh ho2;have Hd:=lh hd;have E2:=lh ((HE.out.tr he1).tr he2);clear ho1 ho2 hd he1 he2 k0 t0 t1 tf0 tf1;go_wp2;have g0:∀ u v:Value,((w2.setCell ⟨w.heap.size + 1,0,none⟩ u).setCell ⟨w.heap.size + 1,1,none⟩ v).cell? ⟨w.heap.size + 1,0,none⟩=some u:=fun u v=>(co).trans (World.cell?_setCell_same _ _ _ s0);have g1:∀ u v:Value,((w2.setCell ⟨w.heap.size + 1,0,none⟩ u).setCell ⟨w.heap.size + 1,1,none⟩ v).cell? ⟨w.heap.size + 1,1,none⟩=some v:=fun u v=>World.cell?_setCell_same _ _ _ (u := .slice none 0 0) ((co).trans s1);refine bodyPost_ret (v := .agg #[.slice A1 g.length g.length,.slice A2 g.length g.length]) (by simp [results,Tryz.results103,go_sem,g0,g1];try rfl) rfl ?_;rw [HS.out];have l1:(Sg.startE g l).vals.length=g.length:=by simp [Sg.startE]
  have l2:(Sg.startE g l).reads.length=g.length:=by simp [Sg.startE]
  have hn:∀ b,b<w1.heap.size→blk A1≠some b:=fun b hb e=>by have:=(Ho1.out.lt e).1;omega
  rw [l1,l2];refine ⟨A1,A2,hs,rfl,⟨?_,?_,Hd.out⟩,(E2.out.set (by simp) _).set (by simp) _⟩
  ·rw [l1];exact ((Ho1.out.set (p:=⟨w.heap.size + 1,0,none⟩) (hn _ tb) _).set (p:=⟨w.heap.size + 1,1,none⟩) (hn _ tb) _).mono (by omega)
  ·exact ((Ho2.out.below (p:=⟨w.heap.size + 1,0,none⟩) tb _).below (p:=⟨w.heap.size + 1,1,none⟩) tb _).mono (by omega)
end Go.Proofs.YtgojnefiephafaaGreat
namespace Go.Proofs.YtgojnefiephafaaGreat
open Go.RowKit
end Go.Proofs.YtgojnefiephafaaGreat
