/- Parts of one proof, joined. StartEager of the program and of the reference: contracts. Conditions: bounds on lengths. The program's MustRun: its contract. Conditions: bounds on lengths. -/
import Derived.Test.YtgojnefiephafaaGreatMeanAll
namespace Go.Proofs.YtgojnefiephafaaGreat
open Go.RowKit
end Go.Proofs.YtgojnefiephafaaGreat
namespace Go.Proofs.YtgojnefiephafaaGreat
open Go.RowKit
set_option maxHeartbeats 1000000 in
theorem i_MustRun (A Aa Ab:Option Addr) (c ca cb:Nat) (g:Sg.Graph) (a b:List Int) (w:World) (h:RdN w A g) (ha:Rd w 1 Aa a.length (ints a)) (hb:Rd w 1 Ab b.length (ints b)) :
  Calls Tryz.prog 54 #[.agg #[.slice A g.length c],.slice Aa a.length ca,.slice Ab b.length cb] w fun e w'=>∃ A1,e = .returned (.slice A1 (Sg.mustOr g a b).length (Sg.mustOr g a b).length)∧Own w' w.heap.size 3 1 A1 (Sg.mustOr g a b).length (Sg.mustOr g a b).length (ints (Sg.mustOr g a b))∧Ext w w':=by
 have hgl:=h.1;have e0:=(Ext.rfl' w).al (.cells #[.slice A g.length c] 33);have HVA:=lh (i_ValidCells A Aa c ca g a);have HVB:=lh (i_ValidCells A Ab c cb g b);have q0:(w.alloc (.cells #[.slice A g.length c] 33)).cell? ⟨w.heap.size,0,none⟩=some (.slice A g.length c):=by simp [go_sem]
 have HE:=lh e0;have H:=lh h;have Ha:=lh ha;have Hb:=lh hb;have Q0:=lh q0;clear e0 h ha hb q0;cases hA:(Sg.validG g && Sg.validC g a)
 ·have HA:=lh hA;have hS:Sg.mustOr g a b=[]:=by unfold Sg.mustOr;rw [hA];rfl
  have HS:=lh hS;clear hS hA;go_enter Tryz.func54,Tryz.ntmps54;go_wp2_with fail
  refine (HVA.out _ (H.out.ext HE.out) (Ha.out.ext HE.out)).mono ?_;rintro e w1 ⟨rfl,he1⟩;rw [HA.out];have k1:=(he1).cellE Q0.out;go_wp2;go_ret;rw [HS.out];exact ⟨none,rfl,Own.nil _ _ _ _,(HE.out.tr he1)⟩
 have HA:=lh hA;simp only [Bool.and_eq_true] at hA;cases hB:(Sg.validG g && Sg.validC g b)
 ·have HB:=lh hB;have hS:Sg.mustOr g a b=[]:=by unfold Sg.mustOr;rw [hA.1,hA.2];rw [hA.1] at hB;simp only [Bool.true_and] at hB ⊢;rw [hB];rfl
  have HS:=lh hS;clear hS hA hB;go_enter Tryz.func54,Tryz.ntmps54;go_wp2_with fail
  refine (HVA.out _ (H.out.ext HE.out) (Ha.out.ext HE.out)).mono ?_;rintro e w1 ⟨rfl,he1⟩;rw [HA.out];have k1:=(he1).cellE Q0.out;go_wp2_with fail
  refine (HVB.out _ (H.out.ext (HE.out.tr he1)) (Hb.out.ext (HE.out.tr he1))).mono ?_;rintro e w2 ⟨rfl,he2⟩;rw [HB.out];have k2:=((he1.tr he2)).cellE Q0.out;go_wp2;go_ret;rw [HS.out];exact ⟨none,rfl,Own.nil _ _ _ _,((HE.out.tr he1).tr he2)⟩
 have HB:=lh hB;simp only [Bool.and_eq_true] at hB;have hS:Sg.mustOr g a b=Sg.whichL (Sg.mustAt g (Sg.mean g a) (Sg.mean g b)) g.length:=by unfold Sg.mustOr;rw [hA.1,hA.2,hB.2];rfl
 have HS:=lh hS;have HMA:=lh (fun w h hc=>i_meaning A Aa c ca g a w h hc hA.1 hA.2);have HMB:=lh (fun w h hc=>i_meaning A Ab c cb g b w h hc hA.1 hB.2)
 have hx2:∀ x ∈ Sg.depsTo g (Sg.mean g a) g.length,x.length≤1048576:=fun x hx=>by
  unfold Sg.depsTo at hx;obtain ⟨i,hi,rfl⟩:=List.mem_map.1 hx;exact Nat.le_trans (Sg.depAt_len hA.1 _ (List.mem_range.1 hi)) (by omega)
 have HX2:=lh hx2;have HG:=lh hA.1;clear hA hB hS hx2;generalize Sg.mean g a=X at *;generalize Sg.mean g b=Y at *;go_enter Tryz.func54,Tryz.ntmps54;go_wp2_with fail
 refine (HVA.out _ (H.out.ext HE.out) (Ha.out.ext HE.out)).mono ?_;rintro e w1 ⟨rfl,he1⟩;rw [HA.out];have k1:=(he1).cellE Q0.out;go_wp2_with fail
 refine (HVB.out _ (H.out.ext (HE.out.tr he1)) (Hb.out.ext (HE.out.tr he1))).mono ?_;rintro e w2 ⟨rfl,he2⟩;rw [HB.out];have k2:=((he1.tr he2)).cellE Q0.out;go_wp2_with fail
 refine (HMA.out _ (H.out.ext ((HE.out.tr he1).tr he2)) (Ha.out.ext ((HE.out.tr he1).tr he2))).mono ?_;rintro e w3 ⟨Ax,Ar,hs,rfl,hox,hor,hdx,he3⟩;have k3:=he3.cellE k2;have E3:=lh ((((HE.out.tr he1).tr he2).tr he3));have Hrx:=lh hox.rd;have Hor:=lh hor;have b3:=blt k3;clear he1 he2 k1 k2 hox hdx hor he3;obtain ⟨W4,hW4⟩:∃ W4,W4=((w3.alloc (.cells #[.slice Ax g.length g.length] 25)).alloc (.cells #[.slice Ar g.length g.length] 92)):=⟨_,rfl⟩;have e4:Ext w3 W4:=by rw [hW4];exact ((Ext.rfl' w3).al _).al _
 have k4:=e4.cellE k3;have kx4:W4.cell? ⟨w3.heap.size,0,none⟩=some (.slice Ax g.length g.length):=by rw [hW4];simp [go_sem]
 have kr4:W4.cell? ⟨w3.heap.size + 1,0,none⟩=some (.slice Ar g.length g.length):=by rw [hW4];simp [go_sem]
 go_wp2_with fail
 rw [← hW4];refine (HMB.out _ (H.out.ext (E3.out.tr e4)) (Hb.out.ext (E3.out.tr e4))).mono ?_;rintro e w5 ⟨Ay,Ar2,hs2,rfl,hoy,hor2,hdx,he5⟩;have k5:=he5.cellE k4;have kx5:=he5.cellE kx4;have kr5:=he5.cellE kr4;have b5:=blt kr5;have b50:=blt k5;have E5:=lh ((E3.out.tr e4).tr he5);have Hrx5:=lh (Hrx.out.ext (e4.tr he5));have Hor5:=lh (Hor.out.ext (e4.tr he5));have Hry5:=lh hoy.rd;clear hW4 e4 k4 kx4 kr4 he5 hoy hor2 hdx;obtain ⟨W6,hW6⟩:∃ W6,W6=w5.alloc (.cells #[.slice Ay g.length g.length] 25):=⟨_,rfl⟩;have e6:Ext w5 W6:=by rw [hW6];exact (Ext.rfl' w5).al _
 have ky6:W6.cell? ⟨w5.heap.size,0,none⟩=some (.slice Ay g.length g.length):=by rw [hW6];simp [go_sem]
 have HI:MInv w.heap.size w3.heap.size w5.heap.size (w3.heap.size + 1) A Ax Ay Ar c g.length g.length g.length g X Y W6:=⟨e6.cellE k5,⟨e6.cellE kx5,ky6,Hrx5.out.ext e6,Hry5.out.ext e6⟩,e6.cellE kr5,H.out.ext (E5.out.tr e6),(OwnL.rdL Hor5.out (by simpa using hgl) HX2.out).ext e6⟩;have HWH:=i_which (prd_must1 w.heap.size w3.heap.size w5.heap.size (w3.heap.size + 1) A Ax Ay Ar c g.length g.length g.length g X Y HG.out) A g.length c W6 HI (fun k hk=>⟨by omega,by omega⟩) hgl;simp only [Int.toNat_natCast] at HWH;have HWW:=lh HWH;have E6:=lh (E5.out.tr e6);have z6:w.heap.size≤W6.heap.size:=E6.out.size;clear HWH HI e6 ky6 kx5 kr5;go_wp2_with fail
 rw [← hW6];refine HWW.out.mono ?_;rintro e w7 ⟨A7,rfl,ho7,he7⟩;have Ho7:=lh ho7;have E7:=lh (E6.out.tr he7);clear ho7 he7 hW6;go_wp2;go_ret;rw [HS.out];exact ⟨A7,rfl,Ho7.out.mono z6,E7.out⟩
end Go.Proofs.YtgojnefiephafaaGreat
