/- Parts of one proof, joined. FnExactRunsIn: the law's walk, given the contracts of both functions. Conditions: the arguments can be read. FnExactRunsIn: the law's walk with the contracts of both functions. Conditions: the arguments can be read. -/
import Derived.Test.YtgojnefiephafaaGreatLwSs
import Derived.Test.YtgojnefiephafaaGreatSesN
namespace Go.Proofs.YtgojnefiephafaaGreat
open Go.RowKit
set_option maxRecDepth 100000 in
set_option maxHeartbeats 16000000 in
theorem l_FnExactRunsIn (A0:Option Addr) (c0:Nat) (g:Sg.Graph) (A1:Option Addr) (c1:Nat) (l1:List Int) (A2:Option Addr) (c2:Nat) (l2:List Sg.Act) (s0:Int) (s1:Int) 
  (hS:(∀ (B0:Option Addr) (d0:Nat) (B1:Option Addr) (d1:Nat) (B2:Option Addr) (d2:Nat) (w:World),RdN w B0 g→Rd w 1 B1 l1.length (ints l1)→Rd w 3 B2 l2.length (acts l2)→l1.length≤1048576→l2.length≤1048576→Calls Tryz.prog 33 #[.agg #[.slice B0 g.length d0],.slice B1 l1.length d1,.slice B2 l2.length d2] w fun e w'=>e = .returned (.tuple #[.int .i64 s0,.int .i64 s1])∧Ext w w'))
  (hI:(∀ (B0:Option Addr) (d0:Nat) (B1:Option Addr) (d1:Nat) (B2:Option Addr) (d2:Nat) (w:World),RdN w B0 g→Rd w 1 B1 l1.length (ints l1)→Rd w 3 B2 l2.length (acts l2)→l1.length≤1048576→l2.length≤1048576→Calls Tryz.prog 32 #[.agg #[.slice B0 g.length d0],.slice B1 l1.length d1,.slice B2 l2.length d2] w fun e w'=>e = .returned (.tuple #[.int .i64 s0,.int .i64 s1])∧Ext w w'))
  (w:World) (h0:RdN0 w A0 g) (h1:Rd w 1 A1 l1.length (ints l1)) (h2:Rd w 3 A2 l2.length (acts l2)) :
  Calls Tryz.prog 7 #[.agg #[.slice A0 g.length c0],.slice A1 l1.length c1,.slice A2 l2.length c2] w fun e w'=>e = .returned (.bool true)∧Ext w w':=by
 have E0:=lh (((Ext.rfl' w).al (.cells #[.slice A0 g.length c0] 24)):Ext w (World.alloc w (.cells #[.slice A0 g.length c0] 24)));have big1:=h1.big;have big2:=h2.big;have HZG:=lh (fun w h=>l_szGraph A0 c0 g 1048576 w h (Nat.le_refl _));have H0:=lh h0;have H1:=lh h1;have H2:=lh h2;clear h0 h1 h2;by_cases len1:1048576<l1.length
 ·go_enter Tryz.func7,Tryz.ntmps7;go_wp2;go_ret;exact ⟨rfl,E0.out⟩
 have le1:l1.length≤1048576:=by omega
 clear len1;rcases Sg.szL_neg (g.map (fun n=>n.f.length)) 1048576 with hs | hs
 ·have Hs:=lh hs;clear hs;go_enter Tryz.func7,Tryz.ntmps7;go_wp2_with (go_at_call 8;refine (HZG.out _ (H0.out.ext E0.out)).mono ?_;rintro e w1 ⟨rfl,he1⟩;rw [Hs.out])
  go_ret;exact ⟨rfl,E0.out.tr he1⟩
 have hto:=totN_le g 1048576 hs;obtain ⟨hgl,hfl,M,hM,hs⟩:=Sg.szL_ok _ _ hs;have HN:=lh (H0.out.up2 (by simpa using hgl) (by simpa using hfl));have Hs:=lh hs;have hgl2:g.length≤1048576:=by simpa using hgl
 have Hfl:Hid (∀ n ∈ g,n.f.length≤1048576):=lh (by simpa using hfl);clear hgl hfl hs H0;have HZX:=lh (fun w (_:World)=>(l_szActS A2 l2.length c2 M w big2 hM).mono fun e w' hh=>(⟨hh.1,by have h2:=hh.2;subst h2;exact Ext.rfl' _⟩:e=_∧Ext w w'));rcases szI_neg l2.length M with hs | hs
 ·have Ht:=lh hs;clear hs;go_enter Tryz.func7,Tryz.ntmps7;go_wp2_with fail
  refine (HZG.out _ (HN.out.to0.ext E0.out)).mono ?_;rintro e w1 ⟨rfl,he1⟩;rw [Hs.out];have q0:=he1.cellE (show World.cell? (World.alloc w (.cells #[.slice A0 g.length c0] 24)) ⟨w.heap.size,0,none⟩=some (.slice A0 g.length c0) by simp [go_sem]);go_wp2_with fail
  refine (HZX.out _ w).mono ?_;rintro e w2 ⟨rfl,he2⟩;rw [Ht.out];go_wp2;go_ret;exact ⟨rfl,(E0.out.tr he1).tr he2⟩
 obtain ⟨hal,hs3⟩:=szI_ok l2.length M hs;have hal2:l2.length≤1048576:=by omega
 have Ht:=lh hs3;clear hs hs3 hal;have zne0:(s0 != s0)=false:=by simp
 have zne1:(s1 != s1)=false:=by simp
 have HS:=lh hS;have HI:=lh hI;clear hS hI ;have HT0:=lh (fun w h=>l_toGraph A0 c0 g w h);have HE0:=lh (fun A B w h k=>l_eqGraph A B g.length g.length g w h k);have HT1:=lh (fun w h=>l_toIntS A1 c1 l1 w h le1);have HE1:=lh (fun A B w h k=>l_eqIntS A B l1.length l1.length l1 w h k);have HT2:=lh (fun w h=>l_toActS A2 c2 l2 w h hal2);have HE2:=lh (fun A B w h k=>l_eqActS A B l2.length l2.length l2 w h k);have hne0:(s0 != s0)=false:=by simp
 have hne1:(s1 != s1)=false:=by simp
 go_enter Tryz.func7,Tryz.ntmps7;go_wp2_with fail
 refine (HZG.out _ (HN.out.to0.ext E0.out)).mono ?_;rintro e w1 ⟨rfl,hX1⟩;have ux1:=lh ((Ext.rfl' (World.alloc w (.cells #[.slice A0 g.length c0] 24))).tr hX1);have q1_0:=ux1.out.cellE (show World.cell? (World.alloc w (.cells #[.slice A0 g.length c0] 24)) ⟨w.heap.size,0,none⟩=some (.slice A0 g.length c0) by simp [go_sem]);have z1:=ux1.out.size;simp only [World.size_alloc] at z1;clear hX1 ;have b1_0:=blt q1_0;rw [Hs.out];go_wp2_with fail
 refine (HZX.out _ w).mono ?_;rintro e w2 ⟨rfl,hX2⟩;have ux2:=lh ((Ext.rfl' w1).tr hX2);have q2_0:=ux2.out.cellE q1_0;have z2:=ux2.out.size;clear hX2 q1_0 b1_0;have b2_0:=blt q2_0;rw [Ht.out];go_wp2_with fail
 refine (HT0.out _ (HN.out.ext ((E0.out.tr ux1.out).tr ux2.out))).mono ?_;rintro e w3 ⟨Xs0,hs0,rfl,ho,hX3⟩;have ux3:=lh ((Ext.rfl' w2).tr hX3);have q3_0:=ux3.out.cellE q2_0;have z3:=ux3.out.size;clear hX3 q2_0 b2_0;have b3_0:=blt q3_0;have Os0:=lh (ho);clear ho;go_wp2_with fail
 refine (HT1.out _ (H1.out.ext (((E0.out.tr ux1.out).tr ux2.out).tr ux3.out))).mono ?_;rintro e w4 ⟨Xs1,rfl,ho,hX4⟩;have ux4:=lh ((Ext.rfl' w3).tr hX4);have q4_0:=ux4.out.cellE q3_0;have z4:=ux4.out.size;clear hX4 q3_0 b3_0;have b4_0:=blt q4_0;have Os1:=lh (ho);clear ho;go_wp2_with fail
 refine (HT2.out _ (H2.out.ext ((((E0.out.tr ux1.out).tr ux2.out).tr ux3.out).tr ux4.out))).mono ?_;rintro e w5 ⟨Xs2,rfl,ho,hX5⟩;have ux5:=lh ((Ext.rfl' w4).tr hX5);have q5_0:=ux5.out.cellE q4_0;have z5:=ux5.out.size;clear hX5 q4_0 b4_0;have b5_0:=blt q5_0;have Os2:=lh (ho);clear ho;go_wp2_with fail
 refine (HS.out Xs0 g.length Xs1 l1.length Xs2 l2.length _ (OwnN.rdN (OwnD.ext Os0.out (((Ext.rfl' w3).tr ux4.out).tr ux5.out)) hgl2 Hfl.out) (Own.ext Os1.out ((Ext.rfl' w4).tr ux5.out)).rd (Own.ext Os2.out (Ext.rfl' w5)).rd le1 hal2).mono ?_;rintro e w6 ⟨rfl,hX6⟩;have ux6:=lh ((Ext.rfl' w5).tr hX6);have q6_0:=ux6.out.cellE q5_0;have z6:=ux6.out.size;clear hX6 q5_0 b5_0;have b6_0:=blt q6_0;go_wp2_with fail
 refine (HT0.out _ (HN.out.ext ((((((E0.out.tr ux1.out).tr ux2.out).tr ux3.out).tr ux4.out).tr ux5.out).tr ux6.out))).mono ?_;rintro e w7 ⟨Xx0,hx0,rfl,ho,hX7⟩;have ux7:=lh ((Ext.rfl' w6).tr hX7);have q7_0:=ux7.out.cellE q6_0;have z7:=ux7.out.size;clear hX7 q6_0 b6_0;have b7_0:=blt q7_0;have Ox0:=lh (ho);clear ho;go_wp2_with fail
 refine (HT1.out _ (H1.out.ext ((((((((E0.out.tr ux1.out).tr ux2.out).tr ux3.out).tr ux4.out).tr ux5.out).tr ux6.out).tr ux7.out).al (.cells #[.slice Xx0 g.length g.length] 33)))).mono ?_;rintro e w8 ⟨Xx1,rfl,ho,hX8⟩;have ux8:=lh (((Ext.rfl' w7).al (.cells #[.slice Xx0 g.length g.length] 33)).tr hX8);have q8_0:=ux8.out.cellE q7_0;have q8_1:=hX8.cellE (show World.cell? (World.alloc w7 (.cells #[.slice Xx0 g.length g.length] 33)) ⟨w7.heap.size,0,none⟩=some (.slice Xx0 g.length g.length) by simp [go_sem]);have z8:=ux8.out.size;have y8:w7.heap.size + 1≤w8.heap.size:=by have:=hX8.size;simpa using this
 clear hX8 q7_0 b7_0;have b8_0:=blt q8_0;have b8_1:=blt q8_1;have Ox1:=lh (ho);clear ho;go_wp2_with fail
 refine (HT2.out _ (H2.out.ext ((((((((E0.out.tr ux1.out).tr ux2.out).tr ux3.out).tr ux4.out).tr ux5.out).tr ux6.out).tr ux7.out).tr ux8.out))).mono ?_;rintro e w9 ⟨Xx2,rfl,ho,hX9⟩;have ux9:=lh ((Ext.rfl' w8).tr hX9);have q9_0:=ux9.out.cellE q8_0;have q9_1:=ux9.out.cellE q8_1;have z9:=ux9.out.size;clear hX9 q8_0 q8_1 b8_0 b8_1;have b9_0:=blt q9_0;have b9_1:=blt q9_1;have Ox2:=lh (ho);clear ho;go_wp2_with fail
 refine (HI.out Xx0 g.length Xx1 l1.length Xx2 l2.length _ (OwnN.rdN (OwnD.ext Ox0.out (((Ext.rfl' w7).tr ux8.out).tr ux9.out)) hgl2 Hfl.out) (Own.ext Ox1.out ((Ext.rfl' w8).tr ux9.out)).rd (Own.ext Ox2.out (Ext.rfl' w9)).rd le1 hal2).mono ?_;rintro e w10 ⟨rfl,hX10⟩;have ux10:=lh ((Ext.rfl' w9).tr hX10);have q10_0:=ux10.out.cellE q9_0;have q10_1:=ux10.out.cellE q9_1;have z10:=ux10.out.size;clear hX10 q9_0 q9_1 b9_0 b9_1;have b10_0:=blt q10_0;have b10_1:=blt q10_1;go_wp2_with fail
 have ec:=lh ((Ext.rfl' w10).dr)
 go_region_held3 (fun W=>W.cell? ⟨w.heap.size,0,none⟩=some (.slice A0 g.length c0)∧W.cell? ⟨w7.heap.size,0,none⟩=some (.slice Xx0 g.length g.length))
  (first | exact ⟨ec.out.cellE q10_0,ec.out.cellE q10_1⟩ | go_keep)
  (first
   | (go_at_call 11;refine (HT0.out _ (HN.out.ext (((((((((((E0.out.tr ux1.out).tr ux2.out).tr ux3.out).tr ux4.out).tr ux5.out).tr ux6.out).tr ux7.out).tr ux8.out).tr ux9.out).tr ux10.out).tr ec.out))).mono ?_;rintro e wy0 ⟨Xy0,hy0,rfl,hoy0,hey0⟩;have ed:=lh (ec.out.tr hey0);clear ec;have ec:=ed;clear ed)
   | (go_at_call 16;refine (HE0.out Xx0 Xy0 _ (OwnN.rdN (OwnD.ext Ox0.out (((((Ext.rfl' w7).tr ux8.out).tr ux9.out).tr ux10.out).tr ec.out)) hgl2 Hfl.out) (OwnN.rdN hoy0 hgl2 Hfl.out)).mono ?_;rintro e w11 ⟨rfl,hez⟩;have ed:=lh (ec.out.tr hez);clear ec;have ec:=ed;clear ed))
 have ux11:=lh ec.out;clear ec hey0 hez hoy0;have q11_0:=ux11.out.cellE q10_0;have q11_1:=ux11.out.cellE q10_1;have z11:=ux11.out.size;clear q10_0 q10_1 b10_0 b10_1;have b11_0:=blt q11_0;have b11_1:=blt q11_1;go_wp2_with fail
 refine (HT1.out _ (H1.out.ext (((((((((((E0.out.tr ux1.out).tr ux2.out).tr ux3.out).tr ux4.out).tr ux5.out).tr ux6.out).tr ux7.out).tr ux8.out).tr ux9.out).tr ux10.out).tr ux11.out))).mono ?_;rintro e w12 ⟨Xy1,rfl,ho,hX12⟩;have ux12:=lh ((Ext.rfl' w11).tr hX12);have q12_0:=ux12.out.cellE q11_0;have q12_1:=ux12.out.cellE q11_1;have z12:=ux12.out.size;clear hX12 q11_0 q11_1 b11_0 b11_1;have b12_0:=blt q12_0;have b12_1:=blt q12_1;have Oy1:=lh (ho);clear ho;go_wp2_with fail
 refine (HE1.out Xx1 Xy1 _ (Own.ext Ox1.out (((((Ext.rfl' w8).tr ux9.out).tr ux10.out).tr ux11.out).tr ux12.out)).rd (Own.ext Oy1.out (Ext.rfl' w12)).rd).mono ?_;rintro e w13 ⟨rfl,hX13⟩;have ux13:=lh ((Ext.rfl' w12).tr hX13);have q13_0:=ux13.out.cellE q12_0;have q13_1:=ux13.out.cellE q12_1;have z13:=ux13.out.size;clear hX13 q12_0 q12_1 b12_0 b12_1;have b13_0:=blt q13_0;have b13_1:=blt q13_1;go_wp2_with fail
 refine (HT2.out _ (H2.out.ext (((((((((((((E0.out.tr ux1.out).tr ux2.out).tr ux3.out).tr ux4.out).tr ux5.out).tr ux6.out).tr ux7.out).tr ux8.out).tr ux9.out).tr ux10.out).tr ux11.out).tr ux12.out).tr ux13.out))).mono ?_;rintro e w14 ⟨Xy2,rfl,ho,hX14⟩;have ux14:=lh ((Ext.rfl' w13).tr hX14);have q14_0:=ux14.out.cellE q13_0;have q14_1:=ux14.out.cellE q13_1;have z14:=ux14.out.size;clear hX14 q13_0 q13_1 b13_0 b13_1;have b14_0:=blt q14_0;have b14_1:=blt q14_1;have Oy2:=lh (ho);clear ho;go_wp2_with fail
 refine (HE2.out Xx2 Xy2 _ (Own.ext Ox2.out ((((((Ext.rfl' w9).tr ux10.out).tr ux11.out).tr ux12.out).tr ux13.out).tr ux14.out)).rd (Own.ext Oy2.out (Ext.rfl' w14)).rd).mono ?_;rintro e w15 ⟨rfl,hX15⟩;have ux15:=lh ((Ext.rfl' w14).tr hX15);have q15_0:=ux15.out.cellE q14_0;have q15_1:=ux15.out.cellE q14_1;have z15:=ux15.out.size;clear hX15 q14_0 q14_1 b14_0 b14_1;have b15_0:=blt q15_0;have b15_1:=blt q15_1;go_wp2;go_ret;exact ⟨rfl,(((((((((((((((E0.out.tr ux1.out).tr ux2.out).tr ux3.out).tr ux4.out).tr ux5.out).tr ux6.out).tr ux7.out).tr ux8.out).tr ux9.out).tr ux10.out).tr ux11.out).tr ux12.out).tr ux13.out).tr ux14.out).tr ux15.out)⟩
end Go.Proofs.YtgojnefiephafaaGreat
namespace Go.Proofs.YtgojnefiephafaaGreat
open Go.RowKit
theorem ex_FnExactRunsIn (A0:Option Addr) (c0:Nat) (g:Sg.Graph) (A1:Option Addr) (c1:Nat) (l1:List Int) (A2:Option Addr) (c2:Nat) (l2:List Sg.Act) (w:World) (h0:RdN0 w A0 g) (h1:Rd w 1 A1 l1.length (ints l1)) (h2:Rd w 3 A2 l2.length (acts l2)) :
  Calls Tryz.prog 7 #[.agg #[.slice A0 g.length c0],.slice A1 l1.length c1,.slice A2 l2.length c2] w fun e w'=>e = .returned (.bool true)∧Ext w w' :=
 l_FnExactRunsIn A0 c0 g A1 c1 l1 A2 c2 l2 (Sg.runsIn g l1 l2).1 (Sg.runsIn g l1 l2).2
  (fun B0 d0 B1 d1 B2 d2 w h hx hl _ _=>s_RunsIn B0 B1 B2 d0 d1 d2 g l1 l2 w h hx hl)
  (fun B0 d0 B1 d1 B2 d2 w h hx hl _ _=>i_RunsIn B0 B1 B2 d0 d1 d2 g l1 l2 w h hx hl) w h0 h1 h2
end Go.Proofs.YtgojnefiephafaaGreat
