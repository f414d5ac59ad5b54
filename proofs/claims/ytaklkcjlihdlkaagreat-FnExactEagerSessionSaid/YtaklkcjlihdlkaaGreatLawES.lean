/- FnExactEagerSession: the law's walk, given the contracts of both functions. Conditions: the arguments can be read. -/
import Derived.Test.YtaklkcjlihdlkaaGreatFactsAll
import Derived.Test.YtaklkcjlihdlkaaGreatLawVW
import Derived.Test.YtaklkcjlihdlkaaGreatMarksC
import Derived.Test.YtaklkcjlihdlkaaGreatSesL
namespace Go.Proofs.YtaklkcjlihdlkaaGreat
open Go.RowKit

set_option maxRecDepth 100000 in
set_option maxHeartbeats 16000000 in
theorem l_FnExactEagerSession (A0 : Option Addr) (c0 : Nat) (g : Sg.Graph) (A1 : Option Addr) (c1 : Nat) (l1 : List Int) (A2 : Option Addr) (c2 : Nat) (l2 : List Sg.Act) (s0 : List Sg.Show) (hsm0 : s0.length ≤ 1048576)
  (hS : (∀ (B0 : Option Addr) (d0 : Nat) (B1 : Option Addr) (d1 : Nat) (B2 : Option Addr) (d2 : Nat) (w : World), RdN w B0 g → Rd w 1 B1 l1.length (ints l1) → Rd w 3 B2 l2.length (acts l2) → l1.length ≤ 1048576 → l2.length ≤ 1048576 → Calls Tryz.prog 20 #[.agg #[.slice B0 g.length d0], .slice B1 l1.length d1, .slice B2 l2.length d2] w fun e w' => ∃ R00 d00, e = .returned (.slice R00 s0.length d00) ∧ Own w' w.heap.size 61 2 R00 s0.length d00 (shs s0) ∧ Ext w w'))
  (hI : (∀ (B0 : Option Addr) (d0 : Nat) (B1 : Option Addr) (d1 : Nat) (B2 : Option Addr) (d2 : Nat) (w : World), RdN w B0 g → Rd w 1 B1 l1.length (ints l1) → Rd w 3 B2 l2.length (acts l2) → l1.length ≤ 1048576 → l2.length ≤ 1048576 → Calls Tryz.prog 19 #[.agg #[.slice B0 g.length d0], .slice B1 l1.length d1, .slice B2 l2.length d2] w fun e w' => ∃ R00 d00, e = .returned (.slice R00 s0.length d00) ∧ Own w' w.heap.size 61 2 R00 s0.length d00 (shs s0) ∧ Ext w w'))
  (w : World) (h0 : RdN0 w A0 g) (h1 : Rd w 1 A1 l1.length (ints l1)) (h2 : Rd w 3 A2 l2.length (acts l2)) :
  Calls Tryz.prog 6 #[.agg #[.slice A0 g.length c0], .slice A1 l1.length c1, .slice A2 l2.length c2] w fun e w' => e = .returned (.bool true) ∧ Ext w w' := by
 have E0 := lh (((Ext.rfl' w).al (.cells #[.slice A0 g.length c0] 43)) : Ext w (World.alloc w (.cells #[.slice A0 g.length c0] 43)))
 have big1 := h1.big
 have big2 := h2.big
 have HZG := lh (fun w h => l_szGraph A0 c0 g 1048576 w h (Nat.le_refl _))
 have H0 := lh h0
 have H1 := lh h1
 have H2 := lh h2
 clear h0 h1 h2
 by_cases len1 : 1048576 < l1.length
 ·go_enter Tryz.func6, Tryz.ntmps6
  go_wp2
  go_ret
  exact ⟨rfl, E0.out⟩
 have le1 : l1.length ≤ 1048576 := by omega
 clear len1
 rcases Sg.szL_neg (g.map (fun n => n.f.length)) 1048576 with hs | hs
 ·have Hs := lh hs
  clear hs
  go_enter Tryz.func6, Tryz.ntmps6
  go_wp2_with (go_at_call 21; refine (HZG.out _ (H0.out.ext E0.out)).mono ?_; rintro e w1 ⟨rfl, he1⟩; rw [Hs.out])
  go_ret
  exact ⟨rfl, E0.out.tr he1⟩
 have hto := totN_le g 1048576 hs
 obtain ⟨hgl, hfl, M, hM, hs⟩ := Sg.szL_ok _ _ hs
 have HN := lh (H0.out.up2 (by simpa using hgl) (by simpa using hfl))
 have Hs := lh hs
 have hgl2 : g.length ≤ 1048576 := by simpa using hgl
 have Hfl : Hid (∀ n ∈ g, n.f.length ≤ 1048576) := lh (by simpa using hfl)
 clear hgl hfl hs H0
 have HZX := lh (fun w (_ : World) => (l_szActS A2 l2.length c2 M w big2 hM).mono fun e w' hh => (⟨hh.1, by have h2 := hh.2; subst h2; exact Ext.rfl' _⟩ : e = _ ∧ Ext w w'))
 rcases szI_neg l2.length M with hs | hs
 ·have Ht := lh hs
  clear hs
  go_enter Tryz.func6, Tryz.ntmps6
  go_wp2_with fail
  refine (HZG.out _ (HN.out.to0.ext E0.out)).mono ?_
  rintro e w1 ⟨rfl, he1⟩
  rw [Hs.out]
  have q0 := he1.cellE (show World.cell? (World.alloc w (.cells #[.slice A0 g.length c0] 43)) ⟨w.heap.size, 0, none⟩ = some (.slice A0 g.length c0) by simp [go_sem])
  go_wp2_with fail
  refine (HZX.out _ w).mono ?_
  rintro e w2 ⟨rfl, he2⟩
  rw [Ht.out]
  go_wp2
  go_ret
  exact ⟨rfl, (E0.out.tr he1).tr he2⟩
 obtain ⟨hal, hs3⟩ := szI_ok l2.length M hs
 have hal2 : l2.length ≤ 1048576 := by omega
 have Ht := lh hs3
 clear hs hs3 hal
 have Hsm0 := lh hsm0
 have HS := lh hS
 have HI := lh hI
 clear hS hI hsm0
 have HT0 := lh (fun w h => l_toGraph A0 c0 g w h)
 have HE0 := lh (fun A B w h k => l_eqGraph A B g.length g.length g w h k)
 have HM0 := lh (fun B A hs k w h hk hb => l_markGraph (B := B) A g.length g hs k w h hk hb hgl2)
 have HT1 := lh (fun w h => l_toIntS A1 c1 l1 w h le1)
 have HE1 := lh (fun A B w h k => l_eqIntS A B l1.length l1.length l1 w h k)
 have HM1 := lh (fun B A k w h hk hb => l_markIntS (B := B) A l1.length l1 k w h hk hb)
 have HT2 := lh (fun w h => l_toActS A2 c2 l2 w h hal2)
 have HE2 := lh (fun A B w h k => l_eqActS A B l2.length l2.length l2 w h k)
 have HM2 := lh (fun B A k w h hk hb => l_markActS (B := B) A l2.length l2 k w h hk hb)
 have sm0 := Hsm0.out
 have HRE0 := lh (fun A B ca cb w h k => l_eqShowS A B ca cb s0 w h k)
 have HRM0 := lh (fun B A c k w h hk hb => l_markShowS (B := B) A c s0 k w h hk hb)
 have HRH0 := lh (fun A c k w h hk hb => (l_heldShowS A c s0.length k w h hk hb).mono fun e w' hh => (⟨hh.1, by have h2 := hh.2; subst h2; exact Ext.rfl' _⟩ : e = _ ∧ Ext w w'))
 go_enter Tryz.func6, Tryz.ntmps6
 go_wp2_with fail
 refine (HZG.out _ (HN.out.to0.ext E0.out)).mono ?_
 rintro e w1 ⟨rfl, hX1⟩
 have ux1 := lh ((Ext.rfl' (World.alloc w (.cells #[.slice A0 g.length c0] 43))).tr hX1)
 have q1_0 := ux1.out.cellE (show World.cell? (World.alloc w (.cells #[.slice A0 g.length c0] 43)) ⟨w.heap.size, 0, none⟩ = some (.slice A0 g.length c0) by simp [go_sem])
 have z1 := ux1.out.size
 simp only [World.size_alloc] at z1
 clear hX1 
 have b1_0 := blt q1_0
 rw [Hs.out]
 go_wp2_with fail
 refine (HZX.out _ w).mono ?_
 rintro e w2 ⟨rfl, hX2⟩
 have ux2 := lh ((Ext.rfl' w1).tr hX2)
 have q2_0 := ux2.out.cellE q1_0
 have z2 := ux2.out.size
 clear hX2 q1_0 b1_0
 have b2_0 := blt q2_0
 rw [Ht.out]
 go_wp2_with fail
 refine (HT0.out _ (HN.out.ext ((E0.out.tr ux1.out).tr ux2.out))).mono ?_
 rintro e w3 ⟨Xs0, hs0, rfl, ho, hX3⟩
 have ux3 := lh ((Ext.rfl' w2).tr hX3)
 have q3_0 := ux3.out.cellE q2_0
 have z3 := ux3.out.size
 clear hX3 q2_0 b2_0
 have b3_0 := blt q3_0
 have Os0 := lh (ho)
 clear ho
 go_wp2_with fail
 refine (HT1.out _ (H1.out.ext (((E0.out.tr ux1.out).tr ux2.out).tr ux3.out))).mono ?_
 rintro e w4 ⟨Xs1, rfl, ho, hX4⟩
 have ux4 := lh ((Ext.rfl' w3).tr hX4)
 have q4_0 := ux4.out.cellE q3_0
 have z4 := ux4.out.size
 clear hX4 q3_0 b3_0
 have b4_0 := blt q4_0
 have Os1 := lh (ho)
 clear ho
 go_wp2_with fail
 refine (HT2.out _ (H2.out.ext ((((E0.out.tr ux1.out).tr ux2.out).tr ux3.out).tr ux4.out))).mono ?_
 rintro e w5 ⟨Xs2, rfl, ho, hX5⟩
 have ux5 := lh ((Ext.rfl' w4).tr hX5)
 have q5_0 := ux5.out.cellE q4_0
 have z5 := ux5.out.size
 clear hX5 q4_0 b4_0
 have b5_0 := blt q5_0
 have Os2 := lh (ho)
 clear ho
 go_wp2_with fail
 refine (HS.out Xs0 g.length Xs1 l1.length Xs2 l2.length _ (OwnN.rdN (OwnD.ext Os0.out (((Ext.rfl' w3).tr ux4.out).tr ux5.out)) hgl2 Hfl.out) (Own.ext Os1.out ((Ext.rfl' w4).tr ux5.out)).rd (Own.ext Os2.out (Ext.rfl' w5)).rd le1 hal2).mono ?_
 rintro e w6 ⟨Rw00, dw00, rfl, ho0, hX6⟩
 have ux6 := lh ((Ext.rfl' w5).tr hX6)
 have q6_0 := ux6.out.cellE q5_0
 have z6 := ux6.out.size
 clear hX6 q5_0 b5_0
 have b6_0 := blt q6_0
 have Ow0 := lh (ho0)
 clear ho0
 go_wp2_with fail
 refine (HT0.out _ (HN.out.ext ((((((E0.out.tr ux1.out).tr ux2.out).tr ux3.out).tr ux4.out).tr ux5.out).tr ux6.out))).mono ?_
 rintro e w7 ⟨Xx0, hx0, rfl, ho, hX7⟩
 have ux7 := lh ((Ext.rfl' w6).tr hX7)
 have q7_0 := ux7.out.cellE q6_0
 have z7 := ux7.out.size
 clear hX7 q6_0 b6_0
 have b7_0 := blt q7_0
 have Ox0 := lh (ho)
 clear ho
 go_wp2_with fail
 refine (HT1.out _ (H1.out.ext ((((((((E0.out.tr ux1.out).tr ux2.out).tr ux3.out).tr ux4.out).tr ux5.out).tr ux6.out).tr ux7.out).al (.cells #[.slice Xx0 g.length g.length] 25)))).mono ?_
 rintro e w8 ⟨Xx1, rfl, ho, hX8⟩
 have ux8 := lh (((Ext.rfl' w7).al (.cells #[.slice Xx0 g.length g.length] 25)).tr hX8)
 have q8_0 := ux8.out.cellE q7_0
 have q8_1 := hX8.cellE (show World.cell? (World.alloc w7 (.cells #[.slice Xx0 g.length g.length] 25)) ⟨w7.heap.size, 0, none⟩ = some (.slice Xx0 g.length g.length) by simp [go_sem])
 have z8 := ux8.out.size
 have y8 : w7.heap.size + 1 ≤ w8.heap.size := by have := hX8.size; simpa using this
 clear hX8 q7_0 b7_0
 have b8_0 := blt q8_0
 have b8_1 := blt q8_1
 have Ox1 := lh (ho)
 clear ho
 go_wp2_with fail
 refine (HT2.out _ (H2.out.ext ((((((((E0.out.tr ux1.out).tr ux2.out).tr ux3.out).tr ux4.out).tr ux5.out).tr ux6.out).tr ux7.out).tr ux8.out))).mono ?_
 rintro e w9 ⟨Xx2, rfl, ho, hX9⟩
 have ux9 := lh ((Ext.rfl' w8).tr hX9)
 have q9_0 := ux9.out.cellE q8_0
 have q9_1 := ux9.out.cellE q8_1
 have z9 := ux9.out.size
 clear hX9 q8_0 q8_1 b8_0 b8_1
 have b9_0 := blt q9_0
 have b9_1 := blt q9_1
 have Ox2 := lh (ho)
 clear ho
 go_wp2_with fail
 refine (HI.out Xx0 g.length Xx1 l1.length Xx2 l2.length _ (OwnN.rdN (OwnD.ext Ox0.out (((Ext.rfl' w7).tr ux8.out).tr ux9.out)) hgl2 Hfl.out) (Own.ext Ox1.out ((Ext.rfl' w8).tr ux9.out)).rd (Own.ext Ox2.out (Ext.rfl' w9)).rd le1 hal2).mono ?_
 rintro e w10 ⟨Rg00, dg00, rfl, ho0, hX10⟩
 have ux10 := lh ((Ext.rfl' w9).tr hX10)
 have q10_0 := ux10.out.cellE q9_0
 have q10_1 := ux10.out.cellE q9_1
 have z10 := ux10.out.size
 clear hX10 q9_0 q9_1 b9_0 b9_1
 have b10_0 := blt q10_0
 have b10_1 := blt q10_1
 have Og0 := lh (ho0)
 clear ho0
 go_wp2_with fail
 refine (HRE0.out Rg00 Rw00 dg00 dw00 _ ((Own.ext Og0.out (Ext.rfl' w10))).rd ((Own.ext Ow0.out (((((Ext.rfl' w6).tr ux7.out).tr ux8.out).tr ux9.out).tr ux10.out))).rd).mono ?_
 rintro e w11 ⟨rfl, hX11⟩
 have ux11 := lh ((Ext.rfl' w10).tr hX11)
 have q11_0 := ux11.out.cellE q10_0
 have q11_1 := ux11.out.cellE q10_1
 have z11 := ux11.out.size
 clear hX11 q10_0 q10_1 b10_0 b10_1
 have b11_0 := blt q11_0
 have b11_1 := blt q11_1
 go_wp2_with fail
 have ec := lh ((Ext.rfl' w11).dr)
 go_region_held3 (fun W => W.cell? ⟨w.heap.size, 0, none⟩ = some (.slice A0 g.length c0) ∧ W.cell? ⟨w7.heap.size, 0, none⟩ = some (.slice Xx0 g.length g.length))
  (first | exact ⟨ec.out.cellE q11_0, ec.out.cellE q11_1⟩ | go_keep)
  (first
   | (go_at_call 23; refine (HT0.out _ (HN.out.ext ((((((((((((E0.out.tr ux1.out).tr ux2.out).tr ux3.out).tr ux4.out).tr ux5.out).tr ux6.out).tr ux7.out).tr ux8.out).tr ux9.out).tr ux10.out).tr ux11.out).tr ec.out))).mono ?_; rintro e wy0 ⟨Xy0, hy0, rfl, hoy0, hey0⟩; have ed := lh (ec.out.tr hey0); clear ec; have ec := ed; clear ed)
   | (go_at_call 27; refine (HE0.out Xx0 Xy0 _ (OwnN.rdN (OwnD.ext Ox0.out ((((((Ext.rfl' w7).tr ux8.out).tr ux9.out).tr ux10.out).tr ux11.out).tr ec.out)) hgl2 Hfl.out) (OwnN.rdN hoy0 hgl2 Hfl.out)).mono ?_; rintro e w12 ⟨rfl, hez⟩; have ed := lh (ec.out.tr hez); clear ec; have ec := ed; clear ed))
 have ux12 := lh ec.out
 clear ec hey0 hez hoy0
 have q12_0 := ux12.out.cellE q11_0
 have q12_1 := ux12.out.cellE q11_1
 have z12 := ux12.out.size
 clear q11_0 q11_1 b11_0 b11_1
 have b12_0 := blt q12_0
 have b12_1 := blt q12_1
 go_wp2_with fail
 refine (HT1.out _ (H1.out.ext ((((((((((((E0.out.tr ux1.out).tr ux2.out).tr ux3.out).tr ux4.out).tr ux5.out).tr ux6.out).tr ux7.out).tr ux8.out).tr ux9.out).tr ux10.out).tr ux11.out).tr ux12.out))).mono ?_
 rintro e w13 ⟨Xy1, rfl, ho, hX13⟩
 have ux13 := lh ((Ext.rfl' w12).tr hX13)
 have q13_0 := ux13.out.cellE q12_0
 have q13_1 := ux13.out.cellE q12_1
 have z13 := ux13.out.size
 clear hX13 q12_0 q12_1 b12_0 b12_1
 have b13_0 := blt q13_0
 have b13_1 := blt q13_1
 have Oy1 := lh (ho)
 clear ho
 go_wp2_with fail
 refine (HE1.out Xx1 Xy1 _ (Own.ext Ox1.out ((((((Ext.rfl' w8).tr ux9.out).tr ux10.out).tr ux11.out).tr ux12.out).tr ux13.out)).rd (Own.ext Oy1.out (Ext.rfl' w13)).rd).mono ?_
 rintro e w14 ⟨rfl, hX14⟩
 have ux14 := lh ((Ext.rfl' w13).tr hX14)
 have q14_0 := ux14.out.cellE q13_0
 have q14_1 := ux14.out.cellE q13_1
 have z14 := ux14.out.size
 clear hX14 q13_0 q13_1 b13_0 b13_1
 have b14_0 := blt q14_0
 have b14_1 := blt q14_1
 go_wp2_with fail
 refine (HT2.out _ (H2.out.ext ((((((((((((((E0.out.tr ux1.out).tr ux2.out).tr ux3.out).tr ux4.out).tr ux5.out).tr ux6.out).tr ux7.out).tr ux8.out).tr ux9.out).tr ux10.out).tr ux11.out).tr ux12.out).tr ux13.out).tr ux14.out))).mono ?_
 rintro e w15 ⟨Xy2, rfl, ho, hX15⟩
 have ux15 := lh ((Ext.rfl' w14).tr hX15)
 have q15_0 := ux15.out.cellE q14_0
 have q15_1 := ux15.out.cellE q14_1
 have z15 := ux15.out.size
 clear hX15 q14_0 q14_1 b14_0 b14_1
 have b15_0 := blt q15_0
 have b15_1 := blt q15_1
 have Oy2 := lh (ho)
 clear ho
 go_wp2_with fail
 refine (HE2.out Xx2 Xy2 _ (Own.ext Ox2.out (((((((Ext.rfl' w9).tr ux10.out).tr ux11.out).tr ux12.out).tr ux13.out).tr ux14.out).tr ux15.out)).rd (Own.ext Oy2.out (Ext.rfl' w15)).rd).mono ?_
 rintro e w16 ⟨rfl, hX16⟩
 have ux16 := lh ((Ext.rfl' w15).tr hX16)
 have q16_0 := ux16.out.cellE q15_0
 have q16_1 := ux16.out.cellE q15_1
 have z16 := ux16.out.size
 clear hX16 q15_0 q15_1 b15_0 b15_1
 have b16_0 := blt q16_0
 have b16_1 := blt q16_1
 have Hlo0 : Hid (∀ b, (fpD Xx0 hx0 b) → w6.heap.size ≤ b ∧ b < w7.heap.size) := lh (fun b hb => by have := (Ox0.out.lt hb); (try simp only [World.size_alloc] at this); exact this)
 have Hlo1 : Hid (∀ b, (blk Xx1 = some b) → w7.heap.size + 1 ≤ b ∧ b < w8.heap.size) := lh (fun b hb => by have := (Ox1.out.lt hb); (try simp only [World.size_alloc] at this); exact this)
 have Hlo2 : Hid (∀ b, (blk Xx2 = some b) → w8.heap.size ≤ b ∧ b < w9.heap.size) := lh (fun b hb => by have := (Ox2.out.lt hb); (try simp only [World.size_alloc] at this); exact this)
 have HloG0 : Hid (∀ b, (blk Rg00 = some b) → w9.heap.size ≤ b ∧ b < w10.heap.size) := lh (fun b hb => by have := (Og0.out.lt hb); (try simp only [World.size_alloc] at this); exact this)
 have Ox1_a0 := lh (Own.ext Ox1.out (((((((((Ext.rfl' w8).tr ux9.out).tr ux10.out).tr ux11.out).tr ux12.out).tr ux13.out).tr ux14.out).tr ux15.out).tr ux16.out))
 have Ox2_a0 := lh (Own.ext Ox2.out ((((((((Ext.rfl' w9).tr ux10.out).tr ux11.out).tr ux12.out).tr ux13.out).tr ux14.out).tr ux15.out).tr ux16.out))
 have Og0_a0 := lh (Own.ext Og0.out (((((((Ext.rfl' w10).tr ux11.out).tr ux12.out).tr ux13.out).tr ux14.out).tr ux15.out).tr ux16.out))
 go_wp2_with fail
 refine (HM0.out _ Xx0 hx0 (1) _ (OwnD.ext Ox0.out ((((((((((Ext.rfl' w7).tr ux8.out).tr ux9.out).tr ux10.out).tr ux11.out).tr ux12.out).tr ux13.out).tr ux14.out).tr ux15.out).tr ux16.out)) (by omega) (by omega)).mono ?_
 rintro e w17 ⟨rfl, ho, hX17⟩
 have ux17 := lh hX17
 have v17 := lh (fun b hb => Hlo0.out b hb)
 have q17_0 := ux17.out.cellE q16_0 (by intro e; have := v17.out _ e; omega)
 have q17_1 := ux17.out.cellE q16_1 (by intro e; have := v17.out _ e; omega)
 have z17 := ux17.out.size
 clear hX17 q16_0 q16_1 b16_0 b16_1
 have b17_0 := blt q17_0
 have b17_1 := blt q17_1
 clear ho
 have Ox1_a0_m0 := lh (Own.mod Ox1_a0.out ux17.out (fun b hb e => by have h1 := v17.out b e; have h2 := (Ox1_a0.out.lt hb); (try simp only [World.size_alloc] at h2); omega))
 have Ox2_a0_m0 := lh (Own.mod Ox2_a0.out ux17.out (fun b hb e => by have h1 := v17.out b e; have h2 := (Ox2_a0.out.lt hb); (try simp only [World.size_alloc] at h2); omega))
 have Og0_a0_m0 := lh (Own.mod Og0_a0.out ux17.out (fun b hb e => by have h1 := v17.out b e; have h2 := (HloG0.out b hb); (try simp only [World.size_alloc] at h2); omega))
 have Ox2_a0_m0_a1 := lh (Own.ext Ox2_a0_m0.out (Ext.rfl' w17))
 have Og0_a0_m0_a1 := lh (Own.ext Og0_a0_m0.out (Ext.rfl' w17))
 go_wp2_with fail
 refine (HM1.out _ Xx1 (1 + (totN g : Int)) _ (Own.ext Ox1_a0_m0.out (Ext.rfl' w17)) (by omega) (by omega)).mono ?_
 rintro e w18 ⟨rfl, ho, hX18⟩
 have ux18 := lh hX18
 have v18 := lh (fun b hb => Hlo1.out b hb)
 have q18_0 := ux18.out.cellE q17_0 (by intro e; have := v18.out _ e; omega)
 have q18_1 := ux18.out.cellE q17_1 (by intro e; have := v18.out _ e; omega)
 have z18 := ux18.out.size
 clear hX18 q17_0 q17_1 b17_0 b17_1
 have b18_0 := blt q18_0
 have b18_1 := blt q18_1
 clear ho
 have Ox2_a0_m0_a1_m1 := lh (Own.mod Ox2_a0_m0_a1.out ux18.out (fun b hb e => by have h1 := v18.out b e; have h2 := (Ox2_a0_m0_a1.out.lt hb); (try simp only [World.size_alloc] at h2); omega))
 have Og0_a0_m0_a1_m1 := lh (Own.mod Og0_a0_m0_a1.out ux18.out (fun b hb e => by have h1 := v18.out b e; have h2 := (HloG0.out b hb); (try simp only [World.size_alloc] at h2); omega))
 have Og0_a0_m0_a1_m1_a2 := lh (Own.ext Og0_a0_m0_a1_m1.out (Ext.rfl' w18))
 go_wp2_with fail
 refine (HM2.out _ Xx2 (1 + (totN g : Int) + (l1.length : Int)) _ (Own.ext Ox2_a0_m0_a1_m1.out (Ext.rfl' w18)) (by omega) (by omega)).mono ?_
 rintro e w19 ⟨rfl, ho, hX19⟩
 have ux19 := lh hX19
 have v19 := lh (fun b hb => Hlo2.out b hb)
 have q19_0 := ux19.out.cellE q18_0 (by intro e; have := v19.out _ e; omega)
 have q19_1 := ux19.out.cellE q18_1 (by intro e; have := v19.out _ e; omega)
 have z19 := ux19.out.size
 clear hX19 q18_0 q18_1 b18_0 b18_1
 have b19_0 := blt q19_0
 have b19_1 := blt q19_1
 clear ho
 have Og0_a0_m0_a1_m1_a2_m2 := lh (Own.mod Og0_a0_m0_a1_m1_a2.out ux19.out (fun b hb e => by have h1 := v19.out b e; have h2 := (HloG0.out b hb); (try simp only [World.size_alloc] at h2); omega))
 have kneg : decide (1 + (totN g : Int) + (l1.length : Int) + 3 * (l2.length : Int) < 0) = false := by simp; omega
 go_wp2_with fail
 refine (HRE0.out Rg00 Rw00 dg00 dw00 _ ((Own.ext Og0_a0_m0_a1_m1_a2_m2.out (Ext.rfl' w19))).rd ((Own.ext Ow0.out (Ext.md (Ext.md (Ext.md (((((((((((Ext.rfl' w6).tr ux7.out).tr ux8.out).tr ux9.out).tr ux10.out).tr ux11.out).tr ux12.out).tr ux13.out).tr ux14.out).tr ux15.out).tr ux16.out) ux17.out (fun b hb => by have := v17.out b hb; omega)) ux18.out (fun b hb => by have := v18.out b hb; omega)) ux19.out (fun b hb => by have := v19.out b hb; omega)))).rd).mono ?_
 rintro e w20 ⟨rfl, hX20⟩
 have ux20 := lh ((Ext.rfl' w19).tr hX20)
 have q20_0 := ux20.out.cellE q19_0
 have q20_1 := ux20.out.cellE q19_1
 have z20 := ux20.out.size
 clear hX20 q19_0 q19_1 b19_0 b19_1
 have b20_0 := blt q20_0
 have b20_1 := blt q20_1
 have Og0_a0_m0_a1_m1_a2_m2_b0 := lh (Own.ext Og0_a0_m0_a1_m1_a2_m2.out ((Ext.rfl' w19).tr ux20.out))
 go_wp2_with fail
 refine (HRM0.out _ Rg00 dg00 (1) _ Og0_a0_m0_a1_m1_a2_m2_b0.out (by omega) (by omega)).mono ?_
 rintro e w21 ⟨rfl, hv0, hX21⟩
 have ux21 := lh hX21
 have v21 := lh (HloG0.out)
 have q21_0 := ux21.out.cellE q20_0 (by intro e; have := v21.out _ e; omega)
 have q21_1 := ux21.out.cellE q20_1 (by intro e; have := v21.out _ e; omega)
 have z21 := ux21.out.size
 clear hX21 q20_0 q20_1 b20_0 b20_1
 have b21_0 := blt q21_0
 have b21_1 := blt q21_1
 have Mv0 := lh hv0
 clear hv0
 have mne : ((1 + 2 * (s0.length : Int)) != (1 + 2 * (s0.length : Int))) = false := by simp
 have mge : decide ((1 + 2 * (s0.length : Int)) < 0) = false := by simp; omega
 go_wp2_with fail
 refine (HRH0.out Rg00 dg00 (1) _ (Own.ext Mv0.out (Ext.rfl' w21)).rd (by omega) (by omega)).mono ?_
 rintro e w22 ⟨rfl, hX22⟩
 have ux22 := lh ((Ext.rfl' w21).tr hX22)
 have q22_0 := ux22.out.cellE q21_0
 have q22_1 := ux22.out.cellE q21_1
 have z22 := ux22.out.size
 clear hX22 q21_0 q21_1 b21_0 b21_1
 have b22_0 := blt q22_0
 have b22_1 := blt q22_1
 go_wp2_with fail
 refine (HT0.out _ (HN.out.ext ((Ext.md ((Ext.md (Ext.md (Ext.md ((((((((((((((((E0.out.tr ux1.out).tr ux2.out).tr ux3.out).tr ux4.out).tr ux5.out).tr ux6.out).tr ux7.out).tr ux8.out).tr ux9.out).tr ux10.out).tr ux11.out).tr ux12.out).tr ux13.out).tr ux14.out).tr ux15.out).tr ux16.out) ux17.out (fun b hb => by have := v17.out b hb; omega)) ux18.out (fun b hb => by have := v18.out b hb; omega)) ux19.out (fun b hb => by have := v19.out b hb; omega)).tr ux20.out) ux21.out (fun b hb => by have := v21.out b hb; omega)).tr ux22.out))).mono ?_
 rintro e w23 ⟨Xz0, hz0, rfl, ho, hX23⟩
 have ux23 := lh ((Ext.rfl' w22).tr hX23)
 have q23_0 := ux23.out.cellE q22_0
 have q23_1 := ux23.out.cellE q22_1
 have z23 := ux23.out.size
 clear hX23 q22_0 q22_1 b22_0 b22_1
 have b23_0 := blt q23_0
 have b23_1 := blt q23_1
 have Oz0 := lh (ho)
 clear ho
 go_wp2_with fail
 refine (HT1.out _ (H1.out.ext (((Ext.md ((Ext.md (Ext.md (Ext.md ((((((((((((((((E0.out.tr ux1.out).tr ux2.out).tr ux3.out).tr ux4.out).tr ux5.out).tr ux6.out).tr ux7.out).tr ux8.out).tr ux9.out).tr ux10.out).tr ux11.out).tr ux12.out).tr ux13.out).tr ux14.out).tr ux15.out).tr ux16.out) ux17.out (fun b hb => by have := v17.out b hb; omega)) ux18.out (fun b hb => by have := v18.out b hb; omega)) ux19.out (fun b hb => by have := v19.out b hb; omega)).tr ux20.out) ux21.out (fun b hb => by have := v21.out b hb; omega)).tr ux22.out).tr ux23.out))).mono ?_
 rintro e w24 ⟨Xz1, rfl, ho, hX24⟩
 have ux24 := lh ((Ext.rfl' w23).tr hX24)
 have q24_0 := ux24.out.cellE q23_0
 have q24_1 := ux24.out.cellE q23_1
 have z24 := ux24.out.size
 clear hX24 q23_0 q23_1 b23_0 b23_1
 have b24_0 := blt q24_0
 have b24_1 := blt q24_1
 have Oz1 := lh (ho)
 clear ho
 go_wp2_with fail
 refine (HT2.out _ (H2.out.ext ((((Ext.md ((Ext.md (Ext.md (Ext.md ((((((((((((((((E0.out.tr ux1.out).tr ux2.out).tr ux3.out).tr ux4.out).tr ux5.out).tr ux6.out).tr ux7.out).tr ux8.out).tr ux9.out).tr ux10.out).tr ux11.out).tr ux12.out).tr ux13.out).tr ux14.out).tr ux15.out).tr ux16.out) ux17.out (fun b hb => by have := v17.out b hb; omega)) ux18.out (fun b hb => by have := v18.out b hb; omega)) ux19.out (fun b hb => by have := v19.out b hb; omega)).tr ux20.out) ux21.out (fun b hb => by have := v21.out b hb; omega)).tr ux22.out).tr ux23.out).tr ux24.out))).mono ?_
 rintro e w25 ⟨Xz2, rfl, ho, hX25⟩
 have ux25 := lh ((Ext.rfl' w24).tr hX25)
 have q25_0 := ux25.out.cellE q24_0
 have q25_1 := ux25.out.cellE q24_1
 have z25 := ux25.out.size
 clear hX25 q24_0 q24_1 b24_0 b24_1
 have b25_0 := blt q25_0
 have b25_1 := blt q25_1
 have Oz2 := lh (ho)
 clear ho
 go_wp2_with fail
 refine (HI.out Xz0 g.length Xz1 l1.length Xz2 l2.length _ (OwnN.rdN (OwnD.ext Oz0.out (((Ext.rfl' w23).tr ux24.out).tr ux25.out)) hgl2 Hfl.out) (Own.ext Oz1.out ((Ext.rfl' w24).tr ux25.out)).rd (Own.ext Oz2.out (Ext.rfl' w25)).rd le1 hal2).mono ?_
 rintro e w26 ⟨Rh00, dh00, rfl, ho0, hX26⟩
 have ux26 := lh ((Ext.rfl' w25).tr hX26)
 have q26_0 := ux26.out.cellE q25_0
 have q26_1 := ux26.out.cellE q25_1
 have z26 := ux26.out.size
 clear hX26 q25_0 q25_1 b25_0 b25_1
 have b26_0 := blt q26_0
 have b26_1 := blt q26_1
 have Oh0 := lh (ho0)
 clear ho0
 go_wp2_with fail
 refine (HRE0.out Rh00 Rw00 dh00 dw00 _ ((Own.ext Oh0.out (Ext.rfl' w26))).rd ((Own.ext Ow0.out ((((((Ext.md ((Ext.md (Ext.md (Ext.md (((((((((((Ext.rfl' w6).tr ux7.out).tr ux8.out).tr ux9.out).tr ux10.out).tr ux11.out).tr ux12.out).tr ux13.out).tr ux14.out).tr ux15.out).tr ux16.out) ux17.out (fun b hb => by have := v17.out b hb; omega)) ux18.out (fun b hb => by have := v18.out b hb; omega)) ux19.out (fun b hb => by have := v19.out b hb; omega)).tr ux20.out) ux21.out (fun b hb => by have := v21.out b hb; omega)).tr ux22.out).tr ux23.out).tr ux24.out).tr ux25.out).tr ux26.out))).rd).mono ?_
 rintro e w27 ⟨rfl, hX27⟩
 have ux27 := lh ((Ext.rfl' w26).tr hX27)
 have q27_0 := ux27.out.cellE q26_0
 have q27_1 := ux27.out.cellE q26_1
 have z27 := ux27.out.size
 clear hX27 q26_0 q26_1 b26_0 b26_1
 have b27_0 := blt q27_0
 have b27_1 := blt q27_1
 go_wp2_with fail
 refine (HRH0.out Rg00 dg00 (1) _ (Own.ext Mv0.out (((((((Ext.rfl' w21).tr ux22.out).tr ux23.out).tr ux24.out).tr ux25.out).tr ux26.out).tr ux27.out)).rd (by omega) (by omega)).mono ?_
 rintro e w28 ⟨rfl, hX28⟩
 have ux28 := lh ((Ext.rfl' w27).tr hX28)
 have q28_0 := ux28.out.cellE q27_0
 have q28_1 := ux28.out.cellE q27_1
 have z28 := ux28.out.size
 clear hX28 q27_0 q27_1 b27_0 b27_1
 have b28_0 := blt q28_0
 have b28_1 := blt q28_1
 go_wp2
 go_ret
 exact ⟨rfl, ((((((((Ext.md ((Ext.md (Ext.md (Ext.md ((((((((((((((((E0.out.tr ux1.out).tr ux2.out).tr ux3.out).tr ux4.out).tr ux5.out).tr ux6.out).tr ux7.out).tr ux8.out).tr ux9.out).tr ux10.out).tr ux11.out).tr ux12.out).tr ux13.out).tr ux14.out).tr ux15.out).tr ux16.out) ux17.out (fun b hb => by have := v17.out b hb; omega)) ux18.out (fun b hb => by have := v18.out b hb; omega)) ux19.out (fun b hb => by have := v19.out b hb; omega)).tr ux20.out) ux21.out (fun b hb => by have := v21.out b hb; omega)).tr ux22.out).tr ux23.out).tr ux24.out).tr ux25.out).tr ux26.out).tr ux27.out).tr ux28.out)⟩
end Go.Proofs.YtaklkcjlihdlkaaGreat
