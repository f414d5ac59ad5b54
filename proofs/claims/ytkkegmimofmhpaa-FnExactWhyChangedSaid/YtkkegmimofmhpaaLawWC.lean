/- FnExactWhyChanged: the law's walk, given the contracts of both functions. Conditions: the arguments can be read. -/
import Derived.Test.YtkkegmimofmhpaaLawP
import Derived.Test.YtkkegmimofmhpaaLawU
namespace Go.Proofs.Ytkkegmimofmhpaa
open Go.RowKit

theorem held_FnExactWhyChanged (A : Option Addr) (c n : Nat) (k : Int) (w : World) (h : Rd w 1 A n (ints (num k n))) (hk : 0 ≤ k) (hb : k + (n : Int) ≤ 1000000000000) :
    Calls Try.prog 43 #[.slice A n c, .int .i64 k] w fun e w' => e = .returned (.int .i64 (k + (n : Int))) ∧ Ext w w' :=
  (l_heldIntS A c n k w h hk hb).mono fun e w' hh => ⟨hh.1, by have h2 := hh.2; subst h2; exact Ext.rfl' _⟩

set_option maxRecDepth 100000 in
set_option maxHeartbeats 16000000 in
theorem l_FnExactWhyChanged (A0 : Option Addr) (c0 : Nat) (g : Sg.Graph) (A1 : Option Addr) (c1 : Nat) (l1 : List Int) (A2 : Option Addr) (c2 : Nat) (l2 : List Int) (n3 : Int) (s0 : List Int) (hsm0 : s0.length ≤ 1048576)
    (hS : (∀ (B0 : Option Addr) (d0 : Nat) (B1 : Option Addr) (d1 : Nat) (B2 : Option Addr) (d2 : Nat) (w : World), RdN w B0 g → Rd w 1 B1 l1.length (ints l1) → Rd w 1 B2 l2.length (ints l2) → l1.length ≤ 1048576 → l2.length ≤ 1048576 → Calls Try.prog 62 #[.agg #[.slice B0 g.length d0], .slice B1 l1.length d1, .slice B2 l2.length d2, .int .i64 n3] w fun e w' => ∃ R00 d00, e = .returned (.slice R00 s0.length d00) ∧ Own w' w.heap.size 3 1 R00 s0.length d00 (ints s0) ∧ Ext w w'))
    (hI : (∀ (B0 : Option Addr) (d0 : Nat) (B1 : Option Addr) (d1 : Nat) (B2 : Option Addr) (d2 : Nat) (w : World), RdN w B0 g → Rd w 1 B1 l1.length (ints l1) → Rd w 1 B2 l2.length (ints l2) → l1.length ≤ 1048576 → l2.length ≤ 1048576 → Calls Try.prog 61 #[.agg #[.slice B0 g.length d0], .slice B1 l1.length d1, .slice B2 l2.length d2, .int .i64 n3] w fun e w' => ∃ R00 d00, e = .returned (.slice R00 s0.length d00) ∧ Own w' w.heap.size 3 1 R00 s0.length d00 (ints s0) ∧ Ext w w'))
    (w : World) (h0 : RdN0 w A0 g) (h1 : Rd w 1 A1 l1.length (ints l1)) (h2 : Rd w 1 A2 l2.length (ints l2)) :
    Calls Try.prog 13 #[.agg #[.slice A0 g.length c0], .slice A1 l1.length c1, .slice A2 l2.length c2, .int .i64 n3] w fun e w' => e = .returned (.bool true) ∧ Ext w w' := by
  have E0 := Lib.hid (((Ext.rfl' w).al (.cells #[.slice A0 g.length c0] 44)) : Ext w (World.alloc w (.cells #[.slice A0 g.length c0] 44)))
  have big1 := h1.big
  have big2 := h2.big
  have HZG := Lib.hid (fun w h => l_szGraph A0 c0 g 1048576 w h (Nat.le_refl _))
  have H0 := Lib.hid h0
  have H1 := Lib.hid h1
  have H2 := Lib.hid h2
  clear h0 h1 h2
  by_cases len1 : 1048576 < l1.length
  · go_enter Try.func13, Try.ntmps13
    go_wp2
    go_ret
    exact ⟨rfl, E0.out⟩
  have le1 : l1.length ≤ 1048576 := by omega
  clear len1
  by_cases len2 : 1048576 < l2.length
  · go_enter Try.func13, Try.ntmps13
    go_wp2
    go_ret
    exact ⟨rfl, E0.out⟩
  have le2 : l2.length ≤ 1048576 := by omega
  clear len2
  rcases Sg.szL_neg (g.map (fun n => n.f.length)) 1048576 with hs | hs
  · have Hs := Lib.hid hs
    clear hs
    go_enter Try.func13, Try.ntmps13
    go_wp2_with (go_at_call 25; refine (HZG.out _ (H0.out.ext E0.out)).mono ?_; rintro e w1 ⟨rfl, he1⟩; rw [Hs.out])
    go_ret
    exact ⟨rfl, E0.out.tr he1⟩
  have hto := totN_le g 1048576 hs
  obtain ⟨hgl, hfl, M, hM, hs⟩ := Sg.szL_ok _ _ hs
  have HN := Lib.hid (H0.out.up2 (by simpa using hgl) (by simpa using hfl))
  have Hs := Lib.hid hs
  have hgl2 : g.length ≤ 1048576 := by simpa using hgl
  have Hfl : Hid (∀ n ∈ g, n.f.length ≤ 1048576) := Lib.hid (by simpa using hfl)
  clear hgl hfl hs H0
  have Hsm0 := Lib.hid hsm0
  have HS := Lib.hid hS
  have HI := Lib.hid hI
  clear hS hI hsm0
  have HT0 := Lib.hid (fun w h => l_toGraph A0 c0 g w h)
  have HE0 := Lib.hid (fun A B w h k => l_eqGraph A B g.length g.length g w h k)
  have HM0 := Lib.hid (fun B A hs k w h hk hb => l_markGraph (B := B) A g.length g hs k w h hk hb hgl2)
  have HT1 := Lib.hid (fun w h => l_toIntS A1 c1 l1 w h le1)
  have HE1 := Lib.hid (fun A B w h k => l_eqIntS A B l1.length l1.length l1 w h k)
  have HM1 := Lib.hid (fun B A k w h hk hb => l_markIntS (B := B) A l1.length l1 k w h hk hb)
  have HT2 := Lib.hid (fun w h => l_toIntS A2 c2 l2 w h le2)
  have HE2 := Lib.hid (fun A B w h k => l_eqIntS A B l2.length l2.length l2 w h k)
  have HM2 := Lib.hid (fun B A k w h hk hb => l_markIntS (B := B) A l2.length l2 k w h hk hb)
  have sm0 := Hsm0.out
  have HRE0 := Lib.hid (fun A B ca cb w h k => l_eqIntS A B ca cb s0 w h k)
  have HRM0 := Lib.hid (fun B A c k w h hk hb => l_markIntS (B := B) A c s0 k w h hk hb)
  have HRH0 := Lib.hid (fun A c k w h hk hb => held_FnExactWhyChanged A c s0.length k w h hk hb)
  go_enter Try.func13, Try.ntmps13
  go_wp2_with fail
  refine (HZG.out _ (HN.out.to0.ext E0.out)).mono ?_
  rintro e w1 ⟨rfl, hX1⟩
  have u1 := Lib.hid ((Ext.rfl' (World.alloc w (.cells #[.slice A0 g.length c0] 44))).tr hX1)
  have q1_0 := u1.out.cellE (show World.cell? (World.alloc w (.cells #[.slice A0 g.length c0] 44)) ⟨w.heap.size, 0, none⟩ = some (.slice A0 g.length c0) by simp [go_sem])
  have z1 := u1.out.size
  simp only [World.size_alloc] at z1
  clear hX1 
  have b1_0 := blt q1_0
  rw [Hs.out]
  go_wp2_with fail
  refine (HT0.out _ (HN.out.ext (E0.out.tr u1.out))).mono ?_
  rintro e w2 ⟨Xs0, hs0, rfl, ho, hX2⟩
  have u2 := Lib.hid ((Ext.rfl' w1).tr hX2)
  have q2_0 := u2.out.cellE q1_0
  have z2 := u2.out.size
  clear hX2 q1_0 b1_0
  have b2_0 := blt q2_0
  have Os0 := Lib.hid (ho)
  clear ho
  go_wp2_with fail
  refine (HT1.out _ (H1.out.ext ((E0.out.tr u1.out).tr u2.out))).mono ?_
  rintro e w3 ⟨Xs1, rfl, ho, hX3⟩
  have u3 := Lib.hid ((Ext.rfl' w2).tr hX3)
  have q3_0 := u3.out.cellE q2_0
  have z3 := u3.out.size
  clear hX3 q2_0 b2_0
  have b3_0 := blt q3_0
  have Os1 := Lib.hid (ho)
  clear ho
  go_wp2_with fail
  refine (HT2.out _ (H2.out.ext (((E0.out.tr u1.out).tr u2.out).tr u3.out))).mono ?_
  rintro e w4 ⟨Xs2, rfl, ho, hX4⟩
  have u4 := Lib.hid ((Ext.rfl' w3).tr hX4)
  have q4_0 := u4.out.cellE q3_0
  have z4 := u4.out.size
  clear hX4 q3_0 b3_0
  have b4_0 := blt q4_0
  have Os2 := Lib.hid (ho)
  clear ho
  go_wp2_with fail
  refine (HS.out Xs0 g.length Xs1 l1.length Xs2 l2.length _ (OwnN.rdN (OwnD.ext Os0.out (((Ext.rfl' w2).tr u3.out).tr u4.out)) hgl2 Hfl.out) (Own.ext Os1.out ((Ext.rfl' w3).tr u4.out)).rd (Own.ext Os2.out (Ext.rfl' w4)).rd le1 le2).mono ?_
  rintro e w5 ⟨Rw00, dw00, rfl, ho0, hX5⟩
  have u5 := Lib.hid ((Ext.rfl' w4).tr hX5)
  have q5_0 := u5.out.cellE q4_0
  have z5 := u5.out.size
  clear hX5 q4_0 b4_0
  have b5_0 := blt q5_0
  have Ow0 := Lib.hid (ho0)
  clear ho0
  go_wp2_with fail
  refine (HT0.out _ (HN.out.ext (((((E0.out.tr u1.out).tr u2.out).tr u3.out).tr u4.out).tr u5.out))).mono ?_
  rintro e w6 ⟨Xx0, hx0, rfl, ho, hX6⟩
  have u6 := Lib.hid ((Ext.rfl' w5).tr hX6)
  have q6_0 := u6.out.cellE q5_0
  have z6 := u6.out.size
  clear hX6 q5_0 b5_0
  have b6_0 := blt q6_0
  have Ox0 := Lib.hid (ho)
  clear ho
  go_wp2_with fail
  refine (HT1.out _ (H1.out.ext (((((((E0.out.tr u1.out).tr u2.out).tr u3.out).tr u4.out).tr u5.out).tr u6.out).al (.cells #[.slice Xx0 g.length g.length] 25)))).mono ?_
  rintro e w7 ⟨Xx1, rfl, ho, hX7⟩
  have u7 := Lib.hid (((Ext.rfl' w6).al (.cells #[.slice Xx0 g.length g.length] 25)).tr hX7)
  have q7_0 := u7.out.cellE q6_0
  have q7_1 := hX7.cellE (show World.cell? (World.alloc w6 (.cells #[.slice Xx0 g.length g.length] 25)) ⟨w6.heap.size, 0, none⟩ = some (.slice Xx0 g.length g.length) by simp [go_sem])
  have z7 := u7.out.size
  have y7 : w6.heap.size + 1 ≤ w7.heap.size := by have := hX7.size; simpa using this
  clear hX7 q6_0 b6_0
  have b7_0 := blt q7_0
  have b7_1 := blt q7_1
  have Ox1 := Lib.hid (ho)
  clear ho
  go_wp2_with fail
  refine (HT2.out _ (H2.out.ext (((((((E0.out.tr u1.out).tr u2.out).tr u3.out).tr u4.out).tr u5.out).tr u6.out).tr u7.out))).mono ?_
  rintro e w8 ⟨Xx2, rfl, ho, hX8⟩
  have u8 := Lib.hid ((Ext.rfl' w7).tr hX8)
  have q8_0 := u8.out.cellE q7_0
  have q8_1 := u8.out.cellE q7_1
  have z8 := u8.out.size
  clear hX8 q7_0 q7_1 b7_0 b7_1
  have b8_0 := blt q8_0
  have b8_1 := blt q8_1
  have Ox2 := Lib.hid (ho)
  clear ho
  go_wp2_with fail
  refine (HI.out Xx0 g.length Xx1 l1.length Xx2 l2.length _ (OwnN.rdN (OwnD.ext Ox0.out (((Ext.rfl' w6).tr u7.out).tr u8.out)) hgl2 Hfl.out) (Own.ext Ox1.out ((Ext.rfl' w7).tr u8.out)).rd (Own.ext Ox2.out (Ext.rfl' w8)).rd le1 le2).mono ?_
  rintro e w9 ⟨Rg00, dg00, rfl, ho0, hX9⟩
  have u9 := Lib.hid ((Ext.rfl' w8).tr hX9)
  have q9_0 := u9.out.cellE q8_0
  have q9_1 := u9.out.cellE q8_1
  have z9 := u9.out.size
  clear hX9 q8_0 q8_1 b8_0 b8_1
  have b9_0 := blt q9_0
  have b9_1 := blt q9_1
  have Og0 := Lib.hid (ho0)
  clear ho0
  go_wp2_with fail
  refine (HRE0.out Rg00 Rw00 dg00 dw00 _ ((Own.ext Og0.out (Ext.rfl' w9))).rd ((Own.ext Ow0.out (((((Ext.rfl' w5).tr u6.out).tr u7.out).tr u8.out).tr u9.out))).rd).mono ?_
  rintro e w10 ⟨rfl, hX10⟩
  have u10 := Lib.hid ((Ext.rfl' w9).tr hX10)
  have q10_0 := u10.out.cellE q9_0
  have q10_1 := u10.out.cellE q9_1
  have z10 := u10.out.size
  clear hX10 q9_0 q9_1 b9_0 b9_1
  have b10_0 := blt q10_0
  have b10_1 := blt q10_1
  go_wp2_with fail
  have ec := Lib.hid ((Ext.rfl' w10).dr)
  go_region_held3 (fun W => W.cell? ⟨w.heap.size, 0, none⟩ = some (.slice A0 g.length c0) ∧ W.cell? ⟨w6.heap.size, 0, none⟩ = some (.slice Xx0 g.length g.length))
    (first | exact ⟨ec.out.cellE q10_0, ec.out.cellE q10_1⟩ | go_keep)
    (first
      | (go_at_call 28; refine (HT0.out _ (HN.out.ext (((((((((((E0.out.tr u1.out).tr u2.out).tr u3.out).tr u4.out).tr u5.out).tr u6.out).tr u7.out).tr u8.out).tr u9.out).tr u10.out).tr ec.out))).mono ?_; rintro e wy0 ⟨Xy0, hy0, rfl, hoy0, hey0⟩; have ed := Lib.hid (ec.out.tr hey0); clear ec; have ec := ed; clear ed)
      | (go_at_call 30; refine (HE0.out Xx0 Xy0 _ (OwnN.rdN (OwnD.ext Ox0.out ((((((Ext.rfl' w6).tr u7.out).tr u8.out).tr u9.out).tr u10.out).tr ec.out)) hgl2 Hfl.out) (OwnN.rdN hoy0 hgl2 Hfl.out)).mono ?_; rintro e w11 ⟨rfl, hez⟩; have ed := Lib.hid (ec.out.tr hez); clear ec; have ec := ed; clear ed))
  have u11 := Lib.hid ec.out
  clear ec hey0 hez hoy0
  have q11_0 := u11.out.cellE q10_0
  have q11_1 := u11.out.cellE q10_1
  have z11 := u11.out.size
  clear q10_0 q10_1 b10_0 b10_1
  have b11_0 := blt q11_0
  have b11_1 := blt q11_1
  go_wp2_with fail
  refine (HT1.out _ (H1.out.ext (((((((((((E0.out.tr u1.out).tr u2.out).tr u3.out).tr u4.out).tr u5.out).tr u6.out).tr u7.out).tr u8.out).tr u9.out).tr u10.out).tr u11.out))).mono ?_
  rintro e w12 ⟨Xy1, rfl, ho, hX12⟩
  have u12 := Lib.hid ((Ext.rfl' w11).tr hX12)
  have q12_0 := u12.out.cellE q11_0
  have q12_1 := u12.out.cellE q11_1
  have z12 := u12.out.size
  clear hX12 q11_0 q11_1 b11_0 b11_1
  have b12_0 := blt q12_0
  have b12_1 := blt q12_1
  have Oy1 := Lib.hid (ho)
  clear ho
  go_wp2_with fail
  refine (HE1.out Xx1 Xy1 _ (Own.ext Ox1.out ((((((Ext.rfl' w7).tr u8.out).tr u9.out).tr u10.out).tr u11.out).tr u12.out)).rd (Own.ext Oy1.out (Ext.rfl' w12)).rd).mono ?_
  rintro e w13 ⟨rfl, hX13⟩
  have u13 := Lib.hid ((Ext.rfl' w12).tr hX13)
  have q13_0 := u13.out.cellE q12_0
  have q13_1 := u13.out.cellE q12_1
  have z13 := u13.out.size
  clear hX13 q12_0 q12_1 b12_0 b12_1
  have b13_0 := blt q13_0
  have b13_1 := blt q13_1
  go_wp2_with fail
  refine (HT2.out _ (H2.out.ext (((((((((((((E0.out.tr u1.out).tr u2.out).tr u3.out).tr u4.out).tr u5.out).tr u6.out).tr u7.out).tr u8.out).tr u9.out).tr u10.out).tr u11.out).tr u12.out).tr u13.out))).mono ?_
  rintro e w14 ⟨Xy2, rfl, ho, hX14⟩
  have u14 := Lib.hid ((Ext.rfl' w13).tr hX14)
  have q14_0 := u14.out.cellE q13_0
  have q14_1 := u14.out.cellE q13_1
  have z14 := u14.out.size
  clear hX14 q13_0 q13_1 b13_0 b13_1
  have b14_0 := blt q14_0
  have b14_1 := blt q14_1
  have Oy2 := Lib.hid (ho)
  clear ho
  go_wp2_with fail
  refine (HE2.out Xx2 Xy2 _ (Own.ext Ox2.out (((((((Ext.rfl' w8).tr u9.out).tr u10.out).tr u11.out).tr u12.out).tr u13.out).tr u14.out)).rd (Own.ext Oy2.out (Ext.rfl' w14)).rd).mono ?_
  rintro e w15 ⟨rfl, hX15⟩
  have u15 := Lib.hid ((Ext.rfl' w14).tr hX15)
  have q15_0 := u15.out.cellE q14_0
  have q15_1 := u15.out.cellE q14_1
  have z15 := u15.out.size
  clear hX15 q14_0 q14_1 b14_0 b14_1
  have b15_0 := blt q15_0
  have b15_1 := blt q15_1
  have Hlo0 : Hid (∀ b, (fpD Xx0 hx0 b) → w5.heap.size ≤ b ∧ b < w6.heap.size) := Lib.hid (fun b hb => by have := (Ox0.out.lt hb); (try simp only [World.size_alloc] at this); exact this)
  have Hlo1 : Hid (∀ b, (blk Xx1 = some b) → w6.heap.size + 1 ≤ b ∧ b < w7.heap.size) := Lib.hid (fun b hb => by have := (Ox1.out.lt hb); (try simp only [World.size_alloc] at this); exact this)
  have Hlo2 : Hid (∀ b, (blk Xx2 = some b) → w7.heap.size ≤ b ∧ b < w8.heap.size) := Lib.hid (fun b hb => by have := (Ox2.out.lt hb); (try simp only [World.size_alloc] at this); exact this)
  have HloG0 : Hid (∀ b, (blk Rg00 = some b) → w8.heap.size ≤ b ∧ b < w9.heap.size) := Lib.hid (fun b hb => by have := (Og0.out.lt hb); (try simp only [World.size_alloc] at this); exact this)
  have Ox1_a0 := Lib.hid (Own.ext Ox1.out (((((((((Ext.rfl' w7).tr u8.out).tr u9.out).tr u10.out).tr u11.out).tr u12.out).tr u13.out).tr u14.out).tr u15.out))
  have Ox2_a0 := Lib.hid (Own.ext Ox2.out ((((((((Ext.rfl' w8).tr u9.out).tr u10.out).tr u11.out).tr u12.out).tr u13.out).tr u14.out).tr u15.out))
  have Og0_a0 := Lib.hid (Own.ext Og0.out (((((((Ext.rfl' w9).tr u10.out).tr u11.out).tr u12.out).tr u13.out).tr u14.out).tr u15.out))
  go_wp2_with fail
  refine (HM0.out _ Xx0 hx0 (1) _ (OwnD.ext Ox0.out ((((((((((Ext.rfl' w6).tr u7.out).tr u8.out).tr u9.out).tr u10.out).tr u11.out).tr u12.out).tr u13.out).tr u14.out).tr u15.out)) (by omega) (by omega)).mono ?_
  rintro e w16 ⟨rfl, ho, hX16⟩
  have u16 := Lib.hid hX16
  have v16 := Lib.hid (fun b hb => Hlo0.out b hb)
  have q16_0 := u16.out.cellE q15_0 (by intro e; have := v16.out _ e; omega)
  have q16_1 := u16.out.cellE q15_1 (by intro e; have := v16.out _ e; omega)
  have z16 := u16.out.size
  clear hX16 q15_0 q15_1 b15_0 b15_1
  have b16_0 := blt q16_0
  have b16_1 := blt q16_1
  clear ho
  have Ox1_a0_m0 := Lib.hid (Own.mod Ox1_a0.out u16.out (fun b hb e => by have h1 := v16.out b e; have h2 := (Ox1_a0.out.lt hb); (try simp only [World.size_alloc] at h2); omega))
  have Ox2_a0_m0 := Lib.hid (Own.mod Ox2_a0.out u16.out (fun b hb e => by have h1 := v16.out b e; have h2 := (Ox2_a0.out.lt hb); (try simp only [World.size_alloc] at h2); omega))
  have Og0_a0_m0 := Lib.hid (Own.mod Og0_a0.out u16.out (fun b hb e => by have h1 := v16.out b e; have h2 := (HloG0.out b hb); (try simp only [World.size_alloc] at h2); omega))
  have Ox2_a0_m0_a1 := Lib.hid (Own.ext Ox2_a0_m0.out (Ext.rfl' w16))
  have Og0_a0_m0_a1 := Lib.hid (Own.ext Og0_a0_m0.out (Ext.rfl' w16))
  go_wp2_with fail
  refine (HM1.out _ Xx1 (1 + (totN g : Int)) _ (Own.ext Ox1_a0_m0.out (Ext.rfl' w16)) (by omega) (by omega)).mono ?_
  rintro e w17 ⟨rfl, ho, hX17⟩
  have u17 := Lib.hid hX17
  have v17 := Lib.hid (fun b hb => Hlo1.out b hb)
  have q17_0 := u17.out.cellE q16_0 (by intro e; have := v17.out _ e; omega)
  have q17_1 := u17.out.cellE q16_1 (by intro e; have := v17.out _ e; omega)
  have z17 := u17.out.size
  clear hX17 q16_0 q16_1 b16_0 b16_1
  have b17_0 := blt q17_0
  have b17_1 := blt q17_1
  clear ho
  have Ox2_a0_m0_a1_m1 := Lib.hid (Own.mod Ox2_a0_m0_a1.out u17.out (fun b hb e => by have h1 := v17.out b e; have h2 := (Ox2_a0_m0_a1.out.lt hb); (try simp only [World.size_alloc] at h2); omega))
  have Og0_a0_m0_a1_m1 := Lib.hid (Own.mod Og0_a0_m0_a1.out u17.out (fun b hb e => by have h1 := v17.out b e; have h2 := (HloG0.out b hb); (try simp only [World.size_alloc] at h2); omega))
  have Og0_a0_m0_a1_m1_a2 := Lib.hid (Own.ext Og0_a0_m0_a1_m1.out (Ext.rfl' w17))
  go_wp2_with fail
  refine (HM2.out _ Xx2 (1 + (totN g : Int) + (l1.length : Int)) _ (Own.ext Ox2_a0_m0_a1_m1.out (Ext.rfl' w17)) (by omega) (by omega)).mono ?_
  rintro e w18 ⟨rfl, ho, hX18⟩
  have u18 := Lib.hid hX18
  have v18 := Lib.hid (fun b hb => Hlo2.out b hb)
  have q18_0 := u18.out.cellE q17_0 (by intro e; have := v18.out _ e; omega)
  have q18_1 := u18.out.cellE q17_1 (by intro e; have := v18.out _ e; omega)
  have z18 := u18.out.size
  clear hX18 q17_0 q17_1 b17_0 b17_1
  have b18_0 := blt q18_0
  have b18_1 := blt q18_1
  clear ho
  have Og0_a0_m0_a1_m1_a2_m2 := Lib.hid (Own.mod Og0_a0_m0_a1_m1_a2.out u18.out (fun b hb e => by have h1 := v18.out b e; have h2 := (HloG0.out b hb); (try simp only [World.size_alloc] at h2); omega))
  have kneg : decide (1 + (totN g : Int) + (l1.length : Int) + (l2.length : Int) < 0) = false := by simp; omega
  go_wp2_with fail
  refine (HRE0.out Rg00 Rw00 dg00 dw00 _ ((Own.ext Og0_a0_m0_a1_m1_a2_m2.out (Ext.rfl' w18))).rd ((Own.ext Ow0.out (Ext.md (Ext.md (Ext.md (((((((((((Ext.rfl' w5).tr u6.out).tr u7.out).tr u8.out).tr u9.out).tr u10.out).tr u11.out).tr u12.out).tr u13.out).tr u14.out).tr u15.out) u16.out (fun b hb => by have := v16.out b hb; omega)) u17.out (fun b hb => by have := v17.out b hb; omega)) u18.out (fun b hb => by have := v18.out b hb; omega)))).rd).mono ?_
  rintro e w19 ⟨rfl, hX19⟩
  have u19 := Lib.hid ((Ext.rfl' w18).tr hX19)
  have q19_0 := u19.out.cellE q18_0
  have q19_1 := u19.out.cellE q18_1
  have z19 := u19.out.size
  clear hX19 q18_0 q18_1 b18_0 b18_1
  have b19_0 := blt q19_0
  have b19_1 := blt q19_1
  have Og0_a0_m0_a1_m1_a2_m2_b0 := Lib.hid (Own.ext Og0_a0_m0_a1_m1_a2_m2.out ((Ext.rfl' w18).tr u19.out))
  go_wp2_with fail
  refine (HRM0.out _ Rg00 dg00 (1) _ Og0_a0_m0_a1_m1_a2_m2_b0.out (by omega) (by omega)).mono ?_
  rintro e w20 ⟨rfl, hv0, hX20⟩
  have u20 := Lib.hid hX20
  have v20 := Lib.hid (HloG0.out)
  have q20_0 := u20.out.cellE q19_0 (by intro e; have := v20.out _ e; omega)
  have q20_1 := u20.out.cellE q19_1 (by intro e; have := v20.out _ e; omega)
  have z20 := u20.out.size
  clear hX20 q19_0 q19_1 b19_0 b19_1
  have b20_0 := blt q20_0
  have b20_1 := blt q20_1
  have Mv0 := Lib.hid hv0
  clear hv0
  have mne : ((1 + (s0.length : Int)) != (1 + (s0.length : Int))) = false := by simp
  have mge : decide ((1 + (s0.length : Int)) < 0) = false := by simp; omega
  go_wp2_with fail
  refine (HRH0.out Rg00 dg00 (1) _ (Own.ext Mv0.out (Ext.rfl' w20)).rd (by omega) (by omega)).mono ?_
  rintro e w21 ⟨rfl, hX21⟩
  have u21 := Lib.hid ((Ext.rfl' w20).tr hX21)
  have q21_0 := u21.out.cellE q20_0
  have q21_1 := u21.out.cellE q20_1
  have z21 := u21.out.size
  clear hX21 q20_0 q20_1 b20_0 b20_1
  have b21_0 := blt q21_0
  have b21_1 := blt q21_1
  go_wp2_with fail
  refine (HT0.out _ (HN.out.ext ((Ext.md ((Ext.md (Ext.md (Ext.md (((((((((((((((E0.out.tr u1.out).tr u2.out).tr u3.out).tr u4.out).tr u5.out).tr u6.out).tr u7.out).tr u8.out).tr u9.out).tr u10.out).tr u11.out).tr u12.out).tr u13.out).tr u14.out).tr u15.out) u16.out (fun b hb => by have := v16.out b hb; omega)) u17.out (fun b hb => by have := v17.out b hb; omega)) u18.out (fun b hb => by have := v18.out b hb; omega)).tr u19.out) u20.out (fun b hb => by have := v20.out b hb; omega)).tr u21.out))).mono ?_
  rintro e w22 ⟨Xz0, hz0, rfl, ho, hX22⟩
  have u22 := Lib.hid ((Ext.rfl' w21).tr hX22)
  have q22_0 := u22.out.cellE q21_0
  have q22_1 := u22.out.cellE q21_1
  have z22 := u22.out.size
  clear hX22 q21_0 q21_1 b21_0 b21_1
  have b22_0 := blt q22_0
  have b22_1 := blt q22_1
  have Oz0 := Lib.hid (ho)
  clear ho
  go_wp2_with fail
  refine (HT1.out _ (H1.out.ext (((Ext.md ((Ext.md (Ext.md (Ext.md (((((((((((((((E0.out.tr u1.out).tr u2.out).tr u3.out).tr u4.out).tr u5.out).tr u6.out).tr u7.out).tr u8.out).tr u9.out).tr u10.out).tr u11.out).tr u12.out).tr u13.out).tr u14.out).tr u15.out) u16.out (fun b hb => by have := v16.out b hb; omega)) u17.out (fun b hb => by have := v17.out b hb; omega)) u18.out (fun b hb => by have := v18.out b hb; omega)).tr u19.out) u20.out (fun b hb => by have := v20.out b hb; omega)).tr u21.out).tr u22.out))).mono ?_
  rintro e w23 ⟨Xz1, rfl, ho, hX23⟩
  have u23 := Lib.hid ((Ext.rfl' w22).tr hX23)
  have q23_0 := u23.out.cellE q22_0
  have q23_1 := u23.out.cellE q22_1
  have z23 := u23.out.size
  clear hX23 q22_0 q22_1 b22_0 b22_1
  have b23_0 := blt q23_0
  have b23_1 := blt q23_1
  have Oz1 := Lib.hid (ho)
  clear ho
  go_wp2_with fail
  refine (HT2.out _ (H2.out.ext ((((Ext.md ((Ext.md (Ext.md (Ext.md (((((((((((((((E0.out.tr u1.out).tr u2.out).tr u3.out).tr u4.out).tr u5.out).tr u6.out).tr u7.out).tr u8.out).tr u9.out).tr u10.out).tr u11.out).tr u12.out).tr u13.out).tr u14.out).tr u15.out) u16.out (fun b hb => by have := v16.out b hb; omega)) u17.out (fun b hb => by have := v17.out b hb; omega)) u18.out (fun b hb => by have := v18.out b hb; omega)).tr u19.out) u20.out (fun b hb => by have := v20.out b hb; omega)).tr u21.out).tr u22.out).tr u23.out))).mono ?_
  rintro e w24 ⟨Xz2, rfl, ho, hX24⟩
  have u24 := Lib.hid ((Ext.rfl' w23).tr hX24)
  have q24_0 := u24.out.cellE q23_0
  have q24_1 := u24.out.cellE q23_1
  have z24 := u24.out.size
  clear hX24 q23_0 q23_1 b23_0 b23_1
  have b24_0 := blt q24_0
  have b24_1 := blt q24_1
  have Oz2 := Lib.hid (ho)
  clear ho
  go_wp2_with fail
  refine (HI.out Xz0 g.length Xz1 l1.length Xz2 l2.length _ (OwnN.rdN (OwnD.ext Oz0.out (((Ext.rfl' w22).tr u23.out).tr u24.out)) hgl2 Hfl.out) (Own.ext Oz1.out ((Ext.rfl' w23).tr u24.out)).rd (Own.ext Oz2.out (Ext.rfl' w24)).rd le1 le2).mono ?_
  rintro e w25 ⟨Rh00, dh00, rfl, ho0, hX25⟩
  have u25 := Lib.hid ((Ext.rfl' w24).tr hX25)
  have q25_0 := u25.out.cellE q24_0
  have q25_1 := u25.out.cellE q24_1
  have z25 := u25.out.size
  clear hX25 q24_0 q24_1 b24_0 b24_1
  have b25_0 := blt q25_0
  have b25_1 := blt q25_1
  have Oh0 := Lib.hid (ho0)
  clear ho0
  go_wp2_with fail
  refine (HRE0.out Rh00 Rw00 dh00 dw00 _ ((Own.ext Oh0.out (Ext.rfl' w25))).rd ((Own.ext Ow0.out ((((((Ext.md ((Ext.md (Ext.md (Ext.md (((((((((((Ext.rfl' w5).tr u6.out).tr u7.out).tr u8.out).tr u9.out).tr u10.out).tr u11.out).tr u12.out).tr u13.out).tr u14.out).tr u15.out) u16.out (fun b hb => by have := v16.out b hb; omega)) u17.out (fun b hb => by have := v17.out b hb; omega)) u18.out (fun b hb => by have := v18.out b hb; omega)).tr u19.out) u20.out (fun b hb => by have := v20.out b hb; omega)).tr u21.out).tr u22.out).tr u23.out).tr u24.out).tr u25.out))).rd).mono ?_
  rintro e w26 ⟨rfl, hX26⟩
  have u26 := Lib.hid ((Ext.rfl' w25).tr hX26)
  have q26_0 := u26.out.cellE q25_0
  have q26_1 := u26.out.cellE q25_1
  have z26 := u26.out.size
  clear hX26 q25_0 q25_1 b25_0 b25_1
  have b26_0 := blt q26_0
  have b26_1 := blt q26_1
  go_wp2_with fail
  refine (HRH0.out Rg00 dg00 (1) _ (Own.ext Mv0.out (((((((Ext.rfl' w20).tr u21.out).tr u22.out).tr u23.out).tr u24.out).tr u25.out).tr u26.out)).rd (by omega) (by omega)).mono ?_
  rintro e w27 ⟨rfl, hX27⟩
  have u27 := Lib.hid ((Ext.rfl' w26).tr hX27)
  have q27_0 := u27.out.cellE q26_0
  have q27_1 := u27.out.cellE q26_1
  have z27 := u27.out.size
  clear hX27 q26_0 q26_1 b26_0 b26_1
  have b27_0 := blt q27_0
  have b27_1 := blt q27_1
  go_wp2
  go_ret
  exact ⟨rfl, ((((((((Ext.md ((Ext.md (Ext.md (Ext.md (((((((((((((((E0.out.tr u1.out).tr u2.out).tr u3.out).tr u4.out).tr u5.out).tr u6.out).tr u7.out).tr u8.out).tr u9.out).tr u10.out).tr u11.out).tr u12.out).tr u13.out).tr u14.out).tr u15.out) u16.out (fun b hb => by have := v16.out b hb; omega)) u17.out (fun b hb => by have := v17.out b hb; omega)) u18.out (fun b hb => by have := v18.out b hb; omega)).tr u19.out) u20.out (fun b hb => by have := v20.out b hb; omega)).tr u21.out).tr u22.out).tr u23.out).tr u24.out).tr u25.out).tr u26.out).tr u27.out)⟩
end Go.Proofs.Ytkkegmimofmhpaa
