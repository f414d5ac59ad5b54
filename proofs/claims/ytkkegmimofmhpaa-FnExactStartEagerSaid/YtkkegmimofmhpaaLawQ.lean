/- FnExactStartEager: the law's walk, given the contracts of both functions. Conditions: the arguments can be read. -/
import Derived.Test.YtkkegmimofmhpaaLawP
namespace Go.Proofs.Ytkkegmimofmhpaa
open Go.RowKit

set_option maxRecDepth 100000 in
set_option maxHeartbeats 8000000 in
theorem l_FnExactStartEager (A : Option Addr) (c : Nat) (g : Sg.Graph) (A1 : Option Addr) (c1 : Nat) (l1 : List Int) (st : Sg.Eager) (hsm : SmallE st)
    (hS : (∀ (B0 : Option Addr) (d0 : Nat) (B1 : Option Addr) (d1 : Nat) (w : World), RdN w B0 g → Rd w 1 B1 l1.length (ints l1) → Calls Try.prog 17 #[.agg #[.slice B0 g.length d0], .slice B1 l1.length d1] w fun e w' => ∃ A1 c1 A2 c2 hs, e = .returned (.agg #[.slice A1 st.vals.length c1, .slice A2 st.reads.length c2]) ∧ OwnE w' w.heap.size A1 c1 A2 c2 hs st ∧ Ext w w'))
    (hI : (∀ (B0 : Option Addr) (d0 : Nat) (B1 : Option Addr) (d1 : Nat) (w : World), RdN w B0 g → Rd w 1 B1 l1.length (ints l1) → Calls Try.prog 15 #[.agg #[.slice B0 g.length d0], .slice B1 l1.length d1] w fun e w' => ∃ A1 c1 A2 c2 hs, e = .returned (.agg #[.slice A1 st.vals.length c1, .slice A2 st.reads.length c2]) ∧ OwnE w' w.heap.size A1 c1 A2 c2 hs st ∧ Ext w w'))
    (w : World) (h0 : RdN0 w A g) (h1 : Rd w 1 A1 l1.length (ints l1)) :
    Calls Try.prog 7 #[.agg #[.slice A g.length c], .slice A1 l1.length c1] w fun e w' => e = .returned (.bool true) ∧ Ext w w' := by
  have E0 := Lib.hid ((Ext.rfl' w).al (.cells #[.slice A g.length c] 44) : Ext w (World.alloc w (.cells #[.slice A g.length c] 44)))
  have big1 := h1.big
  have HZG := Lib.hid (fun w h => l_szGraph A c g 1048576 w h (Nat.le_refl _))
  have H0 := Lib.hid h0
  have H1 := Lib.hid h1
  clear h0 h1
  by_cases len1 : 1048576 < l1.length
  · go_enter Try.func7, Try.ntmps7
    go_wp2
    go_ret
    exact ⟨rfl, E0.out⟩
  have le1 : l1.length ≤ 1048576 := by omega
  clear len1
  rcases Sg.szL_neg (g.map (fun n => n.f.length)) 1048576 with hs | hs
  · have Hs := Lib.hid hs
    clear hs
    go_enter Try.func7, Try.ntmps7
    go_wp2_with (go_at_call 25; refine (HZG.out _ (H0.out.ext E0.out)).mono ?_; rintro e w1 ⟨rfl, he1⟩; rw [Hs.out])
    go_ret
    exact ⟨rfl, E0.out.tr he1⟩
  have hto := totN_le g 1048576 hs
  obtain ⟨hgl, hfl, M, hM, hs⟩ := Sg.szL_ok _ _ hs
  have HN := Lib.hid (H0.out.up2 (by simpa using hgl) (by simpa using hfl))
  have Hs := Lib.hid hs
  have hgl2 : g.length ≤ 1048576 := by simpa using hgl
  have Hfl : Hid (∀ n ∈ g, n.f.length ≤ 1048576) := Lib.hid (by simpa using hfl)
  have Hsm := Lib.hid hsm
  have HS := Lib.hid hS
  have HI := Lib.hid hI
  clear hgl hfl hs H0 hsm hS hI
  have HG := Lib.hid (fun w h => l_toGraph A c g w h)
  have HEG := Lib.hid (fun A B w h k => l_eqGraph A B g.length g.length g w h k)
  have HMG := Lib.hid (fun B A hs k w h hk hb => l_markGraph (B := B) A g.length g hs k w h hk hb hgl2)
  have HT1 := Lib.hid (fun w h => l_toIntS A1 c1 l1 w h le1)
  have HEI1 := Lib.hid (fun A B w h k => l_eqIntS A B l1.length l1.length l1 w h k)
  have HMI1 := Lib.hid (fun B A k w h hk hb => l_markIntS (B := B) A l1.length l1 k w h hk hb)
  have sm1 := Hsm.out.v
  have sm2 := Hsm.out.r
  have sm4 := Hsm.out.t
  have HEE := Lib.hid (fun Av Bv Ar Br cv cw cr cs w hv kv hr kr => l_eqEager Av Bv Ar Br cv cw cr cs st.vals st.reads w hv kv hr kr)
  have HME := Lib.hid (fun B Av Ar cv cr hs k w hv hr hd hk hb => l_markEager (B := B) Av Ar cv cr st.vals st.reads hs k w hv hr hd hk hb sm2)
  have HHE := Lib.hid (fun Av Ar cv cr k w hv hr hk hb => l_heldEager Av Ar cv cr st.vals.length st.reads k w hv hr hk hb)
  go_enter Try.func7, Try.ntmps7
  go_wp2_with fail
  refine (HZG.out _ (HN.out.to0.ext E0.out)).mono ?_
  rintro e w1 ⟨rfl, hX1⟩
  have u1 := Lib.hid ((Ext.rfl' (World.alloc w (.cells #[.slice A g.length c] 44))).tr hX1)
  have q1_0 := u1.out.cellE (show World.cell? (World.alloc w (.cells #[.slice A g.length c] 44)) ⟨w.heap.size, 0, none⟩ = some (.slice A g.length c) by simp [go_sem])
  have z1 := u1.out.size
  simp only [World.size_alloc] at z1
  clear hX1 
  have b1_0 := blt q1_0
  rw [Hs.out]
  go_wp2_with fail
  refine (HG.out _ (HN.out.ext (E0.out.tr u1.out))).mono ?_
  rintro e w2 ⟨Xs0, hs0, rfl, ho, hX2⟩
  have u2 := Lib.hid ((Ext.rfl' w1).tr hX2)
  have q2_0 := u2.out.cellE q1_0
  have z2 := u2.out.size
  clear hX2 q1_0 b1_0
  have b2_0 := blt q2_0
  have Os0 := Lib.hid (ho)
  clear ho
  go_wp2_with fail
  refine (HT1.out _ (H1.out.ext ((E0.out.tr u1.out).tr u2.out))).mono ?_
  rintro e w3 ⟨Xs1, rfl, ho, hX3⟩
  have u3 := Lib.hid ((Ext.rfl' w2).tr hX3)
  have q3_0 := u3.out.cellE q2_0
  have z3 := u3.out.size
  clear hX3 q2_0 b2_0
  have b3_0 := blt q3_0
  have Os1 := Lib.hid (ho)
  clear ho
  go_wp2_with fail
  refine (HS.out Xs0 g.length Xs1 l1.length  _ (OwnN.rdN (OwnD.ext Os0.out ((Ext.rfl' w2).tr u3.out)) hgl2 Hfl.out) (Own.ext Os1.out (Ext.rfl' w3)).rd).mono ?_
  rintro e w4 ⟨Rw1, dw1, Rw2, dw2, hw, rfl, ho, hX4⟩
  have u4 := Lib.hid ((Ext.rfl' w3).tr hX4)
  have q4_0 := u4.out.cellE q3_0
  have z4 := u4.out.size
  clear hX4 q3_0 b3_0
  have b4_0 := blt q4_0
  have Ow := Lib.hid (ho)
  clear ho
  go_wp2_with fail
  refine (HG.out _ (HN.out.ext (((((E0.out.tr u1.out).tr u2.out).tr u3.out).tr u4.out).al (.cells #[.slice Rw1 st.vals.length dw1, .slice Rw2 st.reads.length dw2] 31)))).mono ?_
  rintro e w5 ⟨Xx0, hx0, rfl, ho, hX5⟩
  have u5 := Lib.hid (((Ext.rfl' w4).al (.cells #[.slice Rw1 st.vals.length dw1, .slice Rw2 st.reads.length dw2] 31)).tr hX5)
  have q5_0 := u5.out.cellE q4_0
  have q5_1 := hX5.cellE (show World.cell? (World.alloc w4 (.cells #[.slice Rw1 st.vals.length dw1, .slice Rw2 st.reads.length dw2] 31)) ⟨w4.heap.size, 0, none⟩ = some (.slice Rw1 st.vals.length dw1) by simp [go_sem])
  have q5_2 := hX5.cellE (show World.cell? (World.alloc w4 (.cells #[.slice Rw1 st.vals.length dw1, .slice Rw2 st.reads.length dw2] 31)) ⟨w4.heap.size, 1, none⟩ = some (.slice Rw2 st.reads.length dw2) by simp [go_sem])
  have z5 := u5.out.size
  have y5 : w4.heap.size + 1 ≤ w5.heap.size := by have := hX5.size; simpa using this
  clear hX5 q4_0 b4_0
  have b5_0 := blt q5_0
  have b5_1 := blt q5_1
  have Ox0 := Lib.hid (ho)
  clear ho
  go_wp2_with fail
  refine (HT1.out _ (H1.out.ext ((((((E0.out.tr u1.out).tr u2.out).tr u3.out).tr u4.out).tr u5.out).al (.cells #[.slice Xx0 g.length g.length] 25)))).mono ?_
  rintro e w6 ⟨Xx1, rfl, ho, hX6⟩
  have u6 := Lib.hid (((Ext.rfl' w5).al (.cells #[.slice Xx0 g.length g.length] 25)).tr hX6)
  have q6_0 := u6.out.cellE q5_0
  have q6_1 := u6.out.cellE q5_1
  have q6_2 := u6.out.cellE q5_2
  have q6_3 := hX6.cellE (show World.cell? (World.alloc w5 (.cells #[.slice Xx0 g.length g.length] 25)) ⟨w5.heap.size, 0, none⟩ = some (.slice Xx0 g.length g.length) by simp [go_sem])
  have z6 := u6.out.size
  have y6 : w5.heap.size + 1 ≤ w6.heap.size := by have := hX6.size; simpa using this
  clear hX6 q5_0 q5_1 q5_2 b5_0 b5_1
  have b6_0 := blt q6_0
  have b6_1 := blt q6_1
  have b6_2 := blt q6_3
  have Ox1 := Lib.hid (ho)
  clear ho
  go_wp2_with fail
  refine (HI.out Xx0 g.length Xx1 l1.length  _ (OwnN.rdN (OwnD.ext Ox0.out ((Ext.rfl' w5).tr u6.out)) hgl2 Hfl.out) (Own.ext Ox1.out (Ext.rfl' w6)).rd).mono ?_
  rintro e w7 ⟨Rg1, dg1, Rg2, dg2, hg, rfl, ho, hX7⟩
  have u7 := Lib.hid ((Ext.rfl' w6).tr hX7)
  have q7_0 := u7.out.cellE q6_0
  have q7_1 := u7.out.cellE q6_1
  have q7_2 := u7.out.cellE q6_2
  have q7_3 := u7.out.cellE q6_3
  have z7 := u7.out.size
  clear hX7 q6_0 q6_1 q6_2 q6_3 b6_0 b6_1 b6_2
  have b7_0 := blt q7_0
  have b7_1 := blt q7_1
  have b7_2 := blt q7_3
  have Og := Lib.hid (ho)
  clear ho
  go_wp2_with fail
  refine (HEE.out Rg1 Rw1 Rg2 Rw2 dg1 dw1 dg2 dw2 _ ((OwnE.ext Og.out ((Ext.rfl' w7).al (.cells #[.slice Rg1 st.vals.length dg1, .slice Rg2 st.reads.length dg2] 31))).rv) ((OwnE.ext Ow.out (((((Ext.rfl' w4).tr u5.out).tr u6.out).tr u7.out).al (.cells #[.slice Rg1 st.vals.length dg1, .slice Rg2 st.reads.length dg2] 31))).rv) ((OwnE.ext Og.out ((Ext.rfl' w7).al (.cells #[.slice Rg1 st.vals.length dg1, .slice Rg2 st.reads.length dg2] 31))).rr Hsm.out) ((OwnE.ext Ow.out (((((Ext.rfl' w4).tr u5.out).tr u6.out).tr u7.out).al (.cells #[.slice Rg1 st.vals.length dg1, .slice Rg2 st.reads.length dg2] 31))).rr Hsm.out)).mono ?_
  rintro e w8 ⟨rfl, hX8⟩
  have u8 := Lib.hid (((Ext.rfl' w7).al (.cells #[.slice Rg1 st.vals.length dg1, .slice Rg2 st.reads.length dg2] 31)).tr hX8)
  have q8_0 := u8.out.cellE q7_0
  have q8_1 := u8.out.cellE q7_1
  have q8_2 := u8.out.cellE q7_2
  have q8_3 := u8.out.cellE q7_3
  have q8_4 := hX8.cellE (show World.cell? (World.alloc w7 (.cells #[.slice Rg1 st.vals.length dg1, .slice Rg2 st.reads.length dg2] 31)) ⟨w7.heap.size, 0, none⟩ = some (.slice Rg1 st.vals.length dg1) by simp [go_sem])
  have q8_5 := hX8.cellE (show World.cell? (World.alloc w7 (.cells #[.slice Rg1 st.vals.length dg1, .slice Rg2 st.reads.length dg2] 31)) ⟨w7.heap.size, 1, none⟩ = some (.slice Rg2 st.reads.length dg2) by simp [go_sem])
  have z8 := u8.out.size
  have y8 : w7.heap.size + 1 ≤ w8.heap.size := by have := hX8.size; simpa using this
  clear hX8 q7_0 q7_1 q7_2 q7_3 b7_0 b7_1 b7_2
  have b8_0 := blt q8_0
  have b8_1 := blt q8_1
  have b8_2 := blt q8_3
  have b8_3 := blt q8_4
  go_wp2_with fail
  have ec := Lib.hid ((Ext.rfl' w8).dr)
  go_region_held3 (fun W => W.cell? ⟨w.heap.size, 0, none⟩ = some (.slice A g.length c) ∧ W.cell? ⟨w5.heap.size, 0, none⟩ = some (.slice Xx0 g.length g.length))
    (first | exact ⟨ec.out.cellE q8_0, ec.out.cellE q8_3⟩ | go_keep)
    (first
      | (go_at_call 28; refine (HG.out _ (HN.out.ext (((((((((E0.out.tr u1.out).tr u2.out).tr u3.out).tr u4.out).tr u5.out).tr u6.out).tr u7.out).tr u8.out).tr ec.out))).mono ?_; rintro e wy0 ⟨Xy0, hy0, rfl, hoy0, hey0⟩; have ed := Lib.hid (ec.out.tr hey0); clear ec; have ec := ed; clear ed)
      | (go_at_call 30; refine (HEG.out Xx0 Xy0 _ (OwnN.rdN (OwnD.ext Ox0.out (((((Ext.rfl' w5).tr u6.out).tr u7.out).tr u8.out).tr ec.out)) hgl2 Hfl.out) (OwnN.rdN hoy0 hgl2 Hfl.out)).mono ?_; rintro e w9 ⟨rfl, hez⟩; have ed := Lib.hid (ec.out.tr hez); clear ec; have ec := ed; clear ed))
  have hX9 := ec.out
  clear ec hoy0 hey0 hez
  have u9 := Lib.hid hX9
  have q9_0 := u9.out.cellE q8_0
  have q9_1 := u9.out.cellE q8_1
  have q9_2 := u9.out.cellE q8_2
  have q9_3 := u9.out.cellE q8_3
  have q9_4 := u9.out.cellE q8_4
  have q9_5 := u9.out.cellE q8_5
  have z9 := u9.out.size
  clear hX9 q8_0 q8_1 q8_2 q8_3 q8_4 q8_5 b8_0 b8_1 b8_2 b8_3
  have b9_0 := blt q9_0
  have b9_1 := blt q9_1
  have b9_2 := blt q9_3
  have b9_3 := blt q9_4
  go_wp2_with fail
  refine (HT1.out _ (H1.out.ext (((((((((E0.out.tr u1.out).tr u2.out).tr u3.out).tr u4.out).tr u5.out).tr u6.out).tr u7.out).tr u8.out).tr u9.out))).mono ?_
  rintro e w10 ⟨Xy1, rfl, ho, hX10⟩
  have u10 := Lib.hid ((Ext.rfl' w9).tr hX10)
  have q10_0 := u10.out.cellE q9_0
  have q10_1 := u10.out.cellE q9_1
  have q10_2 := u10.out.cellE q9_2
  have q10_3 := u10.out.cellE q9_3
  have q10_4 := u10.out.cellE q9_4
  have q10_5 := u10.out.cellE q9_5
  have z10 := u10.out.size
  clear hX10 q9_0 q9_1 q9_2 q9_3 q9_4 q9_5 b9_0 b9_1 b9_2 b9_3
  have b10_0 := blt q10_0
  have b10_1 := blt q10_1
  have b10_2 := blt q10_3
  have b10_3 := blt q10_4
  have Oy1 := Lib.hid (ho)
  clear ho
  go_wp2_with fail
  refine (HEI1.out Xx1 Xy1 _ (Own.ext Ox1.out (((((Ext.rfl' w6).tr u7.out).tr u8.out).tr u9.out).tr u10.out)).rd (Own.ext Oy1.out (Ext.rfl' w10)).rd).mono ?_
  rintro e w11 ⟨rfl, hX11⟩
  have u11 := Lib.hid ((Ext.rfl' w10).tr hX11)
  have q11_0 := u11.out.cellE q10_0
  have q11_1 := u11.out.cellE q10_1
  have q11_2 := u11.out.cellE q10_2
  have q11_3 := u11.out.cellE q10_3
  have q11_4 := u11.out.cellE q10_4
  have q11_5 := u11.out.cellE q10_5
  have z11 := u11.out.size
  clear hX11 q10_0 q10_1 q10_2 q10_3 q10_4 q10_5 b10_0 b10_1 b10_2 b10_3
  have b11_0 := blt q11_0
  have b11_1 := blt q11_1
  have b11_2 := blt q11_3
  have b11_3 := blt q11_4
  have Hlo0 : Hid (∀ b, (fpD Xx0 hx0) b → w4.heap.size + 1 ≤ b ∧ b < w5.heap.size) := Lib.hid (fun b hb => by have := (Ox0.out.lt hb); (try simp only [World.size_alloc] at this); exact this)
  have Hlo1 : Hid (∀ b, (fun b => blk Xx1 = some b) b → w5.heap.size + 1 ≤ b ∧ b < w6.heap.size) := Lib.hid (fun b hb => by have := (Ox1.out.lt hb); (try simp only [World.size_alloc] at this); exact this)
  have HloG : Hid (∀ b, (blk Rg1 = some b ∨ fpD Rg2 hg b) → w6.heap.size ≤ b ∧ b < w7.heap.size) := Lib.hid (fun b hb => by have := (Og.out.lt hb); (try simp only [World.size_alloc] at this); exact this)
  have OXx1_0 := Lib.hid (Ox1.out.ext ((((((Ext.rfl' w6).tr u7.out).tr u8.out).tr u9.out).tr u10.out).tr u11.out))
  have Og_0 := Lib.hid (OwnE.ext Og.out (((((Ext.rfl' w7).tr u8.out).tr u9.out).tr u10.out).tr u11.out))
  go_wp2_with fail
  refine (HMG.out _ Xx0 hx0 (1) _ (OwnD.ext Ox0.out (((((((Ext.rfl' w5).tr u6.out).tr u7.out).tr u8.out).tr u9.out).tr u10.out).tr u11.out)) (by omega) (by omega)).mono ?_
  rintro e w12 ⟨rfl, ho, hX12⟩
  have u12 := Lib.hid hX12
  have v12 := Lib.hid (fun b hb => Hlo0.out b hb)
  have q12_0 := u12.out.cellE q11_0 (by intro e; have := v12.out _ e; omega)
  have q12_1 := u12.out.cellE q11_1 (by intro e; have := v12.out _ e; omega)
  have q12_2 := u12.out.cellE q11_2 (by intro e; have := v12.out _ e; omega)
  have q12_3 := u12.out.cellE q11_3 (by intro e; have := v12.out _ e; omega)
  have q12_4 := u12.out.cellE q11_4 (by intro e; have := v12.out _ e; omega)
  have q12_5 := u12.out.cellE q11_5 (by intro e; have := v12.out _ e; omega)
  have z12 := u12.out.size
  clear hX12 q11_0 q11_1 q11_2 q11_3 q11_4 q11_5 b11_0 b11_1 b11_2 b11_3
  have b12_0 := blt q12_0
  have b12_1 := blt q12_1
  have b12_2 := blt q12_3
  have b12_3 := blt q12_4
  clear ho
  have Ox1_m0 := Lib.hid (Own.mod OXx1_0.out u12.out (fun b hb e => by have h1 := v12.out b e; have h2 := (Ox1.out.lt hb); (try simp only [World.size_alloc] at h2); omega))
  have Og_m0 := Lib.hid (OwnE.mod Og_0.out u12.out (fun b hb e => by have h1 := v12.out b e; have h2 := (Og_0.out.lt hb); (try simp only [World.size_alloc] at h2); omega))
  have Og_1 := Lib.hid (OwnE.ext Og_m0.out (Ext.rfl' w12))
  go_wp2_with fail
  refine (HMI1.out _ Xx1 (1 + (totN g : Int)) _ (Own.ext Ox1_m0.out (Ext.rfl' w12)) (by omega) (by omega)).mono ?_
  rintro e w13 ⟨rfl, ho, hX13⟩
  have u13 := Lib.hid hX13
  have v13 := Lib.hid (fun b hb => Hlo1.out b hb)
  have q13_0 := u13.out.cellE q12_0 (by intro e; have := v13.out _ e; omega)
  have q13_1 := u13.out.cellE q12_1 (by intro e; have := v13.out _ e; omega)
  have q13_2 := u13.out.cellE q12_2 (by intro e; have := v13.out _ e; omega)
  have q13_3 := u13.out.cellE q12_3 (by intro e; have := v13.out _ e; omega)
  have q13_4 := u13.out.cellE q12_4 (by intro e; have := v13.out _ e; omega)
  have q13_5 := u13.out.cellE q12_5 (by intro e; have := v13.out _ e; omega)
  have z13 := u13.out.size
  clear hX13 q12_0 q12_1 q12_2 q12_3 q12_4 q12_5 b12_0 b12_1 b12_2 b12_3
  have b13_0 := blt q13_0
  have b13_1 := blt q13_1
  have b13_2 := blt q13_3
  have b13_3 := blt q13_4
  clear ho
  have Og_m0_m1 := Lib.hid (OwnE.mod Og_1.out u13.out (fun b hb e => by have h1 := v13.out b e; have h2 := (Og_1.out.lt hb); (try simp only [World.size_alloc] at h2); omega))
  have kneg : decide (1 + (totN g : Int) + (l1.length : Int) < 0) = false := by simp; omega
  go_wp2_with fail
  refine (HEE.out Rg1 Rw1 Rg2 Rw2 dg1 dw1 dg2 dw2 _ ((OwnE.ext Og_m0_m1.out (Ext.rfl' w13)).rv) ((OwnE.ext Ow.out (Ext.md (Ext.md ((((((((Ext.rfl' w4).tr u5.out).tr u6.out).tr u7.out).tr u8.out).tr u9.out).tr u10.out).tr u11.out) u12.out (fun b hb => by have := v12.out b hb; omega)) u13.out (fun b hb => by have := v13.out b hb; omega))).rv) ((OwnE.ext Og_m0_m1.out (Ext.rfl' w13)).rr Hsm.out) ((OwnE.ext Ow.out (Ext.md (Ext.md ((((((((Ext.rfl' w4).tr u5.out).tr u6.out).tr u7.out).tr u8.out).tr u9.out).tr u10.out).tr u11.out) u12.out (fun b hb => by have := v12.out b hb; omega)) u13.out (fun b hb => by have := v13.out b hb; omega))).rr Hsm.out)).mono ?_
  rintro e w14 ⟨rfl, hX14⟩
  have u14 := Lib.hid ((Ext.rfl' w13).tr hX14)
  have q14_0 := u14.out.cellE q13_0
  have q14_1 := u14.out.cellE q13_1
  have q14_2 := u14.out.cellE q13_2
  have q14_3 := u14.out.cellE q13_3
  have q14_4 := u14.out.cellE q13_4
  have q14_5 := u14.out.cellE q13_5
  have z14 := u14.out.size
  clear hX14 q13_0 q13_1 q13_2 q13_3 q13_4 q13_5 b13_0 b13_1 b13_2 b13_3
  have b14_0 := blt q14_0
  have b14_1 := blt q14_1
  have b14_2 := blt q14_3
  have b14_3 := blt q14_4
  have HOg := Lib.hid (OwnE.ext Og_m0_m1.out ((Ext.rfl' w13).tr u14.out))
  go_wp2_with fail
  refine (HME.out _ Rg1 Rg2 dg1 dg2 hg 1 _ HOg.out.v HOg.out.r HOg.out.d (by omega) (by omega)).mono ?_
  rintro e w15 ⟨rfl, hv, hr, hX15⟩
  have u15 := Lib.hid hX15
  have v15 := Lib.hid (HloG.out)
  have q15_0 := u15.out.cellE q14_0 (by intro e; have := v15.out _ e; omega)
  have q15_1 := u15.out.cellE q14_1 (by intro e; have := v15.out _ e; omega)
  have q15_2 := u15.out.cellE q14_2 (by intro e; have := v15.out _ e; omega)
  have q15_3 := u15.out.cellE q14_3 (by intro e; have := v15.out _ e; omega)
  have q15_4 := u15.out.cellE q14_4 (by intro e; have := v15.out _ e; omega)
  have q15_5 := u15.out.cellE q14_5 (by intro e; have := v15.out _ e; omega)
  have z15 := u15.out.size
  clear hX15 q14_0 q14_1 q14_2 q14_3 q14_4 q14_5 b14_0 b14_1 b14_2 b14_3
  have b15_0 := blt q15_0
  have b15_1 := blt q15_1
  have b15_2 := blt q15_3
  have b15_3 := blt q15_4
  have Hv := Lib.hid hv
  have Hr := Lib.hid hr
  clear hv hr
  have mne : ((1 + (st.vals.length : Int) + (totL st.reads : Int)) != (1 + (st.vals.length : Int) + (totL st.reads : Int))) = false := by simp
  have mge : decide ((1 + (st.vals.length : Int) + (totL st.reads : Int)) < 0) = false := by simp; omega
  go_wp2_with fail
  refine (HHE.out Rg1 Rg2 dg1 dg2 1 _ ((Hv.out.ext (Ext.rfl' w15)).rd) (OwnL.rdL (OwnD.ext Hr.out (Ext.rfl' w15)) (by simpa using sm2) (by intro x hx; exact numL_small _ _ Hsm.out.e x hx)) (by omega) (by omega)).mono ?_
  rintro e w16 ⟨rfl, hX16⟩
  have u16 := Lib.hid ((Ext.rfl' w15).tr hX16)
  have q16_0 := u16.out.cellE q15_0
  have q16_1 := u16.out.cellE q15_1
  have q16_2 := u16.out.cellE q15_2
  have q16_3 := u16.out.cellE q15_3
  have q16_4 := u16.out.cellE q15_4
  have q16_5 := u16.out.cellE q15_5
  have z16 := u16.out.size
  clear hX16 q15_0 q15_1 q15_2 q15_3 q15_4 q15_5 b15_0 b15_1 b15_2 b15_3
  have b16_0 := blt q16_0
  have b16_1 := blt q16_1
  have b16_2 := blt q16_3
  have b16_3 := blt q16_4
  go_wp2_with fail
  refine (HG.out _ (HN.out.ext ((Ext.md ((Ext.md (Ext.md (((((((((((E0.out.tr u1.out).tr u2.out).tr u3.out).tr u4.out).tr u5.out).tr u6.out).tr u7.out).tr u8.out).tr u9.out).tr u10.out).tr u11.out) u12.out (fun b hb => by have := v12.out b hb; omega)) u13.out (fun b hb => by have := v13.out b hb; omega)).tr u14.out) u15.out (fun b hb => by have := v15.out b hb; omega)).tr u16.out))).mono ?_
  rintro e w17 ⟨Xz0, hz0, rfl, ho, hX17⟩
  have u17 := Lib.hid ((Ext.rfl' w16).tr hX17)
  have q17_0 := u17.out.cellE q16_0
  have q17_1 := u17.out.cellE q16_1
  have q17_2 := u17.out.cellE q16_2
  have q17_3 := u17.out.cellE q16_3
  have q17_4 := u17.out.cellE q16_4
  have q17_5 := u17.out.cellE q16_5
  have z17 := u17.out.size
  clear hX17 q16_0 q16_1 q16_2 q16_3 q16_4 q16_5 b16_0 b16_1 b16_2 b16_3
  have b17_0 := blt q17_0
  have b17_1 := blt q17_1
  have b17_2 := blt q17_3
  have b17_3 := blt q17_4
  have Oz0 := Lib.hid (ho)
  clear ho
  go_wp2_with fail
  refine (HT1.out _ (H1.out.ext (((Ext.md ((Ext.md (Ext.md (((((((((((E0.out.tr u1.out).tr u2.out).tr u3.out).tr u4.out).tr u5.out).tr u6.out).tr u7.out).tr u8.out).tr u9.out).tr u10.out).tr u11.out) u12.out (fun b hb => by have := v12.out b hb; omega)) u13.out (fun b hb => by have := v13.out b hb; omega)).tr u14.out) u15.out (fun b hb => by have := v15.out b hb; omega)).tr u16.out).tr u17.out))).mono ?_
  rintro e w18 ⟨Xz1, rfl, ho, hX18⟩
  have u18 := Lib.hid ((Ext.rfl' w17).tr hX18)
  have q18_0 := u18.out.cellE q17_0
  have q18_1 := u18.out.cellE q17_1
  have q18_2 := u18.out.cellE q17_2
  have q18_3 := u18.out.cellE q17_3
  have q18_4 := u18.out.cellE q17_4
  have q18_5 := u18.out.cellE q17_5
  have z18 := u18.out.size
  clear hX18 q17_0 q17_1 q17_2 q17_3 q17_4 q17_5 b17_0 b17_1 b17_2 b17_3
  have b18_0 := blt q18_0
  have b18_1 := blt q18_1
  have b18_2 := blt q18_3
  have b18_3 := blt q18_4
  have Oz1 := Lib.hid (ho)
  clear ho
  go_wp2_with fail
  refine (HI.out Xz0 g.length Xz1 l1.length  _ (OwnN.rdN (OwnD.ext Oz0.out ((Ext.rfl' w17).tr u18.out)) hgl2 Hfl.out) (Own.ext Oz1.out (Ext.rfl' w18)).rd).mono ?_
  rintro e w19 ⟨Rh1, dh1, Rh2, dh2, hh, rfl, ho, hX19⟩
  have u19 := Lib.hid ((Ext.rfl' w18).tr hX19)
  have q19_0 := u19.out.cellE q18_0
  have q19_1 := u19.out.cellE q18_1
  have q19_2 := u19.out.cellE q18_2
  have q19_3 := u19.out.cellE q18_3
  have q19_4 := u19.out.cellE q18_4
  have q19_5 := u19.out.cellE q18_5
  have z19 := u19.out.size
  clear hX19 q18_0 q18_1 q18_2 q18_3 q18_4 q18_5 b18_0 b18_1 b18_2 b18_3
  have b19_0 := blt q19_0
  have b19_1 := blt q19_1
  have b19_2 := blt q19_3
  have b19_3 := blt q19_4
  have Oh := Lib.hid (ho)
  clear ho
  go_wp2_with fail
  refine (HEE.out Rh1 Rw1 Rh2 Rw2 dh1 dw1 dh2 dw2 _ ((OwnE.ext Oh.out ((Ext.rfl' w19).al (.cells #[.slice Rh1 st.vals.length dh1, .slice Rh2 st.reads.length dh2] 31))).rv) ((OwnE.ext Ow.out ((((((Ext.md ((Ext.md (Ext.md ((((((((Ext.rfl' w4).tr u5.out).tr u6.out).tr u7.out).tr u8.out).tr u9.out).tr u10.out).tr u11.out) u12.out (fun b hb => by have := v12.out b hb; omega)) u13.out (fun b hb => by have := v13.out b hb; omega)).tr u14.out) u15.out (fun b hb => by have := v15.out b hb; omega)).tr u16.out).tr u17.out).tr u18.out).tr u19.out).al (.cells #[.slice Rh1 st.vals.length dh1, .slice Rh2 st.reads.length dh2] 31))).rv) ((OwnE.ext Oh.out ((Ext.rfl' w19).al (.cells #[.slice Rh1 st.vals.length dh1, .slice Rh2 st.reads.length dh2] 31))).rr Hsm.out) ((OwnE.ext Ow.out ((((((Ext.md ((Ext.md (Ext.md ((((((((Ext.rfl' w4).tr u5.out).tr u6.out).tr u7.out).tr u8.out).tr u9.out).tr u10.out).tr u11.out) u12.out (fun b hb => by have := v12.out b hb; omega)) u13.out (fun b hb => by have := v13.out b hb; omega)).tr u14.out) u15.out (fun b hb => by have := v15.out b hb; omega)).tr u16.out).tr u17.out).tr u18.out).tr u19.out).al (.cells #[.slice Rh1 st.vals.length dh1, .slice Rh2 st.reads.length dh2] 31))).rr Hsm.out)).mono ?_
  rintro e w20 ⟨rfl, hX20⟩
  have u20 := Lib.hid (((Ext.rfl' w19).al (.cells #[.slice Rh1 st.vals.length dh1, .slice Rh2 st.reads.length dh2] 31)).tr hX20)
  have q20_0 := u20.out.cellE q19_0
  have q20_1 := u20.out.cellE q19_1
  have q20_2 := u20.out.cellE q19_2
  have q20_3 := u20.out.cellE q19_3
  have q20_4 := u20.out.cellE q19_4
  have q20_5 := u20.out.cellE q19_5
  have q20_6 := hX20.cellE (show World.cell? (World.alloc w19 (.cells #[.slice Rh1 st.vals.length dh1, .slice Rh2 st.reads.length dh2] 31)) ⟨w19.heap.size, 0, none⟩ = some (.slice Rh1 st.vals.length dh1) by simp [go_sem])
  have q20_7 := hX20.cellE (show World.cell? (World.alloc w19 (.cells #[.slice Rh1 st.vals.length dh1, .slice Rh2 st.reads.length dh2] 31)) ⟨w19.heap.size, 1, none⟩ = some (.slice Rh2 st.reads.length dh2) by simp [go_sem])
  have z20 := u20.out.size
  have y20 : w19.heap.size + 1 ≤ w20.heap.size := by have := hX20.size; simpa using this
  clear hX20 q19_0 q19_1 q19_2 q19_3 q19_4 q19_5 b19_0 b19_1 b19_2 b19_3
  have b20_0 := blt q20_0
  have b20_1 := blt q20_1
  have b20_2 := blt q20_3
  have b20_3 := blt q20_4
  have b20_4 := blt q20_6
  go_wp2_with fail
  refine (HHE.out Rg1 Rg2 dg1 dg2 1 _ ((Hv.out.ext ((((((Ext.rfl' w15).tr u16.out).tr u17.out).tr u18.out).tr u19.out).tr u20.out)).rd) (OwnL.rdL (OwnD.ext Hr.out ((((((Ext.rfl' w15).tr u16.out).tr u17.out).tr u18.out).tr u19.out).tr u20.out)) (by simpa using sm2) (by intro x hx; exact numL_small _ _ Hsm.out.e x hx)) (by omega) (by omega)).mono ?_
  rintro e w21 ⟨rfl, hX21⟩
  have u21 := Lib.hid ((Ext.rfl' w20).tr hX21)
  have q21_0 := u21.out.cellE q20_0
  have q21_1 := u21.out.cellE q20_1
  have q21_2 := u21.out.cellE q20_2
  have q21_3 := u21.out.cellE q20_3
  have q21_4 := u21.out.cellE q20_4
  have q21_5 := u21.out.cellE q20_5
  have q21_6 := u21.out.cellE q20_6
  have q21_7 := u21.out.cellE q20_7
  have z21 := u21.out.size
  clear hX21 q20_0 q20_1 q20_2 q20_3 q20_4 q20_5 q20_6 q20_7 b20_0 b20_1 b20_2 b20_3 b20_4
  have b21_0 := blt q21_0
  have b21_1 := blt q21_1
  have b21_2 := blt q21_3
  have b21_3 := blt q21_4
  have b21_4 := blt q21_6
  go_wp2
  go_ret
  exact ⟨rfl, (((((((Ext.md ((Ext.md (Ext.md (((((((((((E0.out.tr u1.out).tr u2.out).tr u3.out).tr u4.out).tr u5.out).tr u6.out).tr u7.out).tr u8.out).tr u9.out).tr u10.out).tr u11.out) u12.out (fun b hb => by have := v12.out b hb; omega)) u13.out (fun b hb => by have := v13.out b hb; omega)).tr u14.out) u15.out (fun b hb => by have := v15.out b hb; omega)).tr u16.out).tr u17.out).tr u18.out).tr u19.out).tr u20.out).tr u21.out)⟩
end Go.Proofs.Ytkkegmimofmhpaa
