/- FnWhyChanged: the law's walk. Conditions: the code can be read. -/
import Derived.Test.YteighpaljdlnaaaTy
import Derived.Test.YteighpaljdlnaaaDrawV
import Derived.Test.YteighpaljdlnaaaImplZw
import Derived.Test.YteighpaljdlnaaaMeanAll
import Derived.Test.YteighpaljdlnaaaPlW
import Derived.Test.YteighpaljdlnaaaEqAll
import Derived.Test.YteighpaljdlnaaaCore
namespace Go.Proofs.Yteighpaljdlnaaa
open Go.RowKit
theorem l_isInY (A : Option Addr) (c : Nat) (l : List Int) (n : Int) (hin : n ∈ l) (w : World) (h : Rd w 1 A l.length (ints l)) : Calls Try.prog 11 #[.slice A l.length c, .int .i64 n] w fun e w' => e = .returned (.bool true) ∧ Ext w w' := by
 have := l_isInB A c l n w h
 rw [decide_eq_true hin] at this
 exact this

set_option maxRecDepth 100000 in
set_option maxHeartbeats 8000000 in
theorem ex_FnWhyChanged (A : Option Addr) (c : Nat) (l : List Int) (w : World) (h : Rd w 1 A l.length (u8s l)) (hr : ∀ x ∈ l, 0 ≤ x ∧ x ≤ 255) (hc : l.length ≤ c) (hcm : c ≤ maxLen) :
  Calls Try.prog 3 #[.slice A l.length c] w fun e w' => e = .returned (.bool true) ∧ Ext w w' := by
 have hbig := h.big
 have HD := lh (s_DrawWhyChanged A c l w h hr hc hcm)
 clear h hr hc hcm
 by_cases hb : 1048576 < l.length
 ·have hb2 : (1048576 : Int) < (l.length : Int) := by omega
  go_enter Try.func3, Try.ntmps3
  go_wp2
  go_ret
  exact ⟨rfl, Ext.rfl' _⟩
 have hb2 : ¬ (1048576 : Int) < (l.length : Int) := by omega
 clear hb
 have E0 := lh ((Ext.rfl' w) : Ext w w)
 go_enter Try.func3, Try.ntmps3
 go_wp2_with fail
 refine (HD.out).mono ?_
 rintro e w1 ⟨g, Ag, cg, a, Aa, ca, b, Ab, cb, n, rfl, hg2, hg10, hal, hbl, hn0, hn1, hN, hA, hB, he1⟩
 have H1 := lh hN
 have A1 := lh hA
 have B1 := lh hB
 have hna : -9223372036854775808 ≤ n := by omega
 have hnb : n ≤ 9223372036854775807 := by omega
 clear hN hA hB hn0 hn1 HD
 have U1 := lh ((Ext.rfl' w).tr he1)
 have E1 := lh (E0.out.tr U1.out)
 clear he1 
 have sz1 := U1.out.size
 obtain ⟨L, hL0⟩ : ∃ L, L = Sg.whyOr g a b n := ⟨_, rfl⟩
 have HI := lh (fun w h ha hb => by have := i_WhyChanged Ag Aa Ab cg ca cb g a b n w h ha hb; rw [← hL0] at this; exact this)
 have HS := lh (fun w h ha hb => by have := s_WhyChanged Ag Aa Ab cg ca cb g a b n w h ha hb hna hnb; rw [← hL0] at this; exact this)
 have HVA := lh (fun w h ha => i_ValidCells Ag Aa cg ca g a w h ha)
 have HVB := lh (fun w h hb => i_ValidCells Ag Ab cg cb g b w h hb)
 have HL0 := lh hL0
 clear hL0 hna hnb
 have X1_1 := lh (Ext.al (Ext.rfl' w1) (.cells #[.slice Ag g.length cg] 25))
 go_wp2_with fail
 refine (HI.out _ (H1.out.ext X1_1.out) (A1.out.ext X1_1.out) (B1.out.ext X1_1.out)).mono ?_
 rintro e w2 ⟨A2, rfl, ho2, he2⟩
 have Hc2 := lh ho2.rd
 clear ho2
 have U2 := lh ((Ext.al (Ext.rfl' w1) (.cells #[.slice Ag g.length cg] 25)).tr he2)
 have E2 := lh (E1.out.tr U2.out)
 have lg_2 := he2.cellE (show World.cell? (World.alloc w1 (.cells #[.slice Ag g.length cg] 25)) ⟨w1.heap.size, 0, none⟩ = some (.slice Ag g.length cg) by simp [go_sem])
 clear he2 X1_1
 have blg_2 := blt lg_2
 have sz2 := U2.out.size
 have X2_2 := lh ((Ext.rfl' w1).tr U2.out)
 go_wp2_with fail
 refine (HS.out _ (H1.out.ext X2_2.out) (A1.out.ext X2_2.out) (B1.out.ext X2_2.out)).mono ?_
 rintro e w3 ⟨A3, c3, rfl, ho3, he3⟩
 have Hc3 := lh ho3.rd
 clear ho3
 have U3 := lh ((Ext.rfl' w2).tr he3)
 have E3 := lh (E2.out.tr U3.out)
 have lg_3 := U3.out.cellE lg_2
 clear he3 lg_2 blg_2 X2_2
 have blg_3 := blt lg_3
 have sz3 := U3.out.size
 have X3_3 := lh ((Ext.rfl' w2).tr U3.out)
 have X3_4 := lh (Ext.rfl' w3)
 go_wp2_with fail
 refine (l_equalInts A2 A3 L.length c3 L _ (Hc2.out.ext X3_3.out) (Hc3.out.ext X3_4.out)).mono ?_
 rintro e w4 ⟨rfl, he4⟩
 have U4 := lh ((Ext.rfl' w3).tr he4)
 have E4 := lh (E3.out.tr U4.out)
 have lg_4 := U4.out.cellE lg_3
 clear he4 lg_3 blg_3 X3_3 X3_4
 have blg_4 := blt lg_4
 have sz4 := U4.out.size
 have X4_5 := lh ((((Ext.rfl' w1).tr U2.out).tr U3.out).tr U4.out)
 go_wp2_with fail
 refine (HVA.out _ (H1.out.ext X4_5.out) (A1.out.ext X4_5.out)).mono ?_
 rintro e w5 ⟨rfl, he5⟩
 have U5 := lh ((Ext.rfl' w4).tr he5)
 have E5 := lh (E4.out.tr U5.out)
 have lg_5 := U5.out.cellE lg_4
 clear he5 lg_4 blg_4 X4_5
 have blg_5 := blt lg_5
 have sz5 := U5.out.size
 cases hA : (Sg.validG g && Sg.validC g a)
 ·skip
  clear hA
  have X5_6 := lh (((((Ext.rfl' w1).tr U2.out).tr U3.out).tr U4.out).tr U5.out)
  go_wp2_with fail
  refine (HS.out _ (H1.out.ext X5_6.out) (A1.out.ext X5_6.out) (B1.out.ext X5_6.out)).mono ?_
  rintro e w6 ⟨A4, c4, rfl, ho4, he6⟩
  have Hc4 := lh ho4.rd
  clear ho4
  have U6 := lh ((Ext.rfl' w5).tr he6)
  have E6 := lh (E5.out.tr U6.out)
  have lg_6 := U6.out.cellE lg_5
  clear he6 lg_5 blg_5 X5_6
  have blg_6 := blt lg_6
  have sz6 := U6.out.size
  have X6_7 := lh (((((Ext.rfl' w2).tr U3.out).tr U4.out).tr U5.out).tr U6.out)
  have X6_8 := lh (Ext.rfl' w6)
  go_wp2_with fail
  refine (l_equalInts A2 A4 L.length c4 L _ (Hc2.out.ext X6_7.out) (Hc4.out.ext X6_8.out)).mono ?_
  rintro e w7 ⟨rfl, he7⟩
  have U7 := lh ((Ext.rfl' w6).tr he7)
  have E7 := lh (E6.out.tr U7.out)
  have lg_7 := U7.out.cellE lg_6
  clear he7 lg_6 blg_6 X6_7 X6_8
  have blg_7 := blt lg_7
  have sz7 := U7.out.size
  go_wp2
  go_ret
  exact ⟨rfl, E7.out⟩
 have HA := lh hA
 clear hA
 have X5_6 := lh (((((Ext.rfl' w1).tr U2.out).tr U3.out).tr U4.out).tr U5.out)
 go_wp2_with fail
 refine (HVB.out _ (H1.out.ext X5_6.out) (B1.out.ext X5_6.out)).mono ?_
 rintro e w6 ⟨rfl, he6⟩
 have U6 := lh ((Ext.rfl' w5).tr he6)
 have E6 := lh (E5.out.tr U6.out)
 have lg_6 := U6.out.cellE lg_5
 clear he6 lg_5 blg_5 X5_6
 have blg_6 := blt lg_6
 have sz6 := U6.out.size
 cases hB : (Sg.validG g && Sg.validC g b)
 ·skip
  clear hB
  have X6_7 := lh ((((((Ext.rfl' w1).tr U2.out).tr U3.out).tr U4.out).tr U5.out).tr U6.out)
  go_wp2_with fail
  refine (HS.out _ (H1.out.ext X6_7.out) (A1.out.ext X6_7.out) (B1.out.ext X6_7.out)).mono ?_
  rintro e w7 ⟨A4, c4, rfl, ho4, he7⟩
  have Hc4 := lh ho4.rd
  clear ho4
  have U7 := lh ((Ext.rfl' w6).tr he7)
  have E7 := lh (E6.out.tr U7.out)
  have lg_7 := U7.out.cellE lg_6
  clear he7 lg_6 blg_6 X6_7
  have blg_7 := blt lg_7
  have sz7 := U7.out.size
  have X7_8 := lh ((((((Ext.rfl' w2).tr U3.out).tr U4.out).tr U5.out).tr U6.out).tr U7.out)
  have X7_9 := lh (Ext.rfl' w7)
  go_wp2_with fail
  refine (l_equalInts A2 A4 L.length c4 L _ (Hc2.out.ext X7_8.out) (Hc4.out.ext X7_9.out)).mono ?_
  rintro e w8 ⟨rfl, he8⟩
  have U8 := lh ((Ext.rfl' w7).tr he8)
  have E8 := lh (E7.out.tr U8.out)
  have lg_8 := U8.out.cellE lg_7
  clear he8 lg_7 blg_7 X7_8 X7_9
  have blg_8 := blt lg_8
  have sz8 := U8.out.size
  go_wp2
  go_ret
  exact ⟨rfl, E8.out⟩
 have HB := lh hB
 clear hB
 by_cases hn0 : n < 0
 ·skip
  have X6_7 := lh ((((((Ext.rfl' w1).tr U2.out).tr U3.out).tr U4.out).tr U5.out).tr U6.out)
  go_wp2_with fail
  refine (HS.out _ (H1.out.ext X6_7.out) (A1.out.ext X6_7.out) (B1.out.ext X6_7.out)).mono ?_
  rintro e w7 ⟨A4, c4, rfl, ho4, he7⟩
  have Hc4 := lh ho4.rd
  clear ho4
  have U7 := lh ((Ext.rfl' w6).tr he7)
  have E7 := lh (E6.out.tr U7.out)
  have lg_7 := U7.out.cellE lg_6
  clear he7 lg_6 blg_6 X6_7
  have blg_7 := blt lg_7
  have sz7 := U7.out.size
  have X7_8 := lh ((((((Ext.rfl' w2).tr U3.out).tr U4.out).tr U5.out).tr U6.out).tr U7.out)
  have X7_9 := lh (Ext.rfl' w7)
  go_wp2_with fail
  refine (l_equalInts A2 A4 L.length c4 L _ (Hc2.out.ext X7_8.out) (Hc4.out.ext X7_9.out)).mono ?_
  rintro e w8 ⟨rfl, he8⟩
  have U8 := lh ((Ext.rfl' w7).tr he8)
  have E8 := lh (E7.out.tr U8.out)
  have lg_8 := U8.out.cellE lg_7
  clear he8 lg_7 blg_7 X7_8 X7_9
  have blg_8 := blt lg_8
  have sz8 := U8.out.size
  go_wp2
  go_ret
  exact ⟨rfl, E8.out⟩
 by_cases hn1 : n ≥ (g.length : Int)
 ·skip
  have X6_7 := lh ((((((Ext.rfl' w1).tr U2.out).tr U3.out).tr U4.out).tr U5.out).tr U6.out)
  go_wp2_with fail
  refine (HS.out _ (H1.out.ext X6_7.out) (A1.out.ext X6_7.out) (B1.out.ext X6_7.out)).mono ?_
  rintro e w7 ⟨A4, c4, rfl, ho4, he7⟩
  have Hc4 := lh ho4.rd
  clear ho4
  have U7 := lh ((Ext.rfl' w6).tr he7)
  have E7 := lh (E6.out.tr U7.out)
  have lg_7 := U7.out.cellE lg_6
  clear he7 lg_6 blg_6 X6_7
  have blg_7 := blt lg_7
  have sz7 := U7.out.size
  have X7_8 := lh ((((((Ext.rfl' w2).tr U3.out).tr U4.out).tr U5.out).tr U6.out).tr U7.out)
  have X7_9 := lh (Ext.rfl' w7)
  go_wp2_with fail
  refine (l_equalInts A2 A4 L.length c4 L _ (Hc2.out.ext X7_8.out) (Hc4.out.ext X7_9.out)).mono ?_
  rintro e w8 ⟨rfl, he8⟩
  have U8 := lh ((Ext.rfl' w7).tr he8)
  have E8 := lh (E7.out.tr U8.out)
  have lg_8 := U8.out.cellE lg_7
  clear he8 lg_7 blg_7 X7_8 X7_9
  have blg_8 := blt lg_8
  have sz8 := U8.out.size
  go_wp2
  go_ret
  exact ⟨rfl, E8.out⟩
 obtain ⟨k0, rfl⟩ := Int.eq_ofNat_of_zero_le (show 0 ≤ n by omega)
 have hk : k0 < g.length := by omega
 have hG : Sg.validG g = true := by have := HA.out; simp only [Bool.and_eq_true] at this; exact this.1
 have hCa : Sg.validC g a = true := by have := HA.out; simp only [Bool.and_eq_true] at this; exact this.2
 have hCb : Sg.validC g b = true := by have := HB.out; simp only [Bool.and_eq_true] at this; exact this.2
 have hcd : changedOr g a b = Sg.diffL (Sg.mean g a) (Sg.mean g b) := by unfold changedOr; rw [hG, hCa, hCb]; rfl
 have hWL := Sg.why_law hG hCa hCb rfl hk
 rw [← HL0.out] at hWL
 have HDR := lh (show ∀ y ∈ Sg.diffL (Sg.mean g a) (Sg.mean g b), ∃ i : Nat, y = i ∧ i < g.length from fun y hy => by obtain ⟨i, h1, h2, -⟩ := Sg.mem_diffL.1 hy; rw [Sg.length_mean] at h2; exact ⟨i, h1, h2⟩)
 have HX2 := lh (show ∀ x ∈ Sg.depsTo g (Sg.mean g a) g.length, x.length ≤ 1048576 from fun x hx => by
  unfold Sg.depsTo at hx
  obtain ⟨i, hi, rfl⟩ := List.mem_map.1 hx
  exact Nat.le_trans (Sg.depAt_len hG _ (List.mem_range.1 hi)) (by omega))
 have HDA := lh (show ∀ i, i < g.length → (Sg.depsTo g (Sg.mean g a) g.length)[i]? = some (Sg.depAt g (Sg.mean g a) i) from fun i hi => by unfold Sg.depsTo; simp [hi])
 have HDO := lh (fun w h ha => i_DepsOf Ag Aa cg ca g a w h ha hG hCa)
 have HRL := lh (show (Sg.depsTo g (Sg.mean g a) g.length).length = g.length by unfold Sg.depsTo; simp)
 obtain ⟨M, hM0⟩ : ∃ M, M = Sg.mean g a := ⟨_, rfl⟩
 rw [← hM0] at HX2 HDA HDO HRL
 obtain ⟨R, hR0⟩ : ∃ R, R = Sg.depsTo g M g.length := ⟨_, rfl⟩
 rw [← hR0] at HX2 HDA HDO HRL
 obtain ⟨D, hD0⟩ : ∃ D, D = Sg.diffL (Sg.mean g a) (Sg.mean g b) := ⟨_, rfl⟩
 rw [← hD0] at hcd hWL HDR
 rw [← hM0] at hWL
 have HCB := lh (fun w h ha hb => by have := i_ChangedBy Ag Aa Ab cg ca cb g a b w h ha hb; rw [hcd] at this; exact this)
 obtain ⟨W1, W2⟩ := hWL
 have hal2 : a.length = g.length := Sg.validC_len hCa
 have hbl2 : b.length = g.length := Sg.validC_len hCb
 have HLA := lh hal2
 have HLB := lh hbl2
 clear hM0 hR0 hD0 hcd hG hCa hCb hal2 hbl2 HI HS HVA HVB HA HB HL0
 have X6_7 := lh ((((((Ext.rfl' w1).tr U2.out).tr U3.out).tr U4.out).tr U5.out).tr U6.out)
 go_wp2_with fail
 refine (HCB.out _ (H1.out.ext X6_7.out) (A1.out.ext X6_7.out) (B1.out.ext X6_7.out)).mono ?_
 rintro e w7 ⟨A4, rfl, ho4, he7⟩
 have Hc4 := lh ho4.rd
 clear ho4
 have U7 := lh ((Ext.rfl' w6).tr he7)
 have E7 := lh (E6.out.tr U7.out)
 have lg_7 := U7.out.cellE lg_6
 clear he7 lg_6 blg_6 X6_7
 have blg_7 := blt lg_7
 have sz7 := U7.out.size
 by_cases hz : L = []
 ·skip
  have z1 : ((L.length : Int) == 0) = true := by simp [hz]
  have HIN := lh (fun A c w h => by have := l_isInB A c D (k0 : Int) w h; rw [decide_eq_false (W1 hz)] at this; exact this)
  clear hz W1 W2
  go_wp2_with fail
  refine (HIN.out A4 D.length _ Hc4.out).mono ?_
  rintro e w8 ⟨rfl, he8⟩
  have U8 := lh ((Ext.rfl' w7).tr he8)
  have E8 := lh (E7.out.tr U8.out)
  have lg_8 := U8.out.cellE lg_7
  clear he8 lg_7 blg_7
  have blg_8 := blt lg_8
  have sz8 := U8.out.size
  go_wp2
  go_ret
  exact ⟨rfl, E8.out⟩
 have z1 : ((L.length : Int) == 0) = false := by rw [beq_eq_false_iff_ne]; intro h; exact hz (List.length_eq_zero_iff.1 (by omega))
 obtain ⟨h, t, ht⟩ := List.exists_cons_of_ne_nil hz
 obtain ⟨hW, i, nd, hi, hig, hnd, hkd, hne⟩ := W2 h t ht
 rw [← ht] at hW
 have HW := lh hW
 have hL1 : 1 ≤ L.length := by rw [ht]; simp
 have HH := lh (show L[0]? = some (i : Int) by rw [ht, ← hi]; rfl)
 have HN := lh (show g[i]? = some nd ∧ nd.kind = 0 ∧ a.getD i 0 ≠ b.getD i 0 from ⟨hnd, hkd, hne⟩)
 clear hz W1 W2 ht hi hW hnd hkd hne
 have X7_8 := lh (((((((Ext.rfl' w1).tr U2.out).tr U3.out).tr U4.out).tr U5.out).tr U6.out).tr U7.out)
 go_wp2_with fail
 refine (HDO.out _ (H1.out.ext X7_8.out) (A1.out.ext X7_8.out)).mono ?_
 rintro e w8 ⟨A5, hs5, rfl, hd5, he8⟩
 have Hd5 := lh (OwnL.rdL hd5 (by rw [HRL.out]; omega) HX2.out)
 clear hd5
 have U8 := lh ((Ext.rfl' w7).tr he8)
 have E8 := lh (E7.out.tr U8.out)
 have lg_8 := U8.out.cellE lg_7
 clear he8 lg_7 blg_7 X7_8
 have blg_8 := blt lg_8
 have sz8 := U8.out.size
 go_wp2_with fail
 go_loopw [10] (fun s10 wr => ∃ n : Nat, 1 ≤ n ∧ n ≤ L.length ∧ s10 = .int .i64 n ∧ Hid (Ext w8 wr)) (fun s10 _ => L.length - (intOf s10).toNat)
 case atStart => exact ⟨1, Nat.le_refl _, hL1, rfl, lh (Ext.rfl' _)⟩
 case round =>
  obtain ⟨n, hn1, hn2, rfl, hext⟩ := hrel
  have lE0 := lh (Ext.rfl' wr)
  have lg_r := hext.out.cellE lg_8
  have blg_r := blt lg_r
  clear lg_8 blg_8
  have H1r := lh (H1.out.ext (((((((((Ext.rfl' w1).tr U2.out).tr U3.out).tr U4.out).tr U5.out).tr U6.out).tr U7.out).tr U8.out).tr hext.out))
  have A1r := lh (A1.out.ext (((((((((Ext.rfl' w1).tr U2.out).tr U3.out).tr U4.out).tr U5.out).tr U6.out).tr U7.out).tr U8.out).tr hext.out))
  have B1r := lh (B1.out.ext (((((((((Ext.rfl' w1).tr U2.out).tr U3.out).tr U4.out).tr U5.out).tr U6.out).tr U7.out).tr U8.out).tr hext.out))
  have Hc2r := lh (Hc2.out.ext ((((((((Ext.rfl' w2).tr U3.out).tr U4.out).tr U5.out).tr U6.out).tr U7.out).tr U8.out).tr hext.out))
  have Hc4r := lh (Hc4.out.ext (((Ext.rfl' w7).tr U8.out).tr hext.out))
  have Hd5r := lh (Hd5.out.ext ((Ext.rfl' w8).tr hext.out))
  have hbg := Hc2r.out.big
  by_cases hlt : n < L.length
  ·skip
   obtain ⟨m, rfl⟩ : ∃ m, n = m + 1 := ⟨n - 1, by omega⟩
   obtain ⟨bo, oo, y, rfl, hy, hcy⟩ := Hc2r.out.at1 hlt
   obtain ⟨bo2, oo2, x, hAx, hx, hcx⟩ := Hc2r.out.at1 (show m < L.length by omega)
   obtain ⟨rfl, rfl⟩ : bo = bo2 ∧ oo = oo2 := by simpa using hAx
   clear hAx
   obtain ⟨-, hxm⟩ := HW.out.next m x y hx hy
   obtain ⟨i2, rfl, hi2⟩ := HDR.out y (HW.out.all y (List.mem_of_getElem? hy))
   rw [Int.toNat_natCast] at hxm
   obtain ⟨l, bd, od, Al, cl, hl, rfl, hcl, hRl, hll⟩ := Hd5r.out.at_ (show i2 < R.length by rw [HRL.out]; exact hi2)
   obtain rfl : l = Sg.depAt g M i2 := by have := HDA.out i2 hi2; rw [hl] at this; exact Option.some.inj this
   obtain ⟨l, hl0⟩ : ∃ l, l = Sg.depAt g M i2 := ⟨_, rfl⟩
   rw [← hl0] at hxm hcl hRl hll
   have HB := lh (l_isInY Al cl l x hxm)
   have HRl := lh hRl
   have hi3 : i2 < g.length := hi2
   have hml : m < L.length := by omega
   clear hy hx hl hl0 hxm hRl hll hi2
   have bhcy := blt hcy
   have bhcx := blt hcx
   have bhcl := blt hcl
   have hm0 : (0 : Int) ≤ (m : Int) + 1 := by omega
   have iw : IntKind.i64.wrap (m : Int) = (m : Int) := IntWalk.i64_in _ (by omega)
   go_wp2_with fail
   refine wp_region_held_drew (S := (fun W => W.cell? ⟨bo, oo + (m + 1), none⟩ = some (.int .i64 i2) ∧ W.cell? ⟨bo, oo + m, none⟩ = some (.int .i64 x) ∧ W.cell? ⟨bd, od + i2, none⟩ = some (.slice Al l.length cl))) (by kernel_rfl) ?_ (fun hHeld => ?_)
   ·exact ⟨((Ext.rfl' _).dr).cellE hcy, ((Ext.rfl' _).dr).cellE hcx, ((Ext.rfl' _).dr).cellE hcl⟩
   refine ty 0 ?_
   refine ty 1 ?_
   refine ty 2 ?_
   refine ty 3 ?_
   refine ty 4 ?_
   refine ty 5 ?_
   refine ty 6 ?_
   refine ty 7 ?_
   refine ty 8 ?_
   refine ty 9 ?_
   refine ty 10 ?_
   refine ty 11 ?_
   refine rd1 12 rfl fun K hK => ?_
   go_simp
   have lX0_1 := lh ((Ext.rfl' wr).dr)
   refine (HB.out _ (HRl.out.ext lX0_1.out)).mono ?_
   rintro e lw1 ⟨rfl, lhe1⟩
   have lU1 := lh (((Ext.rfl' wr).dr).tr lhe1)
   have lE1 := lh (lE0.out.tr lU1.out)
   have lg_l1 := lU1.out.cellE lg_r
   have yc_l1 := lU1.out.cellE hcy
   have xc_l1 := lU1.out.cellE hcx
   have dc_l1 := lU1.out.cellE hcl
   clear lhe1 lg_r hcy hcx hcl blg_r bhcy bhcx bhcl lX0_1
   have blg_l1 := blt lg_l1
   have byc_l1 := blt yc_l1
   have bxc_l1 := blt xc_l1
   have bdc_l1 := blt dc_l1
   have szl1 := lU1.out.size
   try go_wp2_with fail
   refine hK.out _ _ (by exact ⟨yc_l1, xc_l1, dc_l1⟩) fun hh2 => ?_; clear hK K hHeld; have hHeld := hh2; clear hh2
   try simp only [Act.put, pu]
   refine ty 13 ?_
   refine dn ?_
   go_wp2
   go_roundw
   case rel => exact ⟨m + 1 + 1, by omega, by omega, by go_num, lh (hext.out.tr lE1.out)⟩
   case measure => simp [intOf]; omega
  ·skip
   obtain rfl : n = L.length := by omega
   obtain ⟨bo, oo, y, rfl, hy, hcy⟩ := Hc2r.out.at1 (show 0 < L.length by omega)
   obtain rfl : (i : Int) = y := by rw [HH.out] at hy; exact Option.some.inj hy
   obtain ⟨nd', bn, on, Ap, cp, hnd, rfl, hck, -⟩ := H1r.out.at_ hig
   obtain rfl : nd = nd' := by have := HN.out.1; rw [hnd] at this; exact (Option.some.inj this).symm
   rw [HN.out.2.1] at hck
   obtain ⟨ba, oa, x1, rfl, hx1, hca⟩ := A1r.out.at1 (show i < a.length by rw [HLA.out]; exact hig)
   obtain ⟨bb, ob, x2, rfl, hx2, hcb⟩ := B1r.out.at1 (show i < b.length by rw [HLB.out]; exact hig)
   have zx : (x1 != x2) = true := by have := HN.out.2.2; rw [List.getD_eq_getElem?_getD, List.getD_eq_getElem?_getD, hx1, hx2] at this; simpa using this
   obtain ⟨bo2, oo2, x, hAx, hx, hcz⟩ := Hc2r.out.at1 (show L.length - 1 < L.length by omega)
   obtain ⟨rfl, rfl⟩ : bo = bo2 ∧ oo = oo2 := by simpa using hAx
   obtain rfl : (k0 : Int) = x := by have := HW.out.last; rw [List.getLast?_eq_getElem?, hx] at this; exact (Option.some.inj this).symm
   have HWI := lh (fun A B ca cb w h k => l_within A B ca cb L D w h k HW.out.all)
   have HAS := lh (fun A c w h => l_ascends A c L w h (fun k p q hp hq => (HW.out.next k p q hp hq).1))
   have hila : i < a.length := by rw [HLA.out]; exact hig
   have hilb : i < b.length := by rw [HLB.out]; exact hig
   have zk : ((k0 : Int) == (k0 : Int)) = true := by simp
   obtain ⟨e, he⟩ : ∃ e, L.length = e + 1 := ⟨L.length - 1, by omega⟩
   have he1 : L.length - 1 = e := by omega
   rw [he1] at hcz
   have he2 : ((L.length : Nat) : Int) - 1 = (e : Int) := by omega
   have hel : e < L.length := by omega
   have iw : IntKind.i64.wrap (e : Int) = (e : Int) := IntWalk.i64_in _ (by omega)
   rw [Nat.add_zero] at hcy
   have hl0 : 0 < L.length := by omega
   clear he he1 hx hAx hx1 hx2 hy hnd hlt
   have bhcy := blt hcy
   have bhcz := blt hcz
   have bhck := blt hck
   have bhca := blt hca
   have bhcb := blt hcb
   go_wp2_with fail
   refine wp_region_held_drew (S := (fun W => W.cell? ⟨w1.heap.size, 0, none⟩ = some (.slice (some ⟨bn, on, none⟩) g.length cg) ∧ W.cell? ⟨bo, oo, none⟩ = some (.int .i64 i) ∧ W.cell? ⟨bo, oo + e, none⟩ = some (.int .i64 k0) ∧ W.cell? ⟨bn, on + i * 2, none⟩ = some (.int .i64 0) ∧ W.cell? ⟨ba, oa + i, none⟩ = some (.int .i64 x1) ∧ W.cell? ⟨bb, ob + i, none⟩ = some (.int .i64 x2))) (by kernel_rfl) ?_ (fun hHeld => ?_)
   ·exact ⟨((Ext.rfl' _).dr).cellE lg_r, ((Ext.rfl' _).dr).cellE hcy, ((Ext.rfl' _).dr).cellE hcz, ((Ext.rfl' _).dr).cellE hck, ((Ext.rfl' _).dr).cellE hca, ((Ext.rfl' _).dr).cellE hcb⟩
   refine ty 0 ?_
   refine ty 1 ?_
   refine ty 2 ?_
   refine ty 3 ?_
   refine ty 4 ?_
   refine ty 5 ?_
   refine ty 6 ?_
   refine ty 7 ?_
   refine ty 8 ?_
   refine ty 9 ?_
   refine ty 10 ?_
   refine ty 11 ?_
   refine ty 12 ?_
   refine ty 13 ?_
   refine ty 14 ?_
   refine ty 15 ?_
   refine ty 16 ?_
   refine ty 17 ?_
   refine ty 18 ?_
   refine ty 19 ?_
   refine ty 20 ?_
   refine ty 21 ?_
   refine ty 22 ?_
   refine ty 23 ?_
   refine ty 24 ?_
   refine ty 25 ?_
   refine ty 26 ?_
   refine ty 27 ?_
   refine ty 28 ?_
   refine ty 29 ?_
   refine ty 30 ?_
   refine ty 31 ?_
   refine ty 32 ?_
   refine ty 33 ?_
   refine ty 34 ?_
   refine ty 35 ?_
   refine ty 36 ?_
   refine rd1 37 rfl fun K hK => ?_
   go_simp
   have lX0_1 := lh ((Ext.rfl' wr).dr)
   refine (HWI.out _ A4 L.length D.length _ (Hc2r.out.ext lX0_1.out) (Hc4r.out.ext lX0_1.out)).mono ?_
   rintro e lw1 ⟨rfl, lhe1⟩
   have lU1 := lh (((Ext.rfl' wr).dr).tr lhe1)
   have lE1 := lh (lE0.out.tr lU1.out)
   have lg_l1 := lU1.out.cellE lg_r
   have yc_l1 := lU1.out.cellE hcy
   have zc_l1 := lU1.out.cellE hcz
   have kc_l1 := lU1.out.cellE hck
   have ac_l1 := lU1.out.cellE hca
   have bc_l1 := lU1.out.cellE hcb
   clear lhe1 lg_r hcy hcz hck hca hcb blg_r bhcy bhcz bhck bhca bhcb lX0_1
   have blg_l1 := blt lg_l1
   have byc_l1 := blt yc_l1
   have bzc_l1 := blt zc_l1
   have bkc_l1 := blt kc_l1
   have bac_l1 := blt ac_l1
   have bbc_l1 := blt bc_l1
   have szl1 := lU1.out.size
   try go_wp2_with fail
   refine hK.out _ _ (by exact ⟨lg_l1, yc_l1, zc_l1, kc_l1, ac_l1, bc_l1⟩) fun hh2 => ?_; clear hK K hHeld; have hHeld := hh2; clear hh2
   try simp only [Act.put, pu]
   refine ty 38 ?_
   refine ty 39 ?_
   refine ty 40 ?_
   refine rd1 41 rfl fun K hK => ?_
   go_simp
   have lX1_2 := lh ((Ext.rfl' wr).tr lU1.out)
   refine (HAS.out _ L.length _ (Hc2r.out.ext lX1_2.out)).mono ?_
   rintro e lw2 ⟨rfl, lhe2⟩
   have lU2 := lh ((Ext.rfl' lw1).tr lhe2)
   have lE2 := lh (lE1.out.tr lU2.out)
   have lg_l2 := lU2.out.cellE lg_l1
   have yc_l2 := lU2.out.cellE yc_l1
   have zc_l2 := lU2.out.cellE zc_l1
   have kc_l2 := lU2.out.cellE kc_l1
   have ac_l2 := lU2.out.cellE ac_l1
   have bc_l2 := lU2.out.cellE bc_l1
   clear lhe2 lg_l1 yc_l1 zc_l1 kc_l1 ac_l1 bc_l1 blg_l1 byc_l1 bzc_l1 bkc_l1 bac_l1 bbc_l1 lX1_2
   have blg_l2 := blt lg_l2
   have byc_l2 := blt yc_l2
   have bzc_l2 := blt zc_l2
   have bkc_l2 := blt kc_l2
   have bac_l2 := blt ac_l2
   have bbc_l2 := blt bc_l2
   have szl2 := lU2.out.size
   try go_wp2_with fail
   refine hK.out _ _ (by exact ⟨lg_l2, yc_l2, zc_l2, kc_l2, ac_l2, bc_l2⟩) fun hh2 => ?_; clear hK K hHeld; have hHeld := hh2; clear hh2
   try simp only [Act.put, pu]
   refine ty 42 ?_
   refine ty 43 ?_
   refine dn ?_
   go_wp2
   go_ret
   exact ⟨rfl, (E8.out.tr hext.out).tr lE2.out⟩
end Go.Proofs.Yteighpaljdlnaaa
