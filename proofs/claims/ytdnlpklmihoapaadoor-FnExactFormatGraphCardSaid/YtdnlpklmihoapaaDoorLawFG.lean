/- FnExactFormatGraph: the law's walk, given the contracts of both functions. Conditions: the arguments can be read. -/
import Derived.Test.YtdnlpklmihoapaaDoorFactsAll
import Derived.Test.YtdnlpklmihoapaaDoorLawVW
import Derived.Test.YtdnlpklmihoapaaDoorTxF
namespace Go.Proofs.YtdnlpklmihoapaaDoor
open Go.RowKit

set_option maxRecDepth 100000 in
set_option maxHeartbeats 16000000 in
theorem l_FnExactFormatGraph (A0 : Option Addr) (c0 : Nat) (g : Sg.Graph) (A1 : Option Addr) (c1 : Nat) (l1 : List Int) (s0 : Sg.Txt) 
  (hS : (∀ (B0 : Option Addr) (d0 : Nat) (B1 : Option Addr) (d1 : Nat) (w : World), RdN w B0 g → Rd w 1 B1 l1.length (ints l1) → l1.length ≤ 1048576 → Calls Tryd.prog 8 #[.agg #[.slice B0 g.length d0], .slice B1 l1.length d1] w fun e w' => e = .returned (.string (ts s0)) ∧ Ext w w'))
  (hI : (∀ (B0 : Option Addr) (d0 : Nat) (B1 : Option Addr) (d1 : Nat) (w : World), RdN w B0 g → Rd w 1 B1 l1.length (ints l1) → l1.length ≤ 1048576 → Gl w → Calls Tryd.prog 11 #[.agg #[.slice B0 g.length d0], .slice B1 l1.length d1] w fun e w' => e = .returned (.string (ts s0)) ∧ Ext w w'))
  (w : World) (hG : Gl w) (h0 : RdN0 w A0 g) (h1 : Rd w 1 A1 l1.length (ints l1)) :
  Calls Tryd.prog 3 #[.agg #[.slice A0 g.length c0], .slice A1 l1.length c1] w fun e w' => e = .returned (.bool true) ∧ Ext w w' := by
 have E0 := lh (((Ext.rfl' w).al (.cells #[.slice A0 g.length c0] 24)) : Ext w (World.alloc w (.cells #[.slice A0 g.length c0] 24)))
 have HGL := lh hG
 clear hG
 have big1 := h1.big
 have HZG := lh (fun w h => l_szGraph A0 c0 g 1048576 w h (Nat.le_refl _))
 have H0 := lh h0
 have H1 := lh h1
 clear h0 h1
 by_cases len1 : 1048576 < l1.length
 ·go_enter Tryd.func3, Tryd.ntmps3
  go_wp2
  go_ret
  exact ⟨rfl, E0.out⟩
 have le1 : l1.length ≤ 1048576 := by omega
 clear len1
 rcases Sg.szL_neg (g.map (fun n => n.f.length)) 1048576 with hs | hs
 ·have Hs := lh hs
  clear hs
  go_enter Tryd.func3, Tryd.ntmps3
  go_wp2_with (go_at_call 7; refine (HZG.out _ (H0.out.ext E0.out)).mono ?_; rintro e w1 ⟨rfl, he1⟩; rw [Hs.out])
  go_ret
  exact ⟨rfl, E0.out.tr he1⟩
 have hto := totN_le g 1048576 hs
 obtain ⟨hgl, hfl, M, hM, hs⟩ := Sg.szL_ok _ _ hs
 have HN := lh (H0.out.up2 (by simpa using hgl) (by simpa using hfl))
 have Hs := lh hs
 have hgl2 : g.length ≤ 1048576 := by simpa using hgl
 have Hfl : Hid (∀ n ∈ g, n.f.length ≤ 1048576) := lh (by simpa using hfl)
 clear hgl hfl hs H0
 have HS := lh hS
 have HI := lh hI
 clear hS hI 
 have HT0 := lh (fun w h => l_toGraph A0 c0 g w h)
 have HE0 := lh (fun A B w h k => l_eqGraph A B g.length g.length g w h k)
 have HT1 := lh (fun w h => l_toIntS A1 c1 l1 w h le1)
 have HE1 := lh (fun A B w h k => l_eqIntS A B l1.length l1.length l1 w h k)
 go_enter Tryd.func3, Tryd.ntmps3
 go_wp2_with fail
 refine (HZG.out _ (HN.out.to0.ext E0.out)).mono ?_
 rintro e w1 ⟨rfl, hX1⟩
 have ux1 := lh ((Ext.rfl' (World.alloc w (.cells #[.slice A0 g.length c0] 24))).tr hX1)
 have q1_0 := ux1.out.cellE (show World.cell? (World.alloc w (.cells #[.slice A0 g.length c0] 24)) ⟨w.heap.size, 0, none⟩ = some (.slice A0 g.length c0) by simp [go_sem])
 have z1 := ux1.out.size
 simp only [World.size_alloc] at z1
 clear hX1 
 have b1_0 := blt q1_0
 rw [Hs.out]
 go_wp2_with fail
 refine (HT0.out _ (HN.out.ext (E0.out.tr ux1.out))).mono ?_
 rintro e w2 ⟨Xs0, hs0, rfl, ho, hX2⟩
 have ux2 := lh ((Ext.rfl' w1).tr hX2)
 have q2_0 := ux2.out.cellE q1_0
 have z2 := ux2.out.size
 clear hX2 q1_0 b1_0
 have b2_0 := blt q2_0
 have Os0 := lh (ho)
 clear ho
 go_wp2_with fail
 refine (HT1.out _ (H1.out.ext ((E0.out.tr ux1.out).tr ux2.out))).mono ?_
 rintro e w3 ⟨Xs1, rfl, ho, hX3⟩
 have ux3 := lh ((Ext.rfl' w2).tr hX3)
 have q3_0 := ux3.out.cellE q2_0
 have z3 := ux3.out.size
 clear hX3 q2_0 b2_0
 have b3_0 := blt q3_0
 have Os1 := lh (ho)
 clear ho
 go_wp2_with fail
 refine (HS.out Xs0 g.length Xs1 l1.length _ (OwnN.rdN (OwnD.ext Os0.out ((Ext.rfl' w2).tr ux3.out)) hgl2 Hfl.out) (Own.ext Os1.out (Ext.rfl' w3)).rd le1).mono ?_
 rintro e w4 ⟨rfl, hX4⟩
 have ux4 := lh ((Ext.rfl' w3).tr hX4)
 have q4_0 := ux4.out.cellE q3_0
 have z4 := ux4.out.size
 clear hX4 q3_0 b3_0
 have b4_0 := blt q4_0
 go_wp2_with fail
 refine (HT0.out _ (HN.out.ext ((((E0.out.tr ux1.out).tr ux2.out).tr ux3.out).tr ux4.out))).mono ?_
 rintro e w5 ⟨Xx0, hx0, rfl, ho, hX5⟩
 have ux5 := lh ((Ext.rfl' w4).tr hX5)
 have q5_0 := ux5.out.cellE q4_0
 have z5 := ux5.out.size
 clear hX5 q4_0 b4_0
 have b5_0 := blt q5_0
 have Ox0 := lh (ho)
 clear ho
 go_wp2_with fail
 refine (HT1.out _ (H1.out.ext ((((((E0.out.tr ux1.out).tr ux2.out).tr ux3.out).tr ux4.out).tr ux5.out).al (.cells #[.slice Xx0 g.length g.length] 30)))).mono ?_
 rintro e w6 ⟨Xx1, rfl, ho, hX6⟩
 have ux6 := lh (((Ext.rfl' w5).al (.cells #[.slice Xx0 g.length g.length] 30)).tr hX6)
 have q6_0 := ux6.out.cellE q5_0
 have q6_1 := hX6.cellE (show World.cell? (World.alloc w5 (.cells #[.slice Xx0 g.length g.length] 30)) ⟨w5.heap.size, 0, none⟩ = some (.slice Xx0 g.length g.length) by simp [go_sem])
 have z6 := ux6.out.size
 have y6 : w5.heap.size + 1 ≤ w6.heap.size := by have := hX6.size; simpa using this
 clear hX6 q5_0 b5_0
 have b6_0 := blt q6_0
 have b6_1 := blt q6_1
 have Ox1 := lh (ho)
 clear ho
 go_wp2_with fail
 refine (HI.out Xx0 g.length Xx1 l1.length _ (OwnN.rdN (OwnD.ext Ox0.out ((Ext.rfl' w5).tr ux6.out)) hgl2 Hfl.out) (Own.ext Ox1.out (Ext.rfl' w6)).rd le1 (HGL.out.ext ((((((E0.out.tr ux1.out).tr ux2.out).tr ux3.out).tr ux4.out).tr ux5.out).tr ux6.out))).mono ?_
 rintro e w7 ⟨rfl, hX7⟩
 have ux7 := lh ((Ext.rfl' w6).tr hX7)
 have q7_0 := ux7.out.cellE q6_0
 have q7_1 := ux7.out.cellE q6_1
 have z7 := ux7.out.size
 clear hX7 q6_0 q6_1 b6_0 b6_1
 have b7_0 := blt q7_0
 have b7_1 := blt q7_1
 go_wp2_with fail
 have ec := lh ((Ext.rfl' w7).dr)
 go_region_held3 (fun W => W.cell? ⟨w.heap.size, 0, none⟩ = some (.slice A0 g.length c0) ∧ W.cell? ⟨w5.heap.size, 0, none⟩ = some (.slice Xx0 g.length g.length))
  (first | exact ⟨ec.out.cellE q7_0, ec.out.cellE q7_1⟩ | go_keep)
  (first
   | (go_at_call 9; refine (HT0.out _ (HN.out.ext ((((((((E0.out.tr ux1.out).tr ux2.out).tr ux3.out).tr ux4.out).tr ux5.out).tr ux6.out).tr ux7.out).tr ec.out))).mono ?_; rintro e wy0 ⟨Xy0, hy0, rfl, hoy0, hey0⟩; have ed := lh (ec.out.tr hey0); clear ec; have ec := ed; clear ed)
   | (go_at_call 12; refine (HE0.out Xx0 Xy0 _ (OwnN.rdN (OwnD.ext Ox0.out ((((Ext.rfl' w5).tr ux6.out).tr ux7.out).tr ec.out)) hgl2 Hfl.out) (OwnN.rdN hoy0 hgl2 Hfl.out)).mono ?_; rintro e w8 ⟨rfl, hez⟩; have ed := lh (ec.out.tr hez); clear ec; have ec := ed; clear ed))
 have ux8 := lh ec.out
 clear ec hey0 hez hoy0
 have q8_0 := ux8.out.cellE q7_0
 have q8_1 := ux8.out.cellE q7_1
 have z8 := ux8.out.size
 clear q7_0 q7_1 b7_0 b7_1
 have b8_0 := blt q8_0
 have b8_1 := blt q8_1
 go_wp2_with fail
 refine (HT1.out _ (H1.out.ext ((((((((E0.out.tr ux1.out).tr ux2.out).tr ux3.out).tr ux4.out).tr ux5.out).tr ux6.out).tr ux7.out).tr ux8.out))).mono ?_
 rintro e w9 ⟨Xy1, rfl, ho, hX9⟩
 have ux9 := lh ((Ext.rfl' w8).tr hX9)
 have q9_0 := ux9.out.cellE q8_0
 have q9_1 := ux9.out.cellE q8_1
 have z9 := ux9.out.size
 clear hX9 q8_0 q8_1 b8_0 b8_1
 have b9_0 := blt q9_0
 have b9_1 := blt q9_1
 have Oy1 := lh (ho)
 clear ho
 go_wp2_with fail
 refine (HE1.out Xx1 Xy1 _ (Own.ext Ox1.out ((((Ext.rfl' w6).tr ux7.out).tr ux8.out).tr ux9.out)).rd (Own.ext Oy1.out (Ext.rfl' w9)).rd).mono ?_
 rintro e w10 ⟨rfl, hX10⟩
 have ux10 := lh ((Ext.rfl' w9).tr hX10)
 have q10_0 := ux10.out.cellE q9_0
 have q10_1 := ux10.out.cellE q9_1
 have z10 := ux10.out.size
 clear hX10 q9_0 q9_1 b9_0 b9_1
 have b10_0 := blt q10_0
 have b10_1 := blt q10_1
 go_wp2
 go_ret
 exact ⟨rfl, ((((((((((E0.out.tr ux1.out).tr ux2.out).tr ux3.out).tr ux4.out).tr ux5.out).tr ux6.out).tr ux7.out).tr ux8.out).tr ux9.out).tr ux10.out)⟩
end Go.Proofs.YtdnlpklmihoapaaDoor
