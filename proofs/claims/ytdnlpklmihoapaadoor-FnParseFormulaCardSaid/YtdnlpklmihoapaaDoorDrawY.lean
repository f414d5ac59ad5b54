/- The draw of a formula's text: its contract. Conditions: the code can be read. -/
import Derived.Test.YtdnlpklmihoapaaDoorDrawD
import Derived.Test.YtdnlpklmihoapaaDoorDrawN
import Derived.Test.YtdnlpklmihoapaaDoorTxD
namespace Go.Proofs.YtdnlpklmihoapaaDoor
open Go.RowKit
set_option maxRecDepth 100000 in
set_option maxHeartbeats 4000000 in
theorem s_DrawParseFormula (A : Option Addr) (c : Nat) (l : List Int) (w : World) (h : Rd w 1 A l.length (u8s l)) (hr : ∀ x ∈ l, 0 ≤ x ∧ x ≤ 255) (hc : l.length ≤ c) (hcm : c ≤ maxLen) :
  Calls Tryd.prog 25 #[.slice A l.length c] w fun e w' => ∃ s : ByteArray, e = .returned (.string s) ∧ s.size ≤ 1000 ∧ Ext w w' := by
 have HN := lh (s_newReader A c l w h hr hc hcm)
 clear h
 go_enter Tryd.func25, Tryd.ntmps25
 go_wp2_with fail
 refine HN.out.mono ?_
 rintro e w1 ⟨rfl, hr1, he1⟩
 have E1 := lh he1
 have R1 := lh (hr1.ext ((Ext.rfl' w1).al (.cells #[.int .i64 0, .int .i64 1, .int .i64 2, .int .i64 3] 3)))
 have hR1 := hr1.lt
 have RL := lh (Own.new w1 (B := 0) 3 1 #[.int .i64 0, .int .i64 1, .int .i64 2, .int .i64 3] 4 (Nat.zero_le _) (by unfold maxLen; omega) rfl).rd
 have X2 := lh ((Ext.rfl' w1).al (.cells #[.int .i64 0, .int .i64 1, .int .i64 2, .int .i64 3] 3))
 generalize hRe : w.heap.size = R at *
 have HRE := lh (show w.heap.size ≤ R by omega)
 clear hr1 he1 HN hRe
 go_wp2_with fail
 refine (s_goodFormula2 R 0 _ 4 [0, 1, 2, 3] _ R1.out RL.out (by simp) (by intro y hy; simp [blk] at hy; omega) (by omega)).mono ?_
 rintro e w2 ⟨f, Af, cf, rfl, ho2, hf1, hf2, hr2, hm2, hv2⟩
 have HV := lh (hv2 (by simp) (by intro x hx; simp at hx; omega))
 have R2 := lh hr2
 have M2 := lh (((Mod.of (F := fun b => b = R) X2.out)).tr' hm2)
 have HSF := lh (s_showFormula Af cf f w2 HV.out ho2.rd)
 clear ho2 hr2 hm2 hv2 hf1 hf2 R1 RL
 have HSZ := lh (show (ts (Sg.fmtF f)).size ≤ 72 by rw [ts_size]; exact Sg.fmtF_len f)
 go_wp2_with fail
 refine HSF.out.mono ?_
 rintro e w3 ⟨rfl, he3⟩
 have R3 := lh (R2.out.ext he3)
 have M3 := lh (M2.out.tr' (Mod.of he3))
 have hR3 := R3.out.lt
 clear he3 R2 M2 HSF
 go_wp2_with fail
 refine (s_pick R (0 + 100) 3 w3 R3.out (by omega) (by omega) (by omega)).mono ?_
 rintro e w4 ⟨x, rfl, x0, x1, hr4, hm4⟩
 have R4 := lh hr4
 have M4 := lh (M3.out.tr' hm4)
 clear x0 x1 hr4 hm4
 by_cases hx : x = 0
 ·have bx : (x == 0) = true := by simp [hx]
  clear hx
  go_wp2_with fail
  refine (s_mutate R (0 + 100 + 1) (ts (Sg.fmtF f)) w4 R4.out (by have := HSZ.out; omega) (by omega)).mono ?_
  rintro e w5 ⟨y, rfl, hy, hr5, hm5⟩
  go_wp2
  go_ret
  exact ⟨y, rfl, by have := HSZ.out; omega, Ext.md E1.out (M4.out.tr' hm5) (fun b e => by subst e; exact HRE.out)⟩
 ·have bx : (x == 0) = false := by simp [hx]
  clear hx
  go_wp2
  go_ret
  exact ⟨_, rfl, by have := HSZ.out; omega, Ext.md E1.out M4.out (fun b e => by subst e; exact HRE.out)⟩
end Go.Proofs.YtdnlpklmihoapaaDoor
