/- The draws of texts of graphs: contracts. Conditions: the code can be read. -/
import Derived.Test.YtdnlpklmihoapaaGreatDoorTy
import Derived.Test.YtdnlpklmihoapaaGreatDoorDrawTwo
import Derived.Test.YtdnlpklmihoapaaGreatDoorDrawN
import Derived.Test.YtdnlpklmihoapaaGreatDoorTxD
namespace Sg
theorem fmtG_len (g : Graph) (l : List Int) : (fmtG g l).length ≤ 910 := by
 by_cases h : (validG g && validC g l) = true
 ·rw [Bool.and_eq_true] at h
  obtain ⟨h1, h2⟩ := h
  rw [fmtG_yes h1 h2]
  have := linesTo_len (validC_len h2) (fun x hx => (validC_range h2 x hx).2) g.length
  have := validG_ten h1
  omega
 ·rw [fmtG_no (by simpa using h)]
  simp
end Sg
namespace Go.Proofs.YtdnlpklmihoapaaGreatDoor
open Go.RowKit
set_option maxRecDepth 100000 in
set_option maxHeartbeats 4000000 in
theorem s_someText (R m : Nat) (w : World) (h : Rdr w R m) (hm : m ≤ 700000) :
  Calls Tryz.prog 33 #[.pointer (some ⟨R, 0, none⟩)] w (Mutd R (m + 1300) 1000 w) := by
 have hRl := h.lt
 have HGG := lh (s_goodGraph R m w h (by omega))
 clear h
 go_enter Tryz.func33, Tryz.ntmps33
 go_wp2_with fail
 refine HGG.out.mono ?_
 rintro e w1 ⟨g, A, c, hs, rfl, hown, hg2, hg10, hnf, hr1, hm1⟩
 have hRl1 := hr1.lt
 have hw1 := hm1.size
 have OW := lh hown
 have HNF := lh hnf
 have R2 := lh (hr1.ext ((Ext.rfl' w1).al (.cells #[.slice A g.length c] 24)))
 have M2 := lh (hm1.al (.cells #[.slice A g.length c] 24))
 have HRN := lh (fun (W : World) (hW : Mod (fun b => b = R) w1 W) => OwnN.rdN (OwnD.mod OW.out hW (fun b hb e => by have := (OwnD.lt OW.out hb).1; omega)) (show g.length ≤ 1048576 by omega) (fun n hn => by have := HNF.out n hn; omega))
 have XW := lh (Mod.of (F := fun b => b = R) ((Ext.rfl' w1).al (.cells #[.slice A g.length c] 24)))
 have q0 : World.cell? (World.alloc w1 (.cells #[.slice A g.length c] 24)) ⟨w1.heap.size, 0, none⟩ = some (.slice A g.length c) := by simp [go_sem]
 have hqR : w1.heap.size ≠ R := by omega
 clear hown hnf hr1 hm1 HGG
 go_upto_region 2 with fail
 generalize World.alloc w1 (.cells #[.slice A g.length c] 24) = v2 at *
 generalize w1.heap.size = bq at *
 have Q0 := lh q0
 clear q0
 refine zb 5 (fun W => W.cell? ⟨bq, 0, none⟩ = some (.slice A g.length c)) ?_ (fun hHeld => ?_)
 ·exact ((Ext.rfl' v2).dr).cellE Q0.out
 refine zy 0 ?_
 refine zy 1 ?_
 refine zy 2 ?_
 refine zr 3 rfl fun K hK => ?_
 go_simp
 refine (s_goodCells R (m + 1200) A c g v2.drew (R2.out.ext ((Ext.rfl' v2).dr)) (fun W hW => HRN.out W ((XW.out.tr' (Mod.of ((Ext.rfl' v2).dr))).tr' hW)) hg10 (by omega)).mono ?_
 rintro e v3 ⟨cl, A3, c3, rfl, ho3, hl3, hl4, hr3, hm3⟩
 have R3 := lh hr3
 have D3 := lh ((Mod.of (F := fun b => b = R) ((Ext.rfl' v2).dr)).tr' hm3)
 have O3 := lh ho3
 clear ho3 hl3 hl4 hr3 hm3
 try go_wp2_with fail
 refine hK.out _ _ (fun _ => D3.out.cellE Q0.out hqR) (fun hh => ?_)
 have hHeld := hh (by decide)
 clear hK K hh
 try simp only [Act.put, pu]
 refine zr 4 rfl fun K hK => ?_
 go_simp
 refine (s_FormatGraph A A3 c c3 g cl v3 (HRN.out _ (XW.out.tr' D3.out)) O3.out.rd).mono ?_
 rintro e v4 ⟨rfl, he4⟩
 have X4 := lh he4
 clear he4
 try go_wp2_with fail
 refine hK.out _ _ (fun _ => X4.out.cellE (D3.out.cellE Q0.out hqR)) (fun hh => ?_)
 have hHeld := hh (by decide)
 clear hK K hh
 try simp only [Act.put, pu]
 refine zr 5 rfl fun K hK => ?_
 go_simp
 refine hK.out _ _ (fun e => absurd rfl e) (fun hh => ?_)
 clear hK K hHeld hh
 try simp only [Act.put, pu]
 refine zn ?_
 have RX := lh (R3.out.ext X4.out)
 have MX := lh ((M2.out.tr' D3.out).tr' (Mod.of X4.out))
 clear R3 X4 D3 O3
 have hm3 := MX.out
 go_wp2_with fail
 refine (s_pick R (m + 1220) 3 v4 RX.out (by omega) (by omega) (by omega)).mono ?_
 rintro e v5 ⟨x, rfl, x0, x1, hr5, hm5⟩
 have R5 := lh hr5
 have M5 := lh (MX.out.tr' hm5)
 clear x0 x1 hr5 hm5 hm3
 have HSZ := lh (show (ts (Sg.fmtG g cl)).size ≤ 910 by rw [ts_size]; exact Sg.fmtG_len g cl)
 by_cases hx : x = 0
 ·have bx : (x == 0) = true := by simp [hx]
  clear hx
  go_wp2_with fail
  refine (s_mutate R (m + 1221) (ts (Sg.fmtG g cl)) v5 R5.out (by have := HSZ.out; omega) (by omega)).mono ?_
  rintro e v6 ⟨y, rfl, hy, hr6, hm6⟩
  go_wp2
  go_ret
  exact ⟨y, rfl, by have := HSZ.out; omega, hr6.more (by omega), M5.out.tr' hm6⟩
 ·have bx : (x == 0) = false := by simp [hx]
  clear hx
  go_wp2
  go_ret
  exact ⟨_, rfl, by have := HSZ.out; omega, R5.out.more (by omega), M5.out⟩
set_option maxHeartbeats 1000000 in
theorem s_DrawParseGraph (A : Option Addr) (c : Nat) (l : List Int) (w : World) (h : Rd w 1 A l.length (u8s l)) (hr : ∀ x ∈ l, 0 ≤ x ∧ x ≤ 255) (hc : l.length ≤ c) (hcm : c ≤ maxLen) :
  Calls Tryz.prog 14 #[.slice A l.length c] w fun e w' => ∃ s : ByteArray, e = .returned (.string s) ∧ s.size ≤ 1000 ∧ Ext w w' := by
 have HN := lh (s_newReader A c l w h hr hc hcm)
 clear h
 go_enter Tryz.func14, Tryz.ntmps14
 go_wp2_with fail
 refine HN.out.mono ?_
 rintro e w1 ⟨rfl, hr1, he1⟩
 have E1 := lh he1
 have R1 := lh hr1
 clear hr1 he1 HN
 go_wp2_with fail
 refine (s_someText _ 0 _ R1.out (by omega)).mono ?_
 rintro e w2 ⟨y, rfl, hy, hr2, hm2⟩
 go_wp2
 go_ret
 exact ⟨y, rfl, hy, Ext.md E1.out hm2 (fun b e => by subst e; exact Nat.le_refl _)⟩
end Go.Proofs.YtdnlpklmihoapaaGreatDoor
