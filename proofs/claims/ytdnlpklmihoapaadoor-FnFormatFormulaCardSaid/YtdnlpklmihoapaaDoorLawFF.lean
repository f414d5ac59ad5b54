/- FnFormatFormula: the law's walk. Conditions: the code can be read; the program's variables are as they were laid. -/
import Derived.Test.YtdnlpklmihoapaaDoorTy
import Derived.Test.YtdnlpklmihoapaaDoorTxO
import Derived.Test.YtdnlpklmihoapaaDoorTxY
import Derived.Test.YtdnlpklmihoapaaDoorDrawY2
import Derived.Test.YtdnlpklmihoapaaDoorReg
namespace Go.Proofs.YtdnlpklmihoapaaDoor
open Go.RowKit
set_option maxRecDepth 100000 in
set_option maxHeartbeats 4000000 in
theorem s_DrawFormatFormula (A : Option Addr) (c : Nat) (l : List Int) (w : World) (h : Rd w 1 A l.length (u8s l)) (hr : ∀ x ∈ l, 0 ≤ x ∧ x ≤ 255) (hc : l.length ≤ c) (hcm : c ≤ maxLen) :
  Calls Tryd.prog 14 #[.slice A l.length c] w fun e w' => ∃ (f : List Sg.Part) (A1 : Option Addr) (c1 : Nat), e = .returned (.agg #[.slice A1 f.length c1]) ∧ f.length ≤ 31 ∧ Rd w' 5 A1 f.length (parts f) ∧ Ext w w' := by
 have e0 := (Ext.rfl' w).al (.cells #[.slice none 0 0] 39)
 have HN := lh (s_newReader A c l _ (h.ext e0) hr hc hcm)
 have B0 := lh (Bx.new w #[.slice none 0 0] 39)
 have E0 := lh e0
 have hsz : (World.alloc w (.cells #[.slice none 0 0] 39)).heap.size = w.heap.size + 1 := by simp
 have HSZ := lh hsz
 clear h e0 hsz
 go_enter Tryd.func14, Tryd.ntmps14
 go_wp2_with fail
 refine HN.out.mono ?_
 rintro e w1 ⟨rfl, hr1, he1⟩
 have hb1 := he1.size
 rw [HSZ.out] at hr1 hb1
 have hR1 := hr1.lt
 try rw [HSZ.out]
 have B1 := lh (B0.out.ext he1)
 have E1 := lh (E0.out.tr he1)
 have R1 := lh hr1
 clear hr1 he1 HN B0 E0
 go_wp2_with fail
 refine (s_someFormula (w.heap.size + 1) 0 w1 R1.out (by omega)).mono ?_
 rintro e w2 ⟨f, A2, c2, rfl, ho2, hf1, hf2, hr2, hm2⟩
 have O2 := lh ho2
 have B2 := lh (B1.out.mod hm2 (by omega))
 have E2 := lh (Ext.md E1.out hm2 (fun b e => by omega))
 have R2 := lh hr2
 clear ho2 hr2 hm2 R1 B1
 go_wp2_with fail
 refine (s_shuffled (w.heap.size + 1) (0 + 110) A2 c2 f w2 R2.out O2.out.rd (fun b hb => by have := (O2.out.lt hb).1; have := R2.out.lt; omega) hf1 hf2 (by omega)).mono ?_
 rintro e w3 ⟨f3, A3, c3, rfl, hf3, hrd3, hm3, hbl3⟩
 have B3 := lh (B2.out.mod hm3 (by omega))
 have E3 := lh (Ext.md E2.out hm3 (fun b e => by omega))
 have HR3 := lh hrd3
 have HN3 := lh (show ∀ b, blk A3 = some b → ¬ b = w.heap.size from fun b hb e => by
  rcases hbl3 b hb with h | h
  ·have := (O2.out.lt h).1; omega
  ·have := (E2.out.size); have := B2.out.lt; omega)
 have x3 := B3.out.cell (j := 0) rfl
 have g3 := B3.out.free 0
 have l3 := B3.out.lt
 clear hrd3 hm3 hbl3 R2 B2
 go_wp2
 have s0 := (B3.out.set 0 (.slice A3 f3.length c3)).cell (j := 0) rfl
 refine bodyPost_ret (v := .agg #[.slice A3 f3.length c3]) (by simp [results, Tryd.results14, go_sem, s0]; try rfl) rfl ?_
 exact ⟨f3, A3, c3, rfl, hf3, HR3.out.mod0p (Mod.set (F := fun b => b = w.heap.size) (Mod.rfl' _ _) (p := ⟨w.heap.size, 0, none⟩) (.inl rfl) _) (fun b hb => HN3.out b hb), E3.out.set (p := ⟨w.heap.size, 0, none⟩) (Nat.le_refl _) _⟩
set_option maxRecDepth 100000 in
set_option maxHeartbeats 8000000 in
theorem ex_FnFormatFormula (A : Option Addr) (c : Nat) (l : List Int) (w : World) (hG : Ge w) (h : Rd w 1 A l.length (u8s l)) (hr : ∀ x ∈ l, 0 ≤ x ∧ x ≤ 255) (hc : l.length ≤ c) (hcm : c ≤ maxLen) :
  Calls Tryd.prog 4 #[.slice A l.length c] w fun e w' => e = .returned (.bool true) ∧ Ext w w' := by
 have hbig := h.big
 have HG := lh hG
 have HD := lh (s_DrawFormatFormula A c l w h hr hc hcm)
 clear h hr hc hcm hG
 by_cases hb : 1048576 < l.length
 ·have hb2 : (1048576 : Int) < (l.length : Int) := by omega
  go_enter Tryd.func4, Tryd.ntmps4
  go_wp2
  go_ret
  exact ⟨rfl, Ext.rfl' _⟩
 have hb2 : ¬ (1048576 : Int) < (l.length : Int) := by omega
 clear hb
 go_enter Tryd.func4, Tryd.ntmps4
 go_wp2_with fail
 refine HD.out.mono ?_
 rintro e w1 ⟨f, A0, c0, rfl, hfl, hrd, he1⟩
 have H1 := lh hrd
 have E1 := lh he1
 have X2 := lh ((Ext.rfl' w1).al (.cells #[.slice A0 f.length c0] 39))
 have q2 : World.cell? (World.alloc w1 (.cells #[.slice A0 f.length c0] 39)) ⟨w1.heap.size, 0, none⟩ = some (.slice A0 f.length c0) := by simp [go_sem]
 have HFI := lh fun v (e : Ext w1 v) => i_FormatFormula A0 c0 f v (HG.out.ext (E1.out.tr e)).gl (H1.out.ext e) (by omega)
 have HFS := lh fun v (e : Ext w1 v) => s_FormatFormula A0 c0 f v (H1.out.ext e) (by omega)
 have HVF := lh fun v (e : Ext w1 v) => i_ValidFormula A0 c0 f v (H1.out.ext e) (by omega)
 have HTL := lh (Sg.fmtF_len f)
 clear hrd he1 HD
 go_upto_region 4 with fail
 generalize World.alloc w1 (.cells #[.slice A0 f.length c0] 39) = v2 at *
 generalize w1.heap.size = b3 at *
 have l2 := blt q2
 have bn : ∀ l : Sg.Txt, (l != l) = false := fun l => by simp
 have be : ∀ l : Sg.Txt, (l == l) = true := fun l => by simp
 go_wp2_with fail
 refine (HFI.out _ X2.out).mono ?_
 rintro e v3 ⟨rfl, he3⟩
 have X3 := lh (X2.out.tr he3)
 have q3 := he3.cellE q2
 have l3 := blt q3
 clear he3 q2 l2
 go_wp2_with fail
 refine (HFS.out _ X3.out).mono ?_
 rintro e v4 ⟨rfl, he4⟩
 have X4 := lh (X3.out.tr he4)
 have q4 := he4.cellE q3
 have l4 := blt q4
 clear he4 q3 l3
 go_wp2_with fail
 refine (HVF.out _ X4.out).mono ?_
 rintro e v5 ⟨rfl, he5⟩
 have X5 := lh (X4.out.tr he5)
 have q5 := he5.cellE q4
 have l5 := blt q5
 clear he5 q4 l4
 cases hv : Sg.validF f
 ·go_wp2_with fail
  refine (HFS.out _ X5.out).mono ?_
  rintro e v6 ⟨rfl, he6⟩
  go_wp2
  go_ret
  exact ⟨rfl, E1.out.tr (X5.out.tr he6)⟩
 ·have HPF := lh (Sg.parse_fmt hv)
  have HI := lh fun v (e : Ext w1 v) => i_ParseFormula (ts (Sg.fmtF f)) v (by rw [ts_size]; have := HTL.out; omega) (HG.out.ext (E1.out.tr e))
  rw [tx_ts, Sg.parseI_eq, HPF.out] at HI
  have HOL := lh (Sg.order_len hv)
  have HOP := lh fun v (e : Ext w1 v) => i_OrderParts A0 c0 f v (H1.out.ext e) (by omega)
  clear hv
  generalize Sg.orderF f = fo at *
  go_wp2_with fail
  refine (HI.out _ X5.out).mono ?_
  rintro e v6 ⟨A1, c1, rfl, he6, ho6⟩
  have O6 := lh ho6.rd
  simp only [Sg.parsed] at O6 ⊢
  have q6 := (he6.al (.cells #[.slice A1 fo.length c1] 39)).cellE q5
  have q7 : World.cell? (World.alloc v6 (.cells #[.slice A1 fo.length c1] 39)) ⟨v6.heap.size, 0, none⟩ = some (.slice A1 fo.length c1) := by simp [go_sem]
  have X7 := lh ((X5.out.tr he6).al (.cells #[.slice A1 fo.length c1] 39))
  have X67 := lh ((Ext.rfl' v6).al (.cells #[.slice A1 fo.length c1] 39))
  have HB := lh fun v (e : Ext v6 v) => O6.out.ext e
  clear he6 ho6 q5 l5 O6
  go_upto_region 8 with fail
  generalize World.alloc v6 (.cells #[.slice A1 fo.length c1] 39) = v7 at *
  generalize v6.heap.size = b6 at *
  have Q6 := lh q6
  have Q7 := lh q7
  clear q6 q7
  refine zb 7 (fun W => W.cell? ⟨b3, 0, none⟩ = some (.slice A0 f.length c0) ∧ W.cell? ⟨b6, 0, none⟩ = some (.slice A1 fo.length c1)) ?_ (fun hHeld => ?_)
  ·exact ⟨((Ext.rfl' v7).dr).cellE Q6.out, ((Ext.rfl' v7).dr).cellE Q7.out⟩
  refine zy 0 ?_
  refine zy 1 ?_
  refine zy 2 ?_
  refine zy 3 ?_
  refine zr 4 rfl fun K hK => ?_
  go_simp
  refine (HOP.out _ (X7.out.tr ((Ext.rfl' v7).dr))).mono ?_
  rintro e u1 ⟨AO, rfl, he1, hoO⟩
  have OO := lh hoO.rd
  have Y1 := lh (((Ext.rfl' v7).dr).tr he1)
  clear he1 hoO
  try go_wp2_with fail
  refine hK.out _ _ (fun _ => ⟨Y1.out.cellE Q6.out, Y1.out.cellE Q7.out⟩) (fun hh => ?_)
  have hHeld := hh (by decide)
  clear hK K hh
  try simp only [Act.put, pu]
  refine zr 5 rfl fun K hK => ?_
  go_simp
  refine (l_equalFormula A1 AO c1 fo.length fo _ (HB.out _ (X67.out.tr Y1.out)) OO.out).mono ?_
  rintro e u2 ⟨rfl, he2⟩
  have Y2 := lh (Y1.out.tr he2)
  clear he2
  try go_wp2_with fail
  refine hK.out _ _ (fun _ => ⟨Y2.out.cellE Q6.out, Y2.out.cellE Q7.out⟩) (fun hh => ?_)
  have hHeld := hh (by decide)
  clear hK K hh
  try simp only [Act.put, pu]
  refine zy 6 ?_
  refine zr 7 rfl fun K hK => ?_
  go_simp
  refine hK.out _ _ (fun e => absurd rfl e) (fun hh => ?_)
  clear hK K hHeld hh
  try simp only [Act.put, pu]
  refine zn ?_
  go_wp2
  go_ret
  exact ⟨rfl, E1.out.tr (X7.out.tr Y2.out)⟩
end Go.Proofs.YtdnlpklmihoapaaDoor
