/- Parts of one proof, joined. The laws' newlines, in memory: its contract. Conditions: texts of at most 2^20 bytes. FnFormatGraph: the law's walk. Conditions: the code can be read; the program's variables are as they were laid. -/
import Derived.Test.YtdnlpklmihoapaaGreatDoorTxI
import Derived.Test.YtdnlpklmihoapaaGreatDoorTy
import Derived.Test.YtdnlpklmihoapaaGreatDoorTxQ
import Derived.Test.YtdnlpklmihoapaaGreatDoorDrawTwo
import Derived.Test.YtdnlpklmihoapaaGreatDoorEqAll
import Derived.Test.YtdnlpklmihoapaaGreatDoorMeanAll
import Derived.Test.YtdnlpklmihoapaaGreatDoorPlG
import Derived.Test.YtdnlpklmihoapaaGreatDoorReg
/- The laws' newlines, in memory: its contract. Conditions: texts of at most 2^20 bytes. -/
namespace Sg
theorem count_take {l : Txt} {c b : UInt8} {j : Nat} (h : l[j]? = some b) : (l.take (j + 1)).count c = (l.take j).count c + if b = c then 1 else 0 := by
 rw [List.take_add_one, h, List.count_append]
 show _ + [b].count c = _
 rw [List.count_singleton]
 simp
end Sg
namespace Go.Proofs.YtdnlpklmihoapaaGreatDoor
open Go.RowKit
set_option maxHeartbeats 2000000 in
theorem l_newlines (s : ByteArray) (w : World) (hs : s.size ≤ 2000000) :
  Calls Tryz.prog 22 #[.string s] w fun e w' => e = .returned (.int .i64 (((tx s).count 10 : Nat) : Int)) ∧ w = w' := by
 go_enter Tryz.func22, Tryz.ntmps22
 go_wp2_with fail
 go_loop [3, 4] (fun s1 s2 => ∃ (j n : Nat), j ≤ s.size ∧ n ≤ j ∧ s1 = .int .i64 n ∧ s2 = .int .i64 j ∧ Hid (n = ((tx s).take j).count 10)) (fun _ s2 => s.size - (intOf s2).toNat)
 case atStart => exact ⟨0, 0, Nat.zero_le _, Nat.le_refl _, rfl, rfl, lh (by simp)⟩
 case round =>
  obtain ⟨j, n, hj, hn, rfl, rfl, HC⟩ := hrel
  by_cases hlt : j < s.size
  ·have hb : (tx s)[j]? = some (s[j]'hlt) := by rw [← tx_at]; exact getElem?_pos s j hlt
   have hjx : (j : Int) < (s.size : Int) := by omega
   have HT := lh (Sg.count_take (c := 10) hb)
   by_cases hbc : s[j]'hlt = 10
   ·have bq : (((s[j]'hlt).toNat : Int) == 10) = true := by rw [hbc]; simp
    rw [hbc] at HT
    clear hb
    go_wp2
    go_round
    case rel => exact ⟨j + 1, n + 1, by omega, by omega, by go_num, by go_num, lh (by rw [HT.out, HC.out]; rfl)⟩
    case measure => simp [intOf]; omega
   ·have bq : (((s[j]'hlt).toNat : Int) == 10) = false := by
     rw [beq_eq_false_iff_ne]
     intro e
     exact hbc (UInt8.toNat_inj.1 (by show (s[j]'hlt).toNat = 10; omega))
    rw [if_neg hbc] at HT
    clear hb
    go_wp2
    go_round
    case rel => exact ⟨j + 1, n, by omega, by omega, rfl, by go_num, lh (by rw [HT.out, HC.out]; rfl)⟩
    case measure => simp [intOf]; omega
  ·obtain rfl : j = s.size := by omega
   have HE := lh (show n = (tx s).count 10 by rw [HC.out, List.take_of_length_le (by rw [← tx_size]; exact Nat.le_refl _)])
   go_wp2
   go_ret
   exact ⟨by rw [HE.out]; simp, rfl⟩
end Go.Proofs.YtdnlpklmihoapaaGreatDoor

/- FnFormatGraph: the law's walk. Conditions: the code can be read; the program's variables are as they were laid. -/
namespace Sg
theorem fmtG_len2 (g : Graph) (l : List Int) : (fmtG g l).length ≤ 910 := by
 by_cases h : (validG g && validC g l) = true
 ·rw [Bool.and_eq_true] at h
  obtain ⟨h1, h2⟩ := h
  rw [fmtG_yes h1 h2]
  have := linesTo_len (validC_len h2) (fun x hx => (validC_range h2 x hx).2) g.length
  have := validG_ten h1
  omega
 ·rw [fmtG_no (by simpa using h)]
  simp
end Sg
namespace Go.Proofs.YtdnlpklmihoapaaGreatDoor
open Go.RowKit
set_option maxRecDepth 100000 in
set_option maxHeartbeats 8000000 in
theorem ex_FnFormatGraph (A : Option Addr) (c : Nat) (l : List Int) (w : World) (hG : Ge w) (h : Rd w 1 A l.length (u8s l)) (hr : ∀ x ∈ l, 0 ≤ x ∧ x ≤ 255) (hc : l.length ≤ c) (hcm : c ≤ maxLen) :
  Calls Tryz.prog 5 #[.slice A l.length c] w fun e w' => e = .returned (.bool true) ∧ Ext w w' := by
 have hbig := h.big
 have HG := lh hG
 have HD := lh (s_DrawFormatGraph A c l w h hr hc hcm)
 clear h hr hc hcm hG
 by_cases hb : 1048576 < l.length
 ·have hb2 : (1048576 : Int) < (l.length : Int) := by omega
  go_enter Tryz.func5, Tryz.ntmps5
  go_wp2
  go_ret
  exact ⟨rfl, Ext.rfl' _⟩
 have hb2 : ¬ (1048576 : Int) < (l.length : Int) := by omega
 clear hb
 go_enter Tryz.func5, Tryz.ntmps5
 go_wp2_with fail
 refine HD.out.mono ?_
 rintro e w1 ⟨g, Ag, cg, hs, cl, Ac, cc, rfl, hK, hO, hcl, he1⟩
 have hgl : g.length ≤ 10 := hK.hi
 have H1 := lh hK.rd
 have C1 := lh hO.rd
 have E1 := lh he1
 have HNF := lh (fun n hn => Nat.le_trans (hK.nf n hn) (show 30 ≤ 1048576 by omega))
 have X2 := lh ((Ext.rfl' w1).al (.cells #[.slice Ag g.length cg] 24))
 have q2 : World.cell? (World.alloc w1 (.cells #[.slice Ag g.length cg] 24)) ⟨w1.heap.size, 0, none⟩ = some (.slice Ag g.length cg) := by simp [go_sem]
 have HFI := lh fun v (e : Ext w1 v) => i_FormatGraph Ag Ac cg cc g cl v (HG.out.ext (E1.out.tr e)).gl (H1.out.ext e) (C1.out.ext e)
 have HFS := lh fun v (e : Ext w1 v) => s_FormatGraph Ag Ac cg cc g cl v (H1.out.ext e) (C1.out.ext e)
 have HVC := lh fun v (e : Ext w1 v) => i_ValidCells Ag Ac cg cc g cl v (H1.out.ext e) (C1.out.ext e)
 have hfl := Sg.fmtG_len2 g cl
 have HTL := lh hfl
 clear hK hO he1 HD hfl
 go_upto_region 4 with fail
 generalize World.alloc w1 (.cells #[.slice Ag g.length cg] 24) = v2 at *
 generalize w1.heap.size = b3 at *
 have l2 := blt q2
 have bn : ∀ l : Sg.Txt, (l != l) = false := fun l => by simp
 have be : ∀ l : Sg.Txt, (l == l) = true := fun l => by simp
 go_wp2_with fail
 refine (HFI.out _ X2.out).mono ?_
 rintro e v3 ⟨rfl, he3⟩
 have X3 := lh (X2.out.tr he3)
 have q3 := he3.cellE q2
 have l3 := blt q3
 clear he3 q2 l2
 go_wp2_with fail
 refine (HFS.out _ X3.out).mono ?_
 rintro e v4 ⟨rfl, he4⟩
 have X4 := lh (X3.out.tr he4)
 have q4 := he4.cellE q3
 have l4 := blt q4
 clear he4 q3 l3
 go_wp2_with fail
 refine (HVC.out _ X4.out).mono ?_
 rintro e v5 ⟨rfl, he5⟩
 have X5 := lh (X4.out.tr he5)
 have q5 := he5.cellE q4
 have l5 := blt q5
 clear he5 q4 l4
 cases hv : (Sg.validG g && Sg.validC g cl)
 ·go_wp2_with fail
  refine (HFS.out _ X5.out).mono ?_
  rintro e v6 ⟨rfl, he6⟩
  go_wp2
  go_ret
  exact ⟨rfl, E1.out.tr (X5.out.tr he6)⟩
 ·rw [Bool.and_eq_true] at hv
  obtain ⟨hv1, hv2⟩ := hv
  have HPG := lh (Sg.parseG_fmt hv1 hv2)
  have HI := lh fun v (e : Ext w1 v) => i_ParseGraph (ts (Sg.fmtG g cl)) v (by rw [ts_size]; have := HTL.out; omega) (HG.out.ext (E1.out.tr e))
  rw [tx_ts, Sg.parseG_eq, HPG.out.1] at HI
  have HOL := lh (Sg.orderG_len g)
  have HOV := lh (Sg.orderG_valid hv1)
  have HOC := lh (show Sg.validC (Sg.orderG g) cl = true by rw [Sg.orderG_cells]; exact hv2)
  have HMN := lh (Sg.orderG_mean hv1 cl)
  have HFO := lh (Sg.fmtG_order hv1 cl)
  have HNO := lh (show ∀ n ∈ Sg.orderG g, n.f.length ≤ 1048576 from fun n hn => by
   obtain ⟨i, hi, he⟩ := List.getElem_of_mem hn
   rcases Sg.node_cases (Sg.orderG_valid hv1) (List.getElem?_eq_some_iff.2 ⟨hi, he⟩) with ⟨_, h⟩ | ⟨_, h⟩
   ·rw [h]; simp
   ·have := (Sg.validF_len h).2; omega)
  have HV := lh (And.intro hv1 hv2)
  have hol : (Sg.orderG g).length ≤ 10 := by rw [Sg.orderG_len]; exact hgl
  have HIM := lh fun v (e : Ext w1 v) => i_MeaningOf Ag Ac cg cc g cl v (H1.out.ext e) (C1.out.ext e) HV.out.1 HV.out.2
  have HNL := lh fun v => l_newlines (ts (Sg.fmtG g cl)) v (by rw [ts_size]; have := HTL.out; omega)
  have bc : (((Sg.fmtG g cl).count 10 : Nat) : Int) == (g.length : Int) := by rw [HPG.out.2]; simp
  rw [tx_ts] at HNL
  clear hv1 hv2
  generalize Sg.orderG g = gb at *
  go_wp2_with fail
  refine (HI.out _ X5.out).mono ?_
  rintro e v6 ⟨A1, c1, k1, K1, d1, rfl, he6, hs6⟩
  have S6 := lh hs6
  simp only [Sg.parsedG] at S6 ⊢
  have q6 := (he6.al (.cells #[.slice A1 gb.length c1] 24)).cellE q5
  have q7 : World.cell? (World.alloc v6 (.cells #[.slice A1 gb.length c1] 24)) ⟨v6.heap.size, 0, none⟩ = some (.slice A1 gb.length c1) := by simp [go_sem]
  have X7 := lh ((X5.out.tr he6).al (.cells #[.slice A1 gb.length c1] 24))
  have B1 := lh (OwnN.rdN (show OwnN v6 v5.heap.size A1 c1 gb k1 from S6.out.1) (show gb.length ≤ 1048576 by omega) HNO.out)
  have D1 := lh (show Own v6 v5.heap.size 3 1 K1 cl.length d1 (ints cl) from S6.out.2.2.1).rd
  have X67 := lh ((Ext.rfl' v6).al (.cells #[.slice A1 gb.length c1] 24))
  have HB := lh fun v (e : Ext v6 v) => B1.out.ext e
  have HDD := lh fun v (e : Ext v6 v) => D1.out.ext e
  clear he6 hs6 q5 l5 S6 B1 D1
  go_upto_region 8 with fail
  generalize World.alloc v6 (.cells #[.slice A1 gb.length c1] 24) = v7 at *
  generalize v6.heap.size = b6 at *
  have Q6 := lh q6
  have Q7 := lh q7
  clear q6 q7
  refine zb 30 (fun W => W.cell? ⟨b3, 0, none⟩ = some (.slice Ag g.length cg) ∧ W.cell? ⟨b6, 0, none⟩ = some (.slice A1 gb.length c1)) ?_ (fun hHeld => ?_)
  ·exact ⟨((Ext.rfl' v7).dr).cellE Q6.out, ((Ext.rfl' v7).dr).cellE Q7.out⟩
  refine zy 0 ?_
  refine zy 1 ?_
  refine zy 2 ?_
  refine zy 3 ?_
  refine zr 4 rfl fun K hK => ?_
  go_simp
  refine (l_equalInts K1 Ac d1 cc cl _ (HDD.out _ (X67.out.tr ((Ext.rfl' v7).dr))) (C1.out.ext (X7.out.tr ((Ext.rfl' v7).dr)))).mono ?_
  rintro e u1 ⟨rfl, he1⟩
  have Y1 := lh (((Ext.rfl' v7).dr).tr he1)
  clear he1
  try go_wp2_with fail
  refine hK.out _ _ (fun _ => ⟨Y1.out.cellE Q6.out, Y1.out.cellE Q7.out⟩) (fun hh => ?_)
  have hHeld := hh (by decide)
  clear hK K hh
  try simp only [Act.put, pu]
  refine zy 5 ?_
  refine zy 6 ?_
  refine zy 7 ?_
  refine zy 8 ?_
  refine zy 10 ?_
  refine zy 11 ?_
  refine zr 9 rfl fun K hK => ?_
  go_simp
  refine (i_MeaningOf A1 K1 c1 d1 gb cl _ (HB.out _ (X67.out.tr Y1.out)) (HDD.out _ (X67.out.tr Y1.out)) HOV.out HOC.out).mono ?_
  rintro e u2 ⟨M1, rfl, hm1, he2⟩
  rw [HMN.out] at hm1
  try rw [HMN.out]
  have MA := lh hm1.rd
  clear hm1
  have Y2 := lh (Y1.out.tr he2)
  clear he2
  try go_wp2_with fail
  refine hK.out _ _ (fun _ => ⟨Y2.out.cellE Q6.out, Y2.out.cellE Q7.out⟩) (fun hh => ?_)
  have hHeld := hh (by decide)
  clear hK K hh
  try simp only [Act.put, pu]
  refine zr 12 rfl fun K hK => ?_
  go_simp
  refine (HIM.out _ (X7.out.tr Y2.out)).mono ?_
  rintro e u3 ⟨M2, rfl, hm2, he3⟩
  have MB := lh hm2.rd
  clear hm2
  have E23 := lh he3
  have Y3 := lh (Y2.out.tr he3)
  clear he3
  try go_wp2_with fail
  refine hK.out _ _ (fun _ => ⟨Y3.out.cellE Q6.out, Y3.out.cellE Q7.out⟩) (fun hh => ?_)
  have hHeld := hh (by decide)
  clear hK K hh
  try simp only [Act.put, pu]
  refine zr 13 rfl fun K hK => ?_
  go_simp
  have HE13 := l_equalInts M1 M2 gb.length g.length (Sg.mean g cl) _ (MA.out.ext (E23.out)) MB.out
  rw [show (Sg.mean g cl).length = g.length by simp] at HE13
  refine (HE13).mono ?_
  rintro e u4 ⟨rfl, he4⟩
  have Y4 := lh (Y3.out.tr he4)
  clear he4
  try go_wp2_with fail
  refine hK.out _ _ (fun _ => ⟨Y4.out.cellE Q6.out, Y4.out.cellE Q7.out⟩) (fun hh => ?_)
  have hHeld := hh (by decide)
  clear hK K hh
  try simp only [Act.put, pu]
  refine zy 14 ?_
  refine zy 15 ?_
  refine zy 16 ?_
  refine zy 18 ?_
  refine zy 19 ?_
  refine zy 20 ?_
  refine zr 17 rfl fun K hK => ?_
  go_simp
  refine (HNL.out _).mono ?_
  rintro e u5 ⟨rfl, rfl⟩
  have Y5 := lh Y4.out
  try go_wp2_with fail
  refine hK.out _ _ (fun _ => ⟨Y5.out.cellE Q6.out, Y5.out.cellE Q7.out⟩) (fun hh => ?_)
  have hHeld := hh (by decide)
  clear hK K hh
  try simp only [Act.put, pu]
  refine zy 21 ?_
  refine zy 22 ?_
  refine zy 23 ?_
  refine zy 24 ?_
  refine zy 25 ?_
  refine zy 27 ?_
  refine zr 26 rfl fun K hK => ?_
  go_simp
  refine (i_FormatGraph A1 K1 c1 d1 gb cl _ (HG.out.ext (E1.out.tr (X7.out.tr Y5.out))).gl (HB.out _ (X67.out.tr Y5.out)) (HDD.out _ (X67.out.tr Y5.out))).mono ?_
  rintro e u6 ⟨rfl, he6⟩
  rw [HFO.out]
  have Y6 := lh (Y5.out.tr he6)
  clear he6
  try go_wp2_with fail
  refine hK.out _ _ (fun _ => ⟨Y6.out.cellE Q6.out, Y6.out.cellE Q7.out⟩) (fun hh => ?_)
  have hHeld := hh (by decide)
  clear hK K hh
  try simp only [Act.put, pu]
  refine zy 28 ?_
  refine zy 29 ?_
  refine zr 30 rfl fun K hK => ?_
  go_simp
  refine hK.out _ _ (fun e => absurd rfl e) (fun hh => ?_)
  clear hK K hHeld hh
  try simp only [Act.put, pu]
  refine zn ?_
  go_wp2
  go_ret
  exact ⟨rfl, E1.out.tr (X7.out.tr Y6.out)⟩
end Go.Proofs.YtdnlpklmihoapaaGreatDoor
