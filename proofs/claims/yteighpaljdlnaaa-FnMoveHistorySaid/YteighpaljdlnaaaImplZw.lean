/- The program's WhyChanged: its contract. Conditions: bounds on lengths. -/
import Derived.Test.YteighpaljdlnaaaTy
import Derived.Test.YteighpaljdlnaaaMeanAll
namespace Go.Proofs.Yteighpaljdlnaaa
open Go.RowKit

set_option maxRecDepth 100000 in
set_option maxHeartbeats 4000000 in
theorem i_WhyChanged (A Aa Ab : Option Addr) (c ca cb : Nat) (g : Sg.Graph) (a b : List Int) (n : Int) (w : World) (h : RdN w A g) (ha : Rd w 1 Aa a.length (ints a)) (hb : Rd w 1 Ab b.length (ints b)) :
  Calls Try.prog 6 #[.agg #[.slice A g.length c], .slice Aa a.length ca, .slice Ab b.length cb, .int .i64 n] w fun e w' => ∃ A1, e = .returned (.slice A1 (Sg.whyOr g a b n).length (Sg.whyOr g a b n).length) ∧ Own w' w.heap.size 3 1 A1 (Sg.whyOr g a b n).length (Sg.whyOr g a b n).length (ints (Sg.whyOr g a b n)) ∧ Ext w w' := by
 have hgl := h.1
 have HVA := lh (i_ValidCells A Aa c ca g a)
 have HVB := lh (i_ValidCells A Ab c cb g b)
 have H := lh h
 have Ha := lh ha
 have Hb := lh hb
 clear h ha hb
 have E0 := lh (((Ext.rfl' w).al (.cells #[.slice A g.length c] 25)) : Ext w (World.alloc w (.cells #[.slice A g.length c] 25)))
 have qlg : World.cell? (World.alloc w (.cells #[.slice A g.length c] 25)) ⟨w.heap.size, 0, none⟩ = some (.slice A g.length c) := by simp [go_sem]
 have Qlg := lh qlg
 clear qlg
 cases hA : (Sg.validG g && Sg.validC g a)
 ·have HA := lh hA
  have HS := lh (show Sg.whyOr g a b n = [] by have e1 := HA.out; unfold Sg.whyOr; simp only [e1, Bool.false_and]; rfl)
  clear hA
  go_enter Try.func6, Try.ntmps6
  go_wp2_with fail
  refine (HVA.out _ (H.out.ext E0.out) (Ha.out.ext E0.out)).mono ?_
  rintro e w1 ⟨rfl, he1⟩
  rw [HA.out]
  have U1 := lh ((Ext.rfl' (World.alloc w (.cells #[.slice A g.length c] 25))).tr he1)
  have E1 := lh (E0.out.tr U1.out)
  have lg_1 := U1.out.cellE Qlg.out
  clear he1 
  have blg_1 := blt lg_1
  go_wp2
  go_ret
  rw [HS.out]
  exact ⟨none, rfl, Own.nil _ _ _ _, E1.out⟩
 have HA := lh hA
 clear hA
 cases hB : (Sg.validG g && Sg.validC g b)
 ·have HB := lh hB
  have HS := lh (show Sg.whyOr g a b n = [] by have e1 := HA.out; have e2 := HB.out; simp only [Bool.and_eq_true] at e1; unfold Sg.whyOr; rw [e1.1] at e2 ⊢; rw [e1.2]; simp only [Bool.true_and] at e2 ⊢; rw [e2]; rfl)
  clear hB
  go_enter Try.func6, Try.ntmps6
  go_wp2_with fail
  refine (HVA.out _ (H.out.ext E0.out) (Ha.out.ext E0.out)).mono ?_
  rintro e w1 ⟨rfl, he1⟩
  rw [HA.out]
  have U1 := lh ((Ext.rfl' (World.alloc w (.cells #[.slice A g.length c] 25))).tr he1)
  have E1 := lh (E0.out.tr U1.out)
  have lg_1 := U1.out.cellE Qlg.out
  clear he1 
  have blg_1 := blt lg_1
  go_wp2_with fail
  refine (HVB.out _ (H.out.ext E1.out) (Hb.out.ext E1.out)).mono ?_
  rintro e w2 ⟨rfl, he2⟩
  rw [HB.out]
  have U2 := lh ((Ext.rfl' w1).tr he2)
  have E2 := lh (E1.out.tr U2.out)
  have lg_2 := U2.out.cellE lg_1
  clear he2 lg_1 blg_1
  have blg_2 := blt lg_2
  go_wp2
  go_ret
  rw [HS.out]
  exact ⟨none, rfl, Own.nil _ _ _ _, E2.out⟩
 have HB := lh hB
 clear hB
 cases hN : Sg.inR n 0 ((g.length : Int) - 1)
 ·have HN := lh hN
  have HS := lh (show Sg.whyOr g a b n = [] by unfold Sg.whyOr; rw [HN.out]; simp)
  clear hN
  go_enter Try.func6, Try.ntmps6
  go_wp2_with fail
  refine (HVA.out _ (H.out.ext E0.out) (Ha.out.ext E0.out)).mono ?_
  rintro e w1 ⟨rfl, he1⟩
  rw [HA.out]
  have U1 := lh ((Ext.rfl' (World.alloc w (.cells #[.slice A g.length c] 25))).tr he1)
  have E1 := lh (E0.out.tr U1.out)
  have lg_1 := U1.out.cellE Qlg.out
  clear he1 
  have blg_1 := blt lg_1
  go_wp2_with fail
  refine (HVB.out _ (H.out.ext E1.out) (Hb.out.ext E1.out)).mono ?_
  rintro e w2 ⟨rfl, he2⟩
  rw [HB.out]
  have U2 := lh ((Ext.rfl' w1).tr he2)
  have E2 := lh (E1.out.tr U2.out)
  have lg_2 := U2.out.cellE lg_1
  clear he2 lg_1 blg_1
  have blg_2 := blt lg_2
  go_wp2_with fail
  refine (i_has A g.length c _ _ hgl).mono ?_
  rintro e w3 ⟨rfl, he3⟩
  rw [HN.out]
  have U3 := lh ((Ext.rfl' w2).tr he3)
  have E3 := lh (E2.out.tr U3.out)
  have lg_3 := U3.out.cellE lg_2
  clear he3 lg_2 blg_2
  have blg_3 := blt lg_3
  go_wp2
  go_ret
  rw [HS.out]
  exact ⟨none, rfl, Own.nil _ _ _ _, E3.out⟩
 have HN := lh hN
 clear hN
 have hG : Sg.validG g = true := by have := HA.out; simp only [Bool.and_eq_true] at this; exact this.1
 have hCa : Sg.validC g a = true := by have := HA.out; simp only [Bool.and_eq_true] at this; exact this.2
 have hCb : Sg.validC g b = true := by have := HB.out; simp only [Bool.and_eq_true] at this; exact this.2
 have hnr : 0 ≤ n ∧ n ≤ (g.length : Int) - 1 := by have := HN.out; simp only [Sg.inR, Bool.and_eq_true, decide_eq_true_eq] at this; exact this
 obtain ⟨n0, rfl⟩ := Int.eq_ofNat_of_zero_le hnr.1
 have hn9 : n0 < g.length := by omega
 clear hnr
 have hcd : changedOr g a b = Sg.diffL (Sg.mean g a) (Sg.mean g b) := by unfold changedOr; rw [hG, hCa, hCb]; rfl
 have HCB := lh (show ∀ (w : World), RdN w A g → Rd w 1 Aa a.length (ints a) → Rd w 1 Ab b.length (ints b) → Calls Try.prog 10 #[.agg #[.slice A g.length c], .slice Aa a.length ca, .slice Ab b.length cb] w fun e w' => ∃ A1, e = .returned (.slice A1 (Sg.diffL (Sg.mean g a) (Sg.mean g b)).length (Sg.diffL (Sg.mean g a) (Sg.mean g b)).length) ∧ Own w' w.heap.size 3 1 A1 (Sg.diffL (Sg.mean g a) (Sg.mean g b)).length (Sg.diffL (Sg.mean g a) (Sg.mean g b)).length (ints (Sg.diffL (Sg.mean g a) (Sg.mean g b))) ∧ Ext w w' from fun w h1 h2 h3 => by have := i_ChangedBy A Aa Ab c ca cb g a b w h1 h2 h3; rw [hcd] at this; exact this)
 have HDO := lh (fun w h ha => i_DepsOf A Aa c ca g a w h ha hG hCa)
 have HX2 := lh (show ∀ x ∈ Sg.depsTo g (Sg.mean g a) g.length, x.length ≤ 1048576 from fun x hx => by
  unfold Sg.depsTo at hx
  obtain ⟨i, hi, rfl⟩ := List.mem_map.1 hx
  exact Nat.le_trans (Sg.depAt_len hG _ (List.mem_range.1 hi)) (by omega))
 have HDA := lh (show ∀ i, i < g.length → (Sg.depsTo g (Sg.mean g a) g.length)[i]? = some (Sg.depAt g (Sg.mean g a) i) ∧ (Sg.depAt g (Sg.mean g a) i).length ≤ 1048576 from fun i hi => ⟨by unfold Sg.depsTo; simp [hi], Nat.le_trans (Sg.depAt_len hG _ hi) (by omega)⟩)
 have hg10 := validG_len hG
 have hdl : (Sg.diffL (Sg.mean g a) (Sg.mean g b)).length ≤ 10 := by have := changedOr_len g a b; rw [hcd] at this; exact this
 by_cases hm : (n0 : Int) ∈ Sg.diffL (Sg.mean g a) (Sg.mean g b)
 case neg =>
  have HS := lh (show Sg.whyOr g a b n0 = [] by unfold Sg.whyOr; simp [hm])
  have HMM := lh (show decide ((n0 : Int) ∈ Sg.diffL (Sg.mean g a) (Sg.mean g b)) = false by simpa using hm)
  clear hm hcd hG hCa hCb
  generalize Sg.diffL (Sg.mean g a) (Sg.mean g b) = CH at *
  go_enter Try.func6, Try.ntmps6
  go_wp2_with fail
  refine (HVA.out _ (H.out.ext E0.out) (Ha.out.ext E0.out)).mono ?_
  rintro e w1 ⟨rfl, he1⟩
  rw [HA.out]
  have U1 := lh ((Ext.rfl' (World.alloc w (.cells #[.slice A g.length c] 25))).tr he1)
  have E1 := lh (E0.out.tr U1.out)
  have lg_1 := U1.out.cellE Qlg.out
  clear he1 
  have blg_1 := blt lg_1
  go_wp2_with fail
  refine (HVB.out _ (H.out.ext E1.out) (Hb.out.ext E1.out)).mono ?_
  rintro e w2 ⟨rfl, he2⟩
  rw [HB.out]
  have U2 := lh ((Ext.rfl' w1).tr he2)
  have E2 := lh (E1.out.tr U2.out)
  have lg_2 := U2.out.cellE lg_1
  clear he2 lg_1 blg_1
  have blg_2 := blt lg_2
  go_wp2_with fail
  refine (i_has A g.length c _ _ hgl).mono ?_
  rintro e w3 ⟨rfl, he3⟩
  rw [HN.out]
  have U3 := lh ((Ext.rfl' w2).tr he3)
  have E3 := lh (E2.out.tr U3.out)
  have lg_3 := U3.out.cellE lg_2
  clear he3 lg_2 blg_2
  have blg_3 := blt lg_3
  go_wp2_with fail
  refine wp_region_held_drew (S := (fun W => W.cell? ⟨w.heap.size, 0, none⟩ = some (.slice A g.length c))) (by kernel_rfl) ?_ (fun hHeld => ?_)
  ·exact ((Ext.rfl' _).dr).cellE lg_3
  refine ty 0 ?_
  refine ty 1 ?_
  refine ty 2 ?_
  refine ty 4 ?_
  refine ty 5 ?_
  refine rd1 3 rfl fun K hK => ?_
  go_simp
  refine (HCB.out _ (H.out.ext (E3.out.dr)) (Ha.out.ext (E3.out.dr)) (Hb.out.ext (E3.out.dr))).mono ?_
  rintro e w4 ⟨A3, rfl, ho, he4⟩
  have Ho3 := lh ho.rd
  clear ho
  have U4 := lh (((Ext.rfl' w3).dr).tr he4)
  have E4 := lh (E3.out.tr U4.out)
  have lg_4 := U4.out.cellE lg_3
  clear he4 lg_3 blg_3
  have blg_4 := blt lg_4
  try go_wp2_with fail
  refine hK.out _ _ (by exact lg_4) fun hh2 => ?_; clear hK K hHeld; have hHeld := hh2; clear hh2
  try simp only [Act.put, pu]
  refine rd1 6 rfl fun K hK => ?_
  go_simp
  refine (HDO.out _ (H.out.ext E4.out) (Ha.out.ext E4.out)).mono ?_
  rintro e w5 ⟨A4, hs4, rfl, ho, he5⟩
  have Ho4 := lh (OwnL.rdL ho (by rw [Sg.length_depsTo]; exact hgl) HX2.out)
  clear ho
  have U5 := lh ((Ext.rfl' w4).tr he5)
  have E5 := lh (E4.out.tr U5.out)
  have lg_5 := U5.out.cellE lg_4
  clear he5 lg_4 blg_4
  have blg_5 := blt lg_5
  try go_wp2_with fail
  refine hK.out _ _ (by exact lg_5) fun hh2 => ?_; clear hK K hHeld; have hHeld := hh2; clear hh2
  try simp only [Act.put, pu]
  refine ty 7 ?_
  refine ty 8 ?_
  refine dn ?_
  go_wp2_with fail
  refine (i_Contains A3 _ _ CH (n0 : Int) _ (Ho3.out.ext ((Ext.rfl' w4).tr U5.out))).mono ?_
  rintro e w6 ⟨rfl, he6⟩
  rw [HMM.out]
  have U6 := lh ((Ext.rfl' w5).tr he6)
  have E6 := lh (E5.out.tr U6.out)
  have lg_6 := U6.out.cellE lg_5
  clear he6 lg_5 blg_5
  have blg_6 := blt lg_6
  go_wp2
  go_ret
  rw [HS.out]
  exact ⟨none, rfl, Own.nil _ _ _ _, E6.out⟩
 have HS := lh (show Sg.whyOr g a b n0 = Sg.whyGo g (Sg.mean g a) (Sg.diffL (Sg.mean g a) (Sg.mean g b)) (n0 + 1) n0 [] by unfold Sg.whyOr; rw [HN.out]; simp [hG, hCa, hCb, hm])
 have HMM := lh (show decide ((n0 : Int) ∈ Sg.diffL (Sg.mean g a) (Sg.mean g b)) = true by simpa using hm)
 have HM := lh hm
 have HST := lh (fun (i : Nat) (hi : (i : Int) ∈ Sg.diffL (Sg.mean g a) (Sg.mean g b)) (h0 : Sg.kindAt g (i : Int) ≠ 0) (out : List Int) => Sg.whyGo_step hG a b hi h0 out)
 have HNS := lh (fun (i : Nat) (hi : (i : Int) ∈ Sg.diffL (Sg.mean g a) (Sg.mean g b)) (h0 : Sg.kindAt g (i : Int) ≠ 0) => Sg.nxt_spec hG a b hi h0)
 have HWR := lh (fun (i : Nat) (hi : (i : Int) ∈ Sg.diffL (Sg.mean g a) (Sg.mean g b)) (h0 : Sg.kindAt g (i : Int) ≠ 0) => Sg.why_read hG a b hi h0)
 have HDL := lh (fun (i : Nat) (hi : (i : Int) ∈ Sg.diffL (Sg.mean g a) (Sg.mean g b)) => (show i < g.length by obtain ⟨j, hj, hl, _⟩ := Sg.mem_diffL.1 hi; rw [Sg.length_mean] at hl; omega))
 clear hm hcd hG hCa hCb
 generalize Sg.diffL (Sg.mean g a) (Sg.mean g b) = CH at *
 generalize Sg.mean g a = X at *
 go_enter Try.func6, Try.ntmps6
 go_wp2_with fail
 refine (HVA.out _ (H.out.ext E0.out) (Ha.out.ext E0.out)).mono ?_
 rintro e w1 ⟨rfl, he1⟩
 rw [HA.out]
 have U1 := lh ((Ext.rfl' (World.alloc w (.cells #[.slice A g.length c] 25))).tr he1)
 have E1 := lh (E0.out.tr U1.out)
 have lg_1 := U1.out.cellE Qlg.out
 clear he1 
 have blg_1 := blt lg_1
 go_wp2_with fail
 refine (HVB.out _ (H.out.ext E1.out) (Hb.out.ext E1.out)).mono ?_
 rintro e w2 ⟨rfl, he2⟩
 rw [HB.out]
 have U2 := lh ((Ext.rfl' w1).tr he2)
 have E2 := lh (E1.out.tr U2.out)
 have lg_2 := U2.out.cellE lg_1
 clear he2 lg_1 blg_1
 have blg_2 := blt lg_2
 go_wp2_with fail
 refine (i_has A g.length c _ _ hgl).mono ?_
 rintro e w3 ⟨rfl, he3⟩
 rw [HN.out]
 have U3 := lh ((Ext.rfl' w2).tr he3)
 have E3 := lh (E2.out.tr U3.out)
 have lg_3 := U3.out.cellE lg_2
 clear he3 lg_2 blg_2
 have blg_3 := blt lg_3
 go_wp2_with fail
 refine wp_region_held_drew (S := (fun W => W.cell? ⟨w.heap.size, 0, none⟩ = some (.slice A g.length c))) (by kernel_rfl) ?_ (fun hHeld => ?_)
 ·exact ((Ext.rfl' _).dr).cellE lg_3
 refine ty 0 ?_
 refine ty 1 ?_
 refine ty 2 ?_
 refine ty 4 ?_
 refine ty 5 ?_
 refine rd1 3 rfl fun K hK => ?_
 go_simp
 refine (HCB.out _ (H.out.ext (E3.out.dr)) (Ha.out.ext (E3.out.dr)) (Hb.out.ext (E3.out.dr))).mono ?_
 rintro e w4 ⟨A3, rfl, ho, he4⟩
 have Ho3 := lh ho.rd
 clear ho
 have U4 := lh (((Ext.rfl' w3).dr).tr he4)
 have E4 := lh (E3.out.tr U4.out)
 have lg_4 := U4.out.cellE lg_3
 clear he4 lg_3 blg_3
 have blg_4 := blt lg_4
 try go_wp2_with fail
 refine hK.out _ _ (by exact lg_4) fun hh2 => ?_; clear hK K hHeld; have hHeld := hh2; clear hh2
 try simp only [Act.put, pu]
 refine rd1 6 rfl fun K hK => ?_
 go_simp
 refine (HDO.out _ (H.out.ext E4.out) (Ha.out.ext E4.out)).mono ?_
 rintro e w5 ⟨A4, hs4, rfl, ho, he5⟩
 have Ho4 := lh (OwnL.rdL ho (by rw [Sg.length_depsTo]; exact hgl) HX2.out)
 clear ho
 have U5 := lh ((Ext.rfl' w4).tr he5)
 have E5 := lh (E4.out.tr U5.out)
 have lg_5 := U5.out.cellE lg_4
 clear he5 lg_4 blg_4
 have blg_5 := blt lg_5
 try go_wp2_with fail
 refine hK.out _ _ (by exact lg_5) fun hh2 => ?_; clear hK K hHeld; have hHeld := hh2; clear hh2
 try simp only [Act.put, pu]
 refine ty 7 ?_
 refine ty 8 ?_
 refine dn ?_
 go_wp2_with fail
 refine (i_Contains A3 _ _ CH (n0 : Int) _ (Ho3.out.ext ((Ext.rfl' w4).tr U5.out))).mono ?_
 rintro e w6 ⟨rfl, he6⟩
 rw [HMM.out]
 have U6 := lh ((Ext.rfl' w5).tr he6)
 have E6 := lh (E5.out.tr U6.out)
 have lg_6 := U6.out.cellE lg_5
 clear he6 lg_5 blg_5
 have blg_6 := blt lg_6
 go_wp2
 have O0 := lh (show Own (World.alloc w6 (.cells #[.int .i64 (n0 : Int)] 3)) w6.heap.size 3 1 (some ⟨w6.heap.size, 0, none⟩) [(n0 : Int)].length 1 (ints [(n0 : Int)]) from by have := Own.new w6 3 1 #[.int .i64 (n0 : Int)] 1 (Nat.le_refl _) (by unfold maxLen; omega) rfl; simpa [ints] using this)
 have EA := lh (show Ext w6 (World.alloc w6 (.cells #[.int .i64 (n0 : Int)] 3)) from (Ext.rfl' _).al _)
 have LG := lh lg_6
 clear lg_6 blg_6
 go_loopw [3, 11] (fun s3 s11 wr => ∃ (i : Nat) (P : List Int) (A' : Option Addr) (c' : Nat), s3 = .int .i64 i ∧ s11 = .slice A' P.length c' ∧ Hid (Own wr w6.heap.size 3 1 A' P.length c' (ints P)) ∧ Hid ((i : Int) ∈ CH) ∧ Hid (∃ out, P = ((i : Int) :: out).reverse ∧ Sg.whyGo g X CH (i + 1) i out = Sg.whyGo g X CH (n0 + 1) n0 []) ∧ Hid (Ext w6 wr) ∧ P.length + i ≤ 20) (fun s3 _ _ => (intOf s3).toNat)
 case atStart => exact ⟨n0, [(n0 : Int)], _, _, rfl, rfl, O0, HM, lh ⟨[], rfl, rfl⟩, EA, by simp; omega⟩
 case round =>
  obtain ⟨i, P, A', c', rfl, rfl, hO, hI, hW, hE, hL⟩ := hrel
  have hi := HDL.out i hI.out
  have k1 := hE.out.cellE LG.out
  have b1 := blt k1
  obtain ⟨⟨nk, nf⟩, hng⟩ : ∃ n, g[i]? = some n := ⟨_, List.getElem?_eq_getElem hi⟩
  have hkd : Sg.kindAt g (i : Int) = nk := by unfold Sg.kindAt; rw [Int.toNat_natCast]; simp [hng]
  have HK := lh hkd
  have HCL := lh (fun w h => i_cell A c g i ⟨nk, nf⟩ w h hng)
  have hs1 := (E6.out.tr hE.out).size
  have hcc := hO.out.2.1
  have hcm := hO.out.2.2.1
  clear hng hkd
  by_cases hz : nk = 0
  ·have HZ := lh (show decide (nk = 0) = true by simp [hz])
   have HF := lh (show Sg.whyGo g X CH (n0 + 1) n0 [] = P.reverse by obtain ⟨out, h1, h2⟩ := hW.out; rw [← h2, h1, List.reverse_reverse]; exact Sg.whyGo_end (by rw [HK.out]; exact hz) i out)
   have hP0 : 0 < P.length := by obtain ⟨out, h1, h2⟩ := hW.out; rw [h1]; simp
   clear hz
   go_wp2_with fail
   refine (HCL.out _ (H.out.ext (E6.out.tr hE.out))).mono ?_
   rintro e x5 ⟨rfl, he5⟩
   rw [HZ.out]
   have O5 := lh (hO.out.ext he5)
   have hc5 := O5.out.2.1
   go_wp2_with fail
   refine (i_Reverse A' c' P x5 O5.out hP0).mono ?_
   rintro e x6 ⟨rfl, ho6, hm6⟩
   have O6 := lh ho6
   have M6 := lh hm6
   clear ho6 hm6
   go_wp2_with fail
   refine (i_Clip A' _ c' x6 hcc hcm).mono ?_
   rintro e w' ⟨rfl, rfl⟩
   go_wp2
   go_ret
   have O7 := O6.out.clip
   rw [HS.out, HF.out, List.length_reverse]
   have hsz := E6.out.size
   exact ⟨A', rfl, O7.mono hsz, Ext.md ((E6.out.tr hE.out).tr he5) M6.out (fun x e => by have := (hO.out.lt e).1; omega)⟩
  ·have HZ := lh (show decide (nk = 0) = false by simp [hz])
   have HNE := lh (show Sg.kindAt g (i : Int) ≠ 0 by rw [HK.out]; exact hz)
   clear hz
   go_wp2_with fail
   refine (HCL.out _ (H.out.ext (E6.out.tr hE.out))).mono ?_
   rintro e x5 ⟨rfl, he5⟩
   rw [HZ.out]
   have F5 := lh (hE.out.tr he5)
   have O5 := lh (hO.out.ext he5)
   obtain ⟨l, bl, ol, Al, cl, hl, rfl, hlc, hlr, hll2⟩ := (Ho4.out.ext ((((Ext.rfl' w5).tr U6.out)).tr F5.out)).at_ (i := i) (by rw [Sg.length_depsTo]; exact hi)
   have hld := (HDA.out i hi).1
   rw [hl] at hld
   injection hld with hld
   subst hld
   have bl5 := blt hlc
   have HLR := lh hlr
   have CL0 : i < (Sg.depsTo g X g.length).length := by rw [Sg.length_depsTo]; exact hi
   clear hl hlr k1 b1 he5
   go_wp2_with fail
   refine (i_common Al A3 cl _ (Sg.depAt g X i) CH _ HLR.out (Ho3.out.ext (((((Ext.rfl' w4).tr U5.out).tr U6.out)).tr F5.out)) hll2).mono ?_
   rintro e x6 ⟨A6, c6, rfl, ho6, he6⟩
   have hne := HWR.out i hI.out HNE.out
   rw [Int.toNat_natCast] at hne
   have hp6 : 0 < (Sg.common (Sg.depAt g X i) CH).length := List.length_pos_iff.2 hne
   have hq6 : (((Sg.common (Sg.depAt g X i) CH).length : Int) == 0) = false := by simp; exact hne
   have R6 := lh ho6.rd
   have F6 := lh (F5.out.tr he6)
   have O6 := lh (O5.out.ext he6)
   clear ho6 he6 hlc bl5 hne
   go_wp2_with fail
   refine (i_Min A6 c6 _ _ R6.out hp6).mono ?_
   rintro e w' ⟨rfl, rfl⟩
   have hmm : Sg.minL (Sg.common (Sg.depAt g X i) CH) = Sg.nxt g X CH (i : Int) := by unfold Sg.nxt; rw [Int.toNat_natCast]
   rw [hmm]
   clear hmm
   obtain ⟨m, hm⟩ := Int.eq_ofNat_of_zero_le (HNS.out i hI.out HNE.out).2.1
   have hmi : m < i := by have := (HNS.out i hI.out HNE.out).2.2.1; omega
   have HMm := lh (show (m : Int) ∈ CH by rw [← hm]; exact (HNS.out i hI.out HNE.out).1)
   have HW2 := lh (show ∃ out, P ++ [(m : Int)] = ((m : Int) :: out).reverse ∧ Sg.whyGo g X CH (m + 1) m out = Sg.whyGo g X CH (n0 + 1) n0 [] by obtain ⟨out, h1, h2⟩ := hW.out; have := HST.out i hI.out HNE.out out; rw [Int.toNat_natCast, hm, Int.toNat_natCast] at this; exact ⟨(i : Int) :: out, by rw [h1]; simp, by rw [← this]; exact h2⟩)
   rw [hm]
   clear hm
   have hs6 := (E6.out.tr F6.out).size
   have hbw := F6.out.size
   go_wp2_with (at_builtin; refine wpList_app1 rfl rfl eiInt rfl O6.out rfl rfl (one_int _ _) (by omega) (by omega) hbw ?_; intro A7 c7 x7 ho7 hg7 hat7)
   have O7 := lh (show Own x7 w6.heap.size 3 1 A7 (P ++ [(m : Int)]).length c7 (ints (P ++ [(m : Int)])) from by have := ho7; simpa [ints] using this)
   have F7 := lh (F6.out.gr hg7 (fun x hx => (O6.out.lt hx).1))
   clear ho7 hg7 hat7
   go_wp2
   go_roundw
   case rel => exact ⟨m, P ++ [(m : Int)], A7, c7, rfl, by simp, O7, HMm, HW2, F7, by simp; omega⟩
   case measure => simp [intOf]; omega
end Go.Proofs.Yteighpaljdlnaaa
