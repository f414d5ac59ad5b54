/- FnPlainSession: the law's walk. Conditions: the code can be read. -/
import Derived.Test.YtaklkcjlihdlkaaGreatTy
import Derived.Test.YtaklkcjlihdlkaaGreatLsA
namespace Go.Proofs.YtaklkcjlihdlkaaGreat
open Go.RowKit

set_option maxRecDepth 100000 in
set_option maxHeartbeats 8000000 in
theorem ex_FnPlainSession (A : Option Addr) (c : Nat) (l : List Int) (w : World) (h : Rd w 1 A l.length (u8s l)) (hr : ∀ x ∈ l, 0 ≤ x ∧ x ≤ 255) (hc : l.length ≤ c) (hcm : c ≤ maxLen) :
  Calls Tryz.prog 3 #[.slice A l.length c] w fun e w' => e = .returned (.bool true) ∧ Ext w w' := by
 have hbig := h.big
 have HD := lh (s_DrawPlainSession A c l w h hr hc hcm)
 clear h hr hc hcm
 by_cases hb : 1048576 < l.length
 ·have hb2 : (1048576 : Int) < (l.length : Int) := by omega
  go_enter Tryz.func3, Tryz.ntmps3
  go_wp2
  go_ret
  exact ⟨rfl, Ext.rfl' _⟩
 have hb2 : ¬ (1048576 : Int) < (l.length : Int) := by omega
 clear hb
 go_enter Tryz.func3, Tryz.ntmps3
 go_wp2_with fail
 refine (HD.out).mono ?_
 rintro e w1 ⟨g, Ag, cg, x, A2, c2, ac, A3, c3, rfl, hg, hx, hac, hc3, hcm3, hN, hX, hA, he1⟩
 go_upto_region 4 with fail
 have EA := lh ((Ext.rfl' w1).al (.cells #[.slice Ag g.length cg] 25))
 have q0 : World.cell? (World.alloc w1 (.cells #[.slice Ag g.length cg] 25)) ⟨w1.heap.size, 0, none⟩ = some (.slice Ag g.length cg) := by simp [go_sem]
 have RG := lh (hN.ext EA.out)
 have RX := lh (hX.ext EA.out)
 have RA := lh (hA.ext EA.out)
 have EW := lh (he1.tr EA.out)
 clear hN hX hA he1 EA HD
 generalize World.alloc w1 (.cells #[.slice Ag g.length cg] 25) = v0 at *
 generalize w1.heap.size = bg at *
 have E0 := lh (Ext.rfl' v0)
 have b0 := blt q0
 go_wp2_with fail
 refine (i_PlainSession Ag A2 A3 cg c2 c3 g x ac _ (RG.out.ext E0.out) (RX.out.ext E0.out) (RA.out.ext E0.out)).mono ?_
 rintro e v1 ⟨BO1, dO1, rfl, hO1, he1⟩
 have O1 := lh hO1.rd
 have hcapa := hO1.2.1
 have hcapb := hO1.2.2.1
 have HCAP := lh (And.intro hcapa hcapb)
 clear hcapa hcapb
 have E1 := lh (E0.out.tr he1)
 have q1 := he1.cellE q0
 have b1 := blt q1
 clear he1 q0 b0 hO1
 go_wp2_with fail
 refine (s_PlainSession Ag A2 A3 cg c2 c3 g x ac _ (RG.out.ext E1.out) (RX.out.ext E1.out) (RA.out.ext E1.out)).mono ?_
 rintro e v2 ⟨BO2, dO2, rfl, hO2, he2⟩
 have O1 := lh (O1.out.ext he2)
 have O2 := lh hO2.rd
 have E2 := lh (E1.out.tr he2)
 have q2 := he2.cellE q1
 have b2 := blt q2
 clear he2 q1 b1 hO2
 have HVC := lh (i_ValidCells Ag A2 cg c2 g x)
 have HVA := lh (i_ValidActs Ag A3 cg c3 g ac)
 cases hC : (Sg.validG g && Sg.validC g x)
 ·have HC := lh hC
  clear hC
  go_wp2_with fail
  refine (l_equalShows BO1 BO2 dO1 dO2 _ (Sg.plainS g x ac) _ O1.out O2.out).mono ?_
  rintro e v3 ⟨rfl, he3⟩
  have O1 := lh (O1.out.ext he3)
  have O2 := lh (O2.out.ext he3)
  have E3 := lh (E2.out.tr he3)
  have q3 := he3.cellE q2
  have b3 := blt q3
  clear he3 q2 b2
  go_wp2_with fail
  refine (HVC.out _ (RG.out.ext E3.out) (RX.out.ext E3.out)).mono ?_
  rintro e v4 ⟨rfl, he4⟩
  have O1 := lh (O1.out.ext he4)
  have O2 := lh (O2.out.ext he4)
  have E4 := lh (E3.out.tr he4)
  have q4 := he4.cellE q3
  have b4 := blt q4
  clear he4 q3 b3
  rw [HC.out]
  go_wp2_with fail
  refine (s_PlainSession Ag A2 A3 cg c2 c3 g x ac _ (RG.out.ext E4.out) (RX.out.ext E4.out) (RA.out.ext E4.out)).mono ?_
  rintro e v5 ⟨BO3, dO3, rfl, hO3, he5⟩
  have O1 := lh (O1.out.ext he5)
  have O2 := lh (O2.out.ext he5)
  have O3 := lh hO3.rd
  have E5 := lh (E4.out.tr he5)
  have q5 := he5.cellE q4
  have b5 := blt q5
  clear he5 q4 b4 hO3
  go_wp2_with fail
  refine (l_equalShows BO1 BO3 dO1 dO3 _ (Sg.plainS g x ac) _ O1.out O3.out).mono ?_
  rintro e v6 ⟨rfl, he6⟩
  have O1 := lh (O1.out.ext he6)
  have O2 := lh (O2.out.ext he6)
  have O3 := lh (O3.out.ext he6)
  have E6 := lh (E5.out.tr he6)
  have q6 := he6.cellE q5
  have b6 := blt q6
  clear he6 q5 b5
  go_wp2
  go_ret
  exact ⟨rfl, EW.out.tr E6.out⟩
 have HC := lh hC
 cases hA : Sg.validA g ac
 ·have HA := lh hA
  clear hA hC
  go_wp2_with fail
  refine (l_equalShows BO1 BO2 dO1 dO2 _ (Sg.plainS g x ac) _ O1.out O2.out).mono ?_
  rintro e v3 ⟨rfl, he3⟩
  have O1 := lh (O1.out.ext he3)
  have O2 := lh (O2.out.ext he3)
  have E3 := lh (E2.out.tr he3)
  have q3 := he3.cellE q2
  have b3 := blt q3
  clear he3 q2 b2
  go_wp2_with fail
  refine (HVC.out _ (RG.out.ext E3.out) (RX.out.ext E3.out)).mono ?_
  rintro e v4 ⟨rfl, he4⟩
  have O1 := lh (O1.out.ext he4)
  have O2 := lh (O2.out.ext he4)
  have E4 := lh (E3.out.tr he4)
  have q4 := he4.cellE q3
  have b4 := blt q4
  clear he4 q3 b3
  rw [HC.out]
  go_wp2_with fail
  refine (HVA.out _ (RG.out.ext E4.out) (RA.out.ext E4.out)).mono ?_
  rintro e v5 ⟨rfl, he5⟩
  have O1 := lh (O1.out.ext he5)
  have O2 := lh (O2.out.ext he5)
  have E5 := lh (E4.out.tr he5)
  have q5 := he5.cellE q4
  have b5 := blt q5
  clear he5 q4 b4
  rw [HA.out]
  go_wp2_with fail
  refine (s_PlainSession Ag A2 A3 cg c2 c3 g x ac _ (RG.out.ext E5.out) (RX.out.ext E5.out) (RA.out.ext E5.out)).mono ?_
  rintro e v6 ⟨BO3, dO3, rfl, hO3, he6⟩
  have O1 := lh (O1.out.ext he6)
  have O2 := lh (O2.out.ext he6)
  have O3 := lh hO3.rd
  have E6 := lh (E5.out.tr he6)
  have q6 := he6.cellE q5
  have b6 := blt q6
  clear he6 q5 b5 hO3
  go_wp2_with fail
  refine (l_equalShows BO1 BO3 dO1 dO3 _ (Sg.plainS g x ac) _ O1.out O3.out).mono ?_
  rintro e v7 ⟨rfl, he7⟩
  have O1 := lh (O1.out.ext he7)
  have O2 := lh (O2.out.ext he7)
  have O3 := lh (O3.out.ext he7)
  have E7 := lh (E6.out.tr he7)
  have q7 := he7.cellE q6
  have b7 := blt q7
  clear he7 q6 b6
  go_wp2
  go_ret
  exact ⟨rfl, EW.out.tr E7.out⟩
 have HA := lh hA
 have hfit : Sg.fitS g x ac = true := by unfold Sg.fitS; rw [hC, hA]; rfl
 clear hC hA
 go_wp2_with fail
 refine (l_equalShows BO1 BO2 dO1 dO2 _ (Sg.plainS g x ac) _ O1.out O2.out).mono ?_
 rintro e v3 ⟨rfl, he3⟩
 have O1 := lh (O1.out.ext he3)
 have O2 := lh (O2.out.ext he3)
 have E3 := lh (E2.out.tr he3)
 have q3 := he3.cellE q2
 have b3 := blt q3
 clear he3 q2 b2
 go_wp2_with fail
 refine (HVC.out _ (RG.out.ext E3.out) (RX.out.ext E3.out)).mono ?_
 rintro e v4 ⟨rfl, he4⟩
 have O1 := lh (O1.out.ext he4)
 have O2 := lh (O2.out.ext he4)
 have E4 := lh (E3.out.tr he4)
 have q4 := he4.cellE q3
 have b4 := blt q4
 clear he4 q3 b3
 rw [HC.out]
 go_wp2_with fail
 refine (HVA.out _ (RG.out.ext E4.out) (RA.out.ext E4.out)).mono ?_
 rintro e v5 ⟨rfl, he5⟩
 have O1 := lh (O1.out.ext he5)
 have O2 := lh (O2.out.ext he5)
 have E5 := lh (E4.out.tr he5)
 have q5 := he5.cellE q4
 have b5 := blt q5
 clear he5 q4 b4
 rw [HA.out]
 have hh : ac.length / 2 ≤ ac.length := Nat.div_le_self _ _
 have iwq : IntKind.i64.wrap (Int.tdiv (ac.length : Int) 2) = ((ac.length / 2 : Nat) : Int) := by rw [Int.tdiv_eq_ediv_of_nonneg (by omega)]; rw [show ((ac.length : Int) / 2) = ((ac.length / 2 : Nat) : Int) by omega]; exact IntWalk.i64_in _ (by omega)
 have iwr : Int.tdiv (ac.length : Int) 2 = ((ac.length / 2 : Nat) : Int) := by rw [Int.tdiv_eq_ediv_of_nonneg (by omega)]; omega
 have HPRE := lh (Sg.plain_pre hfit (ac.length / 2))
 obtain ⟨hn1, hn2⟩ := Sg.plain_nil hfit
 have HN1 := lh hn1
 have HN2 := lh hn2
 have HIP := lh (fun w1 h1 h2 (h3 : Rd w1 3 A3 (ac.length / 2) (acts (ac.take (ac.length / 2)))) => by have := i_PlainSession Ag A2 A3 cg c2 c3 g x (ac.take (ac.length / 2)) w1 h1 h2 (by rw [show (ac.take (ac.length / 2)).length = ac.length / 2 by rw [List.length_take]; omega]; exact h3); rw [show (ac.take (ac.length / 2)).length = ac.length / 2 by rw [List.length_take]; omega] at this; exact this)
 have HCUT := lh (show Rd v0 3 A3 (ac.length / 2) (acts (ac.take (ac.length / 2))) from by have := RA.out.cut hh; rw [acts_take ac _ hh] at this; exact this)
 have HNE := lh (show ∀ k, Sg.numE g (k + 1) = Sg.numE g k + if Sg.kindAt g (k : Int) = 2 then 1 else 0 from Sg.numE_succ g)
 have HNL := lh (show ∀ k, Sg.numE g k ≤ k from fun k => by unfold Sg.numE; exact Nat.le_trans (List.length_filter_le _ _) (by simp))
 have HN0 := lh (show Sg.numE g 0 = 0 from rfl)
 clear hn1 hn2
 have hhc : ((ac.length / 2 : Nat) : Int) ≤ (c3 : Int) := by omega
 have hh0 : (0 : Int) ≤ ((ac.length / 2 : Nat) : Int) := by omega
 have iwh : IntKind.i64.wrap ((ac.length / 2 : Nat) : Int) = ((ac.length / 2 : Nat) : Int) := IntWalk.i64_in _ (by omega)
 generalize hhv : ac.length / 2 = hv at *
 have HHV := lh hhv
 clear hhv
 have EX := lh (EW.out.tr E5.out)
 have Q0 := lh q5
 have RG2 := lh (RG.out.ext E5.out)
 have RX2 := lh (RX.out.ext E5.out)
 have RC2 := lh (HCUT.out.ext E5.out)
 clear HCUT RG RX RA EW E0 E1 E2 E3 E4
 have D0 := lh ((Ext.rfl' v5).dr)
 have O1b := lh O1.out
 clear O2
 go_wp2_with fail
 refine zb 8 (fun W => W.cell? ⟨bg, 0, none⟩ = some (.slice Ag g.length cg)) ?_ (fun hHeld => ?_)
 ·exact D0.out.cellE Q0.out
 refine zy 0 ?_
 refine zy 1 ?_
 refine zy 2 ?_
 refine zy 3 ?_
 refine zy 4 ?_
 refine zy 5 ?_
 refine zy 6 ?_
 refine zr 7 rfl fun K hK => ?_
 go_simp
 refine (HIP.out _ (RG2.out.ext D0.out) (RX2.out.ext D0.out) (RC2.out.ext D0.out)).mono ?_
 rintro e vp ⟨BO4, dO4, rfl, hO4, hep⟩
 have O4 := lh hO4.rd
 have qp := hep.cellE (D0.out.cellE Q0.out)
 have EP := lh (EX.out.tr (D0.out.tr hep))
 have O1c := lh (O1b.out.ext (D0.out.tr hep))
 have RGp := lh (RG2.out.ext (D0.out.tr hep))
 have RXp := lh (RX2.out.ext (D0.out.tr hep))
 clear hO4 hep
 try go_wp2_with fail
 refine hK.out _ _ (fun _ => qp) (fun hh => ?_)
 have hHeld := hh (by decide)
 clear hK K hh
 try simp only [Act.put, pu]
 refine zr 8 rfl fun K hK => ?_
 go_simp
 refine hK.out _ _ (fun e => absurd rfl e) (fun hh => ?_)
 clear hK K hHeld hh
 try simp only [Act.put, pu]
 refine zn ?_
 have bp := blt qp
 clear q5 b5 Q0 RG2 RX2 RC2 D0 O1b O1 EX HIP E5
 go_wp2_with fail
 refine (i_PlainSession Ag A2 none cg c2 0 g x [] _ RGp.out RXp.out (by simpa [acts] using Rd.nil vp 3 none)).mono ?_
 rintro e vr ⟨BO5, dO5, rfl, hO5, her⟩
 have O5 := lh hO5.rd
 have qr := her.cellE qp
 have ER := lh (EP.out.tr her)
 have O1 := lh (O1c.out.ext her)
 have O4 := lh (O4.out.ext her)
 have RGr := lh (RGp.out.ext her)
 have br := blt qr
 clear hO5 her qp bp EP O1c RGp RXp
 go_wp2_with fail
 go_loopw [9, 10] (fun s9 s10 wr => ∃ j : Nat, j ≤ g.length ∧ s10 = .int .i64 j ∧ s9 = .int .i64 (Sg.numE g j : Int) ∧ Hid (Ext vr wr)) (fun _ s10 _ => g.length - (intOf s10).toNat)
 case atStart => exact ⟨0, Nat.zero_le _, rfl, by rw [HN0.out]; rfl, lh (Ext.rfl' vr)⟩
 case round =>
  obtain ⟨j, hj, rfl, rfl, hX⟩ := hrel
  have qw := hX.out.cellE qr
  have bw := blt qw
  have hnl := HNL.out j
  by_cases hlt : j < g.length
  ·obtain ⟨⟨nk, nf⟩, b, oo, Aq, cq, hn, rfl, hkc, hsc, hf, hfl⟩ := (RGr.out.ext hX.out).at_ hlt
   dsimp only at *
   have HK := lh (show Sg.kindAt g (j : Int) = nk by unfold Sg.kindAt; simp [hn])
   have bk := blt hkc
   have hjx : (j : Int) < (g.length : Int) := by omega
   clear hn hsc hf hfl
   have hs9 := HNE.out j
   rw [HK.out] at hs9
   have iw : IntKind.i64.wrap ((Sg.numE g j : Int) + 1) = (Sg.numE g j : Int) + 1 := IntWalk.i64_in _ (by omega)
   by_cases hz : nk = 2
   ·subst hz
    rw [if_pos rfl] at hs9
    have Hs := lh hs9
    clear hs9
    go_wp2
    go_roundw
    case rel => exact ⟨j + 1, by omega, by go_num, by rw [Hs.out]; simp, hX⟩
    case measure => simp [intOf]; omega
   ·rw [if_neg hz] at hs9
    have Hs := lh hs9
    have z1 : (nk == 2) = false := by simp [hz]
    clear hs9 hz
    go_wp2
    go_roundw
    case rel => exact ⟨j + 1, by omega, by go_num, by rw [Hs.out]; simp, hX⟩
    case measure => simp [intOf]; omega
  obtain rfl : j = g.length := by omega
  obtain ⟨wz, rfl⟩ : ∃ wz : World, wz = wr := ⟨_, rfl⟩
  have O1 := lh (O1.out.ext hX.out)
  have O4 := lh (O4.out.ext hX.out)
  have O5 := lh (O5.out.ext hX.out)
  have EZ := lh (ER.out.tr hX.out)
  have hpl := HPRE.out.length_le
  have HE4 := lh (show Sg.plainS g x (ac.take hv) = (Sg.plainS g x ac).take (Sg.plainS g x (ac.take hv)).length from List.prefix_iff_eq_take.1 HPRE.out)
  have hfl5 := HN2.out.length_le
  have HE5 := lh (show Sg.plainS g x [] = (Sg.plainS g x ac).take (Sg.plainS g x []).length from List.prefix_iff_eq_take.1 HN2.out)
  have C4 := lh (O1.out.cut hpl)
  have C5 := lh (O1.out.cut hfl5)
  have h4 := C4.out
  rw [shs_take _ _ hpl, ← HE4.out] at h4
  have h5 := C5.out
  rw [shs_take _ _ hfl5, ← HE5.out] at h5
  have D4 := lh h4
  have D5 := lh h5
  clear C4 C5
  have hps := Sg.plainS_small g x ac
  have hn1 := HN1.out
  clear h4 h5 HE4 HE5 hX RGr qr br ER
  generalize Sg.plainS g x [] = first at *
  generalize Sg.plainS g x (ac.take hv) = early at *
  generalize Sg.plainS g x ac = out at *
  generalize Sg.numE g g.length = ne at *
  subst hn1
  have hi1 : (early.length : Int) ≤ (out.length : Int) := by omega
  have hi2 : (first.length : Int) ≤ (out.length : Int) := by omega
  have hlc := O1.out.2.1
  obtain ⟨hcapa, hcapb⟩ := HCAP.out
  have hj1 : (early.length : Int) ≤ (dO1 : Int) := by omega
  have hj2 : (first.length : Int) ≤ (dO1 : Int) := by omega
  unfold maxLen at hcapb
  have iw4 : IntKind.i64.wrap (early.length : Int) = (early.length : Int) := IntWalk.i64_in _ (by omega)
  have iw5 : IntKind.i64.wrap (first.length : Int) = (first.length : Int) := IntWalk.i64_in _ (by omega)
  have hj3 : (0 : Int) ≤ (early.length : Int) := by omega
  have hj4 : (0 : Int) ≤ (first.length : Int) := by omega
  go_wp2_with fail
  refine (l_equalShows BO1 BO4 dO1 dO4 _ early _ D4.out O4.out).mono ?_
  rintro e vs ⟨rfl, hes⟩
  go_wp2_with fail
  refine (l_equalShows BO1 BO5 dO1 dO5 _ first _ (D5.out.ext hes) (O5.out.ext hes)).mono ?_
  rintro e vt ⟨rfl, het⟩
  go_wp2
  go_ret
  exact ⟨rfl, (EZ.out.tr hes).tr het⟩
end Go.Proofs.YtaklkcjlihdlkaaGreat
