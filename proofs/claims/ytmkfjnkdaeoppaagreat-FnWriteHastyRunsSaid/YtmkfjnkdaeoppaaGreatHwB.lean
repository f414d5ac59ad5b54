/- FnWriteHastyRuns: the law's walk. Conditions: the code can be read. -/
import Derived.Test.YtmkfjnkdaeoppaaGreatTy
import Derived.Test.YtmkfjnkdaeoppaaGreatDrawQ
import Derived.Test.YtmkfjnkdaeoppaaGreatSmallH
import Derived.Test.YtmkfjnkdaeoppaaGreatModelHY
import Derived.Test.YtmkfjnkdaeoppaaGreatModelHZ
import Derived.Test.YtmkfjnkdaeoppaaGreatWriteE
import Derived.Test.YtmkfjnkdaeoppaaGreatSmallW
import Derived.Test.YtmkfjnkdaeoppaaGreatEqAll
import Derived.Test.YtmkfjnkdaeoppaaGreatMayR
namespace Sg
theorem mustOr_nodupQ (g : Graph) (a b : List Int) : (mustOr g a b).Nodup := by
 unfold mustOr
 split
 ·unfold whichL
  unfold List.Nodup
  rw [List.pairwise_map]
  exact (List.Pairwise.filter _ List.pairwise_lt_range).imp fun h e => by
   have : (_ : Nat) = _ := Int.ofNat.inj e
   omega
 ·exact List.nodup_nil
end Sg
namespace Go.Proofs.YtmkfjnkdaeoppaaGreat
open Go.RowKit

set_option maxRecDepth 100000 in
set_option maxHeartbeats 8000000 in
theorem ex_FnWriteHastyRuns (A : Option Addr) (c : Nat) (l : List Int) (w : World) (h : Rd w 1 A l.length (u8s l)) (hr : ∀ x ∈ l, 0 ≤ x ∧ x ≤ 255) (hc : l.length ≤ c) (hcm : c ≤ maxLen) :
  Calls Tryz.prog 16 #[.slice A l.length c] w fun e w' => e = .returned (.bool true) ∧ Ext w w' := by
 have hbig := h.big
 have HD := lh (s_DrawWriteHasty A c l w h hr hc hcm)
 clear h hr hc hcm
 by_cases hb : 1048576 < l.length
 ·have hb2 : (1048576 : Int) < (l.length : Int) := by omega
  go_enter Tryz.func16, Tryz.ntmps16
  go_wp2
  go_ret
  exact ⟨rfl, Ext.rfl' _⟩
 have hb2 : ¬ (1048576 : Int) < (l.length : Int) := by omega
 clear hb
 have E0 := lh ((Ext.rfl' w) : Ext w w)
 go_enter Tryz.func16, Tryz.ntmps16
 go_wp2_with fail
 refine (HD.out).mono ?_
 rintro e w1 ⟨g, Ag, cg, v, Av, cv, r, Ar, cr, kn, xv, rfl, hg2, hg10, hvl, hrl, hN, hV, hR, he1⟩
 have H1 := lh hN
 have V1 := lh hV
 have R1 := lh hR
 have hvl9 : v.length ≤ 1048576 := by omega
 clear hN hV hR HD
 have U1 := lh ((Ext.rfl' w).tr he1)
 have E1 := lh (E0.out.tr U1.out)
 clear he1 
 have sz1 := U1.out.size
 have hsm := hastyO_smallQ g v r kn xv
 obtain ⟨⟨⟨ov, orr⟩, rn⟩, hW⟩ : ∃ p, Sg.hastyO g ⟨v, r⟩ kn xv = p := ⟨_, rfl⟩
 rw [hW] at hsm
 have SM := lh (show SmallE ⟨ov, orr⟩ from hsm.1)
 have HRN := lh (show rn.length ≤ 1048576 from hsm.2)
 clear hsm
 have HI := lh (fun w h hv hr => by have := i_WriteHasty Ag Av Ar cg cv cr g v r kn xv w h hv hr hvl9; rw [hW] at this; exact this)
 have HS := lh (fun w h hv hr => by have := s_WriteHasty Ag Av Ar cg cv cr g v r kn xv w h hv hr hvl9; rw [hW] at this; exact this)
 have HV := lh (fun w h hv hr => i_ValidEager Ag Av Ar cg cv cr g v r w h hv hr)
 have HW := lh hW
 clear hW
 have z3 : ((g.length : Int) == 0) = false := by rw [beq_eq_false_iff_ne]; omega
 have X1_1 := lh (Ext.al (Ext.al (Ext.rfl' w1) (.cells #[.slice Ag g.length cg] 25)) (.cells #[.slice Av v.length cv, .slice Ar r.length cr] 63))
 go_wp2_with fail
 refine (HI.out _ (H1.out.ext X1_1.out) (V1.out.ext X1_1.out) (R1.out.ext X1_1.out)).mono ?_
 rintro e w2 ⟨A2, c2, A3, c3, z2, A4, c4, rfl, hoe, hor, hdj, he2⟩
 have Hv2 := lh hoe.v.rd
 have Hr2 := lh (OwnL.rdL hoe.r SM.out.r SM.out.e)
 have Hn2 := lh hor.rd
 clear hoe hor hdj
 have U2 := lh ((Ext.al (Ext.al (Ext.rfl' w1) (.cells #[.slice Ag g.length cg] 25)) (.cells #[.slice Av v.length cv, .slice Ar r.length cr] 63)).tr he2)
 have E2 := lh (E1.out.tr U2.out)
 have lg_2 := he2.cellE (show World.cell? (World.alloc (World.alloc w1 (.cells #[.slice Ag g.length cg] 25)) (.cells #[.slice Av v.length cv, .slice Ar r.length cr] 63)) ⟨w1.heap.size, 0, none⟩ = some (.slice Ag g.length cg) by simp [go_sem])
 have lv_2 := he2.cellE (show World.cell? (World.alloc (World.alloc w1 (.cells #[.slice Ag g.length cg] 25)) (.cells #[.slice Av v.length cv, .slice Ar r.length cr] 63)) ⟨w1.heap.size + 1, 0, none⟩ = some (.slice Av v.length cv) by simp [go_sem])
 have lr_2 := he2.cellE (show World.cell? (World.alloc (World.alloc w1 (.cells #[.slice Ag g.length cg] 25)) (.cells #[.slice Av v.length cv, .slice Ar r.length cr] 63)) ⟨w1.heap.size + 1, 1, none⟩ = some (.slice Ar r.length cr) by simp [go_sem])
 clear he2 X1_1
 have blg_2 := blt lg_2
 have blv_2 := blt lv_2
 have blr_2 := blt lr_2
 have sz2 := U2.out.size
 have X2_2 := lh (Ext.al ((Ext.rfl' w1).tr U2.out) (.cells #[.slice A2 ov.length c2, .slice A3 orr.length c3] 63))
 go_wp2_with fail
 refine (HS.out _ (H1.out.ext X2_2.out) (V1.out.ext X2_2.out) (R1.out.ext X2_2.out)).mono ?_
 rintro e w3 ⟨A6, c6, A7, c7, z6, A8, c8, rfl, hoe, hor, hdj, he3⟩
 have Hv6 := lh hoe.v.rd
 have Hr6 := lh (OwnL.rdL hoe.r SM.out.r SM.out.e)
 have Hn6 := lh hor.rd
 clear hoe hor hdj
 have U3 := lh ((Ext.al (Ext.rfl' w2) (.cells #[.slice A2 ov.length c2, .slice A3 orr.length c3] 63)).tr he3)
 have E3 := lh (E2.out.tr U3.out)
 have lg_3 := U3.out.cellE lg_2
 have lv_3 := U3.out.cellE lv_2
 have lr_3 := U3.out.cellE lr_2
 have pv_3 := he3.cellE (show World.cell? (World.alloc w2 (.cells #[.slice A2 ov.length c2, .slice A3 orr.length c3] 63)) ⟨w2.heap.size, 0, none⟩ = some (.slice A2 ov.length c2) by simp [go_sem])
 have pr_3 := he3.cellE (show World.cell? (World.alloc w2 (.cells #[.slice A2 ov.length c2, .slice A3 orr.length c3] 63)) ⟨w2.heap.size, 1, none⟩ = some (.slice A3 orr.length c3) by simp [go_sem])
 clear he3 lg_2 lv_2 lr_2 blg_2 blv_2 blr_2 X2_2
 have blg_3 := blt lg_3
 have blv_3 := blt lv_3
 have blr_3 := blt lr_3
 have bpv_3 := blt pv_3
 have bpr_3 := blt pr_3
 have sz3 := U3.out.size
 have X3_3 := lh (Ext.al ((Ext.rfl' w2).tr U3.out) (.cells #[.slice A6 ov.length c6, .slice A7 orr.length c7] 63))
 have X3_4 := lh (Ext.al (Ext.rfl' w3) (.cells #[.slice A6 ov.length c6, .slice A7 orr.length c7] 63))
 go_wp2_with fail
 refine (l_equalEager A2 A6 A3 A7 c2 c6 c3 c7 ov orr _ (Hv2.out.ext X3_3.out) (Hv6.out.ext X3_4.out) (Hr2.out.ext X3_3.out) (Hr6.out.ext X3_4.out)).mono ?_
 rintro e w4 ⟨rfl, he4⟩
 have U4 := lh ((Ext.al (Ext.rfl' w3) (.cells #[.slice A6 ov.length c6, .slice A7 orr.length c7] 63)).tr he4)
 have E4 := lh (E3.out.tr U4.out)
 have lg_4 := U4.out.cellE lg_3
 have lv_4 := U4.out.cellE lv_3
 have lr_4 := U4.out.cellE lr_3
 have pv_4 := U4.out.cellE pv_3
 have pr_4 := U4.out.cellE pr_3
 have ov_4 := he4.cellE (show World.cell? (World.alloc w3 (.cells #[.slice A6 ov.length c6, .slice A7 orr.length c7] 63)) ⟨w3.heap.size, 0, none⟩ = some (.slice A6 ov.length c6) by simp [go_sem])
 have or_4 := he4.cellE (show World.cell? (World.alloc w3 (.cells #[.slice A6 ov.length c6, .slice A7 orr.length c7] 63)) ⟨w3.heap.size, 1, none⟩ = some (.slice A7 orr.length c7) by simp [go_sem])
 clear he4 lg_3 lv_3 lr_3 pv_3 pr_3 blg_3 blv_3 blr_3 bpv_3 bpr_3 X3_3 X3_4
 have blg_4 := blt lg_4
 have blv_4 := blt lv_4
 have blr_4 := blt lr_4
 have bpv_4 := blt pv_4
 have bpr_4 := blt pr_4
 have bov_4 := blt ov_4
 have bor_4 := blt or_4
 have sz4 := U4.out.size
 have X4_5 := lh (((Ext.rfl' w2).tr U3.out).tr U4.out)
 have X4_6 := lh ((Ext.rfl' w3).tr U4.out)
 go_wp2_with fail
 refine (l_equalInts A4 A8 c4 c8 rn _ (Hn2.out.ext X4_5.out) (Hn6.out.ext X4_6.out)).mono ?_
 rintro e w5 ⟨rfl, he5⟩
 have U5 := lh ((Ext.rfl' w4).tr he5)
 have E5 := lh (E4.out.tr U5.out)
 have lg_5 := U5.out.cellE lg_4
 have lv_5 := U5.out.cellE lv_4
 have lr_5 := U5.out.cellE lr_4
 have pv_5 := U5.out.cellE pv_4
 have pr_5 := U5.out.cellE pr_4
 have ov_5 := U5.out.cellE ov_4
 have or_5 := U5.out.cellE or_4
 clear he5 lg_4 lv_4 lr_4 pv_4 pr_4 ov_4 or_4 blg_4 blv_4 blr_4 bpv_4 bpr_4 bov_4 bor_4 X4_5 X4_6
 have blg_5 := blt lg_5
 have blv_5 := blt lv_5
 have blr_5 := blt lr_5
 have bpv_5 := blt pv_5
 have bpr_5 := blt pr_5
 have bov_5 := blt ov_5
 have bor_5 := blt or_5
 have sz5 := U5.out.size
 have X5_7 := lh (((((Ext.rfl' w1).tr U2.out).tr U3.out).tr U4.out).tr U5.out)
 go_wp2_with fail
 refine (HV.out _ (H1.out.ext X5_7.out) (V1.out.ext X5_7.out) (R1.out.ext X5_7.out)).mono ?_
 rintro e w6 ⟨rfl, he6⟩
 have U6 := lh ((Ext.rfl' w5).tr he6)
 have E6 := lh (E5.out.tr U6.out)
 have lg_6 := U6.out.cellE lg_5
 have lv_6 := U6.out.cellE lv_5
 have lr_6 := U6.out.cellE lr_5
 have pv_6 := U6.out.cellE pv_5
 have pr_6 := U6.out.cellE pr_5
 have ov_6 := U6.out.cellE ov_5
 have or_6 := U6.out.cellE or_5
 clear he6 lg_5 lv_5 lr_5 pv_5 pr_5 ov_5 or_5 blg_5 blv_5 blr_5 bpv_5 bpr_5 bov_5 bor_5 X5_7
 have blg_6 := blt lg_6
 have blv_6 := blt lv_6
 have blr_6 := blt lr_6
 have bpv_6 := blt pv_6
 have bpr_6 := blt pr_6
 have bov_6 := blt ov_6
 have bor_6 := blt or_6
 have sz6 := U6.out.size
 cases hE : Sg.validE g ⟨v, r⟩
 ·skip
  clear hE
  have X6_8 := lh (((((Ext.rfl' w2).tr U3.out).tr U4.out).tr U5.out).tr U6.out)
  have X6_9 := lh ((((Ext.rfl' w3).tr U4.out).tr U5.out).tr U6.out)
  go_wp2_with fail
  refine (l_equalEager A2 A6 A3 A7 c2 c6 c3 c7 ov orr _ (Hv2.out.ext X6_8.out) (Hv6.out.ext X6_9.out) (Hr2.out.ext X6_8.out) (Hr6.out.ext X6_9.out)).mono ?_
  rintro e w7 ⟨rfl, he7⟩
  have U7 := lh ((Ext.rfl' w6).tr he7)
  have E7 := lh (E6.out.tr U7.out)
  have lg_7 := U7.out.cellE lg_6
  have lv_7 := U7.out.cellE lv_6
  have lr_7 := U7.out.cellE lr_6
  have pv_7 := U7.out.cellE pv_6
  have pr_7 := U7.out.cellE pr_6
  have ov_7 := U7.out.cellE ov_6
  have or_7 := U7.out.cellE or_6
  clear he7 lg_6 lv_6 lr_6 pv_6 pr_6 ov_6 or_6 blg_6 blv_6 blr_6 bpv_6 bpr_6 bov_6 bor_6 X6_8 X6_9
  have blg_7 := blt lg_7
  have blv_7 := blt lv_7
  have blr_7 := blt lr_7
  have bpv_7 := blt pv_7
  have bpr_7 := blt pr_7
  have bov_7 := blt ov_7
  have bor_7 := blt or_7
  have sz7 := U7.out.size
  have X7_10 := lh ((((((Ext.rfl' w2).tr U3.out).tr U4.out).tr U5.out).tr U6.out).tr U7.out)
  have X7_11 := lh (((((Ext.rfl' w3).tr U4.out).tr U5.out).tr U6.out).tr U7.out)
  go_wp2_with fail
  refine (l_equalInts A4 A8 c4 c8 rn _ (Hn2.out.ext X7_10.out) (Hn6.out.ext X7_11.out)).mono ?_
  rintro e w8 ⟨rfl, he8⟩
  have U8 := lh ((Ext.rfl' w7).tr he8)
  have E8 := lh (E7.out.tr U8.out)
  have lg_8 := U8.out.cellE lg_7
  have lv_8 := U8.out.cellE lv_7
  have lr_8 := U8.out.cellE lr_7
  have pv_8 := U8.out.cellE pv_7
  have pr_8 := U8.out.cellE pr_7
  have ov_8 := U8.out.cellE ov_7
  have or_8 := U8.out.cellE or_7
  clear he8 lg_7 lv_7 lr_7 pv_7 pr_7 ov_7 or_7 blg_7 blv_7 blr_7 bpv_7 bpr_7 bov_7 bor_7 X7_10 X7_11
  have blg_8 := blt lg_8
  have blv_8 := blt lv_8
  have blr_8 := blt lr_8
  have bpv_8 := blt pv_8
  have bpr_8 := blt pr_8
  have bov_8 := blt ov_8
  have bor_8 := blt or_8
  have sz8 := U8.out.size
  go_wp2
  go_ret
  exact ⟨rfl, E8.out⟩
 ·by_cases hl : ov.length = v.length
  ·skip
   have z1 : ((ov.length : Int) == (v.length : Int)) = true := by simp [hl]
   have z2 : ((ov.length : Int) != (v.length : Int)) = false := by simp [hl]
   have hW := HW.out
   have hm : Sg.mayHasty g ⟨v, r⟩ kn xv = true := by
    cases hm : Sg.mayHasty g ⟨v, r⟩ kn xv
    ·exfalso; unfold Sg.hastyO at hW; rw [hm] at hW; have e1 : ov = [] := (congrArg (fun p => p.1.vals) hW).symm; subst e1; have h2 : v.length = g.length := (Sg.validE_parts hE).2.1; simp at hl; omega
    ·rfl
   have hWe : (⟨⟨(Sg.hastyR g ⟨v, r⟩ kn.toNat xv).vals, (Sg.hastyR g ⟨v, r⟩ kn.toNat xv).reads⟩, (Sg.hastyR g ⟨v, r⟩ kn.toNat xv).ran⟩ : Sg.Eager × List Int) = (⟨ov, orr⟩, rn) := by unfold Sg.hastyO at hW; rw [if_pos hm] at hW; exact hW
   have hrr : (Sg.hastyR g ⟨v, r⟩ kn.toNat xv).ran = rn := congrArg Prod.snd hWe
   have hst : (⟨(Sg.hastyR g ⟨v, r⟩ kn.toNat xv).vals, (Sg.hastyR g ⟨v, r⟩ kn.toNat xv).reads⟩ : Sg.Eager) = ⟨ov, orr⟩ := congrArg Prod.fst hWe
   clear hl hW hWe
   by_cases h200 : rn.length ≥ 200
   ·skip
    have h201 : (rn.length : Int) ≥ 200 := by omega
    clear hE hm hrr hst
    go_wp2
    go_ret
    exact ⟨rfl, E6.out⟩
   ·skip
    have h201 : ¬ ((rn.length : Int) ≥ 200) := by omega
    have hlt2 : (Sg.hastyR g ⟨v, r⟩ kn.toNat xv).ran.length < 200 := by rw [hrr]; omega
    have hmw := Sg.mayHasty_write hm
    have hwo : Sg.writeOr g ⟨v, r⟩ [kn] [xv] = Sg.writeE g ⟨v, r⟩ [kn] [xv] := by unfold Sg.writeOr; rw [if_pos hmw]
    obtain ⟨ln, hln⟩ : ∃ ln, ln = (Sg.writeE g ⟨v, r⟩ [kn] [xv]).2 := ⟨_, rfl⟩
    have hwe : Sg.writeOr g ⟨v, r⟩ [kn] [xv] = (⟨ov, orr⟩, ln) := by rw [hwo, hln]; exact Prod.ext ((Sg.hasty_write hm hlt2).trans hst) rfl
    have HWE := lh (fun An Ax w h hv hr (hn : Rd w 1 An 1 (ints [kn])) (hx : Rd w 1 Ax 1 (ints [xv])) => by have := i_WriteEager Ag Av Ar An Ax cg cv cr 1 1 g v [kn] [xv] r w h hv hr hn hx hvl9 (Nat.le_refl 1) (by unfold maxLen; omega); rw [hwe] at this; exact this)
    have hmu := Sg.hasty_must hm hlt2
    rw [hrr, ← hln] at hmu
    have hwi := Sg.hasty_within hm
    rw [hrr] at hwi
    obtain ⟨my, hmy⟩ : ∃ my, my = Sg.mayRunL g [kn] := ⟨_, rfl⟩
    rw [← hmy] at hwi
    have hnd : ln.Nodup := by rw [hln, Sg.write_start hmw]; exact Sg.mustOr_nodupQ _ _ _
    have hll : ln.length ≤ 1048576 := by have := (writeOr_small g v r [kn] [xv]).2; rw [hwe] at this; exact this
    have HCN := lh (show ∀ x ∈ ln, rn.count x ≥ ln.count x from fun x hx => by have h1 : ln.count x ≤ 1 := List.nodup_iff_count.1 hnd x; have h2 : 0 < rn.count x := List.count_pos_iff.2 (hmu x hx); omega)
    have HMY := lh (fun An w h (hn : Rd w 1 An 1 (ints [kn])) => by have := i_MayRun Ag An cg 1 g [kn] w h hn (Nat.le_refl 1) (by unfold maxLen; omega); rw [← hmy] at this; exact this)
    have HWI := lh (fun A B ca cb w h k => l_within A B ca cb rn my w h k hwi)
    have hrb := HRN.out
    clear hE hm hrr hst hlt2 hmw hwo hln hwe h200 hmu hwi hmy hnd
    have X6_8 := lh (Ext.al (Ext.al ((((((Ext.rfl' w1).tr U2.out).tr U3.out).tr U4.out).tr U5.out).tr U6.out) (.cells #[.int .i64 kn] 3)) (.cells #[.int .i64 xv] 3))
    have X6_9 := lh (Ext.al (Ext.al (Ext.rfl' w6) (.cells #[.int .i64 kn] 3)) (.cells #[.int .i64 xv] 3))
    have rn0 := ((Own.new w6 (B := 0) 3 1 #[.int .i64 kn] 1 (Nat.zero_le _) (by unfold maxLen; omega) rfl).al (.cells #[.int .i64 xv] 3)).rd
    have rx0 := (Own.new (World.alloc w6 (.cells #[.int .i64 kn] 3)) (B := 0) 3 1 #[.int .i64 xv] 1 (Nat.zero_le _) (by unfold maxLen; omega) rfl).rd
    simp only [World.size_alloc] at rn0 rx0
    have RLn := lh (show Rd (World.alloc (World.alloc w6 (.cells #[.int .i64 kn] 3)) (.cells #[.int .i64 xv] 3)) 1 (some ⟨w6.heap.size, 0, none⟩) 1 (ints [kn]) from rn0)
    have RLx := lh (show Rd (World.alloc (World.alloc w6 (.cells #[.int .i64 kn] 3)) (.cells #[.int .i64 xv] 3)) 1 (some ⟨w6.heap.size + 1, 0, none⟩) 1 (ints [xv]) from rx0)
    clear rn0 rx0
    go_wp2_with fail
    refine (HWE.out (some ⟨w6.heap.size, 0, none⟩) (some ⟨w6.heap.size + 1, 0, none⟩) _ (H1.out.ext X6_8.out) (V1.out.ext X6_8.out) (R1.out.ext X6_8.out) RLn.out RLx.out).mono ?_
    rintro e w7 ⟨A10, c10, A11, c11, z10, A12, c12, rfl, hoe, hor, hdj, he7⟩
    have Hv10 := lh hoe.v.rd
    have Hr10 := lh (OwnL.rdL hoe.r SM.out.r SM.out.e)
    have Hn10 := lh hor.rd
    clear hoe hor hdj
    have U7 := lh ((Ext.al (Ext.al (Ext.rfl' w6) (.cells #[.int .i64 kn] 3)) (.cells #[.int .i64 xv] 3)).tr he7)
    have E7 := lh (E6.out.tr U7.out)
    have lg_7 := U7.out.cellE lg_6
    have lv_7 := U7.out.cellE lv_6
    have lr_7 := U7.out.cellE lr_6
    have pv_7 := U7.out.cellE pv_6
    have pr_7 := U7.out.cellE pr_6
    have ov_7 := U7.out.cellE ov_6
    have or_7 := U7.out.cellE or_6
    clear he7 lg_6 lv_6 lr_6 pv_6 pr_6 ov_6 or_6 blg_6 blv_6 blr_6 bpv_6 bpr_6 bov_6 bor_6 X6_8 X6_9 RLn RLx
    have blg_7 := blt lg_7
    have blv_7 := blt lv_7
    have blr_7 := blt lr_7
    have bpv_7 := blt pv_7
    have bpr_7 := blt pr_7
    have bov_7 := blt ov_7
    have bor_7 := blt or_7
    have sz7 := U7.out.size
    go_upto_region 11 with fail
    have he8 := Ext.rfl' (World.alloc w7 (.cells #[.slice A10 ov.length c10, .slice A11 orr.length c11] 63))
    have U8 := lh ((Ext.al (Ext.rfl' w7) (.cells #[.slice A10 ov.length c10, .slice A11 orr.length c11] 63)).tr he8)
    have E8 := lh (E7.out.tr U8.out)
    have lg_8 := U8.out.cellE lg_7
    have lv_8 := U8.out.cellE lv_7
    have lr_8 := U8.out.cellE lr_7
    have pv_8 := U8.out.cellE pv_7
    have pr_8 := U8.out.cellE pr_7
    have ov_8 := U8.out.cellE ov_7
    have or_8 := U8.out.cellE or_7
    have tv_8 := he8.cellE (show World.cell? (World.alloc w7 (.cells #[.slice A10 ov.length c10, .slice A11 orr.length c11] 63)) ⟨w7.heap.size, 0, none⟩ = some (.slice A10 ov.length c10) by simp [go_sem])
    have tr_8 := he8.cellE (show World.cell? (World.alloc w7 (.cells #[.slice A10 ov.length c10, .slice A11 orr.length c11] 63)) ⟨w7.heap.size, 1, none⟩ = some (.slice A11 orr.length c11) by simp [go_sem])
    clear he8 lg_7 lv_7 lr_7 pv_7 pr_7 ov_7 or_7 blg_7 blv_7 blr_7 bpv_7 bpr_7 bov_7 bor_7
    have blg_8 := blt lg_8
    have blv_8 := blt lv_8
    have blr_8 := blt lr_8
    have bpv_8 := blt pv_8
    have bpr_8 := blt pr_8
    have bov_8 := blt ov_8
    have bor_8 := blt or_8
    have btv_8 := blt tv_8
    have btr_8 := blt tr_8
    have sz8 := U8.out.size
    generalize (World.alloc w7 (.cells #[.slice A10 ov.length c10, .slice A11 orr.length c11] 63)) = w8 at *
    go_wp2_with fail
    go_loopw [13] (fun s13 wr => ∃ n : Nat, n ≤ ln.length ∧ s13 = .int .i64 n ∧ Hid (Ext w8 wr)) (fun s13 _ => ln.length - (intOf s13).toNat)
    case atStart => exact ⟨0, Nat.zero_le _, rfl, lh (Ext.rfl' _)⟩
    case round =>
     obtain ⟨n, hn, rfl, hext⟩ := hrel
     have lE0 := lh (Ext.rfl' wr)
     have lg_r := hext.out.cellE lg_8
     have blg_r := blt lg_r
     have lv_r := hext.out.cellE lv_8
     have blv_r := blt lv_r
     have lr_r := hext.out.cellE lr_8
     have blr_r := blt lr_r
     have pv_r := hext.out.cellE pv_8
     have bpv_r := blt pv_r
     have pr_r := hext.out.cellE pr_8
     have bpr_r := blt pr_r
     have ov_r := hext.out.cellE ov_8
     have bov_r := blt ov_r
     have or_r := hext.out.cellE or_8
     have bor_r := blt or_r
     have tv_r := hext.out.cellE tv_8
     have btv_r := blt tv_r
     have tr_r := hext.out.cellE tr_8
     have btr_r := blt tr_r
     clear lg_8 lv_8 lr_8 pv_8 pr_8 ov_8 or_8 tv_8 tr_8 blg_8 blv_8 blr_8 bpv_8 bpr_8 bov_8 bor_8 btv_8 btr_8
     have H1r := lh (H1.out.ext (((((((((Ext.rfl' w1).tr U2.out).tr U3.out).tr U4.out).tr U5.out).tr U6.out).tr U7.out).tr U8.out).tr hext.out))
     have Hn2r := lh (Hn2.out.ext ((((((((Ext.rfl' w2).tr U3.out).tr U4.out).tr U5.out).tr U6.out).tr U7.out).tr U8.out).tr hext.out))
     have Hn10r := lh (Hn10.out.ext (((Ext.rfl' w7).tr U8.out).tr hext.out))
     by_cases hlt : n < ln.length
     ·skip
      obtain ⟨bn, on, x, rfl, hx, hcx⟩ := Hn10r.out.at1 hlt
      have hcn := HCN.out x (List.mem_of_getElem? hx)
      have hcl := Nat.le_trans (List.count_le_length (a := x) (l := rn)) hrb
      have zlt : ¬ ((rn.count x : Int) < (ln.count x : Int)) := by omega
      have bhcx := blt hcx
      clear hx hcn
      go_wp2_with fail
      refine wp_region_held_drew (S := (fun W => W.cell? ⟨bn, on + n, none⟩ = some (.int .i64 x))) (by kernel_rfl) ?_ (fun hHeld => ?_)
      ·exact ((Ext.rfl' _).dr).cellE hcx
      refine ty 0 ?_
      refine ty 1 ?_
      refine ty 2 ?_
      refine ty 3 ?_
      refine ty 4 ?_
      refine ty 6 ?_
      refine ty 7 ?_
      refine ty 8 ?_
      refine ty 9 ?_
      refine ty 10 ?_
      refine rd1 5 rfl fun K hK => ?_
      go_simp
      have lX0_1 := lh ((Ext.rfl' wr).dr)
      refine (i_RunsOf A4 c4 rn x _ (Hn2r.out.ext lX0_1.out) hrb).mono ?_
      rintro e lw1 ⟨rfl, lhe1⟩
      have lU1 := lh (((Ext.rfl' wr).dr).tr lhe1)
      have lE1 := lh (lE0.out.tr lU1.out)
      have lg_l1 := lU1.out.cellE lg_r
      have lv_l1 := lU1.out.cellE lv_r
      have lr_l1 := lU1.out.cellE lr_r
      have pv_l1 := lU1.out.cellE pv_r
      have pr_l1 := lU1.out.cellE pr_r
      have ov_l1 := lU1.out.cellE ov_r
      have or_l1 := lU1.out.cellE or_r
      have tv_l1 := lU1.out.cellE tv_r
      have tr_l1 := lU1.out.cellE tr_r
      have xc_l1 := lU1.out.cellE hcx
      clear lhe1 lg_r lv_r lr_r pv_r pr_r ov_r or_r tv_r tr_r hcx blg_r blv_r blr_r bpv_r bpr_r bov_r bor_r btv_r btr_r bhcx lX0_1
      have blg_l1 := blt lg_l1
      have blv_l1 := blt lv_l1
      have blr_l1 := blt lr_l1
      have bpv_l1 := blt pv_l1
      have bpr_l1 := blt pr_l1
      have bov_l1 := blt ov_l1
      have bor_l1 := blt or_l1
      have btv_l1 := blt tv_l1
      have btr_l1 := blt tr_l1
      have bxc_l1 := blt xc_l1
      have szl1 := lU1.out.size
      try go_wp2_with fail
      refine hK.out _ _ (by exact xc_l1) fun hh2 => ?_; clear hK K hHeld; have hHeld := hh2; clear hh2
      try simp only [Act.put, pu]
      refine rd1 11 rfl fun K hK => ?_
      go_simp
      have lX1_2 := lh ((Ext.rfl' wr).tr lU1.out)
      refine (i_RunsOf (some ⟨bn, on, none⟩) c12 ln x _ (Hn10r.out.ext lX1_2.out) hll).mono ?_
      rintro e lw2 ⟨rfl, lhe2⟩
      have lU2 := lh ((Ext.rfl' lw1).tr lhe2)
      have lE2 := lh (lE1.out.tr lU2.out)
      have lg_l2 := lU2.out.cellE lg_l1
      have lv_l2 := lU2.out.cellE lv_l1
      have lr_l2 := lU2.out.cellE lr_l1
      have pv_l2 := lU2.out.cellE pv_l1
      have pr_l2 := lU2.out.cellE pr_l1
      have ov_l2 := lU2.out.cellE ov_l1
      have or_l2 := lU2.out.cellE or_l1
      have tv_l2 := lU2.out.cellE tv_l1
      have tr_l2 := lU2.out.cellE tr_l1
      have xc_l2 := lU2.out.cellE xc_l1
      clear lhe2 lg_l1 lv_l1 lr_l1 pv_l1 pr_l1 ov_l1 or_l1 tv_l1 tr_l1 xc_l1 blg_l1 blv_l1 blr_l1 bpv_l1 bpr_l1 bov_l1 bor_l1 btv_l1 btr_l1 bxc_l1 lX1_2
      have blg_l2 := blt lg_l2
      have blv_l2 := blt lv_l2
      have blr_l2 := blt lr_l2
      have bpv_l2 := blt pv_l2
      have bpr_l2 := blt pr_l2
      have bov_l2 := blt ov_l2
      have bor_l2 := blt or_l2
      have btv_l2 := blt tv_l2
      have btr_l2 := blt tr_l2
      have bxc_l2 := blt xc_l2
      have szl2 := lU2.out.size
      try go_wp2_with fail
      refine hK.out _ _ (by exact xc_l2) fun hh2 => ?_; clear hK K hHeld; have hHeld := hh2; clear hh2
      try simp only [Act.put, pu]
      refine ty 12 ?_
      refine dn ?_
      go_wp2
      go_roundw
      case rel => exact ⟨n + 1, by omega, by go_num, lh (hext.out.tr lE2.out)⟩
      case measure => simp [intOf]; omega
     ·skip
      obtain rfl : n = ln.length := by omega
      have lX0_1 := lh (Ext.al (Ext.rfl' wr) (.cells #[.int .i64 kn] 3))
      have RLm := lh (show Rd (World.alloc wr (.cells #[.int .i64 kn] 3)) 1 (some ⟨wr.heap.size, 0, none⟩) 1 (ints [kn]) from (Own.new wr (B := 0) 3 1 #[.int .i64 kn] 1 (Nat.zero_le _) (by unfold maxLen; omega) rfl).rd)
      go_wp2_with fail
      refine (HMY.out (some ⟨wr.heap.size, 0, none⟩) _ (H1r.out.ext lX0_1.out) RLm.out).mono ?_
      rintro e lw1 ⟨A20, rfl, hom, lhe1⟩
      have Hm20 := lh hom.rd
      clear hom
      have lU1 := lh ((Ext.al (Ext.rfl' wr) (.cells #[.int .i64 kn] 3)).tr lhe1)
      have lE1 := lh (lE0.out.tr lU1.out)
      have lg_l1 := lU1.out.cellE lg_r
      have lv_l1 := lU1.out.cellE lv_r
      have lr_l1 := lU1.out.cellE lr_r
      have pv_l1 := lU1.out.cellE pv_r
      have pr_l1 := lU1.out.cellE pr_r
      have ov_l1 := lU1.out.cellE ov_r
      have or_l1 := lU1.out.cellE or_r
      have tv_l1 := lU1.out.cellE tv_r
      have tr_l1 := lU1.out.cellE tr_r
      clear lhe1 lg_r lv_r lr_r pv_r pr_r ov_r or_r tv_r tr_r blg_r blv_r blr_r bpv_r bpr_r bov_r bor_r btv_r btr_r lX0_1 RLm
      have blg_l1 := blt lg_l1
      have blv_l1 := blt lv_l1
      have blr_l1 := blt lr_l1
      have bpv_l1 := blt pv_l1
      have bpr_l1 := blt pr_l1
      have bov_l1 := blt ov_l1
      have bor_l1 := blt or_l1
      have btv_l1 := blt tv_l1
      have btr_l1 := blt tr_l1
      have szl1 := lU1.out.size
      have lX1_2 := lh ((Ext.rfl' wr).tr lU1.out)
      go_wp2_with fail
      refine (HWI.out A4 A20 c4 my.length _ (Hn2r.out.ext lX1_2.out) Hm20.out).mono ?_
      rintro e lw2 ⟨rfl, lhe2⟩
      have lU2 := lh ((Ext.rfl' lw1).tr lhe2)
      have lE2 := lh (lE1.out.tr lU2.out)
      have lg_l2 := lU2.out.cellE lg_l1
      have lv_l2 := lU2.out.cellE lv_l1
      have lr_l2 := lU2.out.cellE lr_l1
      have pv_l2 := lU2.out.cellE pv_l1
      have pr_l2 := lU2.out.cellE pr_l1
      have ov_l2 := lU2.out.cellE ov_l1
      have or_l2 := lU2.out.cellE or_l1
      have tv_l2 := lU2.out.cellE tv_l1
      have tr_l2 := lU2.out.cellE tr_l1
      clear lhe2 lg_l1 lv_l1 lr_l1 pv_l1 pr_l1 ov_l1 or_l1 tv_l1 tr_l1 blg_l1 blv_l1 blr_l1 bpv_l1 bpr_l1 bov_l1 bor_l1 btv_l1 btr_l1 lX1_2
      have blg_l2 := blt lg_l2
      have blv_l2 := blt lv_l2
      have blr_l2 := blt lr_l2
      have bpv_l2 := blt pv_l2
      have bpr_l2 := blt pr_l2
      have bov_l2 := blt ov_l2
      have bor_l2 := blt or_l2
      have btv_l2 := blt tv_l2
      have btr_l2 := blt tr_l2
      have szl2 := lU2.out.size
      go_wp2
      go_ret
      exact ⟨rfl, (E8.out.tr hext.out).tr lE2.out⟩
  ·skip
   have z1 : ((ov.length : Int) == (v.length : Int)) = false := by rw [beq_eq_false_iff_ne]; omega
   clear hl hE
   have X6_8 := lh (((((Ext.rfl' w2).tr U3.out).tr U4.out).tr U5.out).tr U6.out)
   have X6_9 := lh ((((Ext.rfl' w3).tr U4.out).tr U5.out).tr U6.out)
   go_wp2_with fail
   refine (l_equalEager A2 A6 A3 A7 c2 c6 c3 c7 ov orr _ (Hv2.out.ext X6_8.out) (Hv6.out.ext X6_9.out) (Hr2.out.ext X6_8.out) (Hr6.out.ext X6_9.out)).mono ?_
   rintro e w7 ⟨rfl, he7⟩
   have U7 := lh ((Ext.rfl' w6).tr he7)
   have E7 := lh (E6.out.tr U7.out)
   have lg_7 := U7.out.cellE lg_6
   have lv_7 := U7.out.cellE lv_6
   have lr_7 := U7.out.cellE lr_6
   have pv_7 := U7.out.cellE pv_6
   have pr_7 := U7.out.cellE pr_6
   have ov_7 := U7.out.cellE ov_6
   have or_7 := U7.out.cellE or_6
   clear he7 lg_6 lv_6 lr_6 pv_6 pr_6 ov_6 or_6 blg_6 blv_6 blr_6 bpv_6 bpr_6 bov_6 bor_6 X6_8 X6_9
   have blg_7 := blt lg_7
   have blv_7 := blt lv_7
   have blr_7 := blt lr_7
   have bpv_7 := blt pv_7
   have bpr_7 := blt pr_7
   have bov_7 := blt ov_7
   have bor_7 := blt or_7
   have sz7 := U7.out.size
   have X7_10 := lh ((((((Ext.rfl' w2).tr U3.out).tr U4.out).tr U5.out).tr U6.out).tr U7.out)
   have X7_11 := lh (((((Ext.rfl' w3).tr U4.out).tr U5.out).tr U6.out).tr U7.out)
   go_wp2_with fail
   refine (l_equalInts A4 A8 c4 c8 rn _ (Hn2.out.ext X7_10.out) (Hn6.out.ext X7_11.out)).mono ?_
   rintro e w8 ⟨rfl, he8⟩
   have U8 := lh ((Ext.rfl' w7).tr he8)
   have E8 := lh (E7.out.tr U8.out)
   have lg_8 := U8.out.cellE lg_7
   have lv_8 := U8.out.cellE lv_7
   have lr_8 := U8.out.cellE lr_7
   have pv_8 := U8.out.cellE pv_7
   have pr_8 := U8.out.cellE pr_7
   have ov_8 := U8.out.cellE ov_7
   have or_8 := U8.out.cellE or_7
   clear he8 lg_7 lv_7 lr_7 pv_7 pr_7 ov_7 or_7 blg_7 blv_7 blr_7 bpv_7 bpr_7 bov_7 bor_7 X7_10 X7_11
   have blg_8 := blt lg_8
   have blv_8 := blt lv_8
   have blr_8 := blt lr_8
   have bpv_8 := blt pv_8
   have bpr_8 := blt pr_8
   have bov_8 := blt ov_8
   have bor_8 := blt or_8
   have sz8 := U8.out.size
   go_wp2
   go_ret
   exact ⟨rfl, E8.out⟩
end Go.Proofs.YtmkfjnkdaeoppaaGreat
