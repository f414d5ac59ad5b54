/- FnWriteEagerTwice: the law's walk. Conditions: the code can be read. -/
import Derived.Test.YtjogmblilagohaaGreatDrawM
import Derived.Test.YtjogmblilagohaaGreatLawOne
import Derived.Test.YtjogmblilagohaaGreatWriteE
import Derived.Test.YtjogmblilagohaaGreatModelR
import Derived.Test.YtjogmblilagohaaGreatSmallW
import Derived.Test.YtjogmblilagohaaGreatEqA
namespace Go.Proofs.YtjogmblilagohaaGreat
open Go.RowKit

set_option maxRecDepth 100000 in
set_option maxHeartbeats 8000000 in
theorem ex_FnWriteEagerTwice (A : Option Addr) (c : Nat) (l : List Int) (w : World) (h : Rd w 1 A l.length (u8s l)) (hr : ∀ x ∈ l, 0 ≤ x ∧ x ≤ 255) (hc : l.length ≤ c) (hcm : c ≤ maxLen) :
    Calls Tryz.prog 3 #[.slice A l.length c] w fun e w' => e = .returned (.bool true) ∧ Ext w w' := by
  have hbig := h.big
  have HD := Lib.hid (s_DrawWriteEager A c l w h hr hc hcm)
  clear h hr hc hcm
  by_cases hb : 1048576 < l.length
  · have hb2 : (1048576 : Int) < (l.length : Int) := by omega
    go_enter Tryz.func3, Tryz.ntmps3
    go_wp2
    go_ret
    exact ⟨rfl, Ext.rfl' _⟩
  have hb2 : ¬ (1048576 : Int) < (l.length : Int) := by omega
  clear hb
  have E0 := Lib.hid ((Ext.rfl' w) : Ext w w)
  go_enter Tryz.func3, Tryz.ntmps3
  go_wp2_with fail
  refine (HD.out).mono ?_
  rintro e w1 ⟨g, Ag, cg, v, Av, cv, r, Ar, cr, ns, An, cn, xs, Ax, cx, rfl, hg2, hg10, hvl, hrl, hnx, hn3, hnc, hcm, hN, hV, hR, hNs, hXs, he1⟩
  have H1 := Lib.hid hN
  have V1 := Lib.hid hV
  have R1 := Lib.hid hR
  have N1 := Lib.hid hNs
  have X1 := Lib.hid hXs
  have hvl9 : v.length ≤ 1048576 := by omega
  have HNX := Lib.hid hnx
  clear hnx hN hV hR hNs hXs HD
  have U1 := Lib.hid ((Ext.rfl' w).tr he1)
  have E1 := Lib.hid (E0.out.tr U1.out)
  clear he1 
  obtain ⟨hsm, hsr⟩ := writeOr_small g v r ns xs
  obtain ⟨⟨ov, orr⟩, rn, hW⟩ : ∃ (o : Sg.Eager) (rn : List Int), Sg.writeOr g ⟨v, r⟩ ns xs = (o, rn) := ⟨_, _, rfl⟩
  rw [hW] at hsm
  have SM := Lib.hid (show SmallE ⟨ov, orr⟩ from hsm)
  clear hsm hsr
  have HI := Lib.hid (fun w h hv hr hn hw => by have := i_WriteEager Ag Av Ar An Ax cg cv cr cn cx g v ns xs r w h hv hr hn hw hvl9 hnc hcm; rw [hW] at this; exact this)
  have HS := Lib.hid (fun w h hv hr hn hw => by have := s_WriteEager Ag Av Ar An Ax cg cv cr cn cx g v ns xs r w h hv hr hn hw hvl9 hnc hcm; rw [hW] at this; exact this)
  have HV := Lib.hid (fun w h hv hr => i_ValidEager Ag Av Ar cg cv cr g v r w h hv hr)
  cases hE : Sg.validE g ⟨v, r⟩
  · have HE := Lib.hid hE
    clear hE hW
    go_wp2_with fail
    refine (HI.out _ (H1.out.ext (Ext.al (Ext.al (Ext.rfl' w1) (.cells #[.slice Ag g.length cg] 25)) (.cells #[.slice Av v.length cv, .slice Ar r.length cr] 29))) (V1.out.ext (Ext.al (Ext.al (Ext.rfl' w1) (.cells #[.slice Ag g.length cg] 25)) (.cells #[.slice Av v.length cv, .slice Ar r.length cr] 29))) (R1.out.ext (Ext.al (Ext.al (Ext.rfl' w1) (.cells #[.slice Ag g.length cg] 25)) (.cells #[.slice Av v.length cv, .slice Ar r.length cr] 29))) (N1.out.ext (Ext.al (Ext.al (Ext.rfl' w1) (.cells #[.slice Ag g.length cg] 25)) (.cells #[.slice Av v.length cv, .slice Ar r.length cr] 29))) (X1.out.ext (Ext.al (Ext.al (Ext.rfl' w1) (.cells #[.slice Ag g.length cg] 25)) (.cells #[.slice Av v.length cv, .slice Ar r.length cr] 29)))).mono ?_
    rintro e w2 ⟨A2, c2, A3, c3, hs2, A4, c4, rfl, hoe, hor, hdj, he2⟩
    have Hv2 := Lib.hid hoe.v.rd
    have Hr2 := Lib.hid (OwnL.rdL hoe.r SM.out.r SM.out.e)
    have Hn2 := Lib.hid hor.rd
    clear hoe hor hdj
    have U2 := Lib.hid ((Ext.al (Ext.al (Ext.rfl' w1) (.cells #[.slice Ag g.length cg] 25)) (.cells #[.slice Av v.length cv, .slice Ar r.length cr] 29)).tr he2)
    have E2 := Lib.hid (E1.out.tr U2.out)
    have lg_2 := he2.cellE (show World.cell? (World.alloc (World.alloc w1 (.cells #[.slice Ag g.length cg] 25)) (.cells #[.slice Av v.length cv, .slice Ar r.length cr] 29)) ⟨w1.heap.size, 0, none⟩ = some (.slice Ag g.length cg) by simp [go_sem])
    have lv_2 := he2.cellE (show World.cell? (World.alloc (World.alloc w1 (.cells #[.slice Ag g.length cg] 25)) (.cells #[.slice Av v.length cv, .slice Ar r.length cr] 29)) ⟨w1.heap.size + 1, 0, none⟩ = some (.slice Av v.length cv) by simp [go_sem])
    have lr_2 := he2.cellE (show World.cell? (World.alloc (World.alloc w1 (.cells #[.slice Ag g.length cg] 25)) (.cells #[.slice Av v.length cv, .slice Ar r.length cr] 29)) ⟨w1.heap.size + 1, 1, none⟩ = some (.slice Ar r.length cr) by simp [go_sem])
    clear he2 
    have blg_2 := blt lg_2
    have blv_2 := blt lv_2
    have blr_2 := blt lr_2
    go_wp2_with fail
    refine (HS.out _ (H1.out.ext (Ext.al ((Ext.rfl' w1).tr U2.out) (.cells #[.slice A2 ov.length c2, .slice A3 orr.length c3] 29))) (V1.out.ext (Ext.al ((Ext.rfl' w1).tr U2.out) (.cells #[.slice A2 ov.length c2, .slice A3 orr.length c3] 29))) (R1.out.ext (Ext.al ((Ext.rfl' w1).tr U2.out) (.cells #[.slice A2 ov.length c2, .slice A3 orr.length c3] 29))) (N1.out.ext (Ext.al ((Ext.rfl' w1).tr U2.out) (.cells #[.slice A2 ov.length c2, .slice A3 orr.length c3] 29))) (X1.out.ext (Ext.al ((Ext.rfl' w1).tr U2.out) (.cells #[.slice A2 ov.length c2, .slice A3 orr.length c3] 29)))).mono ?_
    rintro e w3 ⟨A5, c5, A6, c6, hs5, A7, c7, rfl, hoe, hor, hdj, he3⟩
    have Hv5 := Lib.hid hoe.v.rd
    have Hr5 := Lib.hid (OwnL.rdL hoe.r SM.out.r SM.out.e)
    have Hn5 := Lib.hid hor.rd
    clear hoe hor hdj
    have U3 := Lib.hid ((Ext.al (Ext.rfl' w2) (.cells #[.slice A2 ov.length c2, .slice A3 orr.length c3] 29)).tr he3)
    have E3 := Lib.hid (E2.out.tr U3.out)
    have lg_3 := U3.out.cellE lg_2
    have lv_3 := U3.out.cellE lv_2
    have lr_3 := U3.out.cellE lr_2
    have pv_3 := he3.cellE (show World.cell? (World.alloc w2 (.cells #[.slice A2 ov.length c2, .slice A3 orr.length c3] 29)) ⟨w2.heap.size, 0, none⟩ = some (.slice A2 ov.length c2) by simp [go_sem])
    have pr_3 := he3.cellE (show World.cell? (World.alloc w2 (.cells #[.slice A2 ov.length c2, .slice A3 orr.length c3] 29)) ⟨w2.heap.size, 1, none⟩ = some (.slice A3 orr.length c3) by simp [go_sem])
    clear he3 lg_2 lv_2 lr_2 blg_2 blv_2 blr_2
    have blg_3 := blt lg_3
    have blv_3 := blt lv_3
    have blr_3 := blt lr_3
    have bpv_3 := blt pv_3
    have bpr_3 := blt pr_3
    go_wp2_with fail
    refine (l_equalEager A2 A5 A3 A6 c2 c5 c3 c6 ov orr _ (Hv2.out.ext (Ext.al ((Ext.rfl' w2).tr U3.out) (.cells #[.slice A5 ov.length c5, .slice A6 orr.length c6] 29))) (Hv5.out.ext (Ext.al (Ext.rfl' w3) (.cells #[.slice A5 ov.length c5, .slice A6 orr.length c6] 29))) (Hr2.out.ext (Ext.al ((Ext.rfl' w2).tr U3.out) (.cells #[.slice A5 ov.length c5, .slice A6 orr.length c6] 29))) (Hr5.out.ext (Ext.al (Ext.rfl' w3) (.cells #[.slice A5 ov.length c5, .slice A6 orr.length c6] 29)))).mono ?_
    rintro e w4 ⟨rfl, he4⟩
    have U4 := Lib.hid ((Ext.al (Ext.rfl' w3) (.cells #[.slice A5 ov.length c5, .slice A6 orr.length c6] 29)).tr he4)
    have E4 := Lib.hid (E3.out.tr U4.out)
    have lg_4 := U4.out.cellE lg_3
    have lv_4 := U4.out.cellE lv_3
    have lr_4 := U4.out.cellE lr_3
    have pv_4 := U4.out.cellE pv_3
    have pr_4 := U4.out.cellE pr_3
    have qv_4 := he4.cellE (show World.cell? (World.alloc w3 (.cells #[.slice A5 ov.length c5, .slice A6 orr.length c6] 29)) ⟨w3.heap.size, 0, none⟩ = some (.slice A5 ov.length c5) by simp [go_sem])
    have qr_4 := he4.cellE (show World.cell? (World.alloc w3 (.cells #[.slice A5 ov.length c5, .slice A6 orr.length c6] 29)) ⟨w3.heap.size, 1, none⟩ = some (.slice A6 orr.length c6) by simp [go_sem])
    clear he4 lg_3 lv_3 lr_3 pv_3 pr_3 blg_3 blv_3 blr_3 bpv_3 bpr_3
    have blg_4 := blt lg_4
    have blv_4 := blt lv_4
    have blr_4 := blt lr_4
    have bpv_4 := blt pv_4
    have bpr_4 := blt pr_4
    have bqv_4 := blt qv_4
    have bqr_4 := blt qr_4
    go_wp2_with fail
    refine (l_equalInts A4 A7 c4 c7 rn _ (Hn2.out.ext (((Ext.rfl' w2).tr U3.out).tr U4.out)) (Hn5.out.ext ((Ext.rfl' w3).tr U4.out))).mono ?_
    rintro e w5 ⟨rfl, he5⟩
    have U5 := Lib.hid ((Ext.rfl' w4).tr he5)
    have E5 := Lib.hid (E4.out.tr U5.out)
    have lg_5 := U5.out.cellE lg_4
    have lv_5 := U5.out.cellE lv_4
    have lr_5 := U5.out.cellE lr_4
    have pv_5 := U5.out.cellE pv_4
    have pr_5 := U5.out.cellE pr_4
    have qv_5 := U5.out.cellE qv_4
    have qr_5 := U5.out.cellE qr_4
    clear he5 lg_4 lv_4 lr_4 pv_4 pr_4 qv_4 qr_4 blg_4 blv_4 blr_4 bpv_4 bpr_4 bqv_4 bqr_4
    have blg_5 := blt lg_5
    have blv_5 := blt lv_5
    have blr_5 := blt lr_5
    have bpv_5 := blt pv_5
    have bpr_5 := blt pr_5
    have bqv_5 := blt qv_5
    have bqr_5 := blt qr_5
    go_wp2_with fail
    refine (HV.out _ (H1.out.ext (((((Ext.rfl' w1).tr U2.out).tr U3.out).tr U4.out).tr U5.out)) (V1.out.ext (((((Ext.rfl' w1).tr U2.out).tr U3.out).tr U4.out).tr U5.out)) (R1.out.ext (((((Ext.rfl' w1).tr U2.out).tr U3.out).tr U4.out).tr U5.out))).mono ?_
    rintro e w6 ⟨rfl, he6⟩
    rw [HE.out]
    have U6 := Lib.hid ((Ext.rfl' w5).tr he6)
    have E6 := Lib.hid (E5.out.tr U6.out)
    have lg_6 := U6.out.cellE lg_5
    have lv_6 := U6.out.cellE lv_5
    have lr_6 := U6.out.cellE lr_5
    have pv_6 := U6.out.cellE pv_5
    have pr_6 := U6.out.cellE pr_5
    have qv_6 := U6.out.cellE qv_5
    have qr_6 := U6.out.cellE qr_5
    clear he6 lg_5 lv_5 lr_5 pv_5 pr_5 qv_5 qr_5 blg_5 blv_5 blr_5 bpv_5 bpr_5 bqv_5 bqr_5
    have blg_6 := blt lg_6
    have blv_6 := blt lv_6
    have blr_6 := blt lr_6
    have bpv_6 := blt pv_6
    have bpr_6 := blt pr_6
    have bqv_6 := blt qv_6
    have bqr_6 := blt qr_6
    go_wp2_with fail
    refine (l_equalEager A2 A5 A3 A6 c2 c5 c3 c6 ov orr _ (Hv2.out.ext (((((Ext.rfl' w2).tr U3.out).tr U4.out).tr U5.out).tr U6.out)) (Hv5.out.ext ((((Ext.rfl' w3).tr U4.out).tr U5.out).tr U6.out)) (Hr2.out.ext (((((Ext.rfl' w2).tr U3.out).tr U4.out).tr U5.out).tr U6.out)) (Hr5.out.ext ((((Ext.rfl' w3).tr U4.out).tr U5.out).tr U6.out))).mono ?_
    rintro e w7 ⟨rfl, he7⟩
    have U7 := Lib.hid ((Ext.rfl' w6).tr he7)
    have E7 := Lib.hid (E6.out.tr U7.out)
    have lg_7 := U7.out.cellE lg_6
    have lv_7 := U7.out.cellE lv_6
    have lr_7 := U7.out.cellE lr_6
    have pv_7 := U7.out.cellE pv_6
    have pr_7 := U7.out.cellE pr_6
    have qv_7 := U7.out.cellE qv_6
    have qr_7 := U7.out.cellE qr_6
    clear he7 lg_6 lv_6 lr_6 pv_6 pr_6 qv_6 qr_6 blg_6 blv_6 blr_6 bpv_6 bpr_6 bqv_6 bqr_6
    have blg_7 := blt lg_7
    have blv_7 := blt lv_7
    have blr_7 := blt lr_7
    have bpv_7 := blt pv_7
    have bpr_7 := blt pr_7
    have bqv_7 := blt qv_7
    have bqr_7 := blt qr_7
    go_wp2_with fail
    refine (l_equalInts A4 A7 c4 c7 rn _ (Hn2.out.ext ((((((Ext.rfl' w2).tr U3.out).tr U4.out).tr U5.out).tr U6.out).tr U7.out)) (Hn5.out.ext (((((Ext.rfl' w3).tr U4.out).tr U5.out).tr U6.out).tr U7.out))).mono ?_
    rintro e w8 ⟨rfl, he8⟩
    have U8 := Lib.hid ((Ext.rfl' w7).tr he8)
    have E8 := Lib.hid (E7.out.tr U8.out)
    have lg_8 := U8.out.cellE lg_7
    have lv_8 := U8.out.cellE lv_7
    have lr_8 := U8.out.cellE lr_7
    have pv_8 := U8.out.cellE pv_7
    have pr_8 := U8.out.cellE pr_7
    have qv_8 := U8.out.cellE qv_7
    have qr_8 := U8.out.cellE qr_7
    clear he8 lg_7 lv_7 lr_7 pv_7 pr_7 qv_7 qr_7 blg_7 blv_7 blr_7 bpv_7 bpr_7 bqv_7 bqr_7
    have blg_8 := blt lg_8
    have blv_8 := blt lv_8
    have blr_8 := blt lr_8
    have bpv_8 := blt pv_8
    have bpr_8 := blt pr_8
    have bqv_8 := blt qv_8
    have bqr_8 := blt qr_8
    go_wp2
    go_ret
    exact ⟨rfl, E8.out⟩
  · have HE := Lib.hid hE
    by_cases hl : ov.length = v.length
    · have hm : Sg.mayWrite g ⟨v, r⟩ ns xs = true := by
        cases hm : Sg.mayWrite g ⟨v, r⟩ ns xs
        · exfalso; unfold Sg.writeOr at hW; rw [hm] at hW; have e1 : ov = [] := (congrArg (fun p => p.1.vals) hW).symm; subst e1; have h2 : v.length = g.length := (Sg.validE_parts hE).2.1; simp at hl; omega
        · rfl
      have hT := Sg.write_twice hm
      have hWe : Sg.writeE g ⟨v, r⟩ ns xs = (⟨ov, orr⟩, rn) := by rw [← hW]; unfold Sg.writeOr; rw [if_pos hm]
      rw [hWe] at hT
      have hov : ov.length ≤ 1048576 := by omega
      have HA := Lib.hid (fun A2 A3 c2 c3 w h hv hr hn hw => by have := i_WriteEager Ag A2 A3 An Ax cg c2 c3 cn cx g ov ns xs orr w h hv hr hn hw hov hnc hcm; rw [hT] at this; exact this)
      have HL := Lib.hid hl
      have z1 : ((ov.length : Int) == (v.length : Int)) = true := by simp [hl]
      have z2 : ((ns.length : Int) == (xs.length : Int)) = true := by simp [HNX.out]
      have z3 : ((g.length : Int) == 0) = false := by rw [beq_eq_false_iff_ne]; omega
      clear hE hW hm hT hWe hl
      go_wp2_with fail
      refine (HI.out _ (H1.out.ext (Ext.al (Ext.al (Ext.rfl' w1) (.cells #[.slice Ag g.length cg] 25)) (.cells #[.slice Av v.length cv, .slice Ar r.length cr] 29))) (V1.out.ext (Ext.al (Ext.al (Ext.rfl' w1) (.cells #[.slice Ag g.length cg] 25)) (.cells #[.slice Av v.length cv, .slice Ar r.length cr] 29))) (R1.out.ext (Ext.al (Ext.al (Ext.rfl' w1) (.cells #[.slice Ag g.length cg] 25)) (.cells #[.slice Av v.length cv, .slice Ar r.length cr] 29))) (N1.out.ext (Ext.al (Ext.al (Ext.rfl' w1) (.cells #[.slice Ag g.length cg] 25)) (.cells #[.slice Av v.length cv, .slice Ar r.length cr] 29))) (X1.out.ext (Ext.al (Ext.al (Ext.rfl' w1) (.cells #[.slice Ag g.length cg] 25)) (.cells #[.slice Av v.length cv, .slice Ar r.length cr] 29)))).mono ?_
      rintro e w2 ⟨A2, c2, A3, c3, hs2, A4, c4, rfl, hoe, hor, hdj, he2⟩
      have Hv2 := Lib.hid hoe.v.rd
      have Hr2 := Lib.hid (OwnL.rdL hoe.r SM.out.r SM.out.e)
      have Hn2 := Lib.hid hor.rd
      clear hoe hor hdj
      have U2 := Lib.hid ((Ext.al (Ext.al (Ext.rfl' w1) (.cells #[.slice Ag g.length cg] 25)) (.cells #[.slice Av v.length cv, .slice Ar r.length cr] 29)).tr he2)
      have E2 := Lib.hid (E1.out.tr U2.out)
      have lg_2 := he2.cellE (show World.cell? (World.alloc (World.alloc w1 (.cells #[.slice Ag g.length cg] 25)) (.cells #[.slice Av v.length cv, .slice Ar r.length cr] 29)) ⟨w1.heap.size, 0, none⟩ = some (.slice Ag g.length cg) by simp [go_sem])
      have lv_2 := he2.cellE (show World.cell? (World.alloc (World.alloc w1 (.cells #[.slice Ag g.length cg] 25)) (.cells #[.slice Av v.length cv, .slice Ar r.length cr] 29)) ⟨w1.heap.size + 1, 0, none⟩ = some (.slice Av v.length cv) by simp [go_sem])
      have lr_2 := he2.cellE (show World.cell? (World.alloc (World.alloc w1 (.cells #[.slice Ag g.length cg] 25)) (.cells #[.slice Av v.length cv, .slice Ar r.length cr] 29)) ⟨w1.heap.size + 1, 1, none⟩ = some (.slice Ar r.length cr) by simp [go_sem])
      clear he2 
      have blg_2 := blt lg_2
      have blv_2 := blt lv_2
      have blr_2 := blt lr_2
      go_wp2_with fail
      refine (HS.out _ (H1.out.ext (Ext.al ((Ext.rfl' w1).tr U2.out) (.cells #[.slice A2 ov.length c2, .slice A3 orr.length c3] 29))) (V1.out.ext (Ext.al ((Ext.rfl' w1).tr U2.out) (.cells #[.slice A2 ov.length c2, .slice A3 orr.length c3] 29))) (R1.out.ext (Ext.al ((Ext.rfl' w1).tr U2.out) (.cells #[.slice A2 ov.length c2, .slice A3 orr.length c3] 29))) (N1.out.ext (Ext.al ((Ext.rfl' w1).tr U2.out) (.cells #[.slice A2 ov.length c2, .slice A3 orr.length c3] 29))) (X1.out.ext (Ext.al ((Ext.rfl' w1).tr U2.out) (.cells #[.slice A2 ov.length c2, .slice A3 orr.length c3] 29)))).mono ?_
      rintro e w3 ⟨A5, c5, A6, c6, hs5, A7, c7, rfl, hoe, hor, hdj, he3⟩
      have Hv5 := Lib.hid hoe.v.rd
      have Hr5 := Lib.hid (OwnL.rdL hoe.r SM.out.r SM.out.e)
      have Hn5 := Lib.hid hor.rd
      clear hoe hor hdj
      have U3 := Lib.hid ((Ext.al (Ext.rfl' w2) (.cells #[.slice A2 ov.length c2, .slice A3 orr.length c3] 29)).tr he3)
      have E3 := Lib.hid (E2.out.tr U3.out)
      have lg_3 := U3.out.cellE lg_2
      have lv_3 := U3.out.cellE lv_2
      have lr_3 := U3.out.cellE lr_2
      have pv_3 := he3.cellE (show World.cell? (World.alloc w2 (.cells #[.slice A2 ov.length c2, .slice A3 orr.length c3] 29)) ⟨w2.heap.size, 0, none⟩ = some (.slice A2 ov.length c2) by simp [go_sem])
      have pr_3 := he3.cellE (show World.cell? (World.alloc w2 (.cells #[.slice A2 ov.length c2, .slice A3 orr.length c3] 29)) ⟨w2.heap.size, 1, none⟩ = some (.slice A3 orr.length c3) by simp [go_sem])
      clear he3 lg_2 lv_2 lr_2 blg_2 blv_2 blr_2
      have blg_3 := blt lg_3
      have blv_3 := blt lv_3
      have blr_3 := blt lr_3
      have bpv_3 := blt pv_3
      have bpr_3 := blt pr_3
      go_wp2_with fail
      refine (l_equalEager A2 A5 A3 A6 c2 c5 c3 c6 ov orr _ (Hv2.out.ext (Ext.al ((Ext.rfl' w2).tr U3.out) (.cells #[.slice A5 ov.length c5, .slice A6 orr.length c6] 29))) (Hv5.out.ext (Ext.al (Ext.rfl' w3) (.cells #[.slice A5 ov.length c5, .slice A6 orr.length c6] 29))) (Hr2.out.ext (Ext.al ((Ext.rfl' w2).tr U3.out) (.cells #[.slice A5 ov.length c5, .slice A6 orr.length c6] 29))) (Hr5.out.ext (Ext.al (Ext.rfl' w3) (.cells #[.slice A5 ov.length c5, .slice A6 orr.length c6] 29)))).mono ?_
      rintro e w4 ⟨rfl, he4⟩
      have U4 := Lib.hid ((Ext.al (Ext.rfl' w3) (.cells #[.slice A5 ov.length c5, .slice A6 orr.length c6] 29)).tr he4)
      have E4 := Lib.hid (E3.out.tr U4.out)
      have lg_4 := U4.out.cellE lg_3
      have lv_4 := U4.out.cellE lv_3
      have lr_4 := U4.out.cellE lr_3
      have pv_4 := U4.out.cellE pv_3
      have pr_4 := U4.out.cellE pr_3
      have qv_4 := he4.cellE (show World.cell? (World.alloc w3 (.cells #[.slice A5 ov.length c5, .slice A6 orr.length c6] 29)) ⟨w3.heap.size, 0, none⟩ = some (.slice A5 ov.length c5) by simp [go_sem])
      have qr_4 := he4.cellE (show World.cell? (World.alloc w3 (.cells #[.slice A5 ov.length c5, .slice A6 orr.length c6] 29)) ⟨w3.heap.size, 1, none⟩ = some (.slice A6 orr.length c6) by simp [go_sem])
      clear he4 lg_3 lv_3 lr_3 pv_3 pr_3 blg_3 blv_3 blr_3 bpv_3 bpr_3
      have blg_4 := blt lg_4
      have blv_4 := blt lv_4
      have blr_4 := blt lr_4
      have bpv_4 := blt pv_4
      have bpr_4 := blt pr_4
      have bqv_4 := blt qv_4
      have bqr_4 := blt qr_4
      go_wp2_with fail
      refine (l_equalInts A4 A7 c4 c7 rn _ (Hn2.out.ext (((Ext.rfl' w2).tr U3.out).tr U4.out)) (Hn5.out.ext ((Ext.rfl' w3).tr U4.out))).mono ?_
      rintro e w5 ⟨rfl, he5⟩
      have U5 := Lib.hid ((Ext.rfl' w4).tr he5)
      have E5 := Lib.hid (E4.out.tr U5.out)
      have lg_5 := U5.out.cellE lg_4
      have lv_5 := U5.out.cellE lv_4
      have lr_5 := U5.out.cellE lr_4
      have pv_5 := U5.out.cellE pv_4
      have pr_5 := U5.out.cellE pr_4
      have qv_5 := U5.out.cellE qv_4
      have qr_5 := U5.out.cellE qr_4
      clear he5 lg_4 lv_4 lr_4 pv_4 pr_4 qv_4 qr_4 blg_4 blv_4 blr_4 bpv_4 bpr_4 bqv_4 bqr_4
      have blg_5 := blt lg_5
      have blv_5 := blt lv_5
      have blr_5 := blt lr_5
      have bpv_5 := blt pv_5
      have bpr_5 := blt pr_5
      have bqv_5 := blt qv_5
      have bqr_5 := blt qr_5
      go_wp2_with fail
      refine (HV.out _ (H1.out.ext (((((Ext.rfl' w1).tr U2.out).tr U3.out).tr U4.out).tr U5.out)) (V1.out.ext (((((Ext.rfl' w1).tr U2.out).tr U3.out).tr U4.out).tr U5.out)) (R1.out.ext (((((Ext.rfl' w1).tr U2.out).tr U3.out).tr U4.out).tr U5.out))).mono ?_
      rintro e w6 ⟨rfl, he6⟩
      rw [HE.out]
      have U6 := Lib.hid ((Ext.rfl' w5).tr he6)
      have E6 := Lib.hid (E5.out.tr U6.out)
      have lg_6 := U6.out.cellE lg_5
      have lv_6 := U6.out.cellE lv_5
      have lr_6 := U6.out.cellE lr_5
      have pv_6 := U6.out.cellE pv_5
      have pr_6 := U6.out.cellE pr_5
      have qv_6 := U6.out.cellE qv_5
      have qr_6 := U6.out.cellE qr_5
      clear he6 lg_5 lv_5 lr_5 pv_5 pr_5 qv_5 qr_5 blg_5 blv_5 blr_5 bpv_5 bpr_5 bqv_5 bqr_5
      have blg_6 := blt lg_6
      have blv_6 := blt lv_6
      have blr_6 := blt lr_6
      have bpv_6 := blt pv_6
      have bpr_6 := blt pr_6
      have bqv_6 := blt qv_6
      have bqr_6 := blt qr_6
      go_wp2_with fail
      refine (HA.out A2 A3 c2 c3 _ (H1.out.ext ((((((Ext.rfl' w1).tr U2.out).tr U3.out).tr U4.out).tr U5.out).tr U6.out)) (Hv2.out.ext (((((Ext.rfl' w2).tr U3.out).tr U4.out).tr U5.out).tr U6.out)) (Hr2.out.ext (((((Ext.rfl' w2).tr U3.out).tr U4.out).tr U5.out).tr U6.out)) (N1.out.ext ((((((Ext.rfl' w1).tr U2.out).tr U3.out).tr U4.out).tr U5.out).tr U6.out)) (X1.out.ext ((((((Ext.rfl' w1).tr U2.out).tr U3.out).tr U4.out).tr U5.out).tr U6.out))).mono ?_
      rintro e w7 ⟨A8, c8, A9, c9, hs8, A10, c10, rfl, hoe, hor, hdj, he7⟩
      have Hv8 := Lib.hid hoe.v.rd
      have Hr8 := Lib.hid (OwnL.rdL hoe.r SM.out.r SM.out.e)
      have Hn8 := Lib.hid hor.rd
      clear hoe hor hdj
      have U7 := Lib.hid ((Ext.rfl' w6).tr he7)
      have E7 := Lib.hid (E6.out.tr U7.out)
      have lg_7 := U7.out.cellE lg_6
      have lv_7 := U7.out.cellE lv_6
      have lr_7 := U7.out.cellE lr_6
      have pv_7 := U7.out.cellE pv_6
      have pr_7 := U7.out.cellE pr_6
      have qv_7 := U7.out.cellE qv_6
      have qr_7 := U7.out.cellE qr_6
      clear he7 lg_6 lv_6 lr_6 pv_6 pr_6 qv_6 qr_6 blg_6 blv_6 blr_6 bpv_6 bpr_6 bqv_6 bqr_6
      have blg_7 := blt lg_7
      have blv_7 := blt lv_7
      have blr_7 := blt lr_7
      have bpv_7 := blt pv_7
      have bpr_7 := blt pr_7
      have bqv_7 := blt qv_7
      have bqr_7 := blt qr_7
      go_wp2_with fail
      refine (l_equalEager A8 A2 A9 A3 c8 c2 c9 c3 ov orr _ (Hv8.out.ext (Ext.al (Ext.rfl' w7) (.cells #[.slice A8 ov.length c8, .slice A9 orr.length c9] 29))) (Hv2.out.ext (Ext.al ((((((Ext.rfl' w2).tr U3.out).tr U4.out).tr U5.out).tr U6.out).tr U7.out) (.cells #[.slice A8 ov.length c8, .slice A9 orr.length c9] 29))) (Hr8.out.ext (Ext.al (Ext.rfl' w7) (.cells #[.slice A8 ov.length c8, .slice A9 orr.length c9] 29))) (Hr2.out.ext (Ext.al ((((((Ext.rfl' w2).tr U3.out).tr U4.out).tr U5.out).tr U6.out).tr U7.out) (.cells #[.slice A8 ov.length c8, .slice A9 orr.length c9] 29)))).mono ?_
      rintro e w8 ⟨rfl, he8⟩
      have U8 := Lib.hid ((Ext.al (Ext.rfl' w7) (.cells #[.slice A8 ov.length c8, .slice A9 orr.length c9] 29)).tr he8)
      have E8 := Lib.hid (E7.out.tr U8.out)
      have lg_8 := U8.out.cellE lg_7
      have lv_8 := U8.out.cellE lv_7
      have lr_8 := U8.out.cellE lr_7
      have pv_8 := U8.out.cellE pv_7
      have pr_8 := U8.out.cellE pr_7
      have qv_8 := U8.out.cellE qv_7
      have qr_8 := U8.out.cellE qr_7
      have rv_8 := he8.cellE (show World.cell? (World.alloc w7 (.cells #[.slice A8 ov.length c8, .slice A9 orr.length c9] 29)) ⟨w7.heap.size, 0, none⟩ = some (.slice A8 ov.length c8) by simp [go_sem])
      have rr_8 := he8.cellE (show World.cell? (World.alloc w7 (.cells #[.slice A8 ov.length c8, .slice A9 orr.length c9] 29)) ⟨w7.heap.size, 1, none⟩ = some (.slice A9 orr.length c9) by simp [go_sem])
      clear he8 lg_7 lv_7 lr_7 pv_7 pr_7 qv_7 qr_7 blg_7 blv_7 blr_7 bpv_7 bpr_7 bqv_7 bqr_7
      have blg_8 := blt lg_8
      have blv_8 := blt lv_8
      have blr_8 := blt lr_8
      have bpv_8 := blt pv_8
      have bpr_8 := blt pr_8
      have bqv_8 := blt qv_8
      have bqr_8 := blt qr_8
      have brv_8 := blt rv_8
      have brr_8 := blt rr_8
      go_wp2
      go_ret
      exact ⟨rfl, E8.out⟩
      all_goals (exfalso; have := HNX.out; omega)
    · have z1 : ((ov.length : Int) == (v.length : Int)) = false := by rw [beq_eq_false_iff_ne]; omega
      clear hE hW hl
      go_wp2_with fail
      refine (HI.out _ (H1.out.ext (Ext.al (Ext.al (Ext.rfl' w1) (.cells #[.slice Ag g.length cg] 25)) (.cells #[.slice Av v.length cv, .slice Ar r.length cr] 29))) (V1.out.ext (Ext.al (Ext.al (Ext.rfl' w1) (.cells #[.slice Ag g.length cg] 25)) (.cells #[.slice Av v.length cv, .slice Ar r.length cr] 29))) (R1.out.ext (Ext.al (Ext.al (Ext.rfl' w1) (.cells #[.slice Ag g.length cg] 25)) (.cells #[.slice Av v.length cv, .slice Ar r.length cr] 29))) (N1.out.ext (Ext.al (Ext.al (Ext.rfl' w1) (.cells #[.slice Ag g.length cg] 25)) (.cells #[.slice Av v.length cv, .slice Ar r.length cr] 29))) (X1.out.ext (Ext.al (Ext.al (Ext.rfl' w1) (.cells #[.slice Ag g.length cg] 25)) (.cells #[.slice Av v.length cv, .slice Ar r.length cr] 29)))).mono ?_
      rintro e w2 ⟨A2, c2, A3, c3, hs2, A4, c4, rfl, hoe, hor, hdj, he2⟩
      have Hv2 := Lib.hid hoe.v.rd
      have Hr2 := Lib.hid (OwnL.rdL hoe.r SM.out.r SM.out.e)
      have Hn2 := Lib.hid hor.rd
      clear hoe hor hdj
      have U2 := Lib.hid ((Ext.al (Ext.al (Ext.rfl' w1) (.cells #[.slice Ag g.length cg] 25)) (.cells #[.slice Av v.length cv, .slice Ar r.length cr] 29)).tr he2)
      have E2 := Lib.hid (E1.out.tr U2.out)
      have lg_2 := he2.cellE (show World.cell? (World.alloc (World.alloc w1 (.cells #[.slice Ag g.length cg] 25)) (.cells #[.slice Av v.length cv, .slice Ar r.length cr] 29)) ⟨w1.heap.size, 0, none⟩ = some (.slice Ag g.length cg) by simp [go_sem])
      have lv_2 := he2.cellE (show World.cell? (World.alloc (World.alloc w1 (.cells #[.slice Ag g.length cg] 25)) (.cells #[.slice Av v.length cv, .slice Ar r.length cr] 29)) ⟨w1.heap.size + 1, 0, none⟩ = some (.slice Av v.length cv) by simp [go_sem])
      have lr_2 := he2.cellE (show World.cell? (World.alloc (World.alloc w1 (.cells #[.slice Ag g.length cg] 25)) (.cells #[.slice Av v.length cv, .slice Ar r.length cr] 29)) ⟨w1.heap.size + 1, 1, none⟩ = some (.slice Ar r.length cr) by simp [go_sem])
      clear he2 
      have blg_2 := blt lg_2
      have blv_2 := blt lv_2
      have blr_2 := blt lr_2
      go_wp2_with fail
      refine (HS.out _ (H1.out.ext (Ext.al ((Ext.rfl' w1).tr U2.out) (.cells #[.slice A2 ov.length c2, .slice A3 orr.length c3] 29))) (V1.out.ext (Ext.al ((Ext.rfl' w1).tr U2.out) (.cells #[.slice A2 ov.length c2, .slice A3 orr.length c3] 29))) (R1.out.ext (Ext.al ((Ext.rfl' w1).tr U2.out) (.cells #[.slice A2 ov.length c2, .slice A3 orr.length c3] 29))) (N1.out.ext (Ext.al ((Ext.rfl' w1).tr U2.out) (.cells #[.slice A2 ov.length c2, .slice A3 orr.length c3] 29))) (X1.out.ext (Ext.al ((Ext.rfl' w1).tr U2.out) (.cells #[.slice A2 ov.length c2, .slice A3 orr.length c3] 29)))).mono ?_
      rintro e w3 ⟨A5, c5, A6, c6, hs5, A7, c7, rfl, hoe, hor, hdj, he3⟩
      have Hv5 := Lib.hid hoe.v.rd
      have Hr5 := Lib.hid (OwnL.rdL hoe.r SM.out.r SM.out.e)
      have Hn5 := Lib.hid hor.rd
      clear hoe hor hdj
      have U3 := Lib.hid ((Ext.al (Ext.rfl' w2) (.cells #[.slice A2 ov.length c2, .slice A3 orr.length c3] 29)).tr he3)
      have E3 := Lib.hid (E2.out.tr U3.out)
      have lg_3 := U3.out.cellE lg_2
      have lv_3 := U3.out.cellE lv_2
      have lr_3 := U3.out.cellE lr_2
      have pv_3 := he3.cellE (show World.cell? (World.alloc w2 (.cells #[.slice A2 ov.length c2, .slice A3 orr.length c3] 29)) ⟨w2.heap.size, 0, none⟩ = some (.slice A2 ov.length c2) by simp [go_sem])
      have pr_3 := he3.cellE (show World.cell? (World.alloc w2 (.cells #[.slice A2 ov.length c2, .slice A3 orr.length c3] 29)) ⟨w2.heap.size, 1, none⟩ = some (.slice A3 orr.length c3) by simp [go_sem])
      clear he3 lg_2 lv_2 lr_2 blg_2 blv_2 blr_2
      have blg_3 := blt lg_3
      have blv_3 := blt lv_3
      have blr_3 := blt lr_3
      have bpv_3 := blt pv_3
      have bpr_3 := blt pr_3
      go_wp2_with fail
      refine (l_equalEager A2 A5 A3 A6 c2 c5 c3 c6 ov orr _ (Hv2.out.ext (Ext.al ((Ext.rfl' w2).tr U3.out) (.cells #[.slice A5 ov.length c5, .slice A6 orr.length c6] 29))) (Hv5.out.ext (Ext.al (Ext.rfl' w3) (.cells #[.slice A5 ov.length c5, .slice A6 orr.length c6] 29))) (Hr2.out.ext (Ext.al ((Ext.rfl' w2).tr U3.out) (.cells #[.slice A5 ov.length c5, .slice A6 orr.length c6] 29))) (Hr5.out.ext (Ext.al (Ext.rfl' w3) (.cells #[.slice A5 ov.length c5, .slice A6 orr.length c6] 29)))).mono ?_
      rintro e w4 ⟨rfl, he4⟩
      have U4 := Lib.hid ((Ext.al (Ext.rfl' w3) (.cells #[.slice A5 ov.length c5, .slice A6 orr.length c6] 29)).tr he4)
      have E4 := Lib.hid (E3.out.tr U4.out)
      have lg_4 := U4.out.cellE lg_3
      have lv_4 := U4.out.cellE lv_3
      have lr_4 := U4.out.cellE lr_3
      have pv_4 := U4.out.cellE pv_3
      have pr_4 := U4.out.cellE pr_3
      have qv_4 := he4.cellE (show World.cell? (World.alloc w3 (.cells #[.slice A5 ov.length c5, .slice A6 orr.length c6] 29)) ⟨w3.heap.size, 0, none⟩ = some (.slice A5 ov.length c5) by simp [go_sem])
      have qr_4 := he4.cellE (show World.cell? (World.alloc w3 (.cells #[.slice A5 ov.length c5, .slice A6 orr.length c6] 29)) ⟨w3.heap.size, 1, none⟩ = some (.slice A6 orr.length c6) by simp [go_sem])
      clear he4 lg_3 lv_3 lr_3 pv_3 pr_3 blg_3 blv_3 blr_3 bpv_3 bpr_3
      have blg_4 := blt lg_4
      have blv_4 := blt lv_4
      have blr_4 := blt lr_4
      have bpv_4 := blt pv_4
      have bpr_4 := blt pr_4
      have bqv_4 := blt qv_4
      have bqr_4 := blt qr_4
      go_wp2_with fail
      refine (l_equalInts A4 A7 c4 c7 rn _ (Hn2.out.ext (((Ext.rfl' w2).tr U3.out).tr U4.out)) (Hn5.out.ext ((Ext.rfl' w3).tr U4.out))).mono ?_
      rintro e w5 ⟨rfl, he5⟩
      have U5 := Lib.hid ((Ext.rfl' w4).tr he5)
      have E5 := Lib.hid (E4.out.tr U5.out)
      have lg_5 := U5.out.cellE lg_4
      have lv_5 := U5.out.cellE lv_4
      have lr_5 := U5.out.cellE lr_4
      have pv_5 := U5.out.cellE pv_4
      have pr_5 := U5.out.cellE pr_4
      have qv_5 := U5.out.cellE qv_4
      have qr_5 := U5.out.cellE qr_4
      clear he5 lg_4 lv_4 lr_4 pv_4 pr_4 qv_4 qr_4 blg_4 blv_4 blr_4 bpv_4 bpr_4 bqv_4 bqr_4
      have blg_5 := blt lg_5
      have blv_5 := blt lv_5
      have blr_5 := blt lr_5
      have bpv_5 := blt pv_5
      have bpr_5 := blt pr_5
      have bqv_5 := blt qv_5
      have bqr_5 := blt qr_5
      go_wp2_with fail
      refine (HV.out _ (H1.out.ext (((((Ext.rfl' w1).tr U2.out).tr U3.out).tr U4.out).tr U5.out)) (V1.out.ext (((((Ext.rfl' w1).tr U2.out).tr U3.out).tr U4.out).tr U5.out)) (R1.out.ext (((((Ext.rfl' w1).tr U2.out).tr U3.out).tr U4.out).tr U5.out))).mono ?_
      rintro e w6 ⟨rfl, he6⟩
      rw [HE.out]
      have U6 := Lib.hid ((Ext.rfl' w5).tr he6)
      have E6 := Lib.hid (E5.out.tr U6.out)
      have lg_6 := U6.out.cellE lg_5
      have lv_6 := U6.out.cellE lv_5
      have lr_6 := U6.out.cellE lr_5
      have pv_6 := U6.out.cellE pv_5
      have pr_6 := U6.out.cellE pr_5
      have qv_6 := U6.out.cellE qv_5
      have qr_6 := U6.out.cellE qr_5
      clear he6 lg_5 lv_5 lr_5 pv_5 pr_5 qv_5 qr_5 blg_5 blv_5 blr_5 bpv_5 bpr_5 bqv_5 bqr_5
      have blg_6 := blt lg_6
      have blv_6 := blt lv_6
      have blr_6 := blt lr_6
      have bpv_6 := blt pv_6
      have bpr_6 := blt pr_6
      have bqv_6 := blt qv_6
      have bqr_6 := blt qr_6
      go_wp2_with fail
      refine (l_equalEager A2 A5 A3 A6 c2 c5 c3 c6 ov orr _ (Hv2.out.ext (((((Ext.rfl' w2).tr U3.out).tr U4.out).tr U5.out).tr U6.out)) (Hv5.out.ext ((((Ext.rfl' w3).tr U4.out).tr U5.out).tr U6.out)) (Hr2.out.ext (((((Ext.rfl' w2).tr U3.out).tr U4.out).tr U5.out).tr U6.out)) (Hr5.out.ext ((((Ext.rfl' w3).tr U4.out).tr U5.out).tr U6.out))).mono ?_
      rintro e w7 ⟨rfl, he7⟩
      have U7 := Lib.hid ((Ext.rfl' w6).tr he7)
      have E7 := Lib.hid (E6.out.tr U7.out)
      have lg_7 := U7.out.cellE lg_6
      have lv_7 := U7.out.cellE lv_6
      have lr_7 := U7.out.cellE lr_6
      have pv_7 := U7.out.cellE pv_6
      have pr_7 := U7.out.cellE pr_6
      have qv_7 := U7.out.cellE qv_6
      have qr_7 := U7.out.cellE qr_6
      clear he7 lg_6 lv_6 lr_6 pv_6 pr_6 qv_6 qr_6 blg_6 blv_6 blr_6 bpv_6 bpr_6 bqv_6 bqr_6
      have blg_7 := blt lg_7
      have blv_7 := blt lv_7
      have blr_7 := blt lr_7
      have bpv_7 := blt pv_7
      have bpr_7 := blt pr_7
      have bqv_7 := blt qv_7
      have bqr_7 := blt qr_7
      go_wp2_with fail
      refine (l_equalInts A4 A7 c4 c7 rn _ (Hn2.out.ext ((((((Ext.rfl' w2).tr U3.out).tr U4.out).tr U5.out).tr U6.out).tr U7.out)) (Hn5.out.ext (((((Ext.rfl' w3).tr U4.out).tr U5.out).tr U6.out).tr U7.out))).mono ?_
      rintro e w8 ⟨rfl, he8⟩
      have U8 := Lib.hid ((Ext.rfl' w7).tr he8)
      have E8 := Lib.hid (E7.out.tr U8.out)
      have lg_8 := U8.out.cellE lg_7
      have lv_8 := U8.out.cellE lv_7
      have lr_8 := U8.out.cellE lr_7
      have pv_8 := U8.out.cellE pv_7
      have pr_8 := U8.out.cellE pr_7
      have qv_8 := U8.out.cellE qv_7
      have qr_8 := U8.out.cellE qr_7
      clear he8 lg_7 lv_7 lr_7 pv_7 pr_7 qv_7 qr_7 blg_7 blv_7 blr_7 bpv_7 bpr_7 bqv_7 bqr_7
      have blg_8 := blt lg_8
      have blv_8 := blt lv_8
      have blr_8 := blt lr_8
      have bpv_8 := blt pv_8
      have bpr_8 := blt pr_8
      have bqv_8 := blt qv_8
      have bqr_8 := blt qr_8
      go_wp2
      go_ret
      exact ⟨rfl, E8.out⟩
end Go.Proofs.YtjogmblilagohaaGreat
