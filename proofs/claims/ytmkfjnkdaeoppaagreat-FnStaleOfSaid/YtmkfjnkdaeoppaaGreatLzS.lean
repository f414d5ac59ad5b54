/- FnStaleOf: the law's walk. Conditions: the code can be read. -/
import Derived.Test.YtmkfjnkdaeoppaaGreatTy
import Derived.Test.YtmkfjnkdaeoppaaGreatDrawS
import Derived.Test.YtmkfjnkdaeoppaaGreatSpecW
import Derived.Test.YtmkfjnkdaeoppaaGreatImplA1
import Derived.Test.YtmkfjnkdaeoppaaGreatPlAll
import Derived.Test.YtmkfjnkdaeoppaaGreatEqAll
import Derived.Test.YtmkfjnkdaeoppaaGreatImplVW
namespace Go.Proofs.YtmkfjnkdaeoppaaGreat
open Go.RowKit

set_option maxRecDepth 100000 in
set_option maxHeartbeats 8000000 in
theorem ex_FnStaleOf (A : Option Addr) (c : Nat) (l : List Int) (w : World) (h : Rd w 1 A l.length (u8s l)) (hr : ∀ x ∈ l, 0 ≤ x ∧ x ≤ 255) (hc : l.length ≤ c) (hcm : c ≤ maxLen) :
    Calls Tryz.prog 3 #[.slice A l.length c] w fun e w' => e = .returned (.bool true) ∧ Ext w w' := by
  have hbig := h.big
  have HD := lh (s_DrawStaleOf A c l w h hr hc hcm)
  clear h hr hc hcm
  by_cases hb : 1048576 < l.length
  · have hb2 : (1048576 : Int) < (l.length : Int) := by omega
    go_enter Tryz.func3, Tryz.ntmps3
    go_wp2
    go_ret
    exact ⟨rfl, Ext.rfl' _⟩
  have hb2 : ¬ (1048576 : Int) < (l.length : Int) := by omega
  clear hb
  have E0 := lh ((Ext.rfl' w) : Ext w w)
  go_enter Tryz.func3, Tryz.ntmps3
  go_wp2_with fail
  refine (HD.out).mono ?_
  rintro e w1 ⟨g, Ag, cg, v, Av, cv, r, Ar, cr, q, Aq, cq, rfl, hg2, hg10, hvl, hrl, hql, hN, hV, hR, hQ, he1⟩
  have H1 := lh hN
  have V1 := lh hV
  have R1 := lh hR
  have Q1 := lh hQ
  have hvl9 : v.length ≤ 1048576 := by omega
  have hql9 : q.length ≤ 1048576 := by omega
  clear hN hV hR hQ HD
  have U1 := lh ((Ext.rfl' w).tr he1)
  have E1 := lh (E0.out.tr U1.out)
  clear he1 
  obtain ⟨so, hso0⟩ : ∃ so, so = Sg.staleOf g ⟨v, r, q⟩ := ⟨_, rfl⟩
  have HI := lh (fun w h hv hr hq => by have := i_StaleOf Ag Av Ar Aq cg cv cr cq g v q r w h hv hr hq hvl9 hql9; rw [← hso0] at this; exact this)
  have HS := lh (fun w h hv hr hq => by have := s_StaleOf Ag Av Ar Aq cg cv cr cq g v q r w h hv hr hq hvl9 hql9; rw [← hso0] at this; exact this)
  have HV := lh (fun w h hv hr hq => i_ValidLazy Ag Av Ar Aq cg cv cr cq g v q r w h hv hr hq hvl9 hql9)
  have HSO0 := lh hso0
  clear hso0
  have X1_1 := lh (Ext.al (Ext.al (Ext.rfl' w1) (.cells #[.slice Ag g.length cg] 25)) (.cells #[.slice Av v.length cv, .slice Ar r.length cr, .slice Aq q.length cq] 29))
  go_wp2_with fail
  refine (HI.out _ (H1.out.ext X1_1.out) (V1.out.ext X1_1.out) (R1.out.ext X1_1.out) (Q1.out.ext X1_1.out)).mono ?_
  rintro e w2 ⟨A2, c2, rfl, hoc, he2⟩
  have Hc2 := lh hoc.rd
  clear hoc
  have U2 := lh ((Ext.al (Ext.al (Ext.rfl' w1) (.cells #[.slice Ag g.length cg] 25)) (.cells #[.slice Av v.length cv, .slice Ar r.length cr, .slice Aq q.length cq] 29)).tr he2)
  have E2 := lh (E1.out.tr U2.out)
  have lg_2 := he2.cellE (show World.cell? (World.alloc (World.alloc w1 (.cells #[.slice Ag g.length cg] 25)) (.cells #[.slice Av v.length cv, .slice Ar r.length cr, .slice Aq q.length cq] 29)) ⟨w1.heap.size, 0, none⟩ = some (.slice Ag g.length cg) by simp [go_sem])
  have lv_2 := he2.cellE (show World.cell? (World.alloc (World.alloc w1 (.cells #[.slice Ag g.length cg] 25)) (.cells #[.slice Av v.length cv, .slice Ar r.length cr, .slice Aq q.length cq] 29)) ⟨w1.heap.size + 1, 0, none⟩ = some (.slice Av v.length cv) by simp [go_sem])
  have lr_2 := he2.cellE (show World.cell? (World.alloc (World.alloc w1 (.cells #[.slice Ag g.length cg] 25)) (.cells #[.slice Av v.length cv, .slice Ar r.length cr, .slice Aq q.length cq] 29)) ⟨w1.heap.size + 1, 1, none⟩ = some (.slice Ar r.length cr) by simp [go_sem])
  have lq_2 := he2.cellE (show World.cell? (World.alloc (World.alloc w1 (.cells #[.slice Ag g.length cg] 25)) (.cells #[.slice Av v.length cv, .slice Ar r.length cr, .slice Aq q.length cq] 29)) ⟨w1.heap.size + 1, 2, none⟩ = some (.slice Aq q.length cq) by simp [go_sem])
  clear he2 X1_1
  have blg_2 := blt lg_2
  have blv_2 := blt lv_2
  have blr_2 := blt lr_2
  have blq_2 := blt lq_2
  have X2_2 := lh ((Ext.rfl' w1).tr U2.out)
  go_wp2_with fail
  refine (HS.out _ (H1.out.ext X2_2.out) (V1.out.ext X2_2.out) (R1.out.ext X2_2.out) (Q1.out.ext X2_2.out)).mono ?_
  rintro e w3 ⟨A3, c3, rfl, hoc, he3⟩
  have Hc3 := lh hoc.rd
  clear hoc
  have U3 := lh ((Ext.rfl' w2).tr he3)
  have E3 := lh (E2.out.tr U3.out)
  have lg_3 := U3.out.cellE lg_2
  have lv_3 := U3.out.cellE lv_2
  have lr_3 := U3.out.cellE lr_2
  have lq_3 := U3.out.cellE lq_2
  clear he3 lg_2 lv_2 lr_2 lq_2 blg_2 blv_2 blr_2 blq_2 X2_2
  have blg_3 := blt lg_3
  have blv_3 := blt lv_3
  have blr_3 := blt lr_3
  have blq_3 := blt lq_3
  have X3_3 := lh ((Ext.rfl' w2).tr U3.out)
  go_wp2_with fail
  refine (l_equalInts A2 A3 c2 c3 so _ (Hc2.out.ext X3_3.out) Hc3.out).mono ?_
  rintro e w4 ⟨rfl, he4⟩
  have U4 := lh ((Ext.rfl' w3).tr he4)
  have E4 := lh (E3.out.tr U4.out)
  have lg_4 := U4.out.cellE lg_3
  have lv_4 := U4.out.cellE lv_3
  have lr_4 := U4.out.cellE lr_3
  have lq_4 := U4.out.cellE lq_3
  clear he4 lg_3 lv_3 lr_3 lq_3 blg_3 blv_3 blr_3 blq_3 X3_3
  have blg_4 := blt lg_4
  have blv_4 := blt lv_4
  have blr_4 := blt lr_4
  have blq_4 := blt lq_4
  have X4_4 := lh ((((Ext.rfl' w1).tr U2.out).tr U3.out).tr U4.out)
  go_wp2_with fail
  refine (HV.out _ (H1.out.ext X4_4.out) (V1.out.ext X4_4.out) (R1.out.ext X4_4.out) (Q1.out.ext X4_4.out)).mono ?_
  rintro e w5 ⟨rfl, he5⟩
  have U5 := lh ((Ext.rfl' w4).tr he5)
  have E5 := lh (E4.out.tr U5.out)
  have lg_5 := U5.out.cellE lg_4
  have lv_5 := U5.out.cellE lv_4
  have lr_5 := U5.out.cellE lr_4
  have lq_5 := U5.out.cellE lq_4
  clear he5 lg_4 lv_4 lr_4 lq_4 blg_4 blv_4 blr_4 blq_4 X4_4
  have blg_5 := blt lg_5
  have blv_5 := blt lv_5
  have blr_5 := blt lr_5
  have blq_5 := blt lq_5
  cases hE : Sg.validL g ⟨v, r, q⟩
  · skip
    clear hE
    have X5_5 := lh (((((Ext.rfl' w1).tr U2.out).tr U3.out).tr U4.out).tr U5.out)
    go_wp2_with fail
    refine (HS.out _ (H1.out.ext X5_5.out) (V1.out.ext X5_5.out) (R1.out.ext X5_5.out) (Q1.out.ext X5_5.out)).mono ?_
    rintro e w6 ⟨A4, c4, rfl, hoc, he6⟩
    have Hc4 := lh hoc.rd
    clear hoc
    have U6 := lh ((Ext.rfl' w5).tr he6)
    have E6 := lh (E5.out.tr U6.out)
    have lg_6 := U6.out.cellE lg_5
    have lv_6 := U6.out.cellE lv_5
    have lr_6 := U6.out.cellE lr_5
    have lq_6 := U6.out.cellE lq_5
    clear he6 lg_5 lv_5 lr_5 lq_5 blg_5 blv_5 blr_5 blq_5 X5_5
    have blg_6 := blt lg_6
    have blv_6 := blt lv_6
    have blr_6 := blt lr_6
    have blq_6 := blt lq_6
    have X6_6 := lh (((((Ext.rfl' w2).tr U3.out).tr U4.out).tr U5.out).tr U6.out)
    go_wp2_with fail
    refine (l_equalInts A2 A4 c2 c4 so _ (Hc2.out.ext X6_6.out) Hc4.out).mono ?_
    rintro e w7 ⟨rfl, he7⟩
    have U7 := lh ((Ext.rfl' w6).tr he7)
    have E7 := lh (E6.out.tr U7.out)
    have lg_7 := U7.out.cellE lg_6
    have lv_7 := U7.out.cellE lv_6
    have lr_7 := U7.out.cellE lr_6
    have lq_7 := U7.out.cellE lq_6
    clear he7 lg_6 lv_6 lr_6 lq_6 blg_6 blv_6 blr_6 blq_6 X6_6
    have blg_7 := blt lg_7
    have blv_7 := blt lv_7
    have blr_7 := blt lr_7
    have blq_7 := blt lq_7
    go_wp2
    go_ret
    exact ⟨rfl, E7.out⟩
  · skip
    have HE := lh hE
    have hql : q.length = g.length := (Sg.validL_shape hE).2.2.2.1
    have HME := lh (show ∀ (n : Nat) (y : Int), n < g.length → q[n]? = some y → ((n : Int) ∈ so ↔ y ≠ 0) from fun n y hn hy => by
      rw [HSO0.out, Sg.mem_stale hE]
      have e : q.getD n 0 = y := by rw [List.getD_eq_getElem?_getD, hy]; rfl
      exact ⟨fun ⟨i, hi, _, h⟩ => by have : i = n := by omega
                                     subst this; rw [← e]; exact h, fun h => ⟨n, rfl, hn, by rw [← e] at h; exact h⟩⟩)
    have HKI := lh (show ∀ (n : Nat) (nd : Sg.Node) (y : Int), g[n]? = some nd → q[n]? = some y → y ≠ 0 → nd.kind ≠ 0 from fun n nd y hn hy h0 => Sg.stale_cell hE hn (by show q.getD n 0 ≠ 0; rw [List.getD_eq_getElem?_getD, hy]; exact h0))
    have HAS := lh (fun A c w h => l_ascends A c so w h (by rw [HSO0.out]; exact Sg.stale_asc g _))
    have HQL := lh hql
    clear hE hql
    go_wp2_with fail
    go_loopw [6] (fun s6 wr => ∃ n : Nat, n ≤ g.length ∧ s6 = .int .i64 n ∧ Hid (Ext w5 wr)) (fun s6 _ => g.length - (intOf s6).toNat)
    case atStart => exact ⟨0, Nat.zero_le _, rfl, lh (Ext.rfl' _)⟩
    case round =>
      obtain ⟨n, hn, rfl, hext⟩ := hrel
      have lE0 := lh (Ext.rfl' wr)
      have lg_r := hext.out.cellE lg_5
      have blg_r := blt lg_r
      have lv_r := hext.out.cellE lv_5
      have blv_r := blt lv_r
      have lr_r := hext.out.cellE lr_5
      have blr_r := blt lr_r
      have lq_r := hext.out.cellE lq_5
      have blq_r := blt lq_r
      clear lg_5 lv_5 lr_5 lq_5 blg_5 blv_5 blr_5 blq_5
      have H1r := lh (H1.out.ext ((((((Ext.rfl' w1).tr U2.out).tr U3.out).tr U4.out).tr U5.out).tr hext.out))
      have V1r := lh (V1.out.ext ((((((Ext.rfl' w1).tr U2.out).tr U3.out).tr U4.out).tr U5.out).tr hext.out))
      have R1r := lh (R1.out.ext ((((((Ext.rfl' w1).tr U2.out).tr U3.out).tr U4.out).tr U5.out).tr hext.out))
      have Q1r := lh (Q1.out.ext ((((((Ext.rfl' w1).tr U2.out).tr U3.out).tr U4.out).tr U5.out).tr hext.out))
      have Hc2r := lh (Hc2.out.ext (((((Ext.rfl' w2).tr U3.out).tr U4.out).tr U5.out).tr hext.out))
      by_cases hlt : n < g.length
      · skip
        obtain ⟨nd, bn, on, Apn, cpn, hnd, rfl, hkc, -, -, -⟩ := H1r.out.at_ hlt
        obtain ⟨bq, oq, y, rfl, hy, hcy⟩ := Q1r.out.at1 (show n < q.length by rw [HQL.out]; exact hlt)
        have hlq : n < q.length := by rw [HQL.out]; exact hlt
        have hmy := HME.out n y hlt hy
        have hki := HKI.out n nd y hnd hy
        have bhkc := blt hkc
        have bhcy := blt hcy
        clear hnd hy
        by_cases hm : (n : Int) ∈ so
        · skip
          have zy : (y != 0) = true := by rw [bne_iff_ne]; exact hmy.1 hm
          have zk : (nd.kind == 0) = false := by rw [beq_eq_false_iff_ne]; exact hki (hmy.1 hm)
          have HB := lh (fun w h => by have := l_isInB A2 c2 so (n : Int) w h; rw [decide_eq_true hm] at this; exact this)
          clear hm hmy hki
          go_wp2_with fail
          refine wp_region_held_drew (S := (fun W => W.cell? ⟨w1.heap.size, 0, none⟩ = some (.slice (some ⟨bn, on, none⟩) g.length cg) ∧ W.cell? ⟨w1.heap.size + 1, 2, none⟩ = some (.slice (some ⟨bq, oq, none⟩) q.length cq) ∧ W.cell? ⟨bn, on + n * 2, none⟩ = some (.int .i64 nd.kind) ∧ W.cell? ⟨bq, oq + n, none⟩ = some (.int .i64 y))) (by kernel_rfl) ?_ (fun hHeld => ?_)
          · exact ⟨((Ext.rfl' _).dr).cellE lg_r, ((Ext.rfl' _).dr).cellE lq_r, ((Ext.rfl' _).dr).cellE hkc, ((Ext.rfl' _).dr).cellE hcy⟩
          refine ty 0 ?_
          refine ty 1 ?_
          refine ty 3 ?_
          refine ty 4 ?_
          refine ty 5 ?_
          refine ty 6 ?_
          refine ty 7 ?_
          refine ty 8 ?_
          refine rd1 2 rfl fun K hK => ?_
          go_simp
          have lX0_1 := lh ((Ext.rfl' wr).dr)
          refine (HB.out _ (Hc2r.out.ext lX0_1.out)).mono ?_
          rintro e lw1 ⟨rfl, lhe1⟩
          have lU1 := lh (((Ext.rfl' wr).dr).tr lhe1)
          have lE1 := lh (lE0.out.tr lU1.out)
          have lg_l1 := lU1.out.cellE lg_r
          have lv_l1 := lU1.out.cellE lv_r
          have lr_l1 := lU1.out.cellE lr_r
          have lq_l1 := lU1.out.cellE lq_r
          have kc_l1 := lU1.out.cellE hkc
          have yc_l1 := lU1.out.cellE hcy
          clear lhe1 lg_r lv_r lr_r lq_r hkc hcy blg_r blv_r blr_r blq_r bhkc bhcy lX0_1
          have blg_l1 := blt lg_l1
          have blv_l1 := blt lv_l1
          have blr_l1 := blt lr_l1
          have blq_l1 := blt lq_l1
          have bkc_l1 := blt kc_l1
          have byc_l1 := blt yc_l1
          try go_wp2_with fail
          refine hK.out _ _ (by exact ⟨lg_l1, lq_l1, kc_l1, yc_l1⟩) fun hh2 => ?_; clear hK K hHeld; have hHeld := hh2; clear hh2
          try simp only [Act.put, pu]
          refine ty 9 ?_
          refine ty 10 ?_
          refine ty 11 ?_
          refine ty 12 ?_
          refine rd1 13 rfl fun K hK => ?_
          go_simp
          have lX1_2 := lh ((Ext.rfl' wr).tr lU1.out)
          refine (HB.out _ (Hc2r.out.ext lX1_2.out)).mono ?_
          rintro e lw2 ⟨rfl, lhe2⟩
          have lU2 := lh ((Ext.rfl' lw1).tr lhe2)
          have lE2 := lh (lE1.out.tr lU2.out)
          have lg_l2 := lU2.out.cellE lg_l1
          have lv_l2 := lU2.out.cellE lv_l1
          have lr_l2 := lU2.out.cellE lr_l1
          have lq_l2 := lU2.out.cellE lq_l1
          have kc_l2 := lU2.out.cellE kc_l1
          have yc_l2 := lU2.out.cellE yc_l1
          clear lhe2 lg_l1 lv_l1 lr_l1 lq_l1 kc_l1 yc_l1 blg_l1 blv_l1 blr_l1 blq_l1 bkc_l1 byc_l1 lX1_2
          have blg_l2 := blt lg_l2
          have blv_l2 := blt lv_l2
          have blr_l2 := blt lr_l2
          have blq_l2 := blt lq_l2
          have bkc_l2 := blt kc_l2
          have byc_l2 := blt yc_l2
          try go_wp2_with fail
          refine hK.out _ _ (by exact ⟨lg_l2, lq_l2, kc_l2, yc_l2⟩) fun hh2 => ?_; clear hK K hHeld; have hHeld := hh2; clear hh2
          try simp only [Act.put, pu]
          refine ty 14 ?_
          refine ty 15 ?_
          refine ty 16 ?_
          refine ty 17 ?_
          refine ty 18 ?_
          refine ty 19 ?_
          refine ty 20 ?_
          refine ty 21 ?_
          refine ty 22 ?_
          refine ty 23 ?_
          refine dn ?_
          go_wp2
          go_roundw
          case rel => exact ⟨n + 1, by omega, by go_num, lh (hext.out.tr lE2.out)⟩
          case measure => simp [intOf]; omega
        · skip
          have zy : (y != 0) = false := by cases h : (y != 0); rfl; exact absurd (hmy.2 (bne_iff_ne.1 h)) hm
          have HB := lh (fun w h => by have := l_isInB A2 c2 so (n : Int) w h; rw [decide_eq_false hm] at this; exact this)
          clear hm hmy hki
          go_wp2_with fail
          refine wp_region_held_drew (S := (fun W => W.cell? ⟨w1.heap.size, 0, none⟩ = some (.slice (some ⟨bn, on, none⟩) g.length cg) ∧ W.cell? ⟨w1.heap.size + 1, 2, none⟩ = some (.slice (some ⟨bq, oq, none⟩) q.length cq) ∧ W.cell? ⟨bn, on + n * 2, none⟩ = some (.int .i64 nd.kind) ∧ W.cell? ⟨bq, oq + n, none⟩ = some (.int .i64 y))) (by kernel_rfl) ?_ (fun hHeld => ?_)
          · exact ⟨((Ext.rfl' _).dr).cellE lg_r, ((Ext.rfl' _).dr).cellE lq_r, ((Ext.rfl' _).dr).cellE hkc, ((Ext.rfl' _).dr).cellE hcy⟩
          refine ty 0 ?_
          refine ty 1 ?_
          refine ty 3 ?_
          refine ty 4 ?_
          refine ty 5 ?_
          refine ty 6 ?_
          refine ty 7 ?_
          refine ty 8 ?_
          refine rd1 2 rfl fun K hK => ?_
          go_simp
          have lX0_1 := lh ((Ext.rfl' wr).dr)
          refine (HB.out _ (Hc2r.out.ext lX0_1.out)).mono ?_
          rintro e lw1 ⟨rfl, lhe1⟩
          have lU1 := lh (((Ext.rfl' wr).dr).tr lhe1)
          have lE1 := lh (lE0.out.tr lU1.out)
          have lg_l1 := lU1.out.cellE lg_r
          have lv_l1 := lU1.out.cellE lv_r
          have lr_l1 := lU1.out.cellE lr_r
          have lq_l1 := lU1.out.cellE lq_r
          have kc_l1 := lU1.out.cellE hkc
          have yc_l1 := lU1.out.cellE hcy
          clear lhe1 lg_r lv_r lr_r lq_r hkc hcy blg_r blv_r blr_r blq_r bhkc bhcy lX0_1
          have blg_l1 := blt lg_l1
          have blv_l1 := blt lv_l1
          have blr_l1 := blt lr_l1
          have blq_l1 := blt lq_l1
          have bkc_l1 := blt kc_l1
          have byc_l1 := blt yc_l1
          try go_wp2_with fail
          refine hK.out _ _ (by exact ⟨lg_l1, lq_l1, kc_l1, yc_l1⟩) fun hh2 => ?_; clear hK K hHeld; have hHeld := hh2; clear hh2
          try simp only [Act.put, pu]
          refine ty 9 ?_
          refine ty 10 ?_
          refine ty 11 ?_
          refine ty 12 ?_
          refine rd1 13 rfl fun K hK => ?_
          go_simp
          have lX1_2 := lh ((Ext.rfl' wr).tr lU1.out)
          refine (HB.out _ (Hc2r.out.ext lX1_2.out)).mono ?_
          rintro e lw2 ⟨rfl, lhe2⟩
          have lU2 := lh ((Ext.rfl' lw1).tr lhe2)
          have lE2 := lh (lE1.out.tr lU2.out)
          have lg_l2 := lU2.out.cellE lg_l1
          have lv_l2 := lU2.out.cellE lv_l1
          have lr_l2 := lU2.out.cellE lr_l1
          have lq_l2 := lU2.out.cellE lq_l1
          have kc_l2 := lU2.out.cellE kc_l1
          have yc_l2 := lU2.out.cellE yc_l1
          clear lhe2 lg_l1 lv_l1 lr_l1 lq_l1 kc_l1 yc_l1 blg_l1 blv_l1 blr_l1 blq_l1 bkc_l1 byc_l1 lX1_2
          have blg_l2 := blt lg_l2
          have blv_l2 := blt lv_l2
          have blr_l2 := blt lr_l2
          have blq_l2 := blt lq_l2
          have bkc_l2 := blt kc_l2
          have byc_l2 := blt yc_l2
          try go_wp2_with fail
          refine hK.out _ _ (by exact ⟨lg_l2, lq_l2, kc_l2, yc_l2⟩) fun hh2 => ?_; clear hK K hHeld; have hHeld := hh2; clear hh2
          try simp only [Act.put, pu]
          refine ty 14 ?_
          refine tn 15 ?_
          refine tn 16 ?_
          refine tn 17 ?_
          refine tn 18 ?_
          refine tn 19 ?_
          refine tn 20 ?_
          refine tn 21 ?_
          refine ty 22 ?_
          refine ty 23 ?_
          refine dn ?_
          go_wp2
          go_roundw
          case rel => exact ⟨n + 1, by omega, by go_num, lh (hext.out.tr lE2.out)⟩
          case measure => simp [intOf]; omega
      · skip
        obtain rfl : n = g.length := by omega
        have lX0_1 := lh (Ext.rfl' wr)
        go_wp2_with fail
        refine (HAS.out A2 c2 _ (Hc2r.out.ext lX0_1.out)).mono ?_
        rintro e lw1 ⟨rfl, lhe1⟩
        have lU1 := lh ((Ext.rfl' wr).tr lhe1)
        have lE1 := lh (lE0.out.tr lU1.out)
        have lg_l1 := lU1.out.cellE lg_r
        have lv_l1 := lU1.out.cellE lv_r
        have lr_l1 := lU1.out.cellE lr_r
        have lq_l1 := lU1.out.cellE lq_r
        clear lhe1 lg_r lv_r lr_r lq_r blg_r blv_r blr_r blq_r lX0_1
        have blg_l1 := blt lg_l1
        have blv_l1 := blt lv_l1
        have blr_l1 := blt lr_l1
        have blq_l1 := blt lq_l1
        go_wp2
        go_ret
        exact ⟨rfl, (E5.out.tr hext.out).tr lE1.out⟩
end Go.Proofs.YtmkfjnkdaeoppaaGreat
