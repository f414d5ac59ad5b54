/- FnWriteEagerRuns: the law's walk. Conditions: the code can be read. -/
import Derived.Test.YtmelggoagbhieaaGreatDrawM
import Derived.Test.YtmelggoagbhieaaGreatLawOne
import Derived.Test.YtmelggoagbhieaaGreatWriteE
import Derived.Test.YtmelggoagbhieaaGreatModelR
import Derived.Test.YtmelggoagbhieaaGreatSmallW
import Derived.Test.YtmelggoagbhieaaGreatEqA
import Derived.Test.YtmelggoagbhieaaGreatLawF13
import Derived.Test.YtmelggoagbhieaaGreatRunsAll
import Derived.Test.YtmelggoagbhieaaGreatImplX
import Derived.Test.YtmelggoagbhieaaGreatImplP
namespace Go.Proofs.YtmelggoagbhieaaGreat
open Go.RowKit
theorem nodes_rngR {g : Sg.Graph} {v ns xs : List Int} {r : List (List Int)} (h : Sg.mayWrite g ⟨v, r⟩ ns xs = true) : ∀ x ∈ ns, 0 ≤ x ∧ x < (g.length : Int) := by
  obtain ⟨hV, hcd, hlen, hx⟩ := Sg.mayWrite_parts h
  intro x hx
  obtain ⟨j, n, rfl, h2, _⟩ := Sg.nodes_in hcd x hx
  have := (List.getElem?_eq_some_iff.1 h2).1
  exact ⟨by omega, by omega⟩
set_option maxRecDepth 100000 in
set_option maxHeartbeats 8000000 in
theorem ex_FnWriteEagerRuns (A : Option Addr) (c : Nat) (l : List Int) (w : World) (h : Rd w 1 A l.length (u8s l)) (hr : ∀ x ∈ l, 0 ≤ x ∧ x ≤ 255) (hc : l.length ≤ c) (hcm : c ≤ maxLen) :
    Calls Tryz.prog 4 #[.slice A l.length c] w fun e w' => e = .returned (.bool true) ∧ Ext w w' := by
  have hbig := h.big
  have HD := Lib.hid (s_DrawWriteEager A c l w h hr hc hcm)
  clear h hr hc hcm
  by_cases hb : 1048576 < l.length
  · have hb2 : (1048576 : Int) < (l.length : Int) := by omega
    go_enter Tryz.func4, Tryz.ntmps4
    go_wp2
    go_ret
    exact ⟨rfl, Ext.rfl' _⟩
  have hb2 : ¬ (1048576 : Int) < (l.length : Int) := by omega
  clear hb
  have E0 := Lib.hid ((Ext.rfl' w) : Ext w w)
  go_enter Tryz.func4, Tryz.ntmps4
  go_wp2_with fail
  refine (HD.out).mono ?_
  rintro e w1 ⟨g, Ag, cg, v, Av, cv, r, Ar, cr, ns, An, cn, xs, Ax, cx, rfl, hg2, hg10, hvl, hrl, hnx, hn3, hnc, hcm, hN, hV, hR, hNs, hXs, he1⟩
  have H1 := Lib.hid hN
  have V1 := Lib.hid hV
  have R1 := Lib.hid hR
  have N1 := Lib.hid hNs
  have X1 := Lib.hid hXs
  have hvl9 : v.length ≤ 1048576 := by omega
  have HNX := Lib.hid hnx
  clear hnx hN hV hR hNs hXs HD
  have U1 := Lib.hid ((Ext.rfl' w).tr he1)
  have E1 := Lib.hid (E0.out.tr U1.out)
  clear he1 
  obtain ⟨hsm, hsr⟩ := writeOr_small g v r ns xs
  obtain ⟨⟨ov, orr⟩, rn, hW⟩ : ∃ (o : Sg.Eager) (rn : List Int), Sg.writeOr g ⟨v, r⟩ ns xs = (o, rn) := ⟨_, _, rfl⟩
  rw [hW] at hsm
  have SM := Lib.hid (show SmallE ⟨ov, orr⟩ from hsm)
  clear hsm hsr
  have HI := Lib.hid (fun w h hv hr hn hw => by have := i_WriteEager Ag Av Ar An Ax cg cv cr cn cx g v ns xs r w h hv hr hn hw hvl9 hnc hcm; rw [hW] at this; exact this)
  have HS := Lib.hid (fun w h hv hr hn hw => by have := s_WriteEager Ag Av Ar An Ax cg cv cr cn cx g v ns xs r w h hv hr hn hw hvl9 hnc hcm; rw [hW] at this; exact this)
  have HV := Lib.hid (fun w h hv hr => i_ValidEager Ag Av Ar cg cv cr g v r w h hv hr)
  cases hE : Sg.validE g ⟨v, r⟩
  · have HE := Lib.hid hE
    clear hE hW
    go_wp2_with fail
    refine (HI.out _ (H1.out.ext (Ext.al (Ext.al (Ext.rfl' w1) (.cells #[.slice Ag g.length cg] 25)) (.cells #[.slice Av v.length cv, .slice Ar r.length cr] 29))) (V1.out.ext (Ext.al (Ext.al (Ext.rfl' w1) (.cells #[.slice Ag g.length cg] 25)) (.cells #[.slice Av v.length cv, .slice Ar r.length cr] 29))) (R1.out.ext (Ext.al (Ext.al (Ext.rfl' w1) (.cells #[.slice Ag g.length cg] 25)) (.cells #[.slice Av v.length cv, .slice Ar r.length cr] 29))) (N1.out.ext (Ext.al (Ext.al (Ext.rfl' w1) (.cells #[.slice Ag g.length cg] 25)) (.cells #[.slice Av v.length cv, .slice Ar r.length cr] 29))) (X1.out.ext (Ext.al (Ext.al (Ext.rfl' w1) (.cells #[.slice Ag g.length cg] 25)) (.cells #[.slice Av v.length cv, .slice Ar r.length cr] 29)))).mono ?_
    rintro e w2 ⟨A2, c2, A3, c3, hs2, A4, c4, rfl, hoe, hor, hdj, he2⟩
    have Hv2 := Lib.hid hoe.v.rd
    have Hr2 := Lib.hid (OwnL.rdL hoe.r SM.out.r SM.out.e)
    have Hn2 := Lib.hid hor.rd
    clear hoe hor hdj
    have U2 := Lib.hid ((Ext.al (Ext.al (Ext.rfl' w1) (.cells #[.slice Ag g.length cg] 25)) (.cells #[.slice Av v.length cv, .slice Ar r.length cr] 29)).tr he2)
    have E2 := Lib.hid (E1.out.tr U2.out)
    have lg_2 := he2.cellE (show World.cell? (World.alloc (World.alloc w1 (.cells #[.slice Ag g.length cg] 25)) (.cells #[.slice Av v.length cv, .slice Ar r.length cr] 29)) ⟨w1.heap.size, 0, none⟩ = some (.slice Ag g.length cg) by simp [go_sem])
    have lv_2 := he2.cellE (show World.cell? (World.alloc (World.alloc w1 (.cells #[.slice Ag g.length cg] 25)) (.cells #[.slice Av v.length cv, .slice Ar r.length cr] 29)) ⟨w1.heap.size + 1, 0, none⟩ = some (.slice Av v.length cv) by simp [go_sem])
    have lr_2 := he2.cellE (show World.cell? (World.alloc (World.alloc w1 (.cells #[.slice Ag g.length cg] 25)) (.cells #[.slice Av v.length cv, .slice Ar r.length cr] 29)) ⟨w1.heap.size + 1, 1, none⟩ = some (.slice Ar r.length cr) by simp [go_sem])
    clear he2 
    have blg_2 := blt lg_2
    have blv_2 := blt lv_2
    have blr_2 := blt lr_2
    go_wp2_with fail
    refine (HS.out _ (H1.out.ext (Ext.al ((Ext.rfl' w1).tr U2.out) (.cells #[.slice A2 ov.length c2, .slice A3 orr.length c3] 29))) (V1.out.ext (Ext.al ((Ext.rfl' w1).tr U2.out) (.cells #[.slice A2 ov.length c2, .slice A3 orr.length c3] 29))) (R1.out.ext (Ext.al ((Ext.rfl' w1).tr U2.out) (.cells #[.slice A2 ov.length c2, .slice A3 orr.length c3] 29))) (N1.out.ext (Ext.al ((Ext.rfl' w1).tr U2.out) (.cells #[.slice A2 ov.length c2, .slice A3 orr.length c3] 29))) (X1.out.ext (Ext.al ((Ext.rfl' w1).tr U2.out) (.cells #[.slice A2 ov.length c2, .slice A3 orr.length c3] 29)))).mono ?_
    rintro e w3 ⟨A5, c5, A6, c6, hs5, A7, c7, rfl, hoe, hor, hdj, he3⟩
    have Hv5 := Lib.hid hoe.v.rd
    have Hr5 := Lib.hid (OwnL.rdL hoe.r SM.out.r SM.out.e)
    have Hn5 := Lib.hid hor.rd
    clear hoe hor hdj
    have U3 := Lib.hid ((Ext.al (Ext.rfl' w2) (.cells #[.slice A2 ov.length c2, .slice A3 orr.length c3] 29)).tr he3)
    have E3 := Lib.hid (E2.out.tr U3.out)
    have lg_3 := U3.out.cellE lg_2
    have lv_3 := U3.out.cellE lv_2
    have lr_3 := U3.out.cellE lr_2
    have pv_3 := he3.cellE (show World.cell? (World.alloc w2 (.cells #[.slice A2 ov.length c2, .slice A3 orr.length c3] 29)) ⟨w2.heap.size, 0, none⟩ = some (.slice A2 ov.length c2) by simp [go_sem])
    have pr_3 := he3.cellE (show World.cell? (World.alloc w2 (.cells #[.slice A2 ov.length c2, .slice A3 orr.length c3] 29)) ⟨w2.heap.size, 1, none⟩ = some (.slice A3 orr.length c3) by simp [go_sem])
    clear he3 lg_2 lv_2 lr_2 blg_2 blv_2 blr_2
    have blg_3 := blt lg_3
    have blv_3 := blt lv_3
    have blr_3 := blt lr_3
    have bpv_3 := blt pv_3
    have bpr_3 := blt pr_3
    go_wp2_with fail
    refine (l_equalEager A2 A5 A3 A6 c2 c5 c3 c6 ov orr _ (Hv2.out.ext (Ext.al ((Ext.rfl' w2).tr U3.out) (.cells #[.slice A5 ov.length c5, .slice A6 orr.length c6] 29))) (Hv5.out.ext (Ext.al (Ext.rfl' w3) (.cells #[.slice A5 ov.length c5, .slice A6 orr.length c6] 29))) (Hr2.out.ext (Ext.al ((Ext.rfl' w2).tr U3.out) (.cells #[.slice A5 ov.length c5, .slice A6 orr.length c6] 29))) (Hr5.out.ext (Ext.al (Ext.rfl' w3) (.cells #[.slice A5 ov.length c5, .slice A6 orr.length c6] 29)))).mono ?_
    rintro e w4 ⟨rfl, he4⟩
    have U4 := Lib.hid ((Ext.al (Ext.rfl' w3) (.cells #[.slice A5 ov.length c5, .slice A6 orr.length c6] 29)).tr he4)
    have E4 := Lib.hid (E3.out.tr U4.out)
    have lg_4 := U4.out.cellE lg_3
    have lv_4 := U4.out.cellE lv_3
    have lr_4 := U4.out.cellE lr_3
    have pv_4 := U4.out.cellE pv_3
    have pr_4 := U4.out.cellE pr_3
    have qv_4 := he4.cellE (show World.cell? (World.alloc w3 (.cells #[.slice A5 ov.length c5, .slice A6 orr.length c6] 29)) ⟨w3.heap.size, 0, none⟩ = some (.slice A5 ov.length c5) by simp [go_sem])
    have qr_4 := he4.cellE (show World.cell? (World.alloc w3 (.cells #[.slice A5 ov.length c5, .slice A6 orr.length c6] 29)) ⟨w3.heap.size, 1, none⟩ = some (.slice A6 orr.length c6) by simp [go_sem])
    clear he4 lg_3 lv_3 lr_3 pv_3 pr_3 blg_3 blv_3 blr_3 bpv_3 bpr_3
    have blg_4 := blt lg_4
    have blv_4 := blt lv_4
    have blr_4 := blt lr_4
    have bpv_4 := blt pv_4
    have bpr_4 := blt pr_4
    have bqv_4 := blt qv_4
    have bqr_4 := blt qr_4
    go_wp2_with fail
    refine (l_equalInts A4 A7 c4 c7 rn _ (Hn2.out.ext (((Ext.rfl' w2).tr U3.out).tr U4.out)) (Hn5.out.ext ((Ext.rfl' w3).tr U4.out))).mono ?_
    rintro e w5 ⟨rfl, he5⟩
    have U5 := Lib.hid ((Ext.rfl' w4).tr he5)
    have E5 := Lib.hid (E4.out.tr U5.out)
    have lg_5 := U5.out.cellE lg_4
    have lv_5 := U5.out.cellE lv_4
    have lr_5 := U5.out.cellE lr_4
    have pv_5 := U5.out.cellE pv_4
    have pr_5 := U5.out.cellE pr_4
    have qv_5 := U5.out.cellE qv_4
    have qr_5 := U5.out.cellE qr_4
    clear he5 lg_4 lv_4 lr_4 pv_4 pr_4 qv_4 qr_4 blg_4 blv_4 blr_4 bpv_4 bpr_4 bqv_4 bqr_4
    have blg_5 := blt lg_5
    have blv_5 := blt lv_5
    have blr_5 := blt lr_5
    have bpv_5 := blt pv_5
    have bpr_5 := blt pr_5
    have bqv_5 := blt qv_5
    have bqr_5 := blt qr_5
    go_wp2_with fail
    refine (HV.out _ (H1.out.ext (((((Ext.rfl' w1).tr U2.out).tr U3.out).tr U4.out).tr U5.out)) (V1.out.ext (((((Ext.rfl' w1).tr U2.out).tr U3.out).tr U4.out).tr U5.out)) (R1.out.ext (((((Ext.rfl' w1).tr U2.out).tr U3.out).tr U4.out).tr U5.out))).mono ?_
    rintro e w6 ⟨rfl, he6⟩
    rw [HE.out]
    have U6 := Lib.hid ((Ext.rfl' w5).tr he6)
    have E6 := Lib.hid (E5.out.tr U6.out)
    have lg_6 := U6.out.cellE lg_5
    have lv_6 := U6.out.cellE lv_5
    have lr_6 := U6.out.cellE lr_5
    have pv_6 := U6.out.cellE pv_5
    have pr_6 := U6.out.cellE pr_5
    have qv_6 := U6.out.cellE qv_5
    have qr_6 := U6.out.cellE qr_5
    clear he6 lg_5 lv_5 lr_5 pv_5 pr_5 qv_5 qr_5 blg_5 blv_5 blr_5 bpv_5 bpr_5 bqv_5 bqr_5
    have blg_6 := blt lg_6
    have blv_6 := blt lv_6
    have blr_6 := blt lr_6
    have bpv_6 := blt pv_6
    have bpr_6 := blt pr_6
    have bqv_6 := blt qv_6
    have bqr_6 := blt qr_6
    go_wp2_with fail
    refine (l_equalEager A2 A5 A3 A6 c2 c5 c3 c6 ov orr _ (Hv2.out.ext (((((Ext.rfl' w2).tr U3.out).tr U4.out).tr U5.out).tr U6.out)) (Hv5.out.ext ((((Ext.rfl' w3).tr U4.out).tr U5.out).tr U6.out)) (Hr2.out.ext (((((Ext.rfl' w2).tr U3.out).tr U4.out).tr U5.out).tr U6.out)) (Hr5.out.ext ((((Ext.rfl' w3).tr U4.out).tr U5.out).tr U6.out))).mono ?_
    rintro e w7 ⟨rfl, he7⟩
    have U7 := Lib.hid ((Ext.rfl' w6).tr he7)
    have E7 := Lib.hid (E6.out.tr U7.out)
    have lg_7 := U7.out.cellE lg_6
    have lv_7 := U7.out.cellE lv_6
    have lr_7 := U7.out.cellE lr_6
    have pv_7 := U7.out.cellE pv_6
    have pr_7 := U7.out.cellE pr_6
    have qv_7 := U7.out.cellE qv_6
    have qr_7 := U7.out.cellE qr_6
    clear he7 lg_6 lv_6 lr_6 pv_6 pr_6 qv_6 qr_6 blg_6 blv_6 blr_6 bpv_6 bpr_6 bqv_6 bqr_6
    have blg_7 := blt lg_7
    have blv_7 := blt lv_7
    have blr_7 := blt lr_7
    have bpv_7 := blt pv_7
    have bpr_7 := blt pr_7
    have bqv_7 := blt qv_7
    have bqr_7 := blt qr_7
    go_wp2_with fail
    refine (l_equalInts A4 A7 c4 c7 rn _ (Hn2.out.ext ((((((Ext.rfl' w2).tr U3.out).tr U4.out).tr U5.out).tr U6.out).tr U7.out)) (Hn5.out.ext (((((Ext.rfl' w3).tr U4.out).tr U5.out).tr U6.out).tr U7.out))).mono ?_
    rintro e w8 ⟨rfl, he8⟩
    have U8 := Lib.hid ((Ext.rfl' w7).tr he8)
    have E8 := Lib.hid (E7.out.tr U8.out)
    have lg_8 := U8.out.cellE lg_7
    have lv_8 := U8.out.cellE lv_7
    have lr_8 := U8.out.cellE lr_7
    have pv_8 := U8.out.cellE pv_7
    have pr_8 := U8.out.cellE pr_7
    have qv_8 := U8.out.cellE qv_7
    have qr_8 := U8.out.cellE qr_7
    clear he8 lg_7 lv_7 lr_7 pv_7 pr_7 qv_7 qr_7 blg_7 blv_7 blr_7 bpv_7 bpr_7 bqv_7 bqr_7
    have blg_8 := blt lg_8
    have blv_8 := blt lv_8
    have blr_8 := blt lr_8
    have bpv_8 := blt pv_8
    have bpr_8 := blt pr_8
    have bqv_8 := blt qv_8
    have bqr_8 := blt qr_8
    go_wp2
    go_ret
    exact ⟨rfl, E8.out⟩
  · have HE := Lib.hid hE
    by_cases hl : ov.length = v.length
    · have hm : Sg.mayWrite g ⟨v, r⟩ ns xs = true := by
        cases hm : Sg.mayWrite g ⟨v, r⟩ ns xs
        · exfalso; unfold Sg.writeOr at hW; rw [hm] at hW; have e1 : ov = [] := (congrArg (fun p => p.1.vals) hW).symm; subst e1; have h2 : v.length = g.length := (Sg.validE_parts hE).2.1; simp at hl; omega
        · rfl
      have hWe : Sg.writeE g ⟨v, r⟩ ns xs = (⟨ov, orr⟩, rn) := by rw [← hW]; unfold Sg.writeOr; rw [if_pos hm]
      have hws := Sg.write_start hm
      rw [hWe] at hws
      have hrn : Sg.mustOr g (Sg.cellsOf g v) (Sg.writtenL (Sg.cellsOf g v) ns xs) = rn := (congrArg Prod.snd hws).symm
      have hmy : ∀ x ∈ rn, x ∈ Sg.mayRunL g ns := fun x hx => Sg.must_may hm x (by rw [hrn]; exact hx)
      have has : ∀ (i : Nat) (x y : Int), rn[i]? = some x → rn[i + 1]? = some y → x < y := by
        rw [← hrn]; unfold Sg.mustOr; split
        · exact Sg.whichL_asc _ _
        · intro i x y hx; simp at hx
      have hcc : Sg.cellsE g ⟨v, r⟩ = Sg.cellsOf g v := by unfold Sg.cellsE; rw [if_pos hE]
      have hvg : v.length = g.length := (Sg.validE_parts hE).2.1
      have hNR0 := nodes_rngR hm
      have hcll0 : (Sg.cellsOf g v).length = g.length := by rw [Sg.length_cellsOf]; exact hvg
      obtain ⟨cl, hcl0⟩ : ∃ cl, cl = Sg.cellsOf g v := ⟨_, rfl⟩
      rw [← hcl0] at hcc hrn hcll0
      obtain ⟨bl, hbl0⟩ : ∃ bl, bl = Sg.writtenL cl ns xs := ⟨_, rfl⟩
      rw [← hbl0] at hrn
      obtain ⟨my, hmy0⟩ : ∃ my, my = Sg.mayRunL g ns := ⟨_, rfl⟩
      rw [← hmy0] at hmy
      have hbll : bl.length = cl.length := by rw [hbl0, Sg.writtenL_len]
      have hcl10 : cl.length ≤ 4194304 := by omega
      have hNR : ∀ x ∈ ns, 0 ≤ x ∧ x < (cl.length : Int) := by rw [hcll0]; exact hNR0
      have HCC := Lib.hid (fun w h hv hr => by have := i_CellsOf Ag Av Ar cg cv cr g v r w h hv hr hvl9; rw [hcc] at this; exact this)
      have HWR := Lib.hid (fun A4 c4 w h hn hx => by have := l_written A4 An Ax c4 cn cx cl ns xs w h hn hx HNX.out hNR hcl10 (by omega); rw [← hbl0] at this; exact this)
      have HMR := Lib.hid (fun A8 A9 c8 c9 w (h : RdN w Ag g) (ha : Rd w 1 A8 cl.length (ints cl)) (hb : Rd w 1 A9 cl.length (ints bl)) => by have := i_MustRun Ag A8 A9 cg c8 c9 g cl bl w h ha (by rw [hbll]; exact hb); rw [hrn, hbll] at this; exact this)
      have HMY := Lib.hid (fun w h hn => by have := i_MayRun Ag An cg cn g ns w h hn hnc hcm; rw [← hmy0] at this; exact this)
      have HAS := Lib.hid (fun A4 c4 w h => l_ascends A4 c4 rn w h has)
      have HWI := Lib.hid (fun A4 A9 c4 c9 w h k => l_within A4 A9 c4 c9 rn my w h k hmy)
      have HL := Lib.hid hl
      have z1 : ((ov.length : Int) == (v.length : Int)) = true := by simp [hl]
      have z3 : ((g.length : Int) == 0) = false := by rw [beq_eq_false_iff_ne]; omega
      clear hE hW hm hWe hl hws hrn hmy has hcc hvg hNR0 hcll0 hcl0 hbl0 hmy0 hbll hcl10 hNR
      go_wp2_with fail
      refine (HI.out _ (H1.out.ext (Ext.al (Ext.al (Ext.rfl' w1) (.cells #[.slice Ag g.length cg] 25)) (.cells #[.slice Av v.length cv, .slice Ar r.length cr] 29))) (V1.out.ext (Ext.al (Ext.al (Ext.rfl' w1) (.cells #[.slice Ag g.length cg] 25)) (.cells #[.slice Av v.length cv, .slice Ar r.length cr] 29))) (R1.out.ext (Ext.al (Ext.al (Ext.rfl' w1) (.cells #[.slice Ag g.length cg] 25)) (.cells #[.slice Av v.length cv, .slice Ar r.length cr] 29))) (N1.out.ext (Ext.al (Ext.al (Ext.rfl' w1) (.cells #[.slice Ag g.length cg] 25)) (.cells #[.slice Av v.length cv, .slice Ar r.length cr] 29))) (X1.out.ext (Ext.al (Ext.al (Ext.rfl' w1) (.cells #[.slice Ag g.length cg] 25)) (.cells #[.slice Av v.length cv, .slice Ar r.length cr] 29)))).mono ?_
      rintro e w2 ⟨A2, c2, A3, c3, hs2, A4, c4, rfl, hoe, hor, hdj, he2⟩
      have Hv2 := Lib.hid hoe.v.rd
      have Hr2 := Lib.hid (OwnL.rdL hoe.r SM.out.r SM.out.e)
      have Hn2 := Lib.hid hor.rd
      clear hoe hor hdj
      have U2 := Lib.hid ((Ext.al (Ext.al (Ext.rfl' w1) (.cells #[.slice Ag g.length cg] 25)) (.cells #[.slice Av v.length cv, .slice Ar r.length cr] 29)).tr he2)
      have E2 := Lib.hid (E1.out.tr U2.out)
      have lg_2 := he2.cellE (show World.cell? (World.alloc (World.alloc w1 (.cells #[.slice Ag g.length cg] 25)) (.cells #[.slice Av v.length cv, .slice Ar r.length cr] 29)) ⟨w1.heap.size, 0, none⟩ = some (.slice Ag g.length cg) by simp [go_sem])
      have lv_2 := he2.cellE (show World.cell? (World.alloc (World.alloc w1 (.cells #[.slice Ag g.length cg] 25)) (.cells #[.slice Av v.length cv, .slice Ar r.length cr] 29)) ⟨w1.heap.size + 1, 0, none⟩ = some (.slice Av v.length cv) by simp [go_sem])
      have lr_2 := he2.cellE (show World.cell? (World.alloc (World.alloc w1 (.cells #[.slice Ag g.length cg] 25)) (.cells #[.slice Av v.length cv, .slice Ar r.length cr] 29)) ⟨w1.heap.size + 1, 1, none⟩ = some (.slice Ar r.length cr) by simp [go_sem])
      clear he2 
      have blg_2 := blt lg_2
      have blv_2 := blt lv_2
      have blr_2 := blt lr_2
      go_wp2_with fail
      refine (HS.out _ (H1.out.ext (Ext.al ((Ext.rfl' w1).tr U2.out) (.cells #[.slice A2 ov.length c2, .slice A3 orr.length c3] 29))) (V1.out.ext (Ext.al ((Ext.rfl' w1).tr U2.out) (.cells #[.slice A2 ov.length c2, .slice A3 orr.length c3] 29))) (R1.out.ext (Ext.al ((Ext.rfl' w1).tr U2.out) (.cells #[.slice A2 ov.length c2, .slice A3 orr.length c3] 29))) (N1.out.ext (Ext.al ((Ext.rfl' w1).tr U2.out) (.cells #[.slice A2 ov.length c2, .slice A3 orr.length c3] 29))) (X1.out.ext (Ext.al ((Ext.rfl' w1).tr U2.out) (.cells #[.slice A2 ov.length c2, .slice A3 orr.length c3] 29)))).mono ?_
      rintro e w3 ⟨A5, c5, A6, c6, hs5, A7, c7, rfl, hoe, hor, hdj, he3⟩
      have Hv5 := Lib.hid hoe.v.rd
      have Hr5 := Lib.hid (OwnL.rdL hoe.r SM.out.r SM.out.e)
      have Hn5 := Lib.hid hor.rd
      clear hoe hor hdj
      have U3 := Lib.hid ((Ext.al (Ext.rfl' w2) (.cells #[.slice A2 ov.length c2, .slice A3 orr.length c3] 29)).tr he3)
      have E3 := Lib.hid (E2.out.tr U3.out)
      have lg_3 := U3.out.cellE lg_2
      have lv_3 := U3.out.cellE lv_2
      have lr_3 := U3.out.cellE lr_2
      have pv_3 := he3.cellE (show World.cell? (World.alloc w2 (.cells #[.slice A2 ov.length c2, .slice A3 orr.length c3] 29)) ⟨w2.heap.size, 0, none⟩ = some (.slice A2 ov.length c2) by simp [go_sem])
      have pr_3 := he3.cellE (show World.cell? (World.alloc w2 (.cells #[.slice A2 ov.length c2, .slice A3 orr.length c3] 29)) ⟨w2.heap.size, 1, none⟩ = some (.slice A3 orr.length c3) by simp [go_sem])
      clear he3 lg_2 lv_2 lr_2 blg_2 blv_2 blr_2
      have blg_3 := blt lg_3
      have blv_3 := blt lv_3
      have blr_3 := blt lr_3
      have bpv_3 := blt pv_3
      have bpr_3 := blt pr_3
      go_wp2_with fail
      refine (l_equalEager A2 A5 A3 A6 c2 c5 c3 c6 ov orr _ (Hv2.out.ext (Ext.al ((Ext.rfl' w2).tr U3.out) (.cells #[.slice A5 ov.length c5, .slice A6 orr.length c6] 29))) (Hv5.out.ext (Ext.al (Ext.rfl' w3) (.cells #[.slice A5 ov.length c5, .slice A6 orr.length c6] 29))) (Hr2.out.ext (Ext.al ((Ext.rfl' w2).tr U3.out) (.cells #[.slice A5 ov.length c5, .slice A6 orr.length c6] 29))) (Hr5.out.ext (Ext.al (Ext.rfl' w3) (.cells #[.slice A5 ov.length c5, .slice A6 orr.length c6] 29)))).mono ?_
      rintro e w4 ⟨rfl, he4⟩
      have U4 := Lib.hid ((Ext.al (Ext.rfl' w3) (.cells #[.slice A5 ov.length c5, .slice A6 orr.length c6] 29)).tr he4)
      have E4 := Lib.hid (E3.out.tr U4.out)
      have lg_4 := U4.out.cellE lg_3
      have lv_4 := U4.out.cellE lv_3
      have lr_4 := U4.out.cellE lr_3
      have pv_4 := U4.out.cellE pv_3
      have pr_4 := U4.out.cellE pr_3
      have qv_4 := he4.cellE (show World.cell? (World.alloc w3 (.cells #[.slice A5 ov.length c5, .slice A6 orr.length c6] 29)) ⟨w3.heap.size, 0, none⟩ = some (.slice A5 ov.length c5) by simp [go_sem])
      have qr_4 := he4.cellE (show World.cell? (World.alloc w3 (.cells #[.slice A5 ov.length c5, .slice A6 orr.length c6] 29)) ⟨w3.heap.size, 1, none⟩ = some (.slice A6 orr.length c6) by simp [go_sem])
      clear he4 lg_3 lv_3 lr_3 pv_3 pr_3 blg_3 blv_3 blr_3 bpv_3 bpr_3
      have blg_4 := blt lg_4
      have blv_4 := blt lv_4
      have blr_4 := blt lr_4
      have bpv_4 := blt pv_4
      have bpr_4 := blt pr_4
      have bqv_4 := blt qv_4
      have bqr_4 := blt qr_4
      go_wp2_with fail
      refine (l_equalInts A4 A7 c4 c7 rn _ (Hn2.out.ext (((Ext.rfl' w2).tr U3.out).tr U4.out)) (Hn5.out.ext ((Ext.rfl' w3).tr U4.out))).mono ?_
      rintro e w5 ⟨rfl, he5⟩
      have U5 := Lib.hid ((Ext.rfl' w4).tr he5)
      have E5 := Lib.hid (E4.out.tr U5.out)
      have lg_5 := U5.out.cellE lg_4
      have lv_5 := U5.out.cellE lv_4
      have lr_5 := U5.out.cellE lr_4
      have pv_5 := U5.out.cellE pv_4
      have pr_5 := U5.out.cellE pr_4
      have qv_5 := U5.out.cellE qv_4
      have qr_5 := U5.out.cellE qr_4
      clear he5 lg_4 lv_4 lr_4 pv_4 pr_4 qv_4 qr_4 blg_4 blv_4 blr_4 bpv_4 bpr_4 bqv_4 bqr_4
      have blg_5 := blt lg_5
      have blv_5 := blt lv_5
      have blr_5 := blt lr_5
      have bpv_5 := blt pv_5
      have bpr_5 := blt pr_5
      have bqv_5 := blt qv_5
      have bqr_5 := blt qr_5
      go_wp2_with fail
      refine (HV.out _ (H1.out.ext (((((Ext.rfl' w1).tr U2.out).tr U3.out).tr U4.out).tr U5.out)) (V1.out.ext (((((Ext.rfl' w1).tr U2.out).tr U3.out).tr U4.out).tr U5.out)) (R1.out.ext (((((Ext.rfl' w1).tr U2.out).tr U3.out).tr U4.out).tr U5.out))).mono ?_
      rintro e w6 ⟨rfl, he6⟩
      rw [HE.out]
      have U6 := Lib.hid ((Ext.rfl' w5).tr he6)
      have E6 := Lib.hid (E5.out.tr U6.out)
      have lg_6 := U6.out.cellE lg_5
      have lv_6 := U6.out.cellE lv_5
      have lr_6 := U6.out.cellE lr_5
      have pv_6 := U6.out.cellE pv_5
      have pr_6 := U6.out.cellE pr_5
      have qv_6 := U6.out.cellE qv_5
      have qr_6 := U6.out.cellE qr_5
      clear he6 lg_5 lv_5 lr_5 pv_5 pr_5 qv_5 qr_5 blg_5 blv_5 blr_5 bpv_5 bpr_5 bqv_5 bqr_5
      have blg_6 := blt lg_6
      have blv_6 := blt lv_6
      have blr_6 := blt lr_6
      have bpv_6 := blt pv_6
      have bpr_6 := blt pr_6
      have bqv_6 := blt qv_6
      have bqr_6 := blt qr_6
      go_wp2_with fail
      refine (HCC.out _ (H1.out.ext ((((((Ext.rfl' w1).tr U2.out).tr U3.out).tr U4.out).tr U5.out).tr U6.out)) (V1.out.ext ((((((Ext.rfl' w1).tr U2.out).tr U3.out).tr U4.out).tr U5.out).tr U6.out)) (R1.out.ext ((((((Ext.rfl' w1).tr U2.out).tr U3.out).tr U4.out).tr U5.out).tr U6.out))).mono ?_
      rintro e w7 ⟨A8, c8, rfl, hoc, he7⟩
      have Hc8 := Lib.hid hoc.rd
      clear hoc
      have U7 := Lib.hid ((Ext.rfl' w6).tr he7)
      have E7 := Lib.hid (E6.out.tr U7.out)
      have lg_7 := U7.out.cellE lg_6
      have lv_7 := U7.out.cellE lv_6
      have lr_7 := U7.out.cellE lr_6
      have pv_7 := U7.out.cellE pv_6
      have pr_7 := U7.out.cellE pr_6
      have qv_7 := U7.out.cellE qv_6
      have qr_7 := U7.out.cellE qr_6
      clear he7 lg_6 lv_6 lr_6 pv_6 pr_6 qv_6 qr_6 blg_6 blv_6 blr_6 bpv_6 bpr_6 bqv_6 bqr_6
      have blg_7 := blt lg_7
      have blv_7 := blt lv_7
      have blr_7 := blt lr_7
      have bpv_7 := blt pv_7
      have bpr_7 := blt pr_7
      have bqv_7 := blt qv_7
      have bqr_7 := blt qr_7
      go_wp2_with fail
      refine wp_region_held_drew (S := (fun W => W.cell? ⟨w1.heap.size, 0, none⟩ = some (.slice Ag g.length cg))) (by kernel_rfl) ?_ (fun hHeld => ?_)
      · exact ((Ext.rfl' _).dr).cellE lg_7
      refine wpAnyH_take (i := 0) (v := ?_) (by simp only [List.getElem?_toArray, List.getElem?_cons_zero]; rfl) (by kernel_rfl) (by kernel_rfl) (by kernel_rfl) (by exact fun _ _ _ h => h) (Or.inl ⟨by kernel_rfl, ?_⟩) (by assumption) ?_
      rotate_left
      · intro w hSw; (try dsimp only at hSw); go_simp; try with_reducible rfl
      try simp only [Act.put, List.setIfInBounds_toArray, List.set_cons_zero, List.set_cons_succ]
      refine wpAnyH_take (i := 1) (v := ?_) (by simp only [List.getElem?_toArray, List.getElem?_cons_succ, List.getElem?_cons_zero]; rfl) (by kernel_rfl) (by kernel_rfl) (by kernel_rfl) (by exact fun _ _ _ h => h) (Or.inl ⟨by kernel_rfl, ?_⟩) (by assumption) ?_
      rotate_left
      · intro w hSw; (try dsimp only at hSw); go_simp; try with_reducible rfl
      try simp only [Act.put, List.setIfInBounds_toArray, List.set_cons_zero, List.set_cons_succ]
      refine wpAnyH_take (i := 2) (v := ?_) (by simp only [List.getElem?_toArray, List.getElem?_cons_succ, List.getElem?_cons_zero]; rfl) (by kernel_rfl) (by kernel_rfl) (by kernel_rfl) (by exact fun _ _ _ h => h) (Or.inl ⟨by kernel_rfl, ?_⟩) (by assumption) ?_
      rotate_left
      · intro w hSw; (try dsimp only at hSw); go_simp; try with_reducible rfl
      try simp only [Act.put, List.setIfInBounds_toArray, List.set_cons_zero, List.set_cons_succ]
      refine wpAnyH_take (i := 3) (v := ?_) (by simp only [List.getElem?_toArray, List.getElem?_cons_succ, List.getElem?_cons_zero]; rfl) (by kernel_rfl) (by kernel_rfl) (by kernel_rfl) (by exact fun _ _ _ h => h) (Or.inl ⟨by kernel_rfl, ?_⟩) (by assumption) ?_
      rotate_left
      · intro w hSw; (try dsimp only at hSw); go_simp; try with_reducible rfl
      try simp only [Act.put, List.setIfInBounds_toArray, List.set_cons_zero, List.set_cons_succ]
      refine wpAnyH_take (i := 4) (v := ?_) (by simp only [List.getElem?_toArray, List.getElem?_cons_succ, List.getElem?_cons_zero]; rfl) (by kernel_rfl) (by kernel_rfl) (by kernel_rfl) (by exact fun _ _ _ h => h) (Or.inl ⟨by kernel_rfl, ?_⟩) (by assumption) ?_
      rotate_left
      · intro w hSw; (try dsimp only at hSw); go_simp; try with_reducible rfl
      try simp only [Act.put, List.setIfInBounds_toArray, List.set_cons_zero, List.set_cons_succ]
      refine wpAnyH_take (i := 5) (v := ?_) (by simp only [List.getElem?_toArray, List.getElem?_cons_succ, List.getElem?_cons_zero]; rfl) (by kernel_rfl) (by kernel_rfl) (by kernel_rfl) (by exact fun _ _ _ h => h) (Or.inl ⟨by kernel_rfl, ?_⟩) (by assumption) ?_
      rotate_left
      · intro w hSw; (try dsimp only at hSw); go_simp; try with_reducible rfl
      try simp only [Act.put, List.setIfInBounds_toArray, List.set_cons_zero, List.set_cons_succ]
      refine wpAnyH_ready (rs := [6]) (by kernel_rfl) (by simp) ?_
      refine AllReadyH.cons rfl (fun K hK => ?_) AllReadyH.nil
      go_simp
      refine (HWR.out A8 c8 _ (Hc8.out.ext ((Ext.rfl' w7).dr)) (N1.out.ext ((((((((Ext.rfl' w1).tr U2.out).tr U3.out).tr U4.out).tr U5.out).tr U6.out).tr U7.out).dr)) (X1.out.ext ((((((((Ext.rfl' w1).tr U2.out).tr U3.out).tr U4.out).tr U5.out).tr U6.out).tr U7.out).dr))).mono ?_
      rintro e w8 ⟨A9, c9, rfl, hob, he8⟩
      have Hb9 := Lib.hid hob.rd
      clear hob
      have U8 := Lib.hid (((Ext.rfl' w7).dr).tr he8)
      have E8 := Lib.hid (E7.out.tr U8.out)
      have lg_8 := U8.out.cellE lg_7
      have lv_8 := U8.out.cellE lv_7
      have lr_8 := U8.out.cellE lr_7
      have pv_8 := U8.out.cellE pv_7
      have pr_8 := U8.out.cellE pr_7
      have qv_8 := U8.out.cellE qv_7
      have qr_8 := U8.out.cellE qr_7
      clear he8 lg_7 lv_7 lr_7 pv_7 pr_7 qv_7 qr_7 blg_7 blv_7 blr_7 bpv_7 bpr_7 bqv_7 bqr_7
      have blg_8 := blt lg_8
      have blv_8 := blt lv_8
      have blr_8 := blt lr_8
      have bpv_8 := blt pv_8
      have bpr_8 := blt pr_8
      have bqv_8 := blt qv_8
      have bqr_8 := blt qr_8
      try go_wp2_with fail
      refine hK.out _ _ ?_ (fun hHeld2 => ?_)
      · exact lg_8
      clear hK K hHeld
      have hHeld := hHeld2
      clear hHeld2
      try simp only [Act.put, List.setIfInBounds_toArray, List.set_cons_zero, List.set_cons_succ]
      refine wpAnyH_ready (rs := [7]) (by kernel_rfl) (by simp) ?_
      refine AllReadyH.cons rfl (fun K hK => ?_) AllReadyH.nil
      go_simp
      refine (HMR.out A8 A9 c8 c9 _ (H1.out.ext ((((((((Ext.rfl' w1).tr U2.out).tr U3.out).tr U4.out).tr U5.out).tr U6.out).tr U7.out).tr U8.out)) (Hc8.out.ext ((Ext.rfl' w7).tr U8.out)) Hb9.out).mono ?_
      rintro e w9 ⟨A10, rfl, hom, he9⟩
      have Hm10 := Lib.hid hom.rd
      clear hom
      have U9 := Lib.hid ((Ext.rfl' w8).tr he9)
      have E9 := Lib.hid (E8.out.tr U9.out)
      have lg_9 := U9.out.cellE lg_8
      have lv_9 := U9.out.cellE lv_8
      have lr_9 := U9.out.cellE lr_8
      have pv_9 := U9.out.cellE pv_8
      have pr_9 := U9.out.cellE pr_8
      have qv_9 := U9.out.cellE qv_8
      have qr_9 := U9.out.cellE qr_8
      clear he9 lg_8 lv_8 lr_8 pv_8 pr_8 qv_8 qr_8 blg_8 blv_8 blr_8 bpv_8 bpr_8 bqv_8 bqr_8
      have blg_9 := blt lg_9
      have blv_9 := blt lv_9
      have blr_9 := blt lr_9
      have bpv_9 := blt pv_9
      have bpr_9 := blt pr_9
      have bqv_9 := blt qv_9
      have bqr_9 := blt qr_9
      try go_wp2_with fail
      refine hK.out _ _ ?_ (fun hHeld2 => ?_)
      · exact lg_9
      clear hK K hHeld
      have hHeld := hHeld2
      clear hHeld2
      try simp only [Act.put, List.setIfInBounds_toArray, List.set_cons_zero, List.set_cons_succ]
      refine wpAnyH_ready (rs := [8]) (by kernel_rfl) (by simp) ?_
      refine AllReadyH.cons rfl (fun K hK => ?_) AllReadyH.nil
      go_simp
      refine (l_equalInts A4 A10 c4 rn.length rn _ (Hn2.out.ext ((((((((Ext.rfl' w2).tr U3.out).tr U4.out).tr U5.out).tr U6.out).tr U7.out).tr U8.out).tr U9.out)) Hm10.out).mono ?_
      rintro e w10 ⟨rfl, he10⟩
      have U10 := Lib.hid ((Ext.rfl' w9).tr he10)
      have E10 := Lib.hid (E9.out.tr U10.out)
      have lg_10 := U10.out.cellE lg_9
      have lv_10 := U10.out.cellE lv_9
      have lr_10 := U10.out.cellE lr_9
      have pv_10 := U10.out.cellE pv_9
      have pr_10 := U10.out.cellE pr_9
      have qv_10 := U10.out.cellE qv_9
      have qr_10 := U10.out.cellE qr_9
      clear he10 lg_9 lv_9 lr_9 pv_9 pr_9 qv_9 qr_9 blg_9 blv_9 blr_9 bpv_9 bpr_9 bqv_9 bqr_9
      have blg_10 := blt lg_10
      have blv_10 := blt lv_10
      have blr_10 := blt lr_10
      have bpv_10 := blt pv_10
      have bpr_10 := blt pr_10
      have bqv_10 := blt qv_10
      have bqr_10 := blt qr_10
      try go_wp2_with fail
      refine hK.out _ _ ?_ (fun hHeld2 => ?_)
      · exact lg_10
      clear hK K hHeld
      have hHeld := hHeld2
      clear hHeld2
      try simp only [Act.put, List.setIfInBounds_toArray, List.set_cons_zero, List.set_cons_succ]
      refine wpAnyH_take (i := 9) (v := ?_) (by simp only [List.getElem?_toArray, List.getElem?_cons_succ, List.getElem?_cons_zero]; rfl) (by kernel_rfl) (by kernel_rfl) (by kernel_rfl) (by exact fun _ _ _ h => h) (Or.inl ⟨by kernel_rfl, ?_⟩) (by assumption) ?_
      rotate_left
      · intro w hSw; (try dsimp only at hSw); go_simp; try with_reducible rfl
      try simp only [Act.put, List.setIfInBounds_toArray, List.set_cons_zero, List.set_cons_succ]
      refine wpAnyH_take (i := 10) (v := ?_) (by simp only [List.getElem?_toArray, List.getElem?_cons_succ, List.getElem?_cons_zero]; rfl) (by kernel_rfl) (by kernel_rfl) (by kernel_rfl) (by exact fun _ _ _ h => h) (Or.inl ⟨by kernel_rfl, ?_⟩) (by assumption) ?_
      rotate_left
      · intro w hSw; (try dsimp only at hSw); go_simp; try with_reducible rfl
      try simp only [Act.put, List.setIfInBounds_toArray, List.set_cons_zero, List.set_cons_succ]
      refine wpAnyH_ready (rs := [11]) (by kernel_rfl) (by simp) ?_
      refine AllReadyH.cons rfl (fun K hK => ?_) AllReadyH.nil
      go_simp
      refine (HAS.out A4 c4 _ (Hn2.out.ext (((((((((Ext.rfl' w2).tr U3.out).tr U4.out).tr U5.out).tr U6.out).tr U7.out).tr U8.out).tr U9.out).tr U10.out))).mono ?_
      rintro e w11 ⟨rfl, he11⟩
      have U11 := Lib.hid ((Ext.rfl' w10).tr he11)
      have E11 := Lib.hid (E10.out.tr U11.out)
      have lg_11 := U11.out.cellE lg_10
      have lv_11 := U11.out.cellE lv_10
      have lr_11 := U11.out.cellE lr_10
      have pv_11 := U11.out.cellE pv_10
      have pr_11 := U11.out.cellE pr_10
      have qv_11 := U11.out.cellE qv_10
      have qr_11 := U11.out.cellE qr_10
      clear he11 lg_10 lv_10 lr_10 pv_10 pr_10 qv_10 qr_10 blg_10 blv_10 blr_10 bpv_10 bpr_10 bqv_10 bqr_10
      have blg_11 := blt lg_11
      have blv_11 := blt lv_11
      have blr_11 := blt lr_11
      have bpv_11 := blt pv_11
      have bpr_11 := blt pr_11
      have bqv_11 := blt qv_11
      have bqr_11 := blt qr_11
      try go_wp2_with fail
      refine hK.out _ _ ?_ (fun hHeld2 => ?_)
      · exact lg_11
      clear hK K hHeld
      have hHeld := hHeld2
      clear hHeld2
      try simp only [Act.put, List.setIfInBounds_toArray, List.set_cons_zero, List.set_cons_succ]
      refine wpAnyH_take (i := 12) (v := ?_) (by simp only [List.getElem?_toArray, List.getElem?_cons_succ, List.getElem?_cons_zero]; rfl) (by kernel_rfl) (by kernel_rfl) (by kernel_rfl) (by exact fun _ _ _ h => h) (Or.inl ⟨by kernel_rfl, ?_⟩) (by assumption) ?_
      rotate_left
      · intro w hSw; (try dsimp only at hSw); go_simp; try with_reducible rfl
      try simp only [Act.put, List.setIfInBounds_toArray, List.set_cons_zero, List.set_cons_succ]
      refine wpAnyH_take (i := 13) (v := ?_) (by simp only [List.getElem?_toArray, List.getElem?_cons_succ, List.getElem?_cons_zero]; rfl) (by kernel_rfl) (by kernel_rfl) (by kernel_rfl) (by exact fun _ _ _ h => h) (Or.inl ⟨by kernel_rfl, ?_⟩) (by assumption) ?_
      rotate_left
      · intro w hSw; (try dsimp only at hSw); go_simp; try with_reducible rfl
      try simp only [Act.put, List.setIfInBounds_toArray, List.set_cons_zero, List.set_cons_succ]
      refine wpAnyH_take (i := 14) (v := ?_) (by simp only [List.getElem?_toArray, List.getElem?_cons_succ, List.getElem?_cons_zero]; rfl) (by kernel_rfl) (by kernel_rfl) (by kernel_rfl) (by exact fun _ _ _ h => h) (Or.inl ⟨by kernel_rfl, ?_⟩) (by assumption) ?_
      rotate_left
      · intro w hSw; (try dsimp only at hSw); go_simp; try with_reducible rfl
      try simp only [Act.put, List.setIfInBounds_toArray, List.set_cons_zero, List.set_cons_succ]
      refine wpAnyH_take (i := 15) (v := ?_) (by simp only [List.getElem?_toArray, List.getElem?_cons_succ, List.getElem?_cons_zero]; rfl) (by kernel_rfl) (by kernel_rfl) (by kernel_rfl) (by exact fun _ _ _ h => h) (Or.inl ⟨by kernel_rfl, ?_⟩) (by assumption) ?_
      rotate_left
      · intro w hSw; (try dsimp only at hSw); go_simp; try with_reducible rfl
      try simp only [Act.put, List.setIfInBounds_toArray, List.set_cons_zero, List.set_cons_succ]
      refine wpAnyH_take (i := 16) (v := ?_) (by simp only [List.getElem?_toArray, List.getElem?_cons_succ, List.getElem?_cons_zero]; rfl) (by kernel_rfl) (by kernel_rfl) (by kernel_rfl) (by exact fun _ _ _ h => h) (Or.inl ⟨by kernel_rfl, ?_⟩) (by assumption) ?_
      rotate_left
      · intro w hSw; (try dsimp only at hSw); go_simp; try with_reducible rfl
      try simp only [Act.put, List.setIfInBounds_toArray, List.set_cons_zero, List.set_cons_succ]
      refine wpAnyH_ready (rs := [17]) (by kernel_rfl) (by simp) ?_
      refine AllReadyH.cons rfl (fun K hK => ?_) AllReadyH.nil
      go_simp
      refine (HMY.out _ (H1.out.ext (((((((((((Ext.rfl' w1).tr U2.out).tr U3.out).tr U4.out).tr U5.out).tr U6.out).tr U7.out).tr U8.out).tr U9.out).tr U10.out).tr U11.out)) (N1.out.ext (((((((((((Ext.rfl' w1).tr U2.out).tr U3.out).tr U4.out).tr U5.out).tr U6.out).tr U7.out).tr U8.out).tr U9.out).tr U10.out).tr U11.out))).mono ?_
      rintro e w12 ⟨A11, rfl, hoy, he12⟩
      have Hy11 := Lib.hid hoy.rd
      clear hoy
      have U12 := Lib.hid ((Ext.rfl' w11).tr he12)
      have E12 := Lib.hid (E11.out.tr U12.out)
      have lg_12 := U12.out.cellE lg_11
      have lv_12 := U12.out.cellE lv_11
      have lr_12 := U12.out.cellE lr_11
      have pv_12 := U12.out.cellE pv_11
      have pr_12 := U12.out.cellE pr_11
      have qv_12 := U12.out.cellE qv_11
      have qr_12 := U12.out.cellE qr_11
      clear he12 lg_11 lv_11 lr_11 pv_11 pr_11 qv_11 qr_11 blg_11 blv_11 blr_11 bpv_11 bpr_11 bqv_11 bqr_11
      have blg_12 := blt lg_12
      have blv_12 := blt lv_12
      have blr_12 := blt lr_12
      have bpv_12 := blt pv_12
      have bpr_12 := blt pr_12
      have bqv_12 := blt qv_12
      have bqr_12 := blt qr_12
      try go_wp2_with fail
      refine hK.out _ _ ?_ (fun hHeld2 => ?_)
      · exact lg_12
      clear hK K hHeld
      have hHeld := hHeld2
      clear hHeld2
      try simp only [Act.put, List.setIfInBounds_toArray, List.set_cons_zero, List.set_cons_succ]
      refine wpAnyH_ready (rs := [18]) (by kernel_rfl) (by simp) ?_
      refine AllReadyH.cons rfl (fun K hK => ?_) AllReadyH.nil
      go_simp
      refine (HWI.out A4 A11 c4 my.length _ (Hn2.out.ext (((((((((((Ext.rfl' w2).tr U3.out).tr U4.out).tr U5.out).tr U6.out).tr U7.out).tr U8.out).tr U9.out).tr U10.out).tr U11.out).tr U12.out)) Hy11.out).mono ?_
      rintro e w13 ⟨rfl, he13⟩
      have U13 := Lib.hid ((Ext.rfl' w12).tr he13)
      have E13 := Lib.hid (E12.out.tr U13.out)
      have lg_13 := U13.out.cellE lg_12
      have lv_13 := U13.out.cellE lv_12
      have lr_13 := U13.out.cellE lr_12
      have pv_13 := U13.out.cellE pv_12
      have pr_13 := U13.out.cellE pr_12
      have qv_13 := U13.out.cellE qv_12
      have qr_13 := U13.out.cellE qr_12
      clear he13 lg_12 lv_12 lr_12 pv_12 pr_12 qv_12 qr_12 blg_12 blv_12 blr_12 bpv_12 bpr_12 bqv_12 bqr_12
      have blg_13 := blt lg_13
      have blv_13 := blt lv_13
      have blr_13 := blt lr_13
      have bpv_13 := blt pv_13
      have bpr_13 := blt pr_13
      have bqv_13 := blt qv_13
      have bqr_13 := blt qr_13
      try go_wp2_with fail
      refine hK.out _ _ ?_ (fun hHeld2 => ?_)
      · exact lg_13
      clear hK K hHeld
      have hHeld := hHeld2
      clear hHeld2
      try simp only [Act.put, List.setIfInBounds_toArray, List.set_cons_zero, List.set_cons_succ]
      refine wpAnyH_take (i := 19) (v := ?_) (by simp only [List.getElem?_toArray, List.getElem?_cons_succ, List.getElem?_cons_zero]; rfl) (by kernel_rfl) (by kernel_rfl) (by kernel_rfl) (by exact fun _ _ _ h => h) (Or.inl ⟨by kernel_rfl, ?_⟩) (by assumption) ?_
      rotate_left
      · intro w hSw; (try dsimp only at hSw); go_simp; try with_reducible rfl
      try simp only [Act.put, List.setIfInBounds_toArray, List.set_cons_zero, List.set_cons_succ]
      refine wpAnyH_take (i := 20) (v := ?_) (by simp only [List.getElem?_toArray, List.getElem?_cons_succ, List.getElem?_cons_zero]; rfl) (by kernel_rfl) (by kernel_rfl) (by kernel_rfl) (by exact fun _ _ _ h => h) (Or.inl ⟨by kernel_rfl, ?_⟩) (by assumption) ?_
      rotate_left
      · intro w hSw; (try dsimp only at hSw); go_simp; try with_reducible rfl
      try simp only [Act.put, List.setIfInBounds_toArray, List.set_cons_zero, List.set_cons_succ]
      refine wpAnyH_done (by kernel_rfl) ?_ _
      go_wp2
      go_ret
      exact ⟨rfl, E13.out⟩
      all_goals (exfalso; have := HNX.out; omega)
    · have z1 : ((ov.length : Int) == (v.length : Int)) = false := by rw [beq_eq_false_iff_ne]; omega
      clear hE hW hl
      go_wp2_with fail
      refine (HI.out _ (H1.out.ext (Ext.al (Ext.al (Ext.rfl' w1) (.cells #[.slice Ag g.length cg] 25)) (.cells #[.slice Av v.length cv, .slice Ar r.length cr] 29))) (V1.out.ext (Ext.al (Ext.al (Ext.rfl' w1) (.cells #[.slice Ag g.length cg] 25)) (.cells #[.slice Av v.length cv, .slice Ar r.length cr] 29))) (R1.out.ext (Ext.al (Ext.al (Ext.rfl' w1) (.cells #[.slice Ag g.length cg] 25)) (.cells #[.slice Av v.length cv, .slice Ar r.length cr] 29))) (N1.out.ext (Ext.al (Ext.al (Ext.rfl' w1) (.cells #[.slice Ag g.length cg] 25)) (.cells #[.slice Av v.length cv, .slice Ar r.length cr] 29))) (X1.out.ext (Ext.al (Ext.al (Ext.rfl' w1) (.cells #[.slice Ag g.length cg] 25)) (.cells #[.slice Av v.length cv, .slice Ar r.length cr] 29)))).mono ?_
      rintro e w2 ⟨A2, c2, A3, c3, hs2, A4, c4, rfl, hoe, hor, hdj, he2⟩
      have Hv2 := Lib.hid hoe.v.rd
      have Hr2 := Lib.hid (OwnL.rdL hoe.r SM.out.r SM.out.e)
      have Hn2 := Lib.hid hor.rd
      clear hoe hor hdj
      have U2 := Lib.hid ((Ext.al (Ext.al (Ext.rfl' w1) (.cells #[.slice Ag g.length cg] 25)) (.cells #[.slice Av v.length cv, .slice Ar r.length cr] 29)).tr he2)
      have E2 := Lib.hid (E1.out.tr U2.out)
      have lg_2 := he2.cellE (show World.cell? (World.alloc (World.alloc w1 (.cells #[.slice Ag g.length cg] 25)) (.cells #[.slice Av v.length cv, .slice Ar r.length cr] 29)) ⟨w1.heap.size, 0, none⟩ = some (.slice Ag g.length cg) by simp [go_sem])
      have lv_2 := he2.cellE (show World.cell? (World.alloc (World.alloc w1 (.cells #[.slice Ag g.length cg] 25)) (.cells #[.slice Av v.length cv, .slice Ar r.length cr] 29)) ⟨w1.heap.size + 1, 0, none⟩ = some (.slice Av v.length cv) by simp [go_sem])
      have lr_2 := he2.cellE (show World.cell? (World.alloc (World.alloc w1 (.cells #[.slice Ag g.length cg] 25)) (.cells #[.slice Av v.length cv, .slice Ar r.length cr] 29)) ⟨w1.heap.size + 1, 1, none⟩ = some (.slice Ar r.length cr) by simp [go_sem])
      clear he2 
      have blg_2 := blt lg_2
      have blv_2 := blt lv_2
      have blr_2 := blt lr_2
      go_wp2_with fail
      refine (HS.out _ (H1.out.ext (Ext.al ((Ext.rfl' w1).tr U2.out) (.cells #[.slice A2 ov.length c2, .slice A3 orr.length c3] 29))) (V1.out.ext (Ext.al ((Ext.rfl' w1).tr U2.out) (.cells #[.slice A2 ov.length c2, .slice A3 orr.length c3] 29))) (R1.out.ext (Ext.al ((Ext.rfl' w1).tr U2.out) (.cells #[.slice A2 ov.length c2, .slice A3 orr.length c3] 29))) (N1.out.ext (Ext.al ((Ext.rfl' w1).tr U2.out) (.cells #[.slice A2 ov.length c2, .slice A3 orr.length c3] 29))) (X1.out.ext (Ext.al ((Ext.rfl' w1).tr U2.out) (.cells #[.slice A2 ov.length c2, .slice A3 orr.length c3] 29)))).mono ?_
      rintro e w3 ⟨A5, c5, A6, c6, hs5, A7, c7, rfl, hoe, hor, hdj, he3⟩
      have Hv5 := Lib.hid hoe.v.rd
      have Hr5 := Lib.hid (OwnL.rdL hoe.r SM.out.r SM.out.e)
      have Hn5 := Lib.hid hor.rd
      clear hoe hor hdj
      have U3 := Lib.hid ((Ext.al (Ext.rfl' w2) (.cells #[.slice A2 ov.length c2, .slice A3 orr.length c3] 29)).tr he3)
      have E3 := Lib.hid (E2.out.tr U3.out)
      have lg_3 := U3.out.cellE lg_2
      have lv_3 := U3.out.cellE lv_2
      have lr_3 := U3.out.cellE lr_2
      have pv_3 := he3.cellE (show World.cell? (World.alloc w2 (.cells #[.slice A2 ov.length c2, .slice A3 orr.length c3] 29)) ⟨w2.heap.size, 0, none⟩ = some (.slice A2 ov.length c2) by simp [go_sem])
      have pr_3 := he3.cellE (show World.cell? (World.alloc w2 (.cells #[.slice A2 ov.length c2, .slice A3 orr.length c3] 29)) ⟨w2.heap.size, 1, none⟩ = some (.slice A3 orr.length c3) by simp [go_sem])
      clear he3 lg_2 lv_2 lr_2 blg_2 blv_2 blr_2
      have blg_3 := blt lg_3
      have blv_3 := blt lv_3
      have blr_3 := blt lr_3
      have bpv_3 := blt pv_3
      have bpr_3 := blt pr_3
      go_wp2_with fail
      refine (l_equalEager A2 A5 A3 A6 c2 c5 c3 c6 ov orr _ (Hv2.out.ext (Ext.al ((Ext.rfl' w2).tr U3.out) (.cells #[.slice A5 ov.length c5, .slice A6 orr.length c6] 29))) (Hv5.out.ext (Ext.al (Ext.rfl' w3) (.cells #[.slice A5 ov.length c5, .slice A6 orr.length c6] 29))) (Hr2.out.ext (Ext.al ((Ext.rfl' w2).tr U3.out) (.cells #[.slice A5 ov.length c5, .slice A6 orr.length c6] 29))) (Hr5.out.ext (Ext.al (Ext.rfl' w3) (.cells #[.slice A5 ov.length c5, .slice A6 orr.length c6] 29)))).mono ?_
      rintro e w4 ⟨rfl, he4⟩
      have U4 := Lib.hid ((Ext.al (Ext.rfl' w3) (.cells #[.slice A5 ov.length c5, .slice A6 orr.length c6] 29)).tr he4)
      have E4 := Lib.hid (E3.out.tr U4.out)
      have lg_4 := U4.out.cellE lg_3
      have lv_4 := U4.out.cellE lv_3
      have lr_4 := U4.out.cellE lr_3
      have pv_4 := U4.out.cellE pv_3
      have pr_4 := U4.out.cellE pr_3
      have qv_4 := he4.cellE (show World.cell? (World.alloc w3 (.cells #[.slice A5 ov.length c5, .slice A6 orr.length c6] 29)) ⟨w3.heap.size, 0, none⟩ = some (.slice A5 ov.length c5) by simp [go_sem])
      have qr_4 := he4.cellE (show World.cell? (World.alloc w3 (.cells #[.slice A5 ov.length c5, .slice A6 orr.length c6] 29)) ⟨w3.heap.size, 1, none⟩ = some (.slice A6 orr.length c6) by simp [go_sem])
      clear he4 lg_3 lv_3 lr_3 pv_3 pr_3 blg_3 blv_3 blr_3 bpv_3 bpr_3
      have blg_4 := blt lg_4
      have blv_4 := blt lv_4
      have blr_4 := blt lr_4
      have bpv_4 := blt pv_4
      have bpr_4 := blt pr_4
      have bqv_4 := blt qv_4
      have bqr_4 := blt qr_4
      go_wp2_with fail
      refine (l_equalInts A4 A7 c4 c7 rn _ (Hn2.out.ext (((Ext.rfl' w2).tr U3.out).tr U4.out)) (Hn5.out.ext ((Ext.rfl' w3).tr U4.out))).mono ?_
      rintro e w5 ⟨rfl, he5⟩
      have U5 := Lib.hid ((Ext.rfl' w4).tr he5)
      have E5 := Lib.hid (E4.out.tr U5.out)
      have lg_5 := U5.out.cellE lg_4
      have lv_5 := U5.out.cellE lv_4
      have lr_5 := U5.out.cellE lr_4
      have pv_5 := U5.out.cellE pv_4
      have pr_5 := U5.out.cellE pr_4
      have qv_5 := U5.out.cellE qv_4
      have qr_5 := U5.out.cellE qr_4
      clear he5 lg_4 lv_4 lr_4 pv_4 pr_4 qv_4 qr_4 blg_4 blv_4 blr_4 bpv_4 bpr_4 bqv_4 bqr_4
      have blg_5 := blt lg_5
      have blv_5 := blt lv_5
      have blr_5 := blt lr_5
      have bpv_5 := blt pv_5
      have bpr_5 := blt pr_5
      have bqv_5 := blt qv_5
      have bqr_5 := blt qr_5
      go_wp2_with fail
      refine (HV.out _ (H1.out.ext (((((Ext.rfl' w1).tr U2.out).tr U3.out).tr U4.out).tr U5.out)) (V1.out.ext (((((Ext.rfl' w1).tr U2.out).tr U3.out).tr U4.out).tr U5.out)) (R1.out.ext (((((Ext.rfl' w1).tr U2.out).tr U3.out).tr U4.out).tr U5.out))).mono ?_
      rintro e w6 ⟨rfl, he6⟩
      rw [HE.out]
      have U6 := Lib.hid ((Ext.rfl' w5).tr he6)
      have E6 := Lib.hid (E5.out.tr U6.out)
      have lg_6 := U6.out.cellE lg_5
      have lv_6 := U6.out.cellE lv_5
      have lr_6 := U6.out.cellE lr_5
      have pv_6 := U6.out.cellE pv_5
      have pr_6 := U6.out.cellE pr_5
      have qv_6 := U6.out.cellE qv_5
      have qr_6 := U6.out.cellE qr_5
      clear he6 lg_5 lv_5 lr_5 pv_5 pr_5 qv_5 qr_5 blg_5 blv_5 blr_5 bpv_5 bpr_5 bqv_5 bqr_5
      have blg_6 := blt lg_6
      have blv_6 := blt lv_6
      have blr_6 := blt lr_6
      have bpv_6 := blt pv_6
      have bpr_6 := blt pr_6
      have bqv_6 := blt qv_6
      have bqr_6 := blt qr_6
      go_wp2_with fail
      refine (l_equalEager A2 A5 A3 A6 c2 c5 c3 c6 ov orr _ (Hv2.out.ext (((((Ext.rfl' w2).tr U3.out).tr U4.out).tr U5.out).tr U6.out)) (Hv5.out.ext ((((Ext.rfl' w3).tr U4.out).tr U5.out).tr U6.out)) (Hr2.out.ext (((((Ext.rfl' w2).tr U3.out).tr U4.out).tr U5.out).tr U6.out)) (Hr5.out.ext ((((Ext.rfl' w3).tr U4.out).tr U5.out).tr U6.out))).mono ?_
      rintro e w7 ⟨rfl, he7⟩
      have U7 := Lib.hid ((Ext.rfl' w6).tr he7)
      have E7 := Lib.hid (E6.out.tr U7.out)
      have lg_7 := U7.out.cellE lg_6
      have lv_7 := U7.out.cellE lv_6
      have lr_7 := U7.out.cellE lr_6
      have pv_7 := U7.out.cellE pv_6
      have pr_7 := U7.out.cellE pr_6
      have qv_7 := U7.out.cellE qv_6
      have qr_7 := U7.out.cellE qr_6
      clear he7 lg_6 lv_6 lr_6 pv_6 pr_6 qv_6 qr_6 blg_6 blv_6 blr_6 bpv_6 bpr_6 bqv_6 bqr_6
      have blg_7 := blt lg_7
      have blv_7 := blt lv_7
      have blr_7 := blt lr_7
      have bpv_7 := blt pv_7
      have bpr_7 := blt pr_7
      have bqv_7 := blt qv_7
      have bqr_7 := blt qr_7
      go_wp2_with fail
      refine (l_equalInts A4 A7 c4 c7 rn _ (Hn2.out.ext ((((((Ext.rfl' w2).tr U3.out).tr U4.out).tr U5.out).tr U6.out).tr U7.out)) (Hn5.out.ext (((((Ext.rfl' w3).tr U4.out).tr U5.out).tr U6.out).tr U7.out))).mono ?_
      rintro e w8 ⟨rfl, he8⟩
      have U8 := Lib.hid ((Ext.rfl' w7).tr he8)
      have E8 := Lib.hid (E7.out.tr U8.out)
      have lg_8 := U8.out.cellE lg_7
      have lv_8 := U8.out.cellE lv_7
      have lr_8 := U8.out.cellE lr_7
      have pv_8 := U8.out.cellE pv_7
      have pr_8 := U8.out.cellE pr_7
      have qv_8 := U8.out.cellE qv_7
      have qr_8 := U8.out.cellE qr_7
      clear he8 lg_7 lv_7 lr_7 pv_7 pr_7 qv_7 qr_7 blg_7 blv_7 blr_7 bpv_7 bpr_7 bqv_7 bqr_7
      have blg_8 := blt lg_8
      have blv_8 := blt lv_8
      have blr_8 := blt lr_8
      have bpv_8 := blt pv_8
      have bpr_8 := blt pr_8
      have bqv_8 := blt qv_8
      have bqr_8 := blt qr_8
      go_wp2
      go_ret
      exact ⟨rfl, E8.out⟩
end Go.Proofs.YtmelggoagbhieaaGreat
