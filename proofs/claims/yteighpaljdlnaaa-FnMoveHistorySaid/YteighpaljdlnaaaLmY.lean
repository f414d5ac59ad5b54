/- FnMoveHistory: the law's walk. Conditions: the code can be read. -/
import Derived.Test.YteighpaljdlnaaaTy
import Derived.Test.YteighpaljdlnaaaDrawW
import Derived.Test.YteighpaljdlnaaaHisS
import Derived.Test.YteighpaljdlnaaaHisI
import Derived.Test.YteighpaljdlnaaaPlH
import Derived.Test.YteighpaljdlnaaaEqAll
import Derived.Test.YteighpaljdlnaaaImplZw
namespace Go.Proofs.Yteighpaljdlnaaa
open Go.RowKit

theorem l_equalHistory (A B : Option Addr) (ca cb : Nat) (r : List (List Int)) (p : Int) (w : World) (h : RdL w A r) (k : RdL w B r) :
  Calls Try.prog 18 #[.agg #[.slice A r.length ca, .int .i64 p], .agg #[.slice B r.length cb, .int .i64 p]] w fun e w' => e = .returned (.bool true) ∧ Ext w w' := by
 have HE := lh (((Ext.rfl' w).al (.cells #[.slice A r.length ca, .int .i64 p] 44)).al (.cells #[.slice B r.length cb, .int .i64 p] 44))
 have HD := lh (fun w h k => l_equalLists A B ca cb r w h k)
 go_enter Try.func18, Try.ntmps18
 go_wp2_with fail
 refine (HD.out _ (h.ext HE.out) (k.ext HE.out)).mono ?_
 rintro e w2 ⟨rfl, he2⟩
 have e2 := HE.out.tr he2
 have k1 := he2.cellE (by simp [go_sem] : (((w.alloc (.cells #[.slice A r.length ca, .int .i64 p] 44)).alloc (.cells #[.slice B r.length cb, .int .i64 p] 44)).cell? ⟨w.heap.size, 1, none⟩ = some (.int .i64 p)))
 have k2 := he2.cellE (by simp [go_sem] : (((w.alloc (.cells #[.slice A r.length ca, .int .i64 p] 44)).alloc (.cells #[.slice B r.length cb, .int .i64 p] 44)).cell? ⟨w.heap.size + 1, 1, none⟩ = some (.int .i64 p)))
 have hne : (p == p) = true := by simp
 go_wp2
 go_ret
 exact ⟨rfl, e2⟩

set_option maxRecDepth 100000 in
set_option maxHeartbeats 8000000 in
theorem ex_FnMoveHistory (A : Option Addr) (c : Nat) (l : List Int) (w : World) (h : Rd w 1 A l.length (u8s l)) (hr : ∀ x ∈ l, 0 ≤ x ∧ x ≤ 255) (hc : l.length ≤ c) (hcm : c ≤ maxLen) :
  Calls Try.prog 4 #[.slice A l.length c] w fun e w' => e = .returned (.bool true) ∧ Ext w w' := by
 have hbig := h.big
 have HD := lh (s_DrawMoveHistory A c l w h hr hc hcm)
 clear h hr hc hcm
 by_cases hb : 1048576 < l.length
 ·have hb2 : (1048576 : Int) < (l.length : Int) := by omega
  go_enter Try.func4, Try.ntmps4
  go_wp2
  go_ret
  exact ⟨rfl, Ext.rfl' _⟩
 have hb2 : ¬ (1048576 : Int) < (l.length : Int) := by omega
 clear hb
 have E0 := lh ((Ext.rfl' w) : Ext w w)
 go_enter Try.func4, Try.ntmps4
 go_wp2_with fail
 refine (HD.out).mono ?_
 rintro e w1 ⟨g, Ag, cg, ll, Ah, ch, p, n, rfl, hg2, hg10, hll, hle, hp0, hp1, hn0, hn1, hN, hL, he1⟩
 have H1 := lh hN
 have L1 := lh hL
 have HLE := lh hle
 clear hN hL hle HD
 have U1 := lh ((Ext.rfl' w).tr he1)
 have E1 := lh (E0.out.tr U1.out)
 clear he1 
 have sz1 := U1.out.size
 cases hO : Sg.moveOk g ⟨ll, p⟩ n
 ·skip
  have hM : Sg.moveH g ⟨ll, p⟩ n = ⟨[], 0⟩ := by unfold Sg.moveH; rw [hO]; rfl
  have hE : moveC g ⟨ll, p⟩ n = [] := by unfold moveC; rw [hO]; rfl
  have HI := lh (fun w h hr => by have := i_MoveHistory Ag Ah cg ch g ll p n w h hr; rw [hM, hE, hO] at this; exact this)
  have HS := lh (fun w h hr => by have := s_MoveHistory Ag Ah cg ch g ll p n w h hr; rw [hM, hE, hO] at this; exact this)
  clear hM hE hO
  have X1_1 := lh (Ext.al (Ext.al (Ext.rfl' w1) (.cells #[.slice Ag g.length cg] 25)) (.cells #[.slice Ah ll.length ch, .int .i64 p] 44))
  go_wp2_with fail
  refine (HI.out _ (H1.out.ext X1_1.out) (L1.out.ext X1_1.out)).mono ?_
  rintro e w2 ⟨A2, c2, hs2, B2, d2, rfl, hol, hoi, -, he2⟩
  have Hl2 := lh (OwnL.rdL hol (by simp) (by simp))
  have Hi2 := lh hoi.rd
  clear hol hoi
  have U2 := lh ((Ext.al (Ext.al (Ext.rfl' w1) (.cells #[.slice Ag g.length cg] 25)) (.cells #[.slice Ah ll.length ch, .int .i64 p] 44)).tr he2)
  have E2 := lh (E1.out.tr U2.out)
  have lg_2 := he2.cellE (show World.cell? (World.alloc (World.alloc w1 (.cells #[.slice Ag g.length cg] 25)) (.cells #[.slice Ah ll.length ch, .int .i64 p] 44)) ⟨w1.heap.size, 0, none⟩ = some (.slice Ag g.length cg) by simp [go_sem])
  have h0_2 := he2.cellE (show World.cell? (World.alloc (World.alloc w1 (.cells #[.slice Ag g.length cg] 25)) (.cells #[.slice Ah ll.length ch, .int .i64 p] 44)) ⟨w1.heap.size + 1, 0, none⟩ = some (.slice Ah ll.length ch) by simp [go_sem])
  have h1_2 := he2.cellE (show World.cell? (World.alloc (World.alloc w1 (.cells #[.slice Ag g.length cg] 25)) (.cells #[.slice Ah ll.length ch, .int .i64 p] 44)) ⟨w1.heap.size + 1, 1, none⟩ = some (.int .i64 p) by simp [go_sem])
  clear he2 X1_1
  have blg_2 := blt lg_2
  have bh0_2 := blt h0_2
  have bh1_2 := blt h1_2
  have sz2 := U2.out.size
  have X2_2 := lh (Ext.al ((Ext.rfl' w1).tr U2.out) (.cells #[.slice A2 ([] : List (List Int)).length c2, .int .i64 0] 44))
  go_wp2_with fail
  refine (HS.out _ (H1.out.ext X2_2.out) (L1.out.ext X2_2.out)).mono ?_
  rintro e w3 ⟨A3, c3, hs3, B3, d3, rfl, hol, hoi, -, he3⟩
  have Hl3 := lh (OwnL.rdL hol (by simp) (by simp))
  have Hi3 := lh hoi.rd
  clear hol hoi
  have U3 := lh ((Ext.al (Ext.rfl' w2) (.cells #[.slice A2 ([] : List (List Int)).length c2, .int .i64 0] 44)).tr he3)
  have E3 := lh (E2.out.tr U3.out)
  have lg_3 := U3.out.cellE lg_2
  have h0_3 := U3.out.cellE h0_2
  have h1_3 := U3.out.cellE h1_2
  have p0_3 := he3.cellE (show World.cell? (World.alloc w2 (.cells #[.slice A2 ([] : List (List Int)).length c2, .int .i64 0] 44)) ⟨w2.heap.size, 0, none⟩ = some (.slice A2 ([] : List (List Int)).length c2) by simp [go_sem])
  have p1_3 := he3.cellE (show World.cell? (World.alloc w2 (.cells #[.slice A2 ([] : List (List Int)).length c2, .int .i64 0] 44)) ⟨w2.heap.size, 1, none⟩ = some (.int .i64 0) by simp [go_sem])
  clear he3 lg_2 h0_2 h1_2 blg_2 bh0_2 bh1_2 X2_2
  have blg_3 := blt lg_3
  have bh0_3 := blt h0_3
  have bh1_3 := blt h1_3
  have bp0_3 := blt p0_3
  have bp1_3 := blt p1_3
  have sz3 := U3.out.size
  have X3_3 := lh (Ext.al ((Ext.rfl' w2).tr U3.out) (.cells #[.slice A3 ([] : List (List Int)).length c3, .int .i64 0] 44))
  have X3_4 := lh (Ext.al (Ext.rfl' w3) (.cells #[.slice A3 ([] : List (List Int)).length c3, .int .i64 0] 44))
  go_wp2_with fail
  refine (l_equalHistory A2 A3 c2 c3 [] 0 _ (Hl2.out.ext X3_3.out) (Hl3.out.ext X3_4.out)).mono ?_
  rintro e w4 ⟨rfl, he4⟩
  have U4 := lh ((Ext.al (Ext.rfl' w3) (.cells #[.slice A3 ([] : List (List Int)).length c3, .int .i64 0] 44)).tr he4)
  have E4 := lh (E3.out.tr U4.out)
  have lg_4 := U4.out.cellE lg_3
  have h0_4 := U4.out.cellE h0_3
  have h1_4 := U4.out.cellE h1_3
  have p0_4 := U4.out.cellE p0_3
  have p1_4 := U4.out.cellE p1_3
  have o0_4 := he4.cellE (show World.cell? (World.alloc w3 (.cells #[.slice A3 ([] : List (List Int)).length c3, .int .i64 0] 44)) ⟨w3.heap.size, 0, none⟩ = some (.slice A3 ([] : List (List Int)).length c3) by simp [go_sem])
  have o1_4 := he4.cellE (show World.cell? (World.alloc w3 (.cells #[.slice A3 ([] : List (List Int)).length c3, .int .i64 0] 44)) ⟨w3.heap.size, 1, none⟩ = some (.int .i64 0) by simp [go_sem])
  clear he4 lg_3 h0_3 h1_3 p0_3 p1_3 blg_3 bh0_3 bh1_3 bp0_3 bp1_3 X3_3 X3_4
  have blg_4 := blt lg_4
  have bh0_4 := blt h0_4
  have bh1_4 := blt h1_4
  have bp0_4 := blt p0_4
  have bp1_4 := blt p1_4
  have bo0_4 := blt o0_4
  have bo1_4 := blt o1_4
  have sz4 := U4.out.size
  have X4_5 := lh (((Ext.rfl' w2).tr U3.out).tr U4.out)
  have X4_6 := lh ((Ext.rfl' w3).tr U4.out)
  go_wp2_with fail
  refine (l_equalInts B2 B3 d2 d3 [] _ (Hi2.out.ext X4_5.out) (Hi3.out.ext X4_6.out)).mono ?_
  rintro e w5 ⟨rfl, he5⟩
  have U5 := lh ((Ext.rfl' w4).tr he5)
  have E5 := lh (E4.out.tr U5.out)
  have lg_5 := U5.out.cellE lg_4
  have h0_5 := U5.out.cellE h0_4
  have h1_5 := U5.out.cellE h1_4
  have p0_5 := U5.out.cellE p0_4
  have p1_5 := U5.out.cellE p1_4
  have o0_5 := U5.out.cellE o0_4
  have o1_5 := U5.out.cellE o1_4
  clear he5 lg_4 h0_4 h1_4 p0_4 p1_4 o0_4 o1_4 blg_4 bh0_4 bh1_4 bp0_4 bp1_4 bo0_4 bo1_4 X4_5 X4_6
  have blg_5 := blt lg_5
  have bh0_5 := blt h0_5
  have bh1_5 := blt h1_5
  have bp0_5 := blt p0_5
  have bp1_5 := blt p1_5
  have bo0_5 := blt o0_5
  have bo1_5 := blt o1_5
  have sz5 := U5.out.size
  have X5_7 := lh ((((Ext.rfl' w2).tr U3.out).tr U4.out).tr U5.out)
  have X5_8 := lh (((Ext.rfl' w3).tr U4.out).tr U5.out)
  go_wp2_with fail
  refine (l_equalHistory A2 A3 c2 c3 [] 0 _ (Hl2.out.ext X5_7.out) (Hl3.out.ext X5_8.out)).mono ?_
  rintro e w6 ⟨rfl, he6⟩
  have U6 := lh ((Ext.rfl' w5).tr he6)
  have E6 := lh (E5.out.tr U6.out)
  have lg_6 := U6.out.cellE lg_5
  have h0_6 := U6.out.cellE h0_5
  have h1_6 := U6.out.cellE h1_5
  have p0_6 := U6.out.cellE p0_5
  have p1_6 := U6.out.cellE p1_5
  have o0_6 := U6.out.cellE o0_5
  have o1_6 := U6.out.cellE o1_5
  clear he6 lg_5 h0_5 h1_5 p0_5 p1_5 o0_5 o1_5 blg_5 bh0_5 bh1_5 bp0_5 bp1_5 bo0_5 bo1_5 X5_7 X5_8
  have blg_6 := blt lg_6
  have bh0_6 := blt h0_6
  have bh1_6 := blt h1_6
  have bp0_6 := blt p0_6
  have bp1_6 := blt p1_6
  have bo0_6 := blt o0_6
  have bo1_6 := blt o1_6
  have sz6 := U6.out.size
  have X6_9 := lh (((((Ext.rfl' w2).tr U3.out).tr U4.out).tr U5.out).tr U6.out)
  have X6_10 := lh ((((Ext.rfl' w3).tr U4.out).tr U5.out).tr U6.out)
  go_wp2_with fail
  refine (l_equalInts B2 B3 d2 d3 [] _ (Hi2.out.ext X6_9.out) (Hi3.out.ext X6_10.out)).mono ?_
  rintro e w7 ⟨rfl, he7⟩
  have U7 := lh ((Ext.rfl' w6).tr he7)
  have E7 := lh (E6.out.tr U7.out)
  have lg_7 := U7.out.cellE lg_6
  have h0_7 := U7.out.cellE h0_6
  have h1_7 := U7.out.cellE h1_6
  have p0_7 := U7.out.cellE p0_6
  have p1_7 := U7.out.cellE p1_6
  have o0_7 := U7.out.cellE o0_6
  have o1_7 := U7.out.cellE o1_6
  clear he7 lg_6 h0_6 h1_6 p0_6 p1_6 o0_6 o1_6 blg_6 bh0_6 bh1_6 bp0_6 bp1_6 bo0_6 bo1_6 X6_9 X6_10
  have blg_7 := blt lg_7
  have bh0_7 := blt h0_7
  have bh1_7 := blt h1_7
  have bp0_7 := blt p0_7
  have bp1_7 := blt p1_7
  have bo0_7 := blt o0_7
  have bo1_7 := blt o1_7
  have sz7 := U7.out.size
  go_wp2
  go_ret
  exact ⟨rfl, E7.out⟩
 obtain ⟨i, j, rfl, hij, hi, hj, -, hM, hO2, hM2, hE, hE2⟩ := move_law hO
 have iwn : IntKind.i64.wrap (-n) = -n := IntWalk.i64_in _ (by omega)
 clear hij
 obtain ⟨l1, b1, o1, Al, cl, hl1, rfl, hc1, hR1, -⟩ := L1.out.at_ hi
 obtain ⟨l2, b2, o2, Am, cm, hl2, hA2, hc2, hR2, -⟩ := L1.out.at_ hj
 obtain ⟨rfl, rfl⟩ : b1 = b2 ∧ o1 = o2 := by simpa using hA2
 have hL1 : ll.getD i [] = l1 := by rw [List.getD_eq_getElem?_getD, hl1]; rfl
 have hL2 : ll.getD j [] = l2 := by rw [List.getD_eq_getElem?_getD, hl2]; rfl
 rw [hL1, hL2] at hE hE2
 obtain ⟨L, hL0⟩ : ∃ L, L = changedOr g l1 l2 := ⟨_, rfl⟩
 have hLl : L.length ≤ 10 := by rw [hL0]; exact changedOr_len _ _ _
 have HCB := lh (fun w h ha hb => by have := i_ChangedBy Ag Al Am cg cl cm g l1 l2 w h ha hb; rw [← hL0] at this; exact this)
 rw [← hL0] at hE hE2
 have HI := lh (fun A c w h hr => by have := i_MoveHistory Ag A cg c g ll (i : Int) n w h hr; rw [hM, hE, hO] at this; dsimp only at this; exact this)
 have HS := lh (fun A c w h hr => by have := s_MoveHistory Ag A cg c g ll (i : Int) n w h hr; rw [hM, hE, hO] at this; dsimp only at this; exact this)
 have HB := lh (fun A c w h hr => by have := i_MoveHistory Ag A cg c g ll (j : Int) (-n) w h hr; rw [hM2, hE2, hO2] at this; dsimp only at this; exact this)
 have HR1 := lh hR1
 have HR2 := lh hR2
 have bc1 := blt hc1
 have bc2 := blt hc2
 clear hO hM hO2 hM2 hE hE2 hL0 hL1 hL2 hl1 hl2 hA2 hR1 hR2
 have hi0 : (0 : Int) ≤ (i : Int) := by omega
 have hj0 : (0 : Int) ≤ (j : Int) := by omega
 have X1_1 := lh (Ext.al (Ext.al (Ext.rfl' w1) (.cells #[.slice Ag g.length cg] 25)) (.cells #[.slice (some ⟨b1, o1, none⟩) ll.length ch, .int .i64 (i : Int)] 44))
 go_wp2_with fail
 refine (HI.out _ _ _ (H1.out.ext X1_1.out) (L1.out.ext X1_1.out)).mono ?_
 rintro e w2 ⟨A2, c2, hs2, B2, d2, rfl, hol, hoi, -, he2⟩
 have Hl2 := lh (OwnL.rdL hol (by omega) (fun l hl => Nat.le_trans (HLE.out l hl) (by omega)))
 have Hi2 := lh hoi.rd
 clear hol hoi
 have U2 := lh ((Ext.al (Ext.al (Ext.rfl' w1) (.cells #[.slice Ag g.length cg] 25)) (.cells #[.slice (some ⟨b1, o1, none⟩) ll.length ch, .int .i64 (i : Int)] 44)).tr he2)
 have E2 := lh (E1.out.tr U2.out)
 have e1_2 := U2.out.cellE hc1
 have e2_2 := U2.out.cellE hc2
 have lg_2 := he2.cellE (show World.cell? (World.alloc (World.alloc w1 (.cells #[.slice Ag g.length cg] 25)) (.cells #[.slice (some ⟨b1, o1, none⟩) ll.length ch, .int .i64 (i : Int)] 44)) ⟨w1.heap.size, 0, none⟩ = some (.slice Ag g.length cg) by simp [go_sem])
 have h0_2 := he2.cellE (show World.cell? (World.alloc (World.alloc w1 (.cells #[.slice Ag g.length cg] 25)) (.cells #[.slice (some ⟨b1, o1, none⟩) ll.length ch, .int .i64 (i : Int)] 44)) ⟨w1.heap.size + 1, 0, none⟩ = some (.slice (some ⟨b1, o1, none⟩) ll.length ch) by simp [go_sem])
 have h1_2 := he2.cellE (show World.cell? (World.alloc (World.alloc w1 (.cells #[.slice Ag g.length cg] 25)) (.cells #[.slice (some ⟨b1, o1, none⟩) ll.length ch, .int .i64 (i : Int)] 44)) ⟨w1.heap.size + 1, 1, none⟩ = some (.int .i64 (i : Int)) by simp [go_sem])
 clear he2 hc1 hc2 bc1 bc2 X1_1
 have be1_2 := blt e1_2
 have be2_2 := blt e2_2
 have blg_2 := blt lg_2
 have bh0_2 := blt h0_2
 have bh1_2 := blt h1_2
 have sz2 := U2.out.size
 have X2_2 := lh (Ext.al ((Ext.rfl' w1).tr U2.out) (.cells #[.slice A2 ll.length c2, .int .i64 (j : Int)] 44))
 go_wp2_with fail
 refine (HS.out _ _ _ (H1.out.ext X2_2.out) (L1.out.ext X2_2.out)).mono ?_
 rintro e w3 ⟨A3, c3, hs3, B3, d3, rfl, hol, hoi, -, he3⟩
 have Hl3 := lh (OwnL.rdL hol (by omega) (fun l hl => Nat.le_trans (HLE.out l hl) (by omega)))
 have Hi3 := lh hoi.rd
 clear hol hoi
 have U3 := lh ((Ext.al (Ext.rfl' w2) (.cells #[.slice A2 ll.length c2, .int .i64 (j : Int)] 44)).tr he3)
 have E3 := lh (E2.out.tr U3.out)
 have e1_3 := U3.out.cellE e1_2
 have e2_3 := U3.out.cellE e2_2
 have lg_3 := U3.out.cellE lg_2
 have h0_3 := U3.out.cellE h0_2
 have h1_3 := U3.out.cellE h1_2
 have p0_3 := he3.cellE (show World.cell? (World.alloc w2 (.cells #[.slice A2 ll.length c2, .int .i64 (j : Int)] 44)) ⟨w2.heap.size, 0, none⟩ = some (.slice A2 ll.length c2) by simp [go_sem])
 have p1_3 := he3.cellE (show World.cell? (World.alloc w2 (.cells #[.slice A2 ll.length c2, .int .i64 (j : Int)] 44)) ⟨w2.heap.size, 1, none⟩ = some (.int .i64 (j : Int)) by simp [go_sem])
 clear he3 e1_2 e2_2 lg_2 h0_2 h1_2 be1_2 be2_2 blg_2 bh0_2 bh1_2 X2_2
 have be1_3 := blt e1_3
 have be2_3 := blt e2_3
 have blg_3 := blt lg_3
 have bh0_3 := blt h0_3
 have bh1_3 := blt h1_3
 have bp0_3 := blt p0_3
 have bp1_3 := blt p1_3
 have sz3 := U3.out.size
 have X3_3 := lh (Ext.al ((Ext.rfl' w2).tr U3.out) (.cells #[.slice A3 ll.length c3, .int .i64 (j : Int)] 44))
 have X3_4 := lh (Ext.al (Ext.rfl' w3) (.cells #[.slice A3 ll.length c3, .int .i64 (j : Int)] 44))
 go_wp2_with fail
 refine (l_equalHistory A2 A3 c2 c3 ll (j : Int) _ (Hl2.out.ext X3_3.out) (Hl3.out.ext X3_4.out)).mono ?_
 rintro e w4 ⟨rfl, he4⟩
 have U4 := lh ((Ext.al (Ext.rfl' w3) (.cells #[.slice A3 ll.length c3, .int .i64 (j : Int)] 44)).tr he4)
 have E4 := lh (E3.out.tr U4.out)
 have e1_4 := U4.out.cellE e1_3
 have e2_4 := U4.out.cellE e2_3
 have lg_4 := U4.out.cellE lg_3
 have h0_4 := U4.out.cellE h0_3
 have h1_4 := U4.out.cellE h1_3
 have p0_4 := U4.out.cellE p0_3
 have p1_4 := U4.out.cellE p1_3
 have o0_4 := he4.cellE (show World.cell? (World.alloc w3 (.cells #[.slice A3 ll.length c3, .int .i64 (j : Int)] 44)) ⟨w3.heap.size, 0, none⟩ = some (.slice A3 ll.length c3) by simp [go_sem])
 have o1_4 := he4.cellE (show World.cell? (World.alloc w3 (.cells #[.slice A3 ll.length c3, .int .i64 (j : Int)] 44)) ⟨w3.heap.size, 1, none⟩ = some (.int .i64 (j : Int)) by simp [go_sem])
 clear he4 e1_3 e2_3 lg_3 h0_3 h1_3 p0_3 p1_3 be1_3 be2_3 blg_3 bh0_3 bh1_3 bp0_3 bp1_3 X3_3 X3_4
 have be1_4 := blt e1_4
 have be2_4 := blt e2_4
 have blg_4 := blt lg_4
 have bh0_4 := blt h0_4
 have bh1_4 := blt h1_4
 have bp0_4 := blt p0_4
 have bp1_4 := blt p1_4
 have bo0_4 := blt o0_4
 have bo1_4 := blt o1_4
 have sz4 := U4.out.size
 have X4_5 := lh (((Ext.rfl' w2).tr U3.out).tr U4.out)
 have X4_6 := lh ((Ext.rfl' w3).tr U4.out)
 go_wp2_with fail
 refine (l_equalInts B2 B3 d2 d3 L _ (Hi2.out.ext X4_5.out) (Hi3.out.ext X4_6.out)).mono ?_
 rintro e w5 ⟨rfl, he5⟩
 have U5 := lh ((Ext.rfl' w4).tr he5)
 have E5 := lh (E4.out.tr U5.out)
 have e1_5 := U5.out.cellE e1_4
 have e2_5 := U5.out.cellE e2_4
 have lg_5 := U5.out.cellE lg_4
 have h0_5 := U5.out.cellE h0_4
 have h1_5 := U5.out.cellE h1_4
 have p0_5 := U5.out.cellE p0_4
 have p1_5 := U5.out.cellE p1_4
 have o0_5 := U5.out.cellE o0_4
 have o1_5 := U5.out.cellE o1_4
 clear he5 e1_4 e2_4 lg_4 h0_4 h1_4 p0_4 p1_4 o0_4 o1_4 be1_4 be2_4 blg_4 bh0_4 bh1_4 bp0_4 bp1_4 bo0_4 bo1_4 X4_5 X4_6
 have be1_5 := blt e1_5
 have be2_5 := blt e2_5
 have blg_5 := blt lg_5
 have bh0_5 := blt h0_5
 have bh1_5 := blt h1_5
 have bp0_5 := blt p0_5
 have bp1_5 := blt p1_5
 have bo0_5 := blt o0_5
 have bo1_5 := blt o1_5
 have sz5 := U5.out.size
 have X5_7 := lh (((((Ext.rfl' w1).tr U2.out).tr U3.out).tr U4.out).tr U5.out)
 have X5_8 := lh ((((Ext.rfl' w2).tr U3.out).tr U4.out).tr U5.out)
 go_wp2_with fail
 refine (HB.out A2 c2 _ (H1.out.ext X5_7.out) (Hl2.out.ext X5_8.out)).mono ?_
 rintro e w6 ⟨A4, c4, hs4, B4, d4, rfl, hol, hoi, -, he6⟩
 have Hl4 := lh (OwnL.rdL hol (by omega) (fun l hl => Nat.le_trans (HLE.out l hl) (by omega)))
 have Hi4 := lh hoi.rd
 clear hol hoi
 have U6 := lh ((Ext.rfl' w5).tr he6)
 have E6 := lh (E5.out.tr U6.out)
 have e1_6 := U6.out.cellE e1_5
 have e2_6 := U6.out.cellE e2_5
 have lg_6 := U6.out.cellE lg_5
 have h0_6 := U6.out.cellE h0_5
 have h1_6 := U6.out.cellE h1_5
 have p0_6 := U6.out.cellE p0_5
 have p1_6 := U6.out.cellE p1_5
 have o0_6 := U6.out.cellE o0_5
 have o1_6 := U6.out.cellE o1_5
 clear he6 e1_5 e2_5 lg_5 h0_5 h1_5 p0_5 p1_5 o0_5 o1_5 be1_5 be2_5 blg_5 bh0_5 bh1_5 bp0_5 bp1_5 bo0_5 bo1_5 X5_7 X5_8
 have be1_6 := blt e1_6
 have be2_6 := blt e2_6
 have blg_6 := blt lg_6
 have bh0_6 := blt h0_6
 have bh1_6 := blt h1_6
 have bp0_6 := blt p0_6
 have bp1_6 := blt p1_6
 have bo0_6 := blt o0_6
 have bo1_6 := blt o1_6
 have sz6 := U6.out.size
 go_upto_region 9 with fail
 have he7 := Ext.rfl' (World.alloc w6 (.cells #[.slice A4 ll.length c4, .int .i64 (i : Int)] 44))
 have U7 := lh ((Ext.al (Ext.rfl' w6) (.cells #[.slice A4 ll.length c4, .int .i64 (i : Int)] 44)).tr he7)
 have E7 := lh (E6.out.tr U7.out)
 have e1_7 := U7.out.cellE e1_6
 have e2_7 := U7.out.cellE e2_6
 have lg_7 := U7.out.cellE lg_6
 have h0_7 := U7.out.cellE h0_6
 have h1_7 := U7.out.cellE h1_6
 have p0_7 := U7.out.cellE p0_6
 have p1_7 := U7.out.cellE p1_6
 have o0_7 := U7.out.cellE o0_6
 have o1_7 := U7.out.cellE o1_6
 have r0_7 := he7.cellE (show World.cell? (World.alloc w6 (.cells #[.slice A4 ll.length c4, .int .i64 (i : Int)] 44)) ⟨w6.heap.size, 0, none⟩ = some (.slice A4 ll.length c4) by simp [go_sem])
 have r1_7 := he7.cellE (show World.cell? (World.alloc w6 (.cells #[.slice A4 ll.length c4, .int .i64 (i : Int)] 44)) ⟨w6.heap.size, 1, none⟩ = some (.int .i64 (i : Int)) by simp [go_sem])
 clear he7 e1_6 e2_6 lg_6 h0_6 h1_6 p0_6 p1_6 o0_6 o1_6 be1_6 be2_6 blg_6 bh0_6 bh1_6 bp0_6 bp1_6 bo0_6 bo1_6
 have be1_7 := blt e1_7
 have be2_7 := blt e2_7
 have blg_7 := blt lg_7
 have bh0_7 := blt h0_7
 have bh1_7 := blt h1_7
 have bp0_7 := blt p0_7
 have bp1_7 := blt p1_7
 have bo0_7 := blt o0_7
 have bo1_7 := blt o1_7
 have br0_7 := blt r0_7
 have br1_7 := blt r1_7
 have sz7 := U7.out.size
 generalize (World.alloc w6 (.cells #[.slice A4 ll.length c4, .int .i64 (i : Int)] 44)) = w7 at *
 go_wp2_with fail
 refine wp_region_held_drew (S := (fun W => W.cell? ⟨w1.heap.size, 0, none⟩ = some (.slice Ag g.length cg) ∧ W.cell? ⟨w1.heap.size + 1, 0, none⟩ = some (.slice (some ⟨b1, o1, none⟩) ll.length ch) ∧ W.cell? ⟨w1.heap.size + 1, 1, none⟩ = some (.int .i64 (i : Int)) ∧ W.cell? ⟨w2.heap.size, 1, none⟩ = some (.int .i64 (j : Int)) ∧ W.cell? ⟨w6.heap.size, 0, none⟩ = some (.slice A4 ll.length c4) ∧ W.cell? ⟨w6.heap.size, 1, none⟩ = some (.int .i64 (i : Int)) ∧ W.cell? ⟨b1, o1 + i, none⟩ = some (.slice Al l1.length cl) ∧ W.cell? ⟨b1, o1 + j, none⟩ = some (.slice Am l2.length cm))) (by kernel_rfl) ?_ (fun hHeld => ?_)
 ·exact ⟨((Ext.rfl' _).dr).cellE lg_7, ((Ext.rfl' _).dr).cellE h0_7, ((Ext.rfl' _).dr).cellE h1_7, ((Ext.rfl' _).dr).cellE p1_7, ((Ext.rfl' _).dr).cellE r0_7, ((Ext.rfl' _).dr).cellE r1_7, ((Ext.rfl' _).dr).cellE e1_7, ((Ext.rfl' _).dr).cellE e2_7⟩
 refine ty 0 ?_
 refine ty 1 ?_
 refine ty 2 ?_
 refine ty 3 ?_
 refine rd1 4 rfl fun K hK => ?_
 go_simp
 have X7_9 := lh (((Ext.rfl' w6).tr U7.out).dr)
 have X7_10 := lh ((((((((Ext.rfl' w1).tr U2.out).tr U3.out).tr U4.out).tr U5.out).tr U6.out).tr U7.out).dr)
 refine (l_equalHistory A4 _ c4 ch ll (i : Int) _ (Hl4.out.ext X7_9.out) (L1.out.ext X7_10.out)).mono ?_
 rintro e w8 ⟨rfl, he8⟩
 have U8 := lh (((Ext.rfl' w7).dr).tr he8)
 have E8 := lh (E7.out.tr U8.out)
 have e1_8 := U8.out.cellE e1_7
 have e2_8 := U8.out.cellE e2_7
 have lg_8 := U8.out.cellE lg_7
 have h0_8 := U8.out.cellE h0_7
 have h1_8 := U8.out.cellE h1_7
 have p0_8 := U8.out.cellE p0_7
 have p1_8 := U8.out.cellE p1_7
 have o0_8 := U8.out.cellE o0_7
 have o1_8 := U8.out.cellE o1_7
 have r0_8 := U8.out.cellE r0_7
 have r1_8 := U8.out.cellE r1_7
 clear he8 e1_7 e2_7 lg_7 h0_7 h1_7 p0_7 p1_7 o0_7 o1_7 r0_7 r1_7 be1_7 be2_7 blg_7 bh0_7 bh1_7 bp0_7 bp1_7 bo0_7 bo1_7 br0_7 br1_7 X7_9 X7_10
 have be1_8 := blt e1_8
 have be2_8 := blt e2_8
 have blg_8 := blt lg_8
 have bh0_8 := blt h0_8
 have bh1_8 := blt h1_8
 have bp0_8 := blt p0_8
 have bp1_8 := blt p1_8
 have bo0_8 := blt o0_8
 have bo1_8 := blt o1_8
 have br0_8 := blt r0_8
 have br1_8 := blt r1_8
 have sz8 := U8.out.size
 try go_wp2_with fail
 refine hK.out _ _ (by exact ⟨lg_8, h0_8, h1_8, p1_8, r0_8, r1_8, e1_8, e2_8⟩) fun hh2 => ?_; clear hK K hHeld; have hHeld := hh2; clear hh2
 try simp only [Act.put, pu]
 refine ty 5 ?_
 refine ty 6 ?_
 refine ty 7 ?_
 refine ty 8 ?_
 refine rd1 9 rfl fun K hK => ?_
 go_simp
 have X8_11 := lh (((Ext.rfl' w6).tr U7.out).tr U8.out)
 have X8_12 := lh (((((((Ext.rfl' w2).tr U3.out).tr U4.out).tr U5.out).tr U6.out).tr U7.out).tr U8.out)
 refine (l_equalInts B4 B2 d4 d2 L _ (Hi4.out.ext X8_11.out) (Hi2.out.ext X8_12.out)).mono ?_
 rintro e w9 ⟨rfl, he9⟩
 have U9 := lh ((Ext.rfl' w8).tr he9)
 have E9 := lh (E8.out.tr U9.out)
 have e1_9 := U9.out.cellE e1_8
 have e2_9 := U9.out.cellE e2_8
 have lg_9 := U9.out.cellE lg_8
 have h0_9 := U9.out.cellE h0_8
 have h1_9 := U9.out.cellE h1_8
 have p0_9 := U9.out.cellE p0_8
 have p1_9 := U9.out.cellE p1_8
 have o0_9 := U9.out.cellE o0_8
 have o1_9 := U9.out.cellE o1_8
 have r0_9 := U9.out.cellE r0_8
 have r1_9 := U9.out.cellE r1_8
 clear he9 e1_8 e2_8 lg_8 h0_8 h1_8 p0_8 p1_8 o0_8 o1_8 r0_8 r1_8 be1_8 be2_8 blg_8 bh0_8 bh1_8 bp0_8 bp1_8 bo0_8 bo1_8 br0_8 br1_8 X8_11 X8_12
 have be1_9 := blt e1_9
 have be2_9 := blt e2_9
 have blg_9 := blt lg_9
 have bh0_9 := blt h0_9
 have bh1_9 := blt h1_9
 have bp0_9 := blt p0_9
 have bp1_9 := blt p1_9
 have bo0_9 := blt o0_9
 have bo1_9 := blt o1_9
 have br0_9 := blt r0_9
 have br1_9 := blt r1_9
 have sz9 := U9.out.size
 try go_wp2_with fail
 refine hK.out _ _ (by exact ⟨lg_9, h0_9, h1_9, p1_9, r0_9, r1_9, e1_9, e2_9⟩) fun hh2 => ?_; clear hK K hHeld; have hHeld := hh2; clear hh2
 try simp only [Act.put, pu]
 refine ty 10 ?_
 refine ty 11 ?_
 refine ty 12 ?_
 refine ty 13 ?_
 refine ty 14 ?_
 refine ty 15 ?_
 refine ty 16 ?_
 refine ty 17 ?_
 refine ty 18 ?_
 refine ty 19 ?_
 refine ty 20 ?_
 refine ty 21 ?_
 refine ty 22 ?_
 refine ty 23 ?_
 refine ty 24 ?_
 refine ty 25 ?_
 refine rd1 26 rfl fun K hK => ?_
 go_simp
 have X9_13 := lh (((((((((Ext.rfl' w1).tr U2.out).tr U3.out).tr U4.out).tr U5.out).tr U6.out).tr U7.out).tr U8.out).tr U9.out)
 refine (HCB.out _ (H1.out.ext X9_13.out) (HR1.out.ext X9_13.out) (HR2.out.ext X9_13.out)).mono ?_
 rintro e w10 ⟨A5, rfl, ho5, he10⟩
 have Hi5 := lh ho5.rd
 clear ho5
 have U10 := lh ((Ext.rfl' w9).tr he10)
 have E10 := lh (E9.out.tr U10.out)
 have e1_10 := U10.out.cellE e1_9
 have e2_10 := U10.out.cellE e2_9
 have lg_10 := U10.out.cellE lg_9
 have h0_10 := U10.out.cellE h0_9
 have h1_10 := U10.out.cellE h1_9
 have p0_10 := U10.out.cellE p0_9
 have p1_10 := U10.out.cellE p1_9
 have o0_10 := U10.out.cellE o0_9
 have o1_10 := U10.out.cellE o1_9
 have r0_10 := U10.out.cellE r0_9
 have r1_10 := U10.out.cellE r1_9
 clear he10 e1_9 e2_9 lg_9 h0_9 h1_9 p0_9 p1_9 o0_9 o1_9 r0_9 r1_9 be1_9 be2_9 blg_9 bh0_9 bh1_9 bp0_9 bp1_9 bo0_9 bo1_9 br0_9 br1_9 X9_13
 have be1_10 := blt e1_10
 have be2_10 := blt e2_10
 have blg_10 := blt lg_10
 have bh0_10 := blt h0_10
 have bh1_10 := blt h1_10
 have bp0_10 := blt p0_10
 have bp1_10 := blt p1_10
 have bo0_10 := blt o0_10
 have bo1_10 := blt o1_10
 have br0_10 := blt r0_10
 have br1_10 := blt r1_10
 have sz10 := U10.out.size
 try go_wp2_with fail
 refine hK.out _ _ (by exact ⟨lg_10, h0_10, h1_10, p1_10, r0_10, r1_10, e1_10, e2_10⟩) fun hh2 => ?_; clear hK K hHeld; have hHeld := hh2; clear hh2
 try simp only [Act.put, pu]
 refine rd1 27 rfl fun K hK => ?_
 go_simp
 have X10_14 := lh (((((((((Ext.rfl' w2).tr U3.out).tr U4.out).tr U5.out).tr U6.out).tr U7.out).tr U8.out).tr U9.out).tr U10.out)
 have X10_15 := lh (Ext.rfl' w10)
 refine (l_equalInts B2 A5 d2 L.length L _ (Hi2.out.ext X10_14.out) (Hi5.out.ext X10_15.out)).mono ?_
 rintro e w11 ⟨rfl, he11⟩
 have U11 := lh ((Ext.rfl' w10).tr he11)
 have E11 := lh (E10.out.tr U11.out)
 have e1_11 := U11.out.cellE e1_10
 have e2_11 := U11.out.cellE e2_10
 have lg_11 := U11.out.cellE lg_10
 have h0_11 := U11.out.cellE h0_10
 have h1_11 := U11.out.cellE h1_10
 have p0_11 := U11.out.cellE p0_10
 have p1_11 := U11.out.cellE p1_10
 have o0_11 := U11.out.cellE o0_10
 have o1_11 := U11.out.cellE o1_10
 have r0_11 := U11.out.cellE r0_10
 have r1_11 := U11.out.cellE r1_10
 clear he11 e1_10 e2_10 lg_10 h0_10 h1_10 p0_10 p1_10 o0_10 o1_10 r0_10 r1_10 be1_10 be2_10 blg_10 bh0_10 bh1_10 bp0_10 bp1_10 bo0_10 bo1_10 br0_10 br1_10 X10_14 X10_15
 have be1_11 := blt e1_11
 have be2_11 := blt e2_11
 have blg_11 := blt lg_11
 have bh0_11 := blt h0_11
 have bh1_11 := blt h1_11
 have bp0_11 := blt p0_11
 have bp1_11 := blt p1_11
 have bo0_11 := blt o0_11
 have bo1_11 := blt o1_11
 have br0_11 := blt r0_11
 have br1_11 := blt r1_11
 have sz11 := U11.out.size
 try go_wp2_with fail
 refine hK.out _ _ (by exact ⟨lg_11, h0_11, h1_11, p1_11, r0_11, r1_11, e1_11, e2_11⟩) fun hh2 => ?_; clear hK K hHeld; have hHeld := hh2; clear hh2
 try simp only [Act.put, pu]
 refine ty 28 ?_
 refine ty 29 ?_
 refine dn ?_
 go_wp2
 go_ret
 exact ⟨rfl, E11.out⟩
end Go.Proofs.Yteighpaljdlnaaa
