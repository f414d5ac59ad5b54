/- FnExactParseGraph: the law's walk with the contracts of both functions. Conditions: the program's variables are as they were laid. -/
import Derived.Test.YtdnlpklmihoapaaGreatDoorTxQ
import Derived.Test.YtdnlpklmihoapaaGreatDoorTxR
import Derived.Test.YtdnlpklmihoapaaGreatDoorMarksD
namespace Go.Proofs.YtdnlpklmihoapaaGreatDoor
open Go.RowKit
theorem totN_bound (g : Sg.Graph) (h : ∀ n ∈ g, n.f.length ≤ 12) : totN g ≤ 61 * g.length := by
 induction g with
 | nil => simp [totN]
 | cons n g ih =>
  have h1 := ih fun m hm => h m (by simp [hm])
  have h2 := h n (by simp)
  simp only [totN, List.map_cons, List.sum_cons, List.length_cons] at h1 ⊢
  omega
theorem numN_lens (k : Int) (g : Sg.Graph) (h : ∀ n ∈ g, n.f.length ≤ 12) : ∀ n ∈ numN k g, n.f.length ≤ 1048576 := by
 induction g generalizing k with
 | nil => intro n hn; simp [numN] at hn
 | cons m g ih =>
  intro n hn
  rcases List.mem_cons.1 hn with rfl | hn
  ·have := h m (by simp)
   simp
   omega
  ·exact ih _ (fun m hm => h m (by simp [hm])) n hn
set_option maxRecDepth 100000 in
set_option maxHeartbeats 8000000 in
theorem ex_FnExactParseGraph (s : ByteArray) (w : World) (hG : Ge w) :
  Calls Tryz.prog 3 #[.string s] w fun e w' => e = .returned (.bool true) ∧ Ext w w' := by
 have HG := lh hG
 clear hG
 by_cases hb : 1048576 < s.size
 ·have hb2 : (1048576 : Int) < (s.size : Int) := by omega
  go_enter Tryz.func3, Tryz.ntmps3
  go_wp2
  go_ret
  exact ⟨rfl, Ext.rfl' _⟩
 have hb2 : ¬ (1048576 : Int) < (s.size : Int) := by omega
 have hs : s.size ≤ 1048576 := by omega
 have HS := lh fun w' => s_ParseGraph s w' hs
 have HI := lh fun w' (e : Ext w w') => i_ParseGraph s w' hs (HG.out.ext e)
 rw [Sg.parseG_eq] at HI
 have hfl : (Sg.parsedG (Sg.parseG (tx s))).1.length ≤ 10 ∧ (∀ n ∈ (Sg.parsedG (Sg.parseG (tx s))).1, n.f.length ≤ 12) ∧ (Sg.parsedG (Sg.parseG (tx s))).2.1.length ≤ 10 := by
  cases hq : Sg.parseG (tx s) with
  | none => simp [Sg.parsedG]
  | some y =>
   obtain ⟨g, c⟩ := y
   obtain ⟨h1, h2, _⟩ := Sg.parseG_some hq
   have h10 := Sg.validG_ten h1
   refine ⟨h10, fun n hn => ?_, by have := Sg.validC_len h2; simp only [Sg.parsedG]; omega⟩
   obtain ⟨i, hi, he⟩ := List.getElem_of_mem hn
   rcases Sg.node_cases h1 (List.getElem?_eq_some_iff.2 ⟨hi, he⟩) with ⟨_, h⟩ | ⟨_, h⟩
   ·rw [h]; simp
   ·exact (Sg.validF_len h).2
 generalize (Sg.parsedG (Sg.parseG (tx s))).1 = g at *
 generalize (Sg.parsedG (Sg.parseG (tx s))).2.2 = ok at *
 generalize (Sg.parsedG (Sg.parseG (tx s))).2.1 = c at *
 have hgl := hfl.1
 have hcl := hfl.2.2
 have htn := totN_bound g hfl.2.1
 have HNL := lh (fun k => numN_lens k g hfl.2.1)
 have HNF := lh (fun n hn => Nat.le_trans (hfl.2.1 n hn) (show 12 ≤ 1048576 by omega))
 have E0 := lh (Ext.rfl' w)
 obtain ⟨T, hT⟩ : ∃ T : Nat, T = totN g := ⟨_, rfl⟩
 have HT := lh hT
 rw [← hT] at htn
 have htn2 : T ≤ 610 := by omega
 have zok : (ok != ok) = false := by simp
 have zn : decide (1 + (T : Int) < 0) = false := by simp; omega
 have zn2 : decide (1 + (T : Int) + (c.length : Int) < 0) = false := by simp; omega
 have zm : ((1 + (T : Int) + (c.length : Int)) != (1 + (T : Int) + (c.length : Int))) = false := by simp
 clear hb hs HG hT htn hfl
 go_enter Tryz.func3, Tryz.ntmps3
 go_wp2_with fail
 refine (HS.out _).mono ?_
 rintro e w1 ⟨A1, c1, k1, K1, d1, rfl, he1, hs1⟩
 have E1 := lh (E0.out.tr he1)
 have S1 := lh (Sep.addG (show Sep (B := w.heap.size) [] w from trivial) he1 E0.out.size hs1)
 have S1x := lh (Sep.add S1.out ((Ext.rfl' w1).al (.cells #[.slice A1 g.length c1] 24)) (Th.box w.heap.size w1.heap.size [.slice A1 g.length c1]) ⟨Bx.new w1 _ _, E1.out.size⟩ (fun b e => by have e2 : b = w1.heap.size := e; omega))
 have E1x := lh (E1.out.al (.cells #[.slice A1 g.length c1] 24))
 clear he1 hs1 S1
 go_upto_region 4 with fail
 generalize World.alloc w1 (.cells #[.slice A1 g.length c1] 24) = v1 at *
 generalize w1.heap.size = b1 at *
 clear E1
 go_wp2_with fail
 refine (HI.out _ E1x.out).mono ?_
 rintro e w2 ⟨A2, c2, k2, K2, d2, rfl, he2, hs2⟩
 have E2 := lh (E1x.out.tr he2)
 have S2 := lh (Sep.addG S1x.out he2 E1x.out.size hs2)
 have S2x := lh (Sep.add S2.out ((Ext.rfl' w2).al (.cells #[.slice A2 g.length c2] 24)) (Th.box w.heap.size w2.heap.size [.slice A2 g.length c2]) ⟨Bx.new w2 _ _, E2.out.size⟩ (fun b e => by have e2 : b = w2.heap.size := e; omega))
 have E2x := lh (E2.out.al (.cells #[.slice A2 g.length c2] 24))
 clear he2 hs2 S2 S1x
 go_upto_region 5 with fail
 generalize World.alloc w2 (.cells #[.slice A2 g.length c2] 24) = v2 at *
 generalize w2.heap.size = b2 at *
 clear E2
 have y2 : Bx v2 b2 [.slice A2 g.length c2] := (Sep.get S2x.out 0 rfl : Bx _ _ _ ∧ _).1
 have q2 := y2.cell (j := 0) rfl
 have l2 := y2.lt
 have y1 : Bx v2 b1 [.slice A1 g.length c1] := (Sep.get S2x.out 3 rfl : Bx _ _ _ ∧ _).1
 have q1 := y1.cell (j := 0) rfl
 have l1 := y1.lt
 clear y2 y1
 have HEa := lh (l_eqGraph A2 A1 c2 c1 g v2 (OwnN.rdN (show OwnN v2 w.heap.size A2 c2 g k2 from Sep.get S2x.out 1 rfl) (by omega) HNF.out) (OwnN.rdN (show OwnN v2 w.heap.size A1 c1 g k1 from Sep.get S2x.out 4 rfl) (by omega) HNF.out))
 go_wp2_with fail
 refine (HEa.out).mono ?_
 rintro e v11 ⟨rfl, he11⟩
 have E11x := lh (E2x.out.tr he11)
 have S11x := lh (Sep.ext S2x.out he11)
 clear he11 S2x
 clear q2 l2 q1 l1
 have HFa := lh (l_eqIntS K2 K1 d2 d1 c v11 ((show Own v11 w.heap.size 3 1 K2 c.length d2 (ints (c)) from Sep.get S11x.out 2 rfl)).rd ((show Own v11 w.heap.size 3 1 K1 c.length d1 (ints (c)) from Sep.get S11x.out 5 rfl)).rd)
 go_wp2_with fail
 refine (HFa.out).mono ?_
 rintro e v12 ⟨rfl, he12⟩
 have E12x := lh (E11x.out.tr he12)
 have S12x := lh (Sep.ext S11x.out he12)
 clear he12 S11x
 have y2 : Bx v12 b2 [.slice A2 g.length c2] := (Sep.get S12x.out 0 rfl : Bx _ _ _ ∧ _).1
 have q2 := y2.cell (j := 0) rfl
 have l2 := y2.lt
 clear y2
 have HM := lh (l_markGraph (B := w.heap.size) A2 c2 g k2 1 v12 (show OwnN v12 w.heap.size A2 c2 g k2 from Sep.get S12x.out 1 rfl) (by omega) (by rw [← HT.out]; omega) (by omega))
 go_wp2_with fail
 refine (HM.out).mono ?_
 rintro e v20 ⟨rfl, ho, hm⟩
 try rw [← HT.out]
 have E20x := lh (Ext.md E12x.out hm (fun b hb => (Sep.lt S12x.out (List.mem_of_getElem? (i := 1) rfl) (show (Th.ownN w.heap.size A2 c2 g k2).fp b from hb)).1))
 have S20x := lh (Sep.set S12x.out 1 rfl hm (Th.ownN w.heap.size A2 c2 (numN 1 g) k2) (fun b e => .inl e) ho (fun b e => .inl e))
 clear ho hm S12x
 clear q2 l2
 have HMC := lh (l_markIntS (B := w.heap.size) K2 d2 c (1 + (T : Int)) v20 (show Own v20 w.heap.size 3 1 K2 c.length d2 (ints (c)) from Sep.get S20x.out 2 rfl) (by omega) (by omega))
 go_wp2_with fail
 refine (HMC.out).mono ?_
 rintro e v21 ⟨rfl, ho, hm⟩
 try rw [← HT.out]
 have E21x := lh (Ext.md E20x.out hm (fun b hb => (Sep.lt S20x.out (List.mem_of_getElem? (i := 2) rfl) (show (Th.own w.heap.size 3 1 K2 c.length d2 (ints c)).fp b from hb)).1))
 have S21x := lh (Sep.set S20x.out 2 rfl hm (Th.own w.heap.size 3 1 K2 c.length d2 (ints (num (1 + (T : Int)) c.length))) (fun b e => .inl e) ho (fun b e => .inl e))
 clear ho hm S20x
 have HH := lh fun v (h : RdN v A2 (numN 1 g)) => l_heldGraph A2 c2 g 1 v h (by omega) (by rw [← HT.out]; omega)
 rw [← HT.out] at HH
 have HHC := lh fun v (h : Rd v 1 K2 c.length (ints (num (1 + (T : Int)) c.length))) => l_heldIntS K2 d2 c.length (1 + (T : Int)) v h (by omega) (by omega)
 have y2 : Bx v21 b2 [.slice A2 g.length c2] := (Sep.get S21x.out 0 rfl : Bx _ _ _ ∧ _).1
 have q2 := y2.cell (j := 0) rfl
 have l2 := y2.lt
 clear y2
 go_wp2_with fail
 refine (HH.out _ (OwnN.rdN (show OwnN v21 w.heap.size A2 c2 (numN 1 g) k2 from Sep.get S21x.out 1 rfl) (by simp; omega) (HNL.out 1))).mono ?_
 rintro e v22 ⟨rfl, he22⟩
 have E22x := lh (E21x.out.tr he22)
 have S22x := lh (Sep.ext S21x.out he22)
 clear he22 S21x
 clear q2 l2
 go_wp2_with fail
 refine (HHC.out _ ((show Own v22 w.heap.size 3 1 K2 c.length d2 (ints (num (1 + (T : Int)) c.length)) from Sep.get S22x.out 2 rfl)).rd).mono ?_
 rintro e v23 ⟨rfl, he23⟩
 have he23x : Ext v22 v23 := by subst he23; exact Ext.rfl' _
 clear he23
 have he23 := he23x
 clear he23x
 have E23x := lh (E22x.out.tr he23)
 have S23x := lh (Sep.ext S22x.out he23)
 clear he23 S22x
 go_wp2_with fail
 refine (HI.out _ E23x.out).mono ?_
 rintro e w3 ⟨A3, c3, k3, K3, d3, rfl, he3, hs3⟩
 have E3 := lh (E23x.out.tr he3)
 have S3 := lh (Sep.addG S23x.out he3 E23x.out.size hs3)
 have S3x := lh (Sep.add S3.out ((Ext.rfl' w3).al (.cells #[.slice A3 g.length c3] 24)) (Th.box w.heap.size w3.heap.size [.slice A3 g.length c3]) ⟨Bx.new w3 _ _, E3.out.size⟩ (fun b e => by have e2 : b = w3.heap.size := e; omega))
 have E3x := lh (E3.out.al (.cells #[.slice A3 g.length c3] 24))
 clear he3 hs3 S3 S23x
 go_upto_region 20 with fail
 generalize World.alloc w3 (.cells #[.slice A3 g.length c3] 24) = v3 at *
 generalize w3.heap.size = b3 at *
 clear E3
 have y3 : Bx v3 b3 [.slice A3 g.length c3] := (Sep.get S3x.out 0 rfl : Bx _ _ _ ∧ _).1
 have q3 := y3.cell (j := 0) rfl
 have l3 := y3.lt
 have y1 : Bx v3 b1 [.slice A1 g.length c1] := (Sep.get S3x.out 6 rfl : Bx _ _ _ ∧ _).1
 have q1 := y1.cell (j := 0) rfl
 have l1 := y1.lt
 clear y3 y1
 have HEb := lh (l_eqGraph A3 A1 c3 c1 g v3 (OwnN.rdN (show OwnN v3 w.heap.size A3 c3 g k3 from Sep.get S3x.out 1 rfl) (by omega) HNF.out) (OwnN.rdN (show OwnN v3 w.heap.size A1 c1 g k1 from Sep.get S3x.out 7 rfl) (by omega) HNF.out))
 go_wp2_with fail
 refine (HEb.out).mono ?_
 rintro e v24 ⟨rfl, he24⟩
 have E24x := lh (E3x.out.tr he24)
 have S24x := lh (Sep.ext S3x.out he24)
 clear he24 S3x
 clear q3 l3 q1 l1
 have HFb := lh (l_eqIntS K3 K1 d3 d1 c v24 ((show Own v24 w.heap.size 3 1 K3 c.length d3 (ints (c)) from Sep.get S24x.out 2 rfl)).rd ((show Own v24 w.heap.size 3 1 K1 c.length d1 (ints (c)) from Sep.get S24x.out 8 rfl)).rd)
 go_wp2_with fail
 refine (HFb.out).mono ?_
 rintro e v25 ⟨rfl, he25⟩
 have E25x := lh (E24x.out.tr he25)
 have S25x := lh (Sep.ext S24x.out he25)
 clear he25 S24x
 have y2 : Bx v25 b2 [.slice A2 g.length c2] := (Sep.get S25x.out 3 rfl : Bx _ _ _ ∧ _).1
 have q2 := y2.cell (j := 0) rfl
 have l2 := y2.lt
 clear y2
 go_wp2_with fail
 refine (HH.out _ (OwnN.rdN (show OwnN v25 w.heap.size A2 c2 (numN 1 g) k2 from Sep.get S25x.out 4 rfl) (by simp; omega) (HNL.out 1))).mono ?_
 rintro e v26 ⟨rfl, he26⟩
 have E26x := lh (E25x.out.tr he26)
 have S26x := lh (Sep.ext S25x.out he26)
 clear he26 S25x
 clear q2 l2
 go_wp2_with fail
 refine (HHC.out _ ((show Own v26 w.heap.size 3 1 K2 c.length d2 (ints (num (1 + (T : Int)) c.length)) from Sep.get S26x.out 5 rfl)).rd).mono ?_
 rintro e v27 ⟨rfl, he27⟩
 have he27x : Ext v26 v27 := by subst he27; exact Ext.rfl' _
 clear he27
 have he27 := he27x
 clear he27x
 have E27x := lh (E26x.out.tr he27)
 have S27x := lh (Sep.ext S26x.out he27)
 clear he27 S26x
 go_wp2
 go_ret
 exact ⟨rfl, E27x.out⟩
end Go.Proofs.YtdnlpklmihoapaaGreatDoor
