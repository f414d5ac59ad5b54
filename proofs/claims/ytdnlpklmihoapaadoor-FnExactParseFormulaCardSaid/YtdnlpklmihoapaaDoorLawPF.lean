/- FnExactParseFormula: the law's walk with the contracts of both functions. Conditions: the program's variables are as they were laid. -/
import Derived.Test.YtdnlpklmihoapaaDoorTxO
import Derived.Test.YtdnlpklmihoapaaDoorMarksD
namespace Go.Proofs.YtdnlpklmihoapaaDoor
open Go.RowKit
set_option maxRecDepth 100000 in
set_option maxHeartbeats 8000000 in
theorem ex_FnExactParseFormula (s : ByteArray) (w : World) (hG : Ge w) :
  Calls Tryd.prog 5 #[.string s] w fun e w' => e = .returned (.bool true) ∧ Ext w w' := by
 have HG := lh hG
 clear hG
 by_cases hb : 1048576 < s.size
 ·have hb2 : (1048576 : Int) < (s.size : Int) := by omega
  go_enter Tryd.func5, Tryd.ntmps5
  go_wp2
  go_ret
  exact ⟨rfl, Ext.rfl' _⟩
 have hb2 : ¬ (1048576 : Int) < (s.size : Int) := by omega
 have hs : s.size ≤ 1048576 := by omega
 have HS := lh fun w' => s_ParseFormula s w' hs
 have HI := lh fun w' (e : Ext w w') => i_ParseFormula s w' hs (HG.out.ext e)
 rw [Sg.parseI_eq] at HI
 have hfl : (Sg.parsed (Sg.parseF (tx s))).1.length ≤ 12 := by
  cases hq : Sg.parseF (tx s) with
  | none => simp [Sg.parsed]
  | some f => exact (Sg.validF_len (Sg.parse_some hq).1).2
 generalize (Sg.parsed (Sg.parseF (tx s))).1 = f at *
 generalize (Sg.parsed (Sg.parseF (tx s))).2 = ok at *
 have HFL := lh hfl
 have E0 := lh (Ext.rfl' w)
 have zok : (ok != ok) = false := by simp
 have zn : decide (1 + 5 * (f.length : Int) < 0) = false := by simp; omega
 have zm : ((1 + 5 * (f.length : Int)) != (1 + 5 * (f.length : Int))) = false := by simp
 clear hb hs HG
 go_enter Tryd.func5, Tryd.ntmps5
 go_wp2_with fail
 refine (HS.out _).mono ?_
 rintro e w1 ⟨A1, c1, rfl, he1, ho1⟩
 have E1 := lh (E0.out.tr he1)
 have S1 := lh (Sep.add (B := w.heap.size) (ts := []) (W := w) trivial he1 (Th.own w.heap.size 73 5 A1 f.length c1 (parts f)) ho1 (fun b hb => (ho1.lt hb).1))
 have S1x := lh (Sep.add S1.out ((Ext.rfl' w1).al (.cells #[.slice A1 f.length c1] 39)) (Th.box w.heap.size w1.heap.size [.slice A1 f.length c1]) ⟨Bx.new w1 _ _, E1.out.size⟩ (fun b e => by have e2 : b = w1.heap.size := e; omega))
 have E1x := lh (E1.out.al (.cells #[.slice A1 f.length c1] 39))
 clear he1 ho1 S1
 go_upto_region 4 with fail
 generalize World.alloc w1 (.cells #[.slice A1 f.length c1] 39) = v1 at *
 generalize w1.heap.size = b1 at *
 clear E1
 go_wp2_with fail
 refine (HI.out _ E1x.out).mono ?_
 rintro e w2 ⟨A2, c2, rfl, he2, ho2⟩
 have E2 := lh (E1x.out.tr he2)
 have S2 := lh (Sep.add S1x.out he2 (Th.own w.heap.size 73 5 A2 f.length c2 (parts f)) (ho2.mono E1x.out.size) (fun b hb => (ho2.lt hb).1))
 have S2x := lh (Sep.add S2.out ((Ext.rfl' w2).al (.cells #[.slice A2 f.length c2] 39)) (Th.box w.heap.size w2.heap.size [.slice A2 f.length c2]) ⟨Bx.new w2 _ _, E2.out.size⟩ (fun b e => by have e2 : b = w2.heap.size := e; omega))
 have E2x := lh (E2.out.al (.cells #[.slice A2 f.length c2] 39))
 clear he2 ho2 S2 S1x
 go_upto_region 5 with fail
 generalize World.alloc w2 (.cells #[.slice A2 f.length c2] 39) = v2 at *
 generalize w2.heap.size = b2 at *
 clear E2
 have y1 : Bx v2 b1 [.slice A1 f.length c1] := (Sep.get S2x.out 2 rfl : Bx _ _ _ ∧ _).1
 have q1 := y1.cell (j := 0) rfl
 have l1 := y1.lt
 have y2 : Bx v2 b2 [.slice A2 f.length c2] := (Sep.get S2x.out 0 rfl : Bx _ _ _ ∧ _).1
 have q2 := y2.cell (j := 0) rfl
 have l2 := y2.lt
 clear y1 y2
 have HE := lh (l_eqFormula A2 A1 c2 c1 f v2 ((show Own v2 w.heap.size 73 5 A2 f.length c2 (parts (f)) from Sep.get S2x.out 1 rfl)).rd ((show Own v2 w.heap.size 73 5 A1 f.length c1 (parts (f)) from Sep.get S2x.out 3 rfl)).rd)
 go_wp2_with fail
 refine (HE.out).mono ?_
 rintro e v11 ⟨rfl, he11⟩
 have E11x := lh (E2x.out.tr he11)
 have S11x := lh (Sep.ext S2x.out he11)
 clear he11 S2x
 clear q1 l1 q2 l2
 have y2 : Bx v11 b2 [.slice A2 f.length c2] := (Sep.get S11x.out 0 rfl : Bx _ _ _ ∧ _).1
 have q2 := y2.cell (j := 0) rfl
 have l2 := y2.lt
 clear y2
 have HM := lh (l_markFormula (B := w.heap.size) A2 c2 f 1 v11 (show Own v11 w.heap.size 73 5 A2 f.length c2 (parts (f)) from Sep.get S11x.out 1 rfl) (by omega) (by omega))
 go_wp2_with fail
 refine HM.out.mono ?_
 rintro e v20 ⟨rfl, ho, hm⟩
 have E20x := lh (Ext.md E11x.out hm (fun b hb => (Sep.lt S11x.out (List.mem_of_getElem? (i := 1) rfl) (show (Th.own w.heap.size 73 5 A2 f.length c2 (parts f)).fp b from hb)).1))
 have S20x := lh (Sep.set S11x.out 1 rfl hm (Th.own w.heap.size 73 5 A2 f.length c2 (parts (numP 1 f.length))) (fun b e => .inl e) ho (fun b e => .inl e))
 clear ho hm S11x
 clear q2 l2
 have y2 : Bx v20 b2 [.slice A2 f.length c2] := (Sep.get S20x.out 0 rfl : Bx _ _ _ ∧ _).1
 have q2 := y2.cell (j := 0) rfl
 have l2 := y2.lt
 clear y2
 have HH := lh fun v (h : Rd v 5 A2 f.length (parts (numP 1 f.length))) => l_heldFormula A2 c2 f.length 1 v h (by omega) (by have := HFL.out; omega)
 go_wp2_with fail
 refine (HH.out _ ((show Own v20 w.heap.size 73 5 A2 f.length c2 (parts (numP 1 f.length)) from Sep.get S20x.out 1 rfl)).rd).mono ?_
 rintro e v21 ⟨rfl, he21⟩
 have E21x := lh (E20x.out.tr he21)
 have S21x := lh (Sep.ext S20x.out he21)
 clear he21 S20x
 clear q2 l2
 go_wp2_with fail
 refine (HI.out _ E21x.out).mono ?_
 rintro e w3 ⟨A3, c3, rfl, he3, ho3⟩
 have E3 := lh (E21x.out.tr he3)
 have S3 := lh (Sep.add S21x.out he3 (Th.own w.heap.size 73 5 A3 f.length c3 (parts f)) (ho3.mono E21x.out.size) (fun b hb => (ho3.lt hb).1))
 have S3x := lh (Sep.add S3.out ((Ext.rfl' w3).al (.cells #[.slice A3 f.length c3] 39)) (Th.box w.heap.size w3.heap.size [.slice A3 f.length c3]) ⟨Bx.new w3 _ _, E3.out.size⟩ (fun b e => by have e2 : b = w3.heap.size := e; omega))
 have E3x := lh (E3.out.al (.cells #[.slice A3 f.length c3] 39))
 clear he3 ho3 S3 S21x
 go_upto_region 16 with fail
 generalize World.alloc w3 (.cells #[.slice A3 f.length c3] 39) = v3 at *
 generalize w3.heap.size = b3 at *
 clear E3
 have y1 : Bx v3 b1 [.slice A1 f.length c1] := (Sep.get S3x.out 4 rfl : Bx _ _ _ ∧ _).1
 have q1 := y1.cell (j := 0) rfl
 have l1 := y1.lt
 have y3 : Bx v3 b3 [.slice A3 f.length c3] := (Sep.get S3x.out 0 rfl : Bx _ _ _ ∧ _).1
 have q3 := y3.cell (j := 0) rfl
 have l3 := y3.lt
 clear y1 y3
 have HE3 := lh (l_eqFormula A3 A1 c3 c1 f v3 ((show Own v3 w.heap.size 73 5 A3 f.length c3 (parts (f)) from Sep.get S3x.out 1 rfl)).rd ((show Own v3 w.heap.size 73 5 A1 f.length c1 (parts (f)) from Sep.get S3x.out 5 rfl)).rd)
 go_wp2_with fail
 refine (HE3.out).mono ?_
 rintro e v22 ⟨rfl, he22⟩
 have E22x := lh (E3x.out.tr he22)
 have S22x := lh (Sep.ext S3x.out he22)
 clear he22 S3x
 clear q1 l1 q3 l3
 have y2 : Bx v22 b2 [.slice A2 f.length c2] := (Sep.get S22x.out 2 rfl : Bx _ _ _ ∧ _).1
 have q2 := y2.cell (j := 0) rfl
 have l2 := y2.lt
 clear y2
 go_wp2_with fail
 refine (HH.out _ ((show Own v22 w.heap.size 73 5 A2 f.length c2 (parts (numP 1 f.length)) from Sep.get S22x.out 3 rfl)).rd).mono ?_
 rintro e v23 ⟨rfl, he23⟩
 have E23x := lh (E22x.out.tr he23)
 have S23x := lh (Sep.ext S22x.out he23)
 clear he23 S22x
 go_wp2
 go_ret
 exact ⟨rfl, E23x.out⟩
end Go.Proofs.YtdnlpklmihoapaaDoor
