/- FnParseGraph: the law's walk. Conditions: the code can be read; the program's variables are as they were laid. -/
import Derived.Test.YtdnlpklmihoapaaGreatDoorTxQ
import Derived.Test.YtdnlpklmihoapaaGreatDoorTxR
import Derived.Test.YtdnlpklmihoapaaGreatDoorTxY
import Derived.Test.YtdnlpklmihoapaaGreatDoorDrawO
import Derived.Test.YtdnlpklmihoapaaGreatDoorEqAll
namespace Go.Proofs.YtdnlpklmihoapaaGreatDoor
open Go.RowKit
theorem parsedG_facts (s : Sg.Txt) : (Sg.parsedG (Sg.parseG s)).1.length ≤ 10 ∧ (∀ n ∈ (Sg.parsedG (Sg.parseG s)).1, n.f.length ≤ 1048576) ∧ (Sg.parsedG (Sg.parseG s)).2.1.length ≤ 10 ∧
  ((Sg.parsedG (Sg.parseG s)).2.2 = true → Sg.validG (Sg.parsedG (Sg.parseG s)).1 = true ∧ Sg.validC (Sg.parsedG (Sg.parseG s)).1 (Sg.parsedG (Sg.parseG s)).2.1 = true ∧ Sg.fmtG (Sg.parsedG (Sg.parseG s)).1 (Sg.parsedG (Sg.parseG s)).2.1 = s) := by
 cases hq : Sg.parseG s with
 | none => simp [Sg.parsedG]
 | some y =>
  obtain ⟨g, c⟩ := y
  obtain ⟨h1, h2, h3⟩ := Sg.parseG_some hq
  have h10 := Sg.validG_ten h1
  refine ⟨h10, fun n hn => ?_, by have := Sg.validC_len h2; simp only [Sg.parsedG]; omega, fun _ => ⟨h1, h2, h3⟩⟩
  obtain ⟨i, hi, he⟩ := List.getElem_of_mem hn
  rcases Sg.node_cases h1 (List.getElem?_eq_some_iff.2 ⟨hi, he⟩) with ⟨_, h⟩ | ⟨_, h⟩
  ·rw [h]; simp
  ·have := (Sg.validF_len h).2; omega
set_option maxRecDepth 100000 in
set_option maxHeartbeats 8000000 in
theorem ex_FnParseGraph (A : Option Addr) (c : Nat) (l : List Int) (w : World) (hG : Ge w) (h : Rd w 1 A l.length (u8s l)) (hr : ∀ x ∈ l, 0 ≤ x ∧ x ≤ 255) (hc : l.length ≤ c) (hcm : c ≤ maxLen) :
  Calls Tryz.prog 4 #[.slice A l.length c] w fun e w' => e = .returned (.bool true) ∧ Ext w w' := by
 have hbig := h.big
 have HG := lh hG
 have HD := lh (s_DrawParseGraph A c l w h hr hc hcm)
 clear h hr hc hcm hG
 by_cases hb : 1048576 < l.length
 ·have hb2 : (1048576 : Int) < (l.length : Int) := by omega
  go_enter Tryz.func4, Tryz.ntmps4
  go_wp2
  go_ret
  exact ⟨rfl, Ext.rfl' _⟩
 have hb2 : ¬ (1048576 : Int) < (l.length : Int) := by omega
 clear hb
 go_enter Tryz.func4, Tryz.ntmps4
 go_wp2_with fail
 refine HD.out.mono ?_
 rintro e w0 ⟨s, rfl, hsz, he0⟩
 have E0 := lh he0
 clear he0
 have hs : s.size ≤ 1048576 := by omega
 have HS := lh fun w' => s_ParseGraph s w' hs
 have HI := lh fun w' (e : Ext w w') => i_ParseGraph s w' hs (HG.out.ext e)
 rw [Sg.parseG_eq] at HI
 obtain ⟨f1, f2, f3, f4⟩ := parsedG_facts (tx s)
 generalize (Sg.parsedG (Sg.parseG (tx s))).1 = g at *
 generalize (Sg.parsedG (Sg.parseG (tx s))).2.2 = ok at *
 generalize (Sg.parsedG (Sg.parseG (tx s))).2.1 = c at *
 have HNF := lh f2
 have HOK := lh f4
 have zok : (ok != ok) = false := by simp
 have zok2 : (ok == ok) = true := by simp
 clear f2 f4 hs hsz HD
 go_wp2_with fail
 refine (HI.out _ E0.out).mono ?_
 rintro e w1 ⟨A1, c1, k1, K1, d1, rfl, he1, hs1⟩
 have E1 := lh (E0.out.tr he1)
 have S1 := lh (Sep.addG (show Sep (B := w.heap.size) [] w0 from trivial) he1 E0.out.size hs1)
 have S1x := lh (Sep.add S1.out ((Ext.rfl' w1).al (.cells #[.slice A1 g.length c1] 24)) (Th.box w.heap.size w1.heap.size [.slice A1 g.length c1]) ⟨Bx.new w1 _ _, E1.out.size⟩ (fun b e => by have e2 : b = w1.heap.size := e; omega))
 have E1x := lh (E1.out.al (.cells #[.slice A1 g.length c1] 24))
 clear he1 hs1 S1
 go_upto_region 5 with fail
 generalize World.alloc w1 (.cells #[.slice A1 g.length c1] 24) = v1 at *
 generalize w1.heap.size = b1 at *
 clear E1
 go_wp2_with fail
 refine (HS.out _).mono ?_
 rintro e w2 ⟨A2, c2, k2, K2, d2, rfl, he2, hs2⟩
 have E2 := lh (E1x.out.tr he2)
 have S2 := lh (Sep.addG S1x.out he2 E1x.out.size hs2)
 have S2x := lh (Sep.add S2.out ((Ext.rfl' w2).al (.cells #[.slice A2 g.length c2] 24)) (Th.box w.heap.size w2.heap.size [.slice A2 g.length c2]) ⟨Bx.new w2 _ _, E2.out.size⟩ (fun b e => by have e2 : b = w2.heap.size := e; omega))
 have E2x := lh (E2.out.al (.cells #[.slice A2 g.length c2] 24))
 clear he2 hs2 S2 S1x
 go_upto_region 6 with fail
 generalize World.alloc w2 (.cells #[.slice A2 g.length c2] 24) = v2 at *
 generalize w2.heap.size = b2 at *
 clear E2
 have y1 : Bx v2 b1 [.slice A1 g.length c1] := (Sep.get S2x.out 3 rfl : Bx _ _ _ ∧ _).1
 have q1 := y1.cell (j := 0) rfl
 have l1 := y1.lt
 have y2 : Bx v2 b2 [.slice A2 g.length c2] := (Sep.get S2x.out 0 rfl : Bx _ _ _ ∧ _).1
 have q2 := y2.cell (j := 0) rfl
 have l2 := y2.lt
 clear y1 y2
 have HEa := lh (l_equalGraph A1 A2 c1 c2 g v2 (OwnN.rdN (show OwnN v2 w.heap.size A1 c1 g k1 from Sep.get S2x.out 4 rfl) (by omega) HNF.out) (OwnN.rdN (show OwnN v2 w.heap.size A2 c2 g k2 from Sep.get S2x.out 1 rfl) (by omega) HNF.out))
 go_wp2_with fail
 refine (HEa.out).mono ?_
 rintro e v11 ⟨rfl, he11⟩
 have E11x := lh (E2x.out.tr he11)
 have S11x := lh (Sep.ext S2x.out he11)
 clear he11 S2x
 clear q1 l1 q2 l2
 have HFa := lh (l_equalInts K1 K2 d1 d2 c v11 (show Own v11 w.heap.size 3 1 K1 c.length d1 (ints c) from Sep.get S11x.out 5 rfl).rd (show Own v11 w.heap.size 3 1 K2 c.length d2 (ints c) from Sep.get S11x.out 2 rfl).rd)
 go_wp2_with fail
 refine (HFa.out).mono ?_
 rintro e v12 ⟨rfl, he12⟩
 have E12x := lh (E11x.out.tr he12)
 have S12x := lh (Sep.ext S11x.out he12)
 clear he12 S11x
 cases ok
 ·clear zok zok2
  skip
  have y1 : Bx v12 b1 [.slice A1 g.length c1] := (Sep.get S12x.out 3 rfl : Bx _ _ _ ∧ _).1
  have q1 := y1.cell (j := 0) rfl
  have l1 := y1.lt
  have y2 : Bx v12 b2 [.slice A2 g.length c2] := (Sep.get S12x.out 0 rfl : Bx _ _ _ ∧ _).1
  have q2 := y2.cell (j := 0) rfl
  have l2 := y2.lt
  clear y1 y2
  have HEb := lh (l_equalGraph A1 A2 c1 c2 g v12 (OwnN.rdN (show OwnN v12 w.heap.size A1 c1 g k1 from Sep.get S12x.out 4 rfl) (by omega) HNF.out) (OwnN.rdN (show OwnN v12 w.heap.size A2 c2 g k2 from Sep.get S12x.out 1 rfl) (by omega) HNF.out))
  go_wp2_with fail
  refine (HEb.out).mono ?_
  rintro e v13 ⟨rfl, he13⟩
  have E13x := lh (E12x.out.tr he13)
  have S13x := lh (Sep.ext S12x.out he13)
  clear he13 S12x
  clear q1 l1 q2 l2
  have HFb := lh (l_equalInts K1 K2 d1 d2 c v13 (show Own v13 w.heap.size 3 1 K1 c.length d1 (ints c) from Sep.get S13x.out 5 rfl).rd (show Own v13 w.heap.size 3 1 K2 c.length d2 (ints c) from Sep.get S13x.out 2 rfl).rd)
  go_wp2_with fail
  refine (HFb.out).mono ?_
  rintro e v14 ⟨rfl, he14⟩
  have E14x := lh (E13x.out.tr he14)
  have S14x := lh (Sep.ext S13x.out he14)
  clear he14 S13x
  go_wp2
  go_ret
  exact ⟨rfl, E14x.out⟩
 ·have HV := lh (HOK.out rfl)
  have y1 : Bx v12 b1 [.slice A1 g.length c1] := (Sep.get S12x.out 3 rfl : Bx _ _ _ ∧ _).1
  have q1 := y1.cell (j := 0) rfl
  have l1 := y1.lt
  clear y1
  have HFG := lh (i_FormatGraph A1 K1 c1 d1 g c v12 (HG.out.ext E12x.out).gl (OwnN.rdN (show OwnN v12 w.heap.size A1 c1 g k1 from Sep.get S12x.out 4 rfl) (by omega) HNF.out) (show Own v12 w.heap.size 3 1 K1 c.length d1 (ints c) from Sep.get S12x.out 5 rfl).rd)
  have b1x : (Sg.fmtG g c == s.toList) = true := by rw [HV.out.2.2, tl_tx]; simp
  go_wp2_with fail
  refine (HFG.out).mono ?_
  rintro e v13 ⟨rfl, he13⟩
  have E13x := lh (E12x.out.tr he13)
  have S13x := lh (Sep.ext S12x.out he13)
  clear he13 S12x
  clear q1 l1
  have y1 : Bx v13 b1 [.slice A1 g.length c1] := (Sep.get S13x.out 3 rfl : Bx _ _ _ ∧ _).1
  have q1 := y1.cell (j := 0) rfl
  have l1 := y1.lt
  clear y1
  have HVC := lh (i_ValidCells A1 K1 c1 d1 g c v13 (OwnN.rdN (show OwnN v13 w.heap.size A1 c1 g k1 from Sep.get S13x.out 4 rfl) (by omega) HNF.out) (show Own v13 w.heap.size 3 1 K1 c.length d1 (ints c) from Sep.get S13x.out 5 rfl).rd)
  rw [HV.out.1, HV.out.2.1] at HVC
  go_wp2_with fail
  refine (HVC.out).mono ?_
  rintro e v14 ⟨rfl, he14⟩
  have E14x := lh (E13x.out.tr he14)
  have S14x := lh (Sep.ext S13x.out he14)
  clear he14 S13x
  go_wp2
  go_ret
  exact ⟨rfl, E14x.out⟩
end Go.Proofs.YtdnlpklmihoapaaGreatDoor
