/- FnParseFormula: the law's walk. Conditions: the code can be read; the program's variables are as they were laid. -/
import Derived.Test.YtdnlpklmihoapaaDoorTy
import Derived.Test.YtdnlpklmihoapaaDoorTxO
import Derived.Test.YtdnlpklmihoapaaDoorTxY
import Derived.Test.YtdnlpklmihoapaaDoorDrawY
import Derived.Test.YtdnlpklmihoapaaDoorReg
namespace Go.Proofs.YtdnlpklmihoapaaDoor
open Go.RowKit
theorem parsed_facts (s : Sg.Txt) : (Sg.parsed (Sg.parseF s)).1.length ≤ 12 ∧ ((Sg.parsed (Sg.parseF s)).2 = true → Sg.validF (Sg.parsed (Sg.parseF s)).1 = true ∧ Sg.orderF (Sg.parsed (Sg.parseF s)).1 = (Sg.parsed (Sg.parseF s)).1 ∧ Sg.fmtF (Sg.parsed (Sg.parseF s)).1 = s) := by
 cases hq : Sg.parseF s with
 | none => simp [Sg.parsed]
 | some f =>
  obtain ⟨h1, h2, h3, _⟩ := Sg.parse_some hq
  exact ⟨(Sg.validF_len h1).2, fun _ => ⟨h1, h2, h3⟩⟩
set_option maxRecDepth 100000 in
set_option maxHeartbeats 8000000 in
theorem ex_FnParseFormula (A : Option Addr) (c : Nat) (l : List Int) (w : World) (hG : Ge w) (h : Rd w 1 A l.length (u8s l)) (hr : ∀ x ∈ l, 0 ≤ x ∧ x ≤ 255) (hc : l.length ≤ c) (hcm : c ≤ maxLen) :
  Calls Tryd.prog 6 #[.slice A l.length c] w fun e w' => e = .returned (.bool true) ∧ Ext w w' := by
 have hbig := h.big
 have HG := lh hG
 have HD := lh (s_DrawParseFormula A c l w h hr hc hcm)
 clear h hr hc hcm hG
 by_cases hb : 1048576 < l.length
 ·have hb2 : (1048576 : Int) < (l.length : Int) := by omega
  go_enter Tryd.func6, Tryd.ntmps6
  go_wp2
  go_ret
  exact ⟨rfl, Ext.rfl' _⟩
 have hb2 : ¬ (1048576 : Int) < (l.length : Int) := by omega
 clear hb
 go_enter Tryd.func6, Tryd.ntmps6
 go_wp2_with fail
 refine HD.out.mono ?_
 rintro e w0 ⟨s, rfl, hsz, he0⟩
 have E0 := lh he0
 clear he0
 have hs : s.size ≤ 1048576 := by omega
 have HS := lh fun w' => s_ParseFormula s w' hs
 have HI := lh fun w' (e : Ext w w') => i_ParseFormula s w' hs (HG.out.ext e)
 rw [Sg.parseI_eq] at HI
 obtain ⟨f1, f4⟩ := parsed_facts (tx s)
 generalize (Sg.parsed (Sg.parseF (tx s))).1 = g at *
 generalize (Sg.parsed (Sg.parseF (tx s))).2 = ok at *
 have HOK := lh f4
 have zok : (ok != ok) = false := by simp
 have zok2 : (ok == ok) = true := by simp
 clear f4 hs hsz HD
 go_wp2_with fail
 refine (HI.out _ E0.out).mono ?_
 rintro e w1 ⟨A1, c1, rfl, he1, hs1⟩
 have E1 := lh (E0.out.tr he1)
 have S1 := lh (Sep.add (show Sep (B := w.heap.size) [] w0 from trivial) he1 (Th.own w.heap.size 73 5 A1 g.length c1 (parts g)) (hs1.mono E0.out.size) (fun b hb => (hs1.lt hb).1))
 have S1x := lh (Sep.add S1.out ((Ext.rfl' w1).al (.cells #[.slice A1 g.length c1] 39)) (Th.box w.heap.size w1.heap.size [.slice A1 g.length c1]) ⟨Bx.new w1 _ _, E1.out.size⟩ (fun b e => by have e2 : b = w1.heap.size := e; omega))
 have E1x := lh (E1.out.al (.cells #[.slice A1 g.length c1] 39))
 clear he1 hs1 S1
 go_upto_region 5 with fail
 generalize World.alloc w1 (.cells #[.slice A1 g.length c1] 39) = v1 at *
 generalize w1.heap.size = b1 at *
 clear E1
 go_wp2_with fail
 refine (HS.out _).mono ?_
 rintro e w2 ⟨A2, c2, rfl, he2, hs2⟩
 have E2 := lh (E1x.out.tr he2)
 have S2 := lh (Sep.add S1x.out he2 (Th.own w.heap.size 73 5 A2 g.length c2 (parts g)) (hs2.mono E1x.out.size) (fun b hb => (hs2.lt hb).1))
 have S2x := lh (Sep.add S2.out ((Ext.rfl' w2).al (.cells #[.slice A2 g.length c2] 39)) (Th.box w.heap.size w2.heap.size [.slice A2 g.length c2]) ⟨Bx.new w2 _ _, E2.out.size⟩ (fun b e => by have e2 : b = w2.heap.size := e; omega))
 have E2x := lh (E2.out.al (.cells #[.slice A2 g.length c2] 39))
 clear he2 hs2 S2 S1x
 go_upto_region 6 with fail
 generalize World.alloc w2 (.cells #[.slice A2 g.length c2] 39) = v2 at *
 generalize w2.heap.size = b2 at *
 clear E2
 have y1 : Bx v2 b1 [.slice A1 g.length c1] := (Sep.get S2x.out 2 rfl : Bx _ _ _ ∧ _).1
 have q1 := y1.cell (j := 0) rfl
 have l1 := y1.lt
 have y2 : Bx v2 b2 [.slice A2 g.length c2] := (Sep.get S2x.out 0 rfl : Bx _ _ _ ∧ _).1
 have q2 := y2.cell (j := 0) rfl
 have l2 := y2.lt
 clear y1 y2
 have HEa := lh (l_equalFormula A1 A2 c1 c2 g v2 (show Own v2 w.heap.size 73 5 A1 g.length c1 (parts g) from Sep.get S2x.out 3 rfl).rd (show Own v2 w.heap.size 73 5 A2 g.length c2 (parts g) from Sep.get S2x.out 1 rfl).rd)
 go_wp2_with fail
 refine (HEa.out).mono ?_
 rintro e v11 ⟨rfl, he11⟩
 have E11x := lh (E2x.out.tr he11)
 have S11x := lh (Sep.ext S2x.out he11)
 clear he11 S2x
 clear q1 l1 q2 l2
 cases ok
 ·skip
  have y1 : Bx v11 b1 [.slice A1 g.length c1] := (Sep.get S11x.out 2 rfl : Bx _ _ _ ∧ _).1
  have q1 := y1.cell (j := 0) rfl
  have l1 := y1.lt
  have y2 : Bx v11 b2 [.slice A2 g.length c2] := (Sep.get S11x.out 0 rfl : Bx _ _ _ ∧ _).1
  have q2 := y2.cell (j := 0) rfl
  have l2 := y2.lt
  clear y1 y2
  have HEb := lh (l_equalFormula A1 A2 c1 c2 g v11 (show Own v11 w.heap.size 73 5 A1 g.length c1 (parts g) from Sep.get S11x.out 3 rfl).rd (show Own v11 w.heap.size 73 5 A2 g.length c2 (parts g) from Sep.get S11x.out 1 rfl).rd)
  go_wp2_with fail
  refine (HEb.out).mono ?_
  rintro e v12 ⟨rfl, he12⟩
  have E12x := lh (E11x.out.tr he12)
  have S12x := lh (Sep.ext S11x.out he12)
  clear he12 S11x
  clear q1 l1 q2 l2
  go_wp2
  go_ret
  exact ⟨rfl, E12x.out⟩
 ·have HV := lh (HOK.out rfl)
  have y1 : Bx v11 b1 [.slice A1 g.length c1] := (Sep.get S11x.out 2 rfl : Bx _ _ _ ∧ _).1
  have q1 := y1.cell (j := 0) rfl
  have l1 := y1.lt
  clear y1
  have Q1 := lh q1
  have RD := lh (show Own v11 w.heap.size 73 5 A1 g.length c1 (parts g) from Sep.get S11x.out 3 rfl).rd
  have b1x : (Sg.fmtF g == s.toList) = true := by rw [HV.out.2.2, tl_tx]; simp
  have EV := E11x
  clear q1 l1
  go_upto_region 8 with fail
  refine zb 14 (fun W => W.cell? ⟨b1, 0, none⟩ = some (.slice A1 g.length c1)) ?_ (fun hHeld => ?_)
  ·exact ((Ext.rfl' v11).dr).cellE Q1.out
  refine zy 0 ?_
  refine zy 2 ?_
  refine zr 1 rfl fun K hK => ?_
  go_simp
  refine (i_FormatFormula A1 c1 g _ (HG.out.ext (EV.out.tr ((Ext.rfl' v11).dr))).gl (RD.out.ext ((Ext.rfl' v11).dr)) (by omega)).mono ?_
  rintro e u1 ⟨rfl, he1⟩
  have Y1 := lh (((Ext.rfl' v11).dr).tr he1)
  clear he1
  try go_wp2_with fail
  refine hK.out _ _ (fun _ => Y1.out.cellE Q1.out) (fun hh => ?_)
  have hHeld := hh (by decide)
  clear hK K hh
  try simp only [Act.put, pu]
  refine zy 3 ?_
  refine zy 4 ?_
  refine zy 5 ?_
  refine zr 6 rfl fun K hK => ?_
  go_simp
  refine (i_ValidFormula A1 c1 g _ (RD.out.ext Y1.out) (by omega)).mono ?_
  rintro e u2 ⟨rfl, he2⟩
  rw [HV.out.1]
  have Y2 := lh (Y1.out.tr he2)
  clear he2
  try go_wp2_with fail
  refine hK.out _ _ (fun _ => Y2.out.cellE Q1.out) (fun hh => ?_)
  have hHeld := hh (by decide)
  clear hK K hh
  try simp only [Act.put, pu]
  refine zy 7 ?_
  refine zy 8 ?_
  refine zy 9 ?_
  refine zy 11 ?_
  refine zr 10 rfl fun K hK => ?_
  go_simp
  have HOP := i_OrderParts A1 c1 g _ (RD.out.ext Y2.out) (by omega)
  rw [HV.out.2.1] at HOP
  refine HOP.mono ?_
  rintro e u3 ⟨AO, rfl, he3, hoO⟩
  have OO := lh hoO.rd
  have Y3 := lh (Y2.out.tr he3)
  clear he3 hoO HOP
  try go_wp2_with fail
  refine hK.out _ _ (fun _ => Y3.out.cellE Q1.out) (fun hh => ?_)
  have hHeld := hh (by decide)
  clear hK K hh
  try simp only [Act.put, pu]
  refine zr 12 rfl fun K hK => ?_
  go_simp
  refine (l_equalFormula AO A1 g.length c1 g _ OO.out (RD.out.ext Y3.out)).mono ?_
  rintro e u4 ⟨rfl, he4⟩
  have Y4 := lh (Y3.out.tr he4)
  clear he4
  try go_wp2_with fail
  refine hK.out _ _ (fun _ => Y4.out.cellE Q1.out) (fun hh => ?_)
  have hHeld := hh (by decide)
  clear hK K hh
  try simp only [Act.put, pu]
  refine zy 13 ?_
  refine zr 14 rfl fun K hK => ?_
  go_simp
  refine hK.out _ _ (fun e => absurd rfl e) (fun hh => ?_)
  clear hK K hHeld hh
  try simp only [Act.put, pu]
  refine zn ?_
  go_wp2
  go_ret
  exact ⟨rfl, EV.out.tr Y4.out⟩
end Go.Proofs.YtdnlpklmihoapaaDoor
