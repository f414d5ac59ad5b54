/- Readings of sessions handed in as arguments. Conditions: the argument is readable. -/
import Derived.Test.YtaklkcjlihdlkaaGreatOpenAll
import Derived.Test.YtaklkcjlihdlkaaGreatSesM
namespace Go.Proofs.YtaklkcjlihdlkaaGreat
open Go.RowKit Go.ChangeShapes Go.WideShapes Go.Deep
section
variable {H : Type} {enc : TypeId × Value → H} {w : World} {base : Nat} {spare : Nat → Bool} {held : Bool}
set_option maxRecDepth 100000 in
theorem rd_act {n : Nat} {cs : List Value} {x : DataW H × List MemPlace} (h : DataW.trod enc Tryz.prog w base spare held n 94 cs = some x) : ∃ p : Sg.Act, cs = acs p := by
 obtain ⟨hl, m, hf⟩ := rd_fields Tryz.underlying94 (by kernel_rfl) (by kernel_rfl) h
 obtain ⟨v0, y0, h0, g0⟩ := hf 0 _ rfl
 obtain ⟨z0, e0⟩ := rd_int g0
 simp only [List.cons.injEq, and_true] at e0
 subst e0
 obtain ⟨v1, y1, h1, g1⟩ := hf 1 _ rfl
 obtain ⟨z1, e1⟩ := rd_int g1
 simp only [List.cons.injEq, and_true] at e1
 subst e1
 obtain ⟨v2, y2, h2, g2⟩ := hf 2 _ rfl
 obtain ⟨z2, e2⟩ := rd_int g2
 simp only [List.cons.injEq, and_true] at e2
 subst e2
 refine ⟨⟨z0, z1, z2⟩, ?_⟩
 change cs.length = 3 at hl
 match cs, hl with
 | [c0, c1, c2], _ =>
  simp only [List.getElem?_cons_zero, List.getElem?_cons_succ, Option.some.injEq] at h0 h1 h2
  subst h0 h1 h2
  rfl
set_option maxRecDepth 100000 in
theorem rd_acts {n : Nat} {cs : List Value} {x : DataW H × List MemPlace} (h : DataW.trod enc Tryz.prog w base spare held n 44 cs = some x) : ∃ (A : Option Addr) (c : Nat) (f : List Sg.Act), cs = [.slice A f.length c] ∧ Rd w 3 A f.length (acts f) := by
 obtain ⟨A, len, cap, m, rfl, hm, hi⟩ := rd_slice Tryz.underlying44 (show Tryz.prog.cellsOf 94 = 3 by kernel_rfl) (by omega) h
 obtain ⟨l, hl, hQ⟩ := choose_list len (fun i p => ∃ b o, A = some ⟨b, o, none⟩ ∧ ∀ j u, (acs p)[j]? = some u → w.cell? ⟨b, o + (i * 3 + j), none⟩ = some u) (fun i hil => by
  obtain ⟨b, o, cs', y, ha, _, hat, ht⟩ := hi i hil
  obtain ⟨p, rfl⟩ := rd_act ht
  exact ⟨p, b, o, ha, hat⟩)
 subst hl
 refine ⟨A, cap, l, rfl, by simp, hm, fun h0 => ?_⟩
 have hp : 0 < l.length := by omega
 obtain ⟨b, o, ha, _⟩ := hQ 0 _ (List.getElem?_eq_getElem hp)
 refine ⟨b, o, ha, fun j u hu => ?_⟩
 have hj : j < l.length * 3 := by have := (List.getElem?_eq_some_iff.1 hu).1; simpa using this
 have hq : j / 3 < l.length := by omega
 obtain ⟨b', o', ha', hc⟩ := hQ (j / 3) _ (List.getElem?_eq_getElem hq)
 rw [ha] at ha'
 simp only [Option.some.injEq, Addr.mk.injEq, and_true] at ha'
 obtain ⟨rfl, rfl⟩ := ha'
 have e := at_flat acs 3 (fun _ => rfl) l (j / 3) (j % 3) (Nat.mod_lt _ (by omega)) (List.getElem?_eq_getElem hq)
 rw [show j / 3 * 3 + j % 3 = j from by omega] at e
 have := hc (j % 3) u (by rw [← e]; exact hu)
 rwa [show j / 3 * 3 + j % 3 = j from by omega] at this
variable {r : Reach} {b0 : Nat} {v : Value} {d : DataW H} {ps : List MemPlace}
set_option maxRecDepth 100000 in
theorem arg_acts (hw : Value.okWide Tryz.prog w r b0 44 v) (h : DataW.Trod enc Tryz.prog w base spare held 44 v d ps) : ∃ (A : Option Addr) (c : Nat) (l : List Sg.Act), v = .slice A l.length c ∧ Rd w 3 A l.length (acts l) := by
 obtain ⟨A0, n0, c0, rfl⟩ := okWide_slice Tryz.underlying44 hw
 obtain ⟨fuel, hf⟩ := h
 obtain ⟨A, c, l, hc, hr⟩ := rd_acts hf
 simp only [Value.cells, List.cons.injEq, Value.slice.injEq, and_true] at hc
 obtain ⟨rfl, rfl, rfl⟩ := hc
 exact ⟨_, _, l, rfl, hr⟩
end
end Go.Proofs.YtaklkcjlihdlkaaGreat
