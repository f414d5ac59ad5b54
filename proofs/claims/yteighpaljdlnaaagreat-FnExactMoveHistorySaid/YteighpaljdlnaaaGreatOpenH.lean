/- Readings of histories handed in as arguments. Conditions: the argument is readable. -/
import Derived.Test.YteighpaljdlnaaaGreatOpenAll
namespace Go.Proofs.YteighpaljdlnaaaGreat
open Go.RowKit Go.ChangeShapes Go.WideShapes Go.Deep
section
variable {H : Type} {enc : TypeId × Value → H} {w : World} {base : Nat} {spare : Nat → Bool} {held : Bool}
variable {r : Reach} {b0 : Nat} {v : Value} {d : DataW H} {ps : List MemPlace}
set_option maxRecDepth 100000 in
theorem arg_history (hw : Value.okWide Tryz.prog w r b0 27 v) (h : DataW.Trod enc Tryz.prog w base spare held 27 v d ps) :
  ∃ (A : Option Addr) (c : Nat) (ll : List (List Int)) (p : Int), v = .agg #[.slice A ll.length c, .int .i64 p] ∧ RdL0 w A ll := by
 obtain ⟨cs, rfl, hsz⟩ := okWide_struct Tryz.underlying27 hw
 obtain ⟨cs⟩ := cs
 obtain ⟨fuel, hf⟩ := h
 obtain ⟨hl, m, hf⟩ := rd_fields Tryz.underlying27 (by kernel_rfl) (by kernel_rfl) hf
 obtain ⟨v0, y0, hv0, hy0⟩ := hf 0 _ rfl
 obtain ⟨v1, y1, hv1, hy1⟩ := hf 1 _ rfl
 obtain ⟨A, c, ll, hz0, hr0⟩ := rd_lists hy0
 obtain ⟨z, hz1⟩ := rd_int hy1
 change cs[0]? = some v0 at hv0
 change cs[1]? = some v1 at hv1
 change cs.length = 2 at hl
 match cs, hl with
 | [c0, c1], _ =>
  simp only [List.getElem?_cons_zero, List.getElem?_cons_succ, Option.some.injEq] at hv0 hv1
  subst hv0 hv1
  simp only [List.cons.injEq, and_true] at hz0 hz1
  subst hz0 hz1
  exact ⟨A, c, ll, z, rfl, hr0⟩
end
end Go.Proofs.YteighpaljdlnaaaGreat
