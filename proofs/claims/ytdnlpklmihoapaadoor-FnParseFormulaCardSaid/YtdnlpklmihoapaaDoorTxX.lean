/- What all listed variables hold, as the walks want it. Conditions: none. -/
import Derived.Test.YtdnlpklmihoapaaDoorTxV
import Derived.Test.YtdnlpklmihoapaaDoorTxM
import Derived.LaidLaws
import Derived.Shelf.Vars
namespace Go.Proofs.YtdnlpklmihoapaaDoor
open Go.ChangeShapes Go.WideShapes Go.ChangeAt Go.RowKit
theorem gEs : Tryd.prog.globalNamed "strconv.ErrSyntax" = some 3 := by kernel_rfl
theorem gEr : Tryd.prog.globalNamed "strconv.ErrRange" = some 4 := by kernel_rfl
theorem tEs : (Tryd.prog.globals[3]?).map (·.type) = some 62 := by kernel_rfl
theorem tEr : (Tryd.prog.globals[4]?).map (·.type) = some 62 := by kernel_rfl
theorem ge_of_laid {l : List (String × DataW Unit)} {W : World} (h : laidMetH Tryd.prog l W) (hn : (l.all fun x => x.2.handleName?.isNone) = true)
  (hw : ("loop.example/signalgraph/impl.words", Rows.laid_loop_example_signalgraph_impl_words) ∈ l) (hp : ("internal/strconv.uint64pow10", Rows.laid_internal_strconv_uint64pow10) ∈ l)
  (hs : ("strconv.ErrSyntax", Rows.laid_strconv_ErrSyntax) ∈ l) (hr : ("strconv.ErrRange", Rows.laid_strconv_ErrRange) ∈ l) (hsh : W.ShapedOpen Tryd.prog) : Ge W := by
 refine ⟨gl_of_laid h hn hw hp, ?_, ?_, ?_⟩
 ·exact cell_of_shapedOpen_int (zero := #[.int .i64 0]) (t := 3) hsh (of_decide_eq_true (by kernel_rfl)) (by kernel_rfl) rfl (by kernel_rfl) (by kernel_rfl) Tryd.underlying3
 ·rw [MakeChecks.laidMetH_plain _ _ _ hn] at h
  obtain ⟨ps, hL, _, _⟩ := h
  obtain ⟨g, t, cs, fuel, p, h1, h2, h3, h4⟩ := laid_mem hL hs
  obtain rfl := Option.some.inj (gEs.symm.trans h1)
  obtain rfl := Option.some.inj (tEs.symm.trans h2)
  obtain ⟨_, u, v, hcs, _⟩ := iface_of_trod Tryd.underlying62 h4
  exact ⟨u, v, by rw [h3, Array.eq_one_of_toList hcs]⟩
 ·rw [MakeChecks.laidMetH_plain _ _ _ hn] at h
  obtain ⟨ps, hL, _, _⟩ := h
  obtain ⟨g, t, cs, fuel, p, h1, h2, h3, h4⟩ := laid_mem hL hr
  obtain rfl := Option.some.inj (gEr.symm.trans h1)
  obtain rfl := Option.some.inj (tEr.symm.trans h2)
  obtain ⟨_, u, v, hcs, _⟩ := iface_of_trod Tryd.underlying62 h4
  exact ⟨u, v, by rw [h3, Array.eq_one_of_toList hcs]⟩
end Go.Proofs.YtdnlpklmihoapaaDoor
