/- A struct's box made inside a drawn region. Conditions: none. -/
import Derived.Test.YtmkfjnkdaeoppaaGreatLazFour
namespace Go.Proofs.YtmkfjnkdaeoppaaGreat
open Go.RowKit
theorem held_alZ {ops : Array Oper} {o : Oper} {a : Act} {w : World} {K : Act → World → Prop} {Q : Exit → Act → World → Prop} {E0 : Prop} (hgd : o.guard = none) (ho : o.op = Op.alloc 29)
  (h : ∀ b w', b = w.heap.size → Bx w' b [.slice none 0 0, .slice none 0 0, .slice none 0 0] → Ext w w' → K (a.put o.dst (.pointer (some ⟨b, 0, none⟩))) w') : if Region.wanted o (yielded ops a.tmps) = true then Oper.wp Tryz.prog o a w K Q else E0 := by
 have hw : Region.wanted o (yielded ops a.tmps) = true := by simp [Region.wanted, hgd]
 rw [if_pos hw]
 obtain ⟨dst, op, ty, pos, aft, gd⟩ := o
 simp only at hgd ho
 subst ho
 go_simp
 exact h _ _ rfl (by simpa using Bx.new w #[.slice none 0 0, .slice none 0 0, .slice none 0 0] 29) ((Ext.rfl' w).al _)
end Go.Proofs.YtmkfjnkdaeoppaaGreat
