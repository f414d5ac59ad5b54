/- A struct's box made inside a drawn region. Conditions: none. -/
import Derived.Test.YtmkfjnkdaeoppaaGreatLazFour
namespace Go.Proofs.YtmkfjnkdaeoppaaGreat
open Go.RowKit
theorem held_alE {ops : Array Oper} {o : Oper} {a : Act} {w : World} {K : Act → World → Prop} {Q : Exit → Act → World → Prop} {E0 : Prop} (hgd : o.guard = none) (ho : o.op = Op.alloc 63)
  (h : ∀ b w', b = w.heap.size → Bx w' b [.slice none 0 0, .slice none 0 0] → Ext w w' → K (a.put o.dst (.pointer (some ⟨b, 0, none⟩))) w') : if Region.wanted o (yielded ops a.tmps) = true then Oper.wp Tryz.prog o a w K Q else E0 := by
 have hw : Region.wanted o (yielded ops a.tmps) = true := by simp [Region.wanted, hgd]
 rw [if_pos hw]
 obtain ⟨dst, op, ty, pos, aft, gd⟩ := o
 simp only at hgd ho
 subst ho
 go_simp
 exact h _ _ rfl (by simpa using Bx.new w #[.slice none 0 0, .slice none 0 0] 63) ((Ext.rfl' w).al _)
theorem Bx.set2a {w : World} {b : Nat} {x0 x1 : Value} (h : Bx w b [x0, x1]) (u0 u1 : Value) : Bx ((w.setCell ⟨b, 0, none⟩ u0).setCell ⟨b, 1, none⟩ u1) b [u0, u1] := (h.set 0 u0).set 1 u1
theorem Mod.set2a (w : World) (b : Nat) (u0 u1 : Value) : Mod (fun x => x = b) w ((w.setCell ⟨b, 0, none⟩ u0).setCell ⟨b, 1, none⟩ u1) := Mod.set (F := fun x => x = b) (Mod.set (F := fun x => x = b) (Mod.rfl' _ w) (.inl rfl) u0) (.inl rfl) u1
end Go.Proofs.YtmkfjnkdaeoppaaGreat
