/- The program's meaning, with its function value: contracts. Conditions: valid graphs and cells. -/
import Derived.Test.YtkkegmimofmhpaaGreatImplP
import Derived.Test.YtkkegmimofmhpaaGreatImplThree
import Derived.Test.YtkkegmimofmhpaaGreatCore
import Derived.Test.YtkkegmimofmhpaaGreatSpecThree
import Derived.Test.YtkkegmimofmhpaaGreatLawTwo
import Derived.Deep.DeepCutAuto
namespace Go.Proofs.YtkkegmimofmhpaaGreat
open Go.RowKit

theorem held_allocS {ops : Array Oper} {o : Oper} {a : Act} {w : World} {K : Act → World → Prop} {Q : Exit → Act → World → Prop} {E0 : Prop} (hgd : o.guard = none) (ho : o.op = Op.alloc 25)
    (h : ∀ b w', b = w.heap.size → w'.cell? ⟨b, 0, none⟩ = some (.slice none 0 0) → w'.frozen? ⟨b, 0, none⟩ = false → Ext w w' → w.heap.size + 1 ≤ w'.heap.size → K (a.put o.dst (.pointer (some ⟨b, 0, none⟩))) w') :
    if Region.wanted o (yielded ops a.tmps) = true then Oper.wp Tryz.prog o a w K Q else E0 := by
  have hw : Region.wanted o (yielded ops a.tmps) = true := by simp [Region.wanted, hgd]
  rw [if_pos hw]
  obtain ⟨dst, op, ty, pos, aft, gd⟩ := o
  simp only at hgd ho
  subst ho
  go_simp
  exact h _ _ rfl (by simp [go_sem]) (by simp [go_sem]) ((Ext.rfl' w).al _) (by simp)

theorem range_app {a : List Int} (h : Sg.inRange a) (m : Nat) : Sg.inRange (a ++ List.replicate m 0) := by
  intro x hx
  rcases List.mem_append.1 hx with hx | hx
  · exact h x hx
  · have := (List.mem_replicate.1 hx).2
    omega

end Go.Proofs.YtkkegmimofmhpaaGreat
