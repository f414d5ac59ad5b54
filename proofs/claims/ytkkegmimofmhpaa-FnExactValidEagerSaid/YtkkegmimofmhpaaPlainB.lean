/- The program's run with plain values is the reference's. Conditions: none. -/
import Derived.Test.YtkkegmimofmhpaaImplJ
namespace Sg
theorem evalM_pure (f : List Part) (vals : List Int) : ∀ (k : Nat) (i : Int) (l : List Int),
    evalM f (fun (_ : List Int × Unit) n => rd vals n) (fun t n => (once t.1 n, ())) k i (l, ()) = ((reck f vals k i).1, ((reck f vals k i).2.foldl once l, ())) := by
  intro k
  induction k with
  | zero => intro i l; rfl
  | succ k ih =>
    intro i l
    simp only [evalM, reck]
    generalize f.getD i.toNat default = p
    by_cases h0 : p.kind = 0
    · simp [h0]
    · by_cases h1 : p.kind = 1
      · simp [h1]
      · by_cases h8 : p.kind = 8
        · simp [h8, ih, List.foldl_append]
        · simp [h0, h1, h8, ih, List.foldl_append]
theorem runM_pure (f : List Part) (vals : List Int) : runM f (fun (_ : Unit) n => rd vals n) (fun _ _ => ()) () = ((runF f vals).1, ((runF f vals).2, ())) := by
  unfold runM runF firstOnly
  exact evalM_pure f vals _ _ _
end Sg
