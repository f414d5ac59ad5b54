/- A state that a call has made. Conditions: none. -/
import Derived.Test.YtmelggoagbhieaaGreatImplThree
import Derived.Test.YtmelggoagbhieaaGreatSpecThree
namespace Go.Proofs.YtmelggoagbhieaaGreat
open Go.RowKit

/-- what StartEager returns: the start, or the zero value -/
def startOr (g : Sg.Graph) (l : List Int) : Sg.Eager := if (Sg.validG g && Sg.validC g l) = true then Sg.startE g l else ⟨[], []⟩
/-- a state that a call has made -/
structure OwnE (w : World) (B : Nat) (A1 : Option Addr) (c1 : Nat) (A2 : Option Addr) (c2 : Nat) (hs : List (Option Addr × Nat)) (st : Sg.Eager) : Prop where
  v : Own w B 3 1 A1 st.vals.length c1 (ints st.vals)
  r : OwnL w B A2 c2 st.reads hs
  d : ∀ b, blk A1 = some b → ¬ fpD A2 hs b
theorem OwnE.nil (w : World) (B : Nat) : OwnE w B none 0 none 0 [] ⟨[], []⟩ := ⟨Own.nil _ _ _ _, OwnD.nil _ _ _ _ _ _, by intro b h; simp [blk] at h⟩
end Go.Proofs.YtmelggoagbhieaaGreat
