/- The plain model of why a value changed: no program in sight. Conditions: none. -/
import Derived.Test.YtmelggoagbhieaaGreatModelsA
namespace Sg
def common (a b : List Int) : List Int := a.filter fun x => decide (x ∈ b)
def minL (l : List Int) : Int := l.foldl min (l.headD 0)
/-- the least of the nodes that n read and that changed -/
def nxt (g : Graph) (x ch : List Int) (n : Int) : Int := minL (common (depAt g x n.toNat) ch)
end Sg
