/- FnExactStartEager: the law's walk out of both contracts. Conditions: the arguments can be read. -/
import Derived.Test.YtkkegmimofmhpaaLawQ
namespace Go.Proofs.Ytkkegmimofmhpaa
open Go.RowKit
theorem ex_FnExactStartEager (A : Option Addr) (c : Nat) (g : Sg.Graph) (A1 : Option Addr) (c1 : Nat) (l1 : List Int) (w : World) (h0 : RdN0 w A g) (h1 : Rd w 1 A1 l1.length (ints l1)) :
    Calls Try.prog 7 #[.agg #[.slice A g.length c], .slice A1 l1.length c1] w fun e w' => e = .returned (.bool true) ∧ Ext w w' := by
  refine l_FnExactStartEager A c g A1 c1 l1 (startOr g l1) (smallE_start g l1) (fun B0 d0 B1 d1 w h hc => s_StartEager B0 B1 d0 d1 g l1 w h hc) (fun B0 d0 B1 d1 w h hc => ?_) w h0 h1
  refine (i_StartEager B0 B1 d0 d1 g l1 w h hc).mono ?_
  rintro e w1 ⟨A1, A2, hs, rfl, ho, he⟩
  exact ⟨A1, _, A2, _, hs, rfl, ho, he⟩
end Go.Proofs.Ytkkegmimofmhpaa
