/- FnExactMustRun: the law's walk with the contracts of both functions. Conditions: the arguments can be read. -/
import Derived.Test.YtkkegmimofmhpaaLawS
import Derived.Test.YtkkegmimofmhpaaSpecP
import Derived.Test.YtkkegmimofmhpaaImplU
namespace Go.Proofs.Ytkkegmimofmhpaa
open Go.RowKit
theorem mustOr_len (g : Sg.Graph) (a b : List Int) : (Sg.mustOr g a b).length ≤ 1048576 := by
  unfold Sg.mustOr
  split
  · rename_i h
    simp only [Bool.and_eq_true] at h
    have h1 := validG_len h.1.1
    have h2 := Sg.whichL_len (Sg.mustAt g (Sg.mean g a) (Sg.mean g b)) g.length
    omega
  · simp
theorem ex_FnExactMustRun (A : Option Addr) (c : Nat) (g : Sg.Graph) (A1 : Option Addr) (c1 : Nat) (l1 : List Int) (A2 : Option Addr) (c2 : Nat) (l2 : List Int) (w : World) (h0 : RdN0 w A g) (h1 : Rd w 1 A1 l1.length (ints l1)) (h2 : Rd w 1 A2 l2.length (ints l2)) :
    Calls Try.prog 6 #[.agg #[.slice A g.length c], .slice A1 l1.length c1, .slice A2 l2.length c2] w fun e w' => e = .returned (.bool true) ∧ Ext w w' := by
  refine l_FnExactMustRun A c g A1 c1 l1 A2 c2 l2 (Sg.mustOr g l1 l2) (mustOr_len g l1 l2) (fun B0 d0 B1 d1 B2 d2 w h ha hb => s_MustRun B0 B1 B2 d0 d1 d2 g l1 l2 w h ha hb) (fun B0 d0 B1 d1 B2 d2 w h ha hb => ?_) w h0 h1 h2
  refine (i_MustRun B0 B1 B2 d0 d1 d2 g l1 l2 w h ha hb).mono ?_
  rintro e w1 ⟨A1, rfl, ho, he⟩
  exact ⟨A1, _, rfl, ho, he⟩
end Go.Proofs.Ytkkegmimofmhpaa
