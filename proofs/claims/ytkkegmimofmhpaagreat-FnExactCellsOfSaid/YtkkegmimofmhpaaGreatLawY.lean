/- FnExactCellsOf: the law's walk with the contracts of both functions. Conditions: the arguments can be read. -/
import Derived.Test.YtkkegmimofmhpaaGreatLawX
import Derived.Test.YtkkegmimofmhpaaGreatSpecU
import Derived.Test.YtkkegmimofmhpaaGreatImplX
namespace Go.Proofs.YtkkegmimofmhpaaGreat
open Go.RowKit
theorem cellsE_len (g : Sg.Graph) (st : Sg.Eager) : (Sg.cellsE g st).length ≤ 1048576 := by
  unfold Sg.cellsE
  split
  · rename_i h
    rw [Sg.length_cellsOf]
    unfold Sg.validE at h
    simp only [Bool.and_eq_true, decide_eq_true_eq] at h
    have := validG_len h.1.1.1.1
    omega
  · simp
theorem ex_FnExactCellsOf (A0 : Option Addr) (c0 : Nat) (g : Sg.Graph) (A1 : Option Addr) (c1 : Nat) (v : List Int) (B1 : Option Addr) (k1 : Nat) (r : List (List Int)) (w : World) (h0 : RdN0 w A0 g) (h1 : Rd w 1 A1 v.length (ints v)) (h2 : RdL0 w B1 r) :
    Calls Tryz.prog 3 #[.agg #[.slice A0 g.length c0], .agg #[.slice A1 v.length c1, .slice B1 r.length k1]] w fun e w' => e = .returned (.bool true) ∧ Ext w w' :=
  l_FnExactCellsOf A0 c0 g A1 c1 v B1 k1 r (Sg.cellsE g ⟨v, r⟩) (cellsE_len _ _)
    (fun B0 d0 B1 d1 E1 e1 w h hv hr hvl => s_CellsOf B0 B1 E1 d0 d1 e1 g v r w h hv hr hvl)
    (fun B0 d0 B1 d1 E1 e1 w h hv hr hvl => i_CellsOf B0 B1 E1 d0 d1 e1 g v r w h hv hr hvl) w h0 h1 h2
end Go.Proofs.YtkkegmimofmhpaaGreat
