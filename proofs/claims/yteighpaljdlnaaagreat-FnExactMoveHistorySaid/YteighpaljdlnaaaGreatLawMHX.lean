/- FnExactMoveHistory: the law's walk with the contracts of both functions. Conditions: the arguments can be read. -/
import Derived.Test.YteighpaljdlnaaaGreatLawMH
import Derived.Test.YteighpaljdlnaaaGreatHisS
import Derived.Test.YteighpaljdlnaaaGreatHisI
namespace Go.Proofs.YteighpaljdlnaaaGreat
open Go.RowKit
theorem ex_FnExactMoveHistory (A0 : Option Addr) (c0 : Nat) (g : Sg.Graph) (A1 : Option Addr) (c1 : Nat) (r : List (List Int)) (p1 : Int) (n2 : Int) (w : World) (h0 : RdN0 w A0 g) (h1 : RdL0 w A1 r) (_h4 : (Lit.int .i64 n2).wf = true) :
  Calls Tryz.prog 3 #[.agg #[.slice A0 g.length c0], .agg #[.slice A1 r.length c1, .int .i64 p1], .int .i64 n2] w fun e w' => e = .returned (.bool true) ∧ Ext w w' :=
 l_FnExactMoveHistory A0 c0 g A1 c1 r p1 n2 (Sg.moveH g ⟨r, p1⟩ n2) (moveC g ⟨r, p1⟩ n2) (Sg.moveOk g ⟨r, p1⟩ n2) (moveH_small g ⟨r, p1⟩ n2) (Nat.le_trans (moveC_len _ _ _) (by omega))
  (fun B0 d0 B1 d1 w h hr => s_MoveHistory B0 B1 d0 d1 g r p1 n2 w h hr)
  (fun B0 d0 B1 d1 w h hr => i_MoveHistory B0 B1 d0 d1 g r p1 n2 w h hr) w h0 h1
end Go.Proofs.YteighpaljdlnaaaGreat
