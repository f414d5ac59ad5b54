/- FnExactStaleOf: the law's walk with the contracts of both functions. Conditions: the arguments can be read. -/
import Derived.Test.YtkbihkggneaeeaaGreatLawSO
import Derived.Test.YtkbihkggneaeeaaGreatSpecW
import Derived.Test.YtkbihkggneaeeaaGreatImplA1
namespace Go.Proofs.YtkbihkggneaeeaaGreat
open Go.RowKit
theorem ex_FnExactStaleOf (A0 : Option Addr) (c0 : Nat) (g : Sg.Graph) (A1 : Option Addr) (c1 : Nat) (v : List Int) (B1 : Option Addr) (k1 : Nat) (r : List (List Int)) (C1 : Option Addr) (m1 : Nat) (q : List Int) (w : World) (h0 : RdN0 w A0 g) (h1 : Rd w 1 A1 v.length (ints v)) (h2 : RdL0 w B1 r) (h3 : Rd w 1 C1 q.length (ints q)) :
    Calls Tryz.prog 4 #[.agg #[.slice A0 g.length c0], .agg #[.slice A1 v.length c1, .slice B1 r.length k1, .slice C1 q.length m1]] w fun e w' => e = .returned (.bool true) ∧ Ext w w' :=
  l_FnExactStaleOf A0 c0 g A1 c1 v B1 k1 r C1 m1 q (Sg.staleOf g ⟨v, r, q⟩) (Sg.staleOf_len _ _)
    (fun B0 d0 B1 d1 E1 e1 F1 f1 w h hv hr hq hvl hql => s_StaleOf B0 B1 E1 F1 d0 d1 e1 f1 g v q r w h hv hr hq hvl hql)
    (fun B0 d0 B1 d1 E1 e1 F1 f1 w h hv hr hq hvl hql => i_StaleOf B0 B1 E1 F1 d0 d1 e1 f1 g v q r w h hv hr hq hvl hql) w h0 h1 h2 h3
end Go.Proofs.YtkbihkggneaeeaaGreat
