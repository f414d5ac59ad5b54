/- FnExactEagerSession: the law's walk with the contracts of both functions. Conditions: the arguments can be read. -/
import Derived.Test.YtaklkcjlihdlkaaGreatLawES
import Derived.Test.YtaklkcjlihdlkaaGreatSesF
import Derived.Test.YtaklkcjlihdlkaaGreatSesG
namespace Go.Proofs.YtaklkcjlihdlkaaGreat
open Go.RowKit
theorem eagerS_small (g : Sg.Graph) (x : List Int) (l : List Sg.Act) : (Sg.eagerS g x l).length ≤ 1048576 := by rw [Sg.eager_is_plain]; exact Sg.plainS_small g x l
theorem ex_FnExactEagerSession (A0 : Option Addr) (c0 : Nat) (g : Sg.Graph) (A1 : Option Addr) (c1 : Nat) (l1 : List Int) (A2 : Option Addr) (c2 : Nat) (l2 : List Sg.Act) (w : World) (h0 : RdN0 w A0 g) (h1 : Rd w 1 A1 l1.length (ints l1)) (h2 : Rd w 3 A2 l2.length (acts l2)) :
  Calls Tryz.prog 6 #[.agg #[.slice A0 g.length c0], .slice A1 l1.length c1, .slice A2 l2.length c2] w fun e w' => e = .returned (.bool true) ∧ Ext w w' :=
 l_FnExactEagerSession A0 c0 g A1 c1 l1 A2 c2 l2 (Sg.eagerS g l1 l2) (eagerS_small g l1 l2)
  (fun B0 d0 B1 d1 B2 d2 w h hx hl _ _ => s_EagerSession B0 B1 B2 d0 d1 d2 g l1 l2 w h hx hl)
  (fun B0 d0 B1 d1 B2 d2 w h hx hl _ _ => i_EagerSession B0 B1 B2 d0 d1 d2 g l1 l2 w h hx hl) w h0 h1 h2
end Go.Proofs.YtaklkcjlihdlkaaGreat
