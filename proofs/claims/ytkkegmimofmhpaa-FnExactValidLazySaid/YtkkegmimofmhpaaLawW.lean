/- FnExactValidLazy: the law's walk with the contracts of both functions. Conditions: the arguments can be read. -/
import Derived.Test.YtkkegmimofmhpaaLawV
import Derived.Test.YtkkegmimofmhpaaSpecS
import Derived.Test.YtkkegmimofmhpaaImplW
namespace Go.Proofs.Ytkkegmimofmhpaa
open Go.RowKit
theorem s_ValidLazy (A Av Ar Aq : Option Addr) (c cv cr cq : Nat) (g : Sg.Graph) (v q : List Int) (r : List (List Int)) (w : World) (h : RdN w A g) (hv : Rd w 1 Av v.length (ints v)) (hr : RdL w Ar r) (hq : Rd w 1 Aq q.length (ints q)) (hvl : v.length ≤ 1048576) (hql : q.length ≤ 1048576) :
    Calls Try.prog 56 #[.agg #[.slice A g.length c], .agg #[.slice Av v.length cv, .slice Ar r.length cr, .slice Aq q.length cq]] w fun e w' => e = .returned (.bool (Sg.validL g ⟨v, r, q⟩)) ∧ Ext w w' := by
  have HC := Lib.hid (fun w h hv hr hq => s_validLazy A Av Ar Aq c cv cr cq g v q r w h hv hr hq hvl hql)
  have HS := Lib.hid (Sg.validL_same g ⟨v, r, q⟩)
  have HE := Lib.hid (((Ext.rfl' w).al (.cells #[.slice A g.length c] 25)).al (.cells #[.slice Av v.length cv, .slice Ar r.length cr, .slice Aq q.length cq] 82))
  go_enter Try.func56, Try.ntmps56
  go_wp2_with (go_at_call 121; refine (HC.out _ (h.ext HE.out) (hv.ext HE.out) (hr.ext HE.out) (hq.ext HE.out)).mono ?_; rintro e w1 ⟨rfl, he1⟩)
  go_ret
  exact ⟨ret_bool HS.out, HE.out.tr he1⟩
theorem ex_FnExactValidLazy (A0 : Option Addr) (c0 : Nat) (g : Sg.Graph) (A1 : Option Addr) (c1 : Nat) (v : List Int) (B1 : Option Addr) (k1 : Nat) (r : List (List Int)) (C1 : Option Addr) (m1 : Nat) (q : List Int) (w : World) (h0 : RdN0 w A0 g) (h1 : Rd w 1 A1 v.length (ints v)) (h2 : RdL0 w B1 r) (h3 : Rd w 1 C1 q.length (ints q)) :
    Calls Try.prog 11 #[.agg #[.slice A0 g.length c0], .agg #[.slice A1 v.length c1, .slice B1 r.length k1, .slice C1 q.length m1]] w fun e w' => e = .returned (.bool true) ∧ Ext w w' :=
  l_FnExactValidLazy A0 c0 g A1 c1 v B1 k1 r C1 m1 q (Sg.validL g ⟨v, r, q⟩)
    (fun B0 d0 B1 d1 E1 e1 F1 f1 w h hv hr hq hvl hql => s_ValidLazy B0 B1 E1 F1 d0 d1 e1 f1 g v q r w h hv hr.rdL hq hvl hql)
    (fun B0 d0 B1 d1 E1 e1 F1 f1 w h hv hr hq hvl hql => i_ValidLazy B0 B1 E1 F1 d0 d1 e1 f1 g v q r w h hv hr hq hvl hql) w h0 h1 h2 h3
end Go.Proofs.Ytkkegmimofmhpaa
