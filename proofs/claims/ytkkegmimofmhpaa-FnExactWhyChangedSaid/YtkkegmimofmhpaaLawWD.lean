/- FnExactWhyChanged: the law's walk with the contracts of both functions. Conditions: the arguments can be read. -/
import Derived.Test.YtkkegmimofmhpaaLawWC
import Derived.Test.YtkkegmimofmhpaaSpecV
import Derived.Test.YtkkegmimofmhpaaImplZw
namespace Go.Proofs.Ytkkegmimofmhpaa
open Go.RowKit Go.ChangeShapes
theorem lit64 {n : Int} (h : (Lit.int .i64 n).wf = true) : -9223372036854775808 ≤ n ∧ n ≤ 9223372036854775807 := by
  simp only [Lit.wf, Bool.and_eq_true, decide_eq_true_eq] at h
  simp [IntKind.min, IntKind.max, IntKind.signed, IntKind.bits] at h
  omega
theorem ex_FnExactWhyChanged (A : Option Addr) (c : Nat) (g : Sg.Graph) (A1 : Option Addr) (c1 : Nat) (l1 : List Int) (A2 : Option Addr) (c2 : Nat) (l2 : List Int) (n : Int) (w : World) (h0 : RdN0 w A g) (h1 : Rd w 1 A1 l1.length (ints l1)) (h2 : Rd w 1 A2 l2.length (ints l2)) (hn : (Lit.int .i64 n).wf = true) :
    Calls Try.prog 13 #[.agg #[.slice A g.length c], .slice A1 l1.length c1, .slice A2 l2.length c2, .int .i64 n] w fun e w' => e = .returned (.bool true) ∧ Ext w w' := by
  refine l_FnExactWhyChanged A c g A1 c1 l1 A2 c2 l2 n (Sg.whyOr g l1 l2 n) (whyOr_len g l1 l2 n) (fun B0 d0 B1 d1 B2 d2 w h ha hb _ _ => s_WhyChanged B0 B1 B2 d0 d1 d2 g l1 l2 n w h ha hb (lit64 hn).1 (lit64 hn).2) (fun B0 d0 B1 d1 B2 d2 w h ha hb _ _ => ?_) w h0 h1 h2
  refine (i_WhyChanged B0 B1 B2 d0 d1 d2 g l1 l2 n w h ha hb).mono ?_
  rintro e w1 ⟨A1, rfl, ho, he⟩
  exact ⟨A1, _, rfl, ho, he⟩
end Go.Proofs.Ytkkegmimofmhpaa
