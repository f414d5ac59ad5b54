/- FnExactPlainSession: the law's walk with the contracts of both functions. Conditions: the arguments can be read. -/
import Derived.Test.YtaklkcjlihdlkaaGreatLawPS
import Derived.Test.YtaklkcjlihdlkaaGreatSesP
import Derived.Test.YtaklkcjlihdlkaaGreatSesT
namespace Sg
theorem plainS_small (g : Graph) (x : List Int) (l : List Act) : (plainS g x l).length ≤ 1048576 := by
 unfold plainS
 split
 ·rename_i h
  obtain ⟨hG, hC, hA, hl⟩ := fitS_parts h
  have hg := Go.Proofs.YtaklkcjlihdlkaaGreat.validG_len hG
  have h1 := run_len g (ses0 g x, (x, showL (effs g (List.replicate g.length false)) (mean g x))) l
  have h2 : (showL (effs g (List.replicate g.length false)) (mean g x)).length ≤ g.length := by rw [showL_len]; exact effs_len _ _
  have h3 := Nat.mul_le_mul hg hl
  refine Nat.le_trans h1 ?_
  show (showL (effs g (List.replicate g.length false)) (mean g x)).length + _ ≤ _
  omega
 ·exact Nat.zero_le _
end Sg
namespace Go.Proofs.YtaklkcjlihdlkaaGreat
open Go.RowKit
theorem ex_FnExactPlainSession (A0 : Option Addr) (c0 : Nat) (g : Sg.Graph) (A1 : Option Addr) (c1 : Nat) (l1 : List Int) (A2 : Option Addr) (c2 : Nat) (l2 : List Sg.Act) (w : World) (h0 : RdN0 w A0 g) (h1 : Rd w 1 A1 l1.length (ints l1)) (h2 : Rd w 3 A2 l2.length (acts l2)) :
  Calls Tryz.prog 5 #[.agg #[.slice A0 g.length c0], .slice A1 l1.length c1, .slice A2 l2.length c2] w fun e w' => e = .returned (.bool true) ∧ Ext w w' :=
 l_FnExactPlainSession A0 c0 g A1 c1 l1 A2 c2 l2 (Sg.plainS g l1 l2) (Sg.plainS_small g l1 l2)
  (fun B0 d0 B1 d1 B2 d2 w h hx hl _ _ => s_PlainSession B0 B1 B2 d0 d1 d2 g l1 l2 w h hx hl)
  (fun B0 d0 B1 d1 B2 d2 w h hx hl _ _ => i_PlainSession B0 B1 B2 d0 d1 d2 g l1 l2 w h hx hl) w h0 h1 h2
end Go.Proofs.YtaklkcjlihdlkaaGreat
