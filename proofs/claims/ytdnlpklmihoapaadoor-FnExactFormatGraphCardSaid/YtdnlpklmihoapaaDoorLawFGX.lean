/- FnExactFormatGraph: the law's walk with the contracts of both functions. Conditions: the arguments can be read, the program's variables are as they were laid. -/
import Derived.Test.YtdnlpklmihoapaaDoorLawFG
import Derived.Test.YtdnlpklmihoapaaDoorTxD
import Derived.Test.YtdnlpklmihoapaaDoorTxH
namespace Go.Proofs.YtdnlpklmihoapaaDoor
open Go.RowKit
theorem ex_FnExactFormatGraph (A0 : Option Addr) (c0 : Nat) (g : Sg.Graph) (A1 : Option Addr) (c1 : Nat) (l1 : List Int) (w : World) (hG : Gl w) (h0 : RdN0 w A0 g) (h1 : Rd w 1 A1 l1.length (ints l1)) :
  Calls Tryd.prog 3 #[.agg #[.slice A0 g.length c0], .slice A1 l1.length c1] w fun e w' => e = .returned (.bool true) ∧ Ext w w' :=
 l_FnExactFormatGraph A0 c0 g A1 c1 l1 (Sg.fmtG g l1)
  (fun B0 d0 B1 d1 w h hx _ => s_FormatGraph B0 B1 d0 d1 g l1 w h hx)
  (fun B0 d0 B1 d1 w h hx _ hG => i_FormatGraph B0 B1 d0 d1 g l1 w hG h hx) w hG h0 h1
end Go.Proofs.YtdnlpklmihoapaaDoor
