/- Parts of one proof, joined. The laws' comparisons of lists and states at equal contents: contracts. Conditions: none. The laws' place, noTwice, isIn: contracts. Conditions: the lists can be read. The laws' equalLazy at equal contents, and join: contracts. Conditions: bounds on lengths. The laws' isIn, within and ascends: contracts. Conditions: the lists can be read; within and ascends where they hold. -/
import Derived.Test.YtdnlpklmihoapaaGreatDoorCore
import Derived.Deep.QuietTactic
import Derived.BigQuiet
import Derived.Deep.RegionHeld3
import Derived.Test.YtdnlpklmihoapaaGreatDoorSpecOne
import Derived.IntWalk
/- The laws' comparisons of lists and states at equal contents: contracts. Conditions: none. -/
namespace Go.Proofs.YtdnlpklmihoapaaGreatDoor
open Go.RowKit

set_option maxHeartbeats 1000000 in
theorem l_equalInts (A B : Option Addr) (ca cb : Nat) (a : List Int) (w : World) (h : Rd w 1 A a.length (ints a)) (k : Rd w 1 B a.length (ints a)) :
  Calls Tryz.prog 16 #[.slice A a.length ca, .slice B a.length cb] w fun e w' => e = .returned (.bool true) ∧ Ext w w' := by
 have hk := k.big
 go_enter Tryz.func16, Tryz.ntmps16
 go_wp2
 go_loopw [5] (fun i wr => ∃ n : Nat, n ≤ a.length ∧ i = .int .i64 n ∧ Ext w wr) (fun i _ => a.length - (intOf i).toNat)
 case atStart => exact ⟨0, Nat.zero_le _, rfl, Ext.rfl' w⟩
 case round =>
  obtain ⟨n, hn, rfl, hext⟩ := hrel
  by_cases hlt : n < a.length
  ·obtain ⟨ba, oa, x, rfl, hx, hcx⟩ := (h.ext hext).at1 hlt
   obtain ⟨bb, ob, y, rfl, hy, hcy⟩ := (k.ext hext).at1 hlt
   rw [hx] at hy
   injection hy with hy
   subst hy
   have hb1 : (x != x) = false := by simp
   clear hx
   go_wp2
   go_quiet (fail)
   go_wp2
   go_roundw
   case rel => exact ⟨n + 1, by omega, by go_num, hext.drN _⟩
   case measure => simp [intOf]; omega
  ·obtain rfl : n = a.length := by omega
   go_wp2
   go_ret
   exact ⟨rfl, hext⟩

end Go.Proofs.YtdnlpklmihoapaaGreatDoor

/- The laws' place, noTwice, isIn: contracts. Conditions: the lists can be read. -/
namespace Go.Proofs.YtdnlpklmihoapaaGreatDoor
open Go.RowKit

end Go.Proofs.YtdnlpklmihoapaaGreatDoor

/- The laws' equalLazy at equal contents, and join: contracts. Conditions: bounds on lengths. -/
namespace Go.Proofs.YtdnlpklmihoapaaGreatDoor
open Go.RowKit

end Go.Proofs.YtdnlpklmihoapaaGreatDoor

/- The laws' isIn, within and ascends: contracts. Conditions: the lists can be read; within and ascends where they hold. -/
namespace Go.Proofs.YtdnlpklmihoapaaGreatDoor
open Go.RowKit

end Go.Proofs.YtdnlpklmihoapaaGreatDoor
