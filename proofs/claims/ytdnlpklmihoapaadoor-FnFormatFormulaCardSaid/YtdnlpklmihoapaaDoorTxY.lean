/- The laws' comparisons of formulas, at equal contents. Conditions: the arguments can be read. -/
import Derived.Test.YtdnlpklmihoapaaDoorTy
import Derived.Test.YtdnlpklmihoapaaDoorSepAll
import Derived.Test.YtdnlpklmihoapaaDoorReg
import Derived.Test.YtdnlpklmihoapaaDoorCore
import Derived.Deep.QuietTactic
import Derived.BigQuiet
import Derived.Deep.DeepCutAuto
namespace Go.Proofs.YtdnlpklmihoapaaDoor
open Go.RowKit
set_option maxRecDepth 100000 in
set_option maxHeartbeats 4000000 in
theorem l_equalFormula (A B : Option Addr) (ca cb : Nat) (f : List Sg.Part) (w : World) (h : Rd w 5 A f.length (parts f)) (k : Rd w 5 B f.length (parts f)) :
  Calls Tryd.prog 19 #[.agg #[.slice A f.length ca], .agg #[.slice B f.length cb]] w fun e w' => e = .returned (.bool true) ∧ Ext w w' := by
 have E0 := lh (((Ext.rfl' w).al (.cells #[.slice A f.length ca] 39)).al (.cells #[.slice B f.length cb] 39))
 have q0 : World.cell? (World.alloc (World.alloc w (.cells #[.slice A f.length ca] 39)) (.cells #[.slice B f.length cb] 39)) ⟨w.heap.size, 0, none⟩ = some (.slice A f.length ca) := by simp [go_sem]
 have q1 : World.cell? (World.alloc (World.alloc w (.cells #[.slice A f.length ca] 39)) (.cells #[.slice B f.length cb] 39)) ⟨w.heap.size + 1, 0, none⟩ = some (.slice B f.length cb) := by simp [go_sem]
 have Q0 := lh q0
 have Q1 := lh q1
 have hk := k.big
 have H := lh h
 have K := lh k
 clear h k q0 q1
 go_enter Tryd.func19, Tryd.ntmps19
 go_upto_region 1 with fail
 generalize World.alloc (World.alloc w (.cells #[.slice A f.length ca] 39)) (.cells #[.slice B f.length cb] 39) = v0 at *
 have q0 := Q0.out
 have q1 := Q1.out
 have b0 := blt q0
 have b1 := blt q1
 go_wp2_with fail
 clear q0 q1 b0 b1
 go_loopw [5] (fun i wr => ∃ n : Nat, n ≤ f.length ∧ i = .int .i64 n ∧ Hid (Ext v0 wr)) (fun i _ => f.length - (intOf i).toNat)
 case atStart => exact ⟨0, Nat.zero_le _, rfl, lh (Ext.rfl' _)⟩
 case round =>
  obtain ⟨n, hn, rfl, E⟩ := hrel
  have q0 := E.out.cellE Q0.out
  have q1 := E.out.cellE Q1.out
  have b0 := blt q0
  have b1 := blt q1
  by_cases hlt : n < f.length
  ·obtain ⟨ba, oa, p, rfl, hp, x0, x1, x2, x3, x4⟩ := (H.out.ext (E0.out.tr E.out)).atP hlt
   obtain ⟨bb, ob, p', rfl, hp', y0, y1, y2, y3, y4⟩ := (K.out.ext (E0.out.tr E.out)).atP hlt
   rw [hp] at hp'
   injection hp' with hp'
   subst hp'
   have hb1 : ∀ x : Int, (x != x) = false := fun x => by simp
   have hb2 : ∀ x : Int, (x == x) = true := fun x => by simp
   clear hp
   go_wp2
   go_quiet (fail)
   go_wp2
   go_roundw
   case rel => exact ⟨n + 1, by omega, by go_num, lh (E.out.drN _)⟩
   case measure => simp [intOf]; omega
  ·obtain rfl : n = f.length := by omega
   go_wp2
   go_ret
   exact ⟨rfl, E0.out.tr E.out⟩
end Go.Proofs.YtdnlpklmihoapaaDoor
