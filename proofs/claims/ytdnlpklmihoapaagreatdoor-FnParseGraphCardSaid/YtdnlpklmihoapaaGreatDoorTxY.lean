/- The laws' comparisons of formulas, at equal contents. Conditions: the arguments can be read. -/
import Derived.Test.YtdnlpklmihoapaaGreatDoorTy
import Derived.Test.YtdnlpklmihoapaaGreatDoorSepAll
import Derived.Test.YtdnlpklmihoapaaGreatDoorReg
import Derived.Test.YtdnlpklmihoapaaGreatDoorCore
import Derived.Deep.QuietTactic
import Derived.BigQuiet
import Derived.Deep.DeepCutAuto
namespace Go.Proofs.YtdnlpklmihoapaaGreatDoor
open Go.RowKit
set_option maxRecDepth 100000 in
set_option maxHeartbeats 4000000 in
theorem l_equalFormula (A B : Option Addr) (ca cb : Nat) (f : List Sg.Part) (w : World) (h : Rd w 5 A f.length (parts f)) (k : Rd w 5 B f.length (parts f)) :
  Calls Tryz.prog 35 #[.agg #[.slice A f.length ca], .agg #[.slice B f.length cb]] w fun e w' => e = .returned (.bool true) ∧ Ext w w' := by
 have E0 := lh (((Ext.rfl' w).al (.cells #[.slice A f.length ca] 48)).al (.cells #[.slice B f.length cb] 48))
 have q0 : World.cell? (World.alloc (World.alloc w (.cells #[.slice A f.length ca] 48)) (.cells #[.slice B f.length cb] 48)) ⟨w.heap.size, 0, none⟩ = some (.slice A f.length ca) := by simp [go_sem]
 have q1 : World.cell? (World.alloc (World.alloc w (.cells #[.slice A f.length ca] 48)) (.cells #[.slice B f.length cb] 48)) ⟨w.heap.size + 1, 0, none⟩ = some (.slice B f.length cb) := by simp [go_sem]
 have Q0 := lh q0
 have Q1 := lh q1
 have hk := k.big
 have H := lh h
 have K := lh k
 clear h k q0 q1
 go_enter Tryz.func35, Tryz.ntmps35
 go_upto_region 1 with fail
 generalize World.alloc (World.alloc w (.cells #[.slice A f.length ca] 48)) (.cells #[.slice B f.length cb] 48) = v0 at *
 have q0 := Q0.out
 have q1 := Q1.out
 have b0 := blt q0
 have b1 := blt q1
 go_wp2_with fail
 clear q0 q1 b0 b1
 go_loopw [5] (fun i wr => ∃ n : Nat, n ≤ f.length ∧ i = .int .i64 n ∧ Hid (Ext v0 wr)) (fun i _ => f.length - (intOf i).toNat)
 case atStart => exact ⟨0, Nat.zero_le _, rfl, lh (Ext.rfl' _)⟩
 case round =>
  obtain ⟨n, hn, rfl, E⟩ := hrel
  have q0 := E.out.cellE Q0.out
  have q1 := E.out.cellE Q1.out
  have b0 := blt q0
  have b1 := blt q1
  by_cases hlt : n < f.length
  ·obtain ⟨ba, oa, p, rfl, hp, x0, x1, x2, x3, x4⟩ := (H.out.ext (E0.out.tr E.out)).atP hlt
   obtain ⟨bb, ob, p', rfl, hp', y0, y1, y2, y3, y4⟩ := (K.out.ext (E0.out.tr E.out)).atP hlt
   rw [hp] at hp'
   injection hp' with hp'
   subst hp'
   have hb1 : ∀ x : Int, (x != x) = false := fun x => by simp
   have hb2 : ∀ x : Int, (x == x) = true := fun x => by simp
   clear hp
   go_wp2
   go_quiet (fail)
   go_wp2
   go_roundw
   case rel => exact ⟨n + 1, by omega, by go_num, lh (E.out.drN _)⟩
   case measure => simp [intOf]; omega
  ·obtain rfl : n = f.length := by omega
   go_wp2
   go_ret
   exact ⟨rfl, E0.out.tr E.out⟩
set_option maxRecDepth 100000 in
set_option maxHeartbeats 4000000 in
theorem l_equalGraph (A B : Option Addr) (ca cb : Nat) (g : Sg.Graph) (w : World) (h : RdN w A g) (k : RdN w B g) :
  Calls Tryz.prog 15 #[.agg #[.slice A g.length ca], .agg #[.slice B g.length cb]] w fun e w' => e = .returned (.bool true) ∧ Ext w w' := by
 have E0 := lh (((Ext.rfl' w).al (.cells #[.slice A g.length ca] 24)).al (.cells #[.slice B g.length cb] 24))
 have q0 : World.cell? (World.alloc (World.alloc w (.cells #[.slice A g.length ca] 24)) (.cells #[.slice B g.length cb] 24)) ⟨w.heap.size, 0, none⟩ = some (.slice A g.length ca) := by simp [go_sem]
 have q1 : World.cell? (World.alloc (World.alloc w (.cells #[.slice A g.length ca] 24)) (.cells #[.slice B g.length cb] 24)) ⟨w.heap.size + 1, 0, none⟩ = some (.slice B g.length cb) := by simp [go_sem]
 have Q0 := lh q0
 have Q1 := lh q1
 have hk := k.1
 have H := lh h
 have K := lh k
 clear h k q0 q1
 go_enter Tryz.func15, Tryz.ntmps15
 go_upto_region 1 with fail
 generalize World.alloc (World.alloc w (.cells #[.slice A g.length ca] 24)) (.cells #[.slice B g.length cb] 24) = v0 at *
 have q0 := Q0.out
 have q1 := Q1.out
 have b0 := blt q0
 have b1 := blt q1
 go_wp2_with fail
 clear q0 q1 b0 b1
 go_loopw [5] (fun i wr => ∃ n : Nat, n ≤ g.length ∧ i = .int .i64 n ∧ Hid (Ext v0 wr)) (fun i _ => g.length - (intOf i).toNat)
 case atStart => exact ⟨0, Nat.zero_le _, rfl, lh (Ext.rfl' _)⟩
 case round =>
  obtain ⟨n, hn, rfl, E⟩ := hrel
  have q0 := E.out.cellE Q0.out
  have q1 := E.out.cellE Q1.out
  have b0 := blt q0
  have b1 := blt q1
  by_cases hlt : n < g.length
  ·obtain ⟨l, ba, oa, Ap, cp, hx, rfl, k0, h0, hr, _⟩ := (H.out.ext (E0.out.tr E.out)).at_ hlt
   obtain ⟨y, bb, ob, Bp, cq, hy, rfl, k1, g0, gr, _⟩ := (K.out.ext (E0.out.tr E.out)).at_ hlt
   rw [hx] at hy
   injection hy with hy
   subst hy
   have hb1 : (l.kind != l.kind) = false := by simp
   have HC := lh (fun v h k => l_equalFormula Ap Bp cp cq l.f v h k)
   have HR := lh hr
   have GR := lh gr
   have hnx : (n : Int) < (g.length : Int) := by omega
   clear hx hr gr
   go_upto_region 6 with fail
   refine wp_region_held_drew (S := (fun W => W.cell? ⟨w.heap.size, 0, none⟩ = some (.slice (some ⟨ba, oa, none⟩) g.length ca) ∧ W.cell? ⟨w.heap.size + 1, 0, none⟩ = some (.slice (some ⟨bb, ob, none⟩) g.length cb) ∧ W.cell? ⟨ba, oa + n * 2, none⟩ = some (.int .i64 l.kind) ∧ W.cell? ⟨ba, oa + n * 2 + 1, none⟩ = some (.slice Ap l.f.length cp) ∧ W.cell? ⟨bb, ob + n * 2, none⟩ = some (.int .i64 l.kind) ∧ W.cell? ⟨bb, ob + n * 2 + 1, none⟩ = some (.slice Bp l.f.length cq))) (by kernel_rfl) ?_ (fun hHeld => ?_)
   ·exact ⟨((Ext.rfl' wr).dr).cellE q0, ((Ext.rfl' wr).dr).cellE q1, ((Ext.rfl' wr).dr).cellE k0, ((Ext.rfl' wr).dr).cellE h0, ((Ext.rfl' wr).dr).cellE k1, ((Ext.rfl' wr).dr).cellE g0⟩
   refine ty 0 ?_
   refine ty 1 ?_
   refine ty 2 ?_
   refine ty 3 ?_
   refine ty 4 ?_
   refine ty 5 ?_
   refine ty 6 ?_
   refine ty 7 ?_
   refine ty 8 ?_
   refine ty 9 ?_
   refine ty 10 ?_
   refine ty 11 ?_
   refine ty 12 ?_
   refine ty 13 ?_
   refine ty 14 ?_
   refine ty 15 ?_
   refine ty 16 ?_
   refine ty 17 ?_
   refine ty 18 ?_
   refine ty 19 ?_
   refine ty 20 ?_
   refine ty 21 ?_
   refine ty 22 ?_
   refine ty 23 ?_
   refine ty 24 ?_
   refine ty 25 ?_
   refine rd1 26 rfl fun K hK => ?_
   go_simp
   refine (HC.out _ (HR.out.ext ((Ext.rfl' wr).dr)) (GR.out.ext ((Ext.rfl' wr).dr))).mono ?_
   rintro e v3 ⟨rfl, he3⟩
   have X3 := lh (((Ext.rfl' wr).dr).tr he3)
   clear he3
   try go_wp2_with fail
   refine hK.out _ _ (by exact ⟨X3.out.cellE q0, X3.out.cellE q1, X3.out.cellE k0, X3.out.cellE h0, X3.out.cellE k1, X3.out.cellE g0⟩) fun hh2 => ?_; clear hK K hHeld; have hHeld := hh2; clear hh2
   try simp only [Act.put, pu]
   refine ty 27 ?_
   refine ty 28 ?_
   refine dn ?_
   go_wp2
   go_roundw
   case rel => exact ⟨n + 1, by omega, by go_num, lh (E.out.tr X3.out)⟩
   case measure => simp [intOf]; omega
  ·obtain rfl : n = g.length := by omega
   go_wp2
   go_ret
   exact ⟨rfl, E0.out.tr E.out⟩
end Go.Proofs.YtdnlpklmihoapaaGreatDoor
