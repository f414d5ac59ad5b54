/- The laws' copies of nodes: contracts. Conditions: at most 2^20 elements. -/
import Derived.Test.YtkkegmimofmhpaaLawG
namespace Go.Proofs.Ytkkegmimofmhpaa
open Go.RowKit

set_option maxHeartbeats 1000000 in
theorem l_toNode (kd : Int) (A : Option Addr) (c : Nat) (f : List Sg.Part) (w : World) (h : Rd w 5 A f.length (parts f)) (hb : f.length ≤ 1048576) :
    Calls Try.prog 146 #[.agg #[.int .i64 kd, .slice A f.length c]] w fun e w' => ∃ A', e = .returned (.agg #[.int .i64 kd, .slice A' f.length f.length]) ∧ Own w' w.heap.size 168 5 A' f.length f.length (parts f) ∧ Ext w w' := by
  have HC := Lib.hid (fun w h => l_toFormula A c f w h hb)
  have H := Lib.hid h
  clear h
  go_enter Try.func146, Try.ntmps146
  go_wp2_with (go_at_call 180; refine (HC.out _ (H.out.ext ((((Ext.rfl' w).al _).al _).al _))).mono ?_; rintro e w1 ⟨A', rfl, ho, he1⟩; have k0 := he1.cellE (show (((w.alloc (.cells #[.int .i64 kd, .slice A f.length c] 151)).alloc (.cells #[.int .i64 0, .slice none 0 0] 94)).alloc (.cells #[.int .i64 kd, .slice none 0 0] 94)).cell? ⟨w.heap.size + 1, 0, none⟩ = some (.int .i64 0) by simp [go_sem]); have k1 := he1.cellE (show (((w.alloc (.cells #[.int .i64 kd, .slice A f.length c] 151)).alloc (.cells #[.int .i64 0, .slice none 0 0] 94)).alloc (.cells #[.int .i64 kd, .slice none 0 0] 94)).cell? ⟨w.heap.size + 1, 1, none⟩ = some (.slice none 0 0) by simp [go_sem]); have hz1 := he1.size; obtain ⟨bc, bf⟩ := bcell he1)
  have q0 : ∀ u v z : Value, (((w1.setCell ⟨w.heap.size + 1 + 1, 1, none⟩ u).setCell ⟨w.heap.size + 1, 0, none⟩ v).setCell ⟨w.heap.size + 1, 1, none⟩ z).cell? ⟨w.heap.size + 1, 0, none⟩ = some v := by
    intro u v z
    rw [World.cell?_setCell_other _ _ _ _ (by intro e; injection e; omega)]
    refine World.cell?_setCell_same _ _ _ (u := .int .i64 0) ?_
    rw [World.cell?_setCell_other _ _ _ _ (by intro e; injection e; omega)]
    exact k0
  have q1 : ∀ u v z : Value, (((w1.setCell ⟨w.heap.size + 1 + 1, 1, none⟩ u).setCell ⟨w.heap.size + 1, 0, none⟩ v).setCell ⟨w.heap.size + 1, 1, none⟩ z).cell? ⟨w.heap.size + 1, 1, none⟩ = some z := by
    intro u v z
    refine World.cell?_setCell_same _ _ _ (u := .slice none 0 0) ?_
    rw [World.cell?_setCell_other _ _ _ _ (by intro e; injection e; omega)]
    rw [World.cell?_setCell_other _ _ _ _ (by intro e; injection e; omega)]
    exact k1
  refine bodyPost_ret (v := .agg #[.int .i64 kd, .slice A' f.length f.length]) (by simp [results, Try.results146, go_sem, q0, q1]; try rfl) rfl ?_
  have hne : ∀ b, b < w.heap.size + 1 + 1 + 1 → blk A' ≠ some b := by intro b hb e; have := (ho.lt e).1; simp at this; omega
  have hz : w.heap.size + 1 + 1 + 1 ≤ w1.heap.size := by simpa using hz1
  exact ⟨A', rfl, (((ho.set (hne (w.heap.size + 1 + 1) (by omega)) _).set (hne (w.heap.size + 1) (by omega)) _).set (hne (w.heap.size + 1) (by omega)) _).mono (by simp; try omega), ((((((((Ext.rfl' w).al _).al _).al _).tr he1).set (show w.heap.size ≤ w.heap.size + 1 + 1 by omega) _).set (show w.heap.size ≤ w.heap.size + 1 by omega) _).set (show w.heap.size ≤ w.heap.size + 1 by omega) _)⟩
end Go.Proofs.Ytkkegmimofmhpaa
