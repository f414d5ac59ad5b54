/- The laws' copies of formulas and nodes: contracts. Conditions: at most 2^20 elements. -/
import Derived.Test.YtkkegmimofmhpaaLawF
namespace Go.Proofs.Ytkkegmimofmhpaa
open Go.RowKit

set_option maxHeartbeats 1000000 in
theorem l_toFormula (A : Option Addr) (c : Nat) (f : List Sg.Part) (w : World) (h : Rd w 5 A f.length (parts f)) (hb : f.length ≤ 1048576) :
    Calls Try.prog 180 #[.agg #[.slice A f.length c]] w fun e w' => ∃ A', e = .returned (.agg #[.slice A' f.length f.length]) ∧ Own w' w.heap.size 168 5 A' f.length f.length (parts f) ∧ Ext w w' := by
  have HC := Lib.hid (fun w h => l_toPartS A c f w h hb)
  have H := Lib.hid h
  clear h
  go_enter Try.func180, Try.ntmps180
  go_wp2_with (go_at_call 195; refine (HC.out _ (H.out.ext ((((Ext.rfl' w).al _).al _).al _))).mono ?_; rintro e w1 ⟨A', rfl, ho, he1⟩; have k1 := he1.cellE (show (((w.alloc (.cells #[.slice A f.length c] 149)).alloc (.cells #[.slice none 0 0] 92)).alloc (.cells #[.slice none 0 0] 92)).cell? ⟨w.heap.size + 1, 0, none⟩ = some (.slice none 0 0) by simp [go_sem]); obtain ⟨bc, bf⟩ := bcell he1; have hz1 := he1.size)
  have q : ∀ u v : Value, ((w1.setCell ⟨w.heap.size + 1 + 1, 0, none⟩ u).setCell ⟨w.heap.size + 1, 0, none⟩ v).cell? ⟨w.heap.size + 1, 0, none⟩ = some v := by
    intro u v
    have k2 : (w1.setCell ⟨w.heap.size + 1 + 1, 0, none⟩ u).cell? ⟨w.heap.size + 1, 0, none⟩ = some (.slice none 0 0) := by
      rw [World.cell?_setCell_other _ _ _ _ (by intro e; injection e; omega)]; exact k1
    exact World.cell?_setCell_same _ _ _ k2
  refine bodyPost_ret (v := .agg #[.slice A' f.length f.length]) (by simp [results, Try.results180, go_sem, q]; try rfl) rfl ?_
  refine ⟨A', rfl, (ho.set (by intro e; have := (ho.lt e).1; simp at this; omega) _ |>.set (by intro e; have := (ho.lt e).1; simp at this; omega) _).mono (by simp; try omega), (((((((Ext.rfl' w).al _).al _).al _).tr he1).set (by simp; omega) _).set (by simp) _)⟩
end Go.Proofs.Ytkkegmimofmhpaa
