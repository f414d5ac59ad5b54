/- The laws' copies of graphs and states: contracts. -/
import Derived.Test.YtkkegmimofmhpaaLawK
namespace Go.Proofs.Ytkkegmimofmhpaa
open Go.RowKit

set_option maxHeartbeats 1000000 in
theorem l_toGraph (A : Option Addr) (c : Nat) (g : Sg.Graph) (w : World) (h : RdN w A g) :
    Calls Try.prog 28 #[.agg #[.slice A g.length c]] w fun e w' => ∃ A' hs, e = .returned (.agg #[.slice A' g.length g.length]) ∧ OwnN w' w.heap.size A' g.length g hs ∧ Ext w w' := by
  have HC := Lib.hid (fun w h => l_toNodeS A c g w h)
  have H := Lib.hid h
  clear h
  go_enter Try.func28, Try.ntmps28
  go_wp2_with (go_at_call 83; refine (HC.out _ (H.out.ext ((((Ext.rfl' w).al _).al _).al _))).mono ?_; rintro e w1 ⟨A', hs, rfl, ho, he1⟩; have k1 := he1.cellE (show (((w.alloc (.cells #[.slice A g.length c] 44)).alloc (.cells #[.slice none 0 0] 25)).alloc (.cells #[.slice none 0 0] 25)).cell? ⟨w.heap.size + 1, 0, none⟩ = some (.slice none 0 0) by simp [go_sem]); obtain ⟨bc, bf⟩ := bcell he1; have hz1 := he1.size)
  have q : ∀ u v : Value, ((w1.setCell ⟨w.heap.size + 1 + 1, 0, none⟩ u).setCell ⟨w.heap.size + 1, 0, none⟩ v).cell? ⟨w.heap.size + 1, 0, none⟩ = some v := by
    intro u v
    have k2 : (w1.setCell ⟨w.heap.size + 1 + 1, 0, none⟩ u).cell? ⟨w.heap.size + 1, 0, none⟩ = some (.slice none 0 0) := by
      rw [World.cell?_setCell_other _ _ _ _ (by intro e; injection e; omega)]; exact k1
    exact World.cell?_setCell_same _ _ _ k2
  refine bodyPost_ret (v := .agg #[.slice A' g.length g.length]) (by simp [results, Try.results28, go_sem, q]; try rfl) rfl ?_
  refine ⟨A', hs, rfl, ((ho.below (by simp) _).below (by simp) _).mono (by simp; try omega), (((((((Ext.rfl' w).al _).al _).al _).tr he1).set (by simp; omega) _).set (by simp) _)⟩

set_option maxHeartbeats 2000000 in
theorem l_toEager (Av Ar : Option Addr) (cv cr : Nat) (v : List Int) (r : List (List Int)) (w : World) (hv : Rd w 1 Av v.length (ints v)) (hvl : v.length ≤ 1048576) (hr : RdL w Ar r) :
    Calls Try.prog 29 #[.agg #[.slice Av v.length cv, .slice Ar r.length cr]] w fun e w' => ∃ A1 A2 hs, e = .returned (.agg #[.slice A1 v.length v.length, .slice A2 r.length r.length]) ∧
      Own w' w.heap.size 3 1 A1 v.length v.length (ints v) ∧ OwnL w' w.heap.size A2 r.length r hs ∧ (∀ b, blk A1 = some b → ¬ fpD A2 hs b) ∧ Ext w w' := by
  have HC := Lib.hid (fun w h => l_toIntS Av cv v w h hvl)
  have HD := Lib.hid (fun w h => l_toIntSS Ar cr r w h)
  have Hv := Lib.hid hv
  have Hr := Lib.hid hr
  have HE := Lib.hid ((((Ext.rfl' w).al (.cells #[.slice Av v.length cv, .slice Ar r.length cr] 45)).al (.cells #[.slice none 0 0, .slice none 0 0] 31)).al (.cells #[.slice none 0 0, .slice none 0 0] 31))
  clear hv hr
  go_enter Try.func29, Try.ntmps29
  go_wp2_with (go_at_call 38; refine (HC.out _ (Hv.out.ext HE.out)).mono ?_; rintro e w1 ⟨A1, rfl, ho1, he1⟩; obtain ⟨bc, bf⟩ := bcell he1; have hz1 := he1.size)
  refine (HD.out _ (Hr.out.ext ((HE.out.tr he1).set (by simp; omega) _))).mono ?_
  rintro e w2 ⟨A2, hs, rfl, ho2, he2⟩
  obtain ⟨bc2, bf2⟩ := bcell he2
  have hz2 := he2.size
  have k10 : w2.cell? ⟨w.heap.size + 1, 0, none⟩ = some (.slice none 0 0) := he2.cellE (by rw [World.cell?_setCell_other _ _ _ _ (by intro e; injection e; omega)]; exact he1.cellE (by simp [go_sem]))
  have k11 : w2.cell? ⟨w.heap.size + 1, 1, none⟩ = some (.slice none 0 0) := he2.cellE (by rw [World.cell?_setCell_other _ _ _ _ (by intro e; injection e; omega)]; exact he1.cellE (by simp [go_sem]))
  have k20 : w2.cell? ⟨w.heap.size + 1 + 1, 0, none⟩ = some (.slice A1 v.length v.length) := he2.cellE (World.cell?_setCell_same _ _ _ (u := .slice none 0 0) (he1.cellE (by simp [go_sem])))
  have k21 : w2.cell? ⟨w.heap.size + 1 + 1, 1, none⟩ = some (.slice none 0 0) := he2.cellE (by rw [World.cell?_setCell_other _ _ _ _ (by intro e; injection e; omega)]; exact he1.cellE (by simp [go_sem]))
  have f11 : ∀ j, w1.frozen? ⟨w.heap.size + 1, j, none⟩ = false := fun j => (bf _ _ (by simp)).trans (by simp [go_sem])
  have f12 : ∀ j, w1.frozen? ⟨w.heap.size + 1 + 1, j, none⟩ = false := fun j => (bf _ _ (by simp)).trans (by simp [go_sem])
  have f0 : w2.frozen? ⟨w.heap.size + 1, 0, none⟩ = false := (bf2 _ _ (by simp; simp at hz1; omega)).trans (by rw [World.frozen?_setCell]; exact f11 0)
  have f1 : w2.frozen? ⟨w.heap.size + 1, 1, none⟩ = false := (bf2 _ _ (by simp; simp at hz1; omega)).trans (by rw [World.frozen?_setCell]; exact f11 1)
  have f2 : w2.frozen? ⟨w.heap.size + 1 + 1, 1, none⟩ = false := (bf2 _ _ (by simp; simp at hz1; omega)).trans (by rw [World.frozen?_setCell]; exact f12 1)
  clear bc bf bc2 bf2 f11 f12
  have Ho1 := Lib.hid ho1
  have Ho2 := Lib.hid ho2
  have He1 := Lib.hid he1
  have He2 := Lib.hid he2
  clear ho1 ho2 he1 he2
  go_wp2

  have q0 : ∀ u v z : Value, (((w2.setCell ⟨w.heap.size + 1 + 1, 1, none⟩ u).setCell ⟨w.heap.size + 1, 0, none⟩ v).setCell ⟨w.heap.size + 1, 1, none⟩ z).cell? ⟨w.heap.size + 1, 0, none⟩ = some v := by
    intro u v z
    rw [World.cell?_setCell_other _ _ _ _ (by intro e; injection e; omega)]
    refine World.cell?_setCell_same _ _ _ (u := .slice none 0 0) ?_
    rw [World.cell?_setCell_other _ _ _ _ (by intro e; injection e; omega)]
    exact k10
  have q1 : ∀ u v z : Value, (((w2.setCell ⟨w.heap.size + 1 + 1, 1, none⟩ u).setCell ⟨w.heap.size + 1, 0, none⟩ v).setCell ⟨w.heap.size + 1, 1, none⟩ z).cell? ⟨w.heap.size + 1, 1, none⟩ = some z := by
    intro u v z
    refine World.cell?_setCell_same _ _ _ (u := .slice none 0 0) ?_
    rw [World.cell?_setCell_other _ _ _ _ (by intro e; injection e; omega)]
    rw [World.cell?_setCell_other _ _ _ _ (by intro e; injection e; omega)]
    exact k11
  refine bodyPost_ret (v := .agg #[.slice A1 v.length v.length, .slice A2 r.length r.length]) (by simp [results, Try.results29, go_sem, q0, q1]; try rfl) rfl ?_
  have z1 : w.heap.size + 1 + 1 + 1 ≤ w1.heap.size := by simpa using hz1
  have z2 : w1.heap.size ≤ w2.heap.size := by simpa using hz2
  have a1 := Ho1.out.set (p := ⟨w.heap.size + 1 + 1, 0, none⟩) (by intro e; have := (Ho1.out.lt e).1; simp at this; omega) (.slice A1 v.length v.length)
  have a2 := a1.ext He2.out
  have hne : ∀ b, b < w.heap.size + 1 + 1 + 1 → blk A1 ≠ some b := by intro b hb e; have := (Ho1.out.lt e).1; simp at this; omega
  have hb2 : w.heap.size + 1 + 1 < (w1.setCell ⟨w.heap.size + 1 + 1, 0, none⟩ (.slice A1 v.length v.length)).heap.size := by simp; omega
  have hb3 : w.heap.size + 1 < (w1.setCell ⟨w.heap.size + 1 + 1, 0, none⟩ (.slice A1 v.length v.length)).heap.size := by simp; omega
  refine ⟨A1, A2, hs, rfl, (((a2.set (hne (w.heap.size + 1 + 1) (by omega)) _).set (hne (w.heap.size + 1) (by omega)) _).set (hne (w.heap.size + 1) (by omega)) _).mono (by simp; try omega),
    (((Ho2.out.below (p := ⟨w.heap.size + 1 + 1, 1, none⟩) hb2 _).below (p := ⟨w.heap.size + 1, 0, none⟩) hb3 _).below (p := ⟨w.heap.size + 1, 1, none⟩) hb3 _).mono (by simp; try omega), ?_, ?_⟩
  · intro b hb hf
    have h1 := (Ho1.out.lt hb).2
    have h2 := (Ho2.out.lt hf).1
    simp at h2
    omega
  · exact ((((((HE.out.tr He1.out).set (show w.heap.size ≤ w.heap.size + 1 + 1 by omega) _).tr He2.out).set (show w.heap.size ≤ w.heap.size + 1 + 1 by omega) _).set (show w.heap.size ≤ w.heap.size + 1 by omega) _).set (show w.heap.size ≤ w.heap.size + 1 by omega) _)
end Go.Proofs.Ytkkegmimofmhpaa
