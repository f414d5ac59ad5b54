/- Parts of one proof, joined. The program's ValidEager: its contract. Conditions: bounds on lengths. The program's ValidEager: its contract. Conditions: bounds on lengths. -/
import Derived.Test.YtmelggoagbhieaaGreatImplThree
import Derived.Test.YtmelggoagbhieaaGreatImplTwo
import Derived.Test.YtmelggoagbhieaaGreatSpecTwo
import Derived.Deep.QuietTactic
import Derived.BigQuiet
/- The program's ValidEager: its contract. Conditions: bounds on lengths. -/
namespace Go.Proofs.YtmelggoagbhieaaGreat
open Go.RowKit
section
variable {P : Program} {ops : Array Oper} {Q : Exit → Act → World → Prop} {md : Region.Mode} {S : World → Prop}
theorem tyImplM (i : Nat) {oi : Oper} {v : Value} {fuel : Nat} {listed : Array Bool} {a : Act} {w : World} (hv : ∀ w, S w → (execOp a.eval oi).run P w = .ok (.value v) w) (h : wpAnyH P md ops Q S fuel (listed.setIfInBounds i true) (a.put oi.dst v) w)
    (hi : ops[i]? = some oi := by simp only [List.getElem?_toArray, List.getElem?_cons_succ, List.getElem?_cons_zero]; rfl) (hs : Region.noSelect ops = true := by kernel_rfl) (hf : Region.free md ops listed i = true := by kernel_rfl) (hr : (Region.ready md ops listed).contains i = true := by kernel_rfl)
    (hQ : ∀ c a w, Q (.panic c) (a.put oi.dst v) w → Q (.panic c) a w := by exact fun _ _ _ h => h) (hw : Region.wanted oi (yielded ops a.tmps) = true := by kernel_rfl) (hS : S w := by assumption) : wpAnyH P md ops Q S (fuel + 1) listed a w := wpAnyH_take hi hs hf hr hQ (Or.inl ⟨hw, hv⟩) hS h
theorem tnImplM (i : Nat) {oi : Oper} {fuel : Nat} {listed : Array Bool} {a : Act} {w : World} (h : wpAnyH P md ops Q S fuel (listed.setIfInBounds i true) (a.put oi.dst undef) w)
    (hi : ops[i]? = some oi := by simp only [List.getElem?_toArray, List.getElem?_cons_succ, List.getElem?_cons_zero]; rfl) (hs : Region.noSelect ops = true := by kernel_rfl) (hf : Region.free md ops listed i = true := by kernel_rfl) (hr : (Region.ready md ops listed).contains i = true := by kernel_rfl)
    (hQ : ∀ c a w, Q (.panic c) (a.put oi.dst undef) w → Q (.panic c) a w := by exact fun _ _ _ h => h) (hw : Region.wanted oi (yielded ops a.tmps) = false := by kernel_rfl) (hS : S w := by assumption) : wpAnyH P md ops Q S (fuel + 1) listed a w := wpAnyH_take hi hs hf hr hQ (Or.inr ⟨hw, rfl⟩) hS h
end

set_option maxRecDepth 100000 in
set_option maxHeartbeats 1000000 in
theorem ve_bad1 (A Av Ar : Option Addr) (c cv cr : Nat) (g : Sg.Graph) (v : List Int) (r : List (List Int)) (w : World) (h : RdN w A g) (hv : Rd w 1 Av v.length (ints v)) (hr : RdL w Ar r) (hG : Sg.validG g = false) :
    Calls Tryz.prog 20 #[.agg #[.slice A g.length c], .agg #[.slice Av v.length cv, .slice Ar r.length cr]] w fun e w' => e = .returned (.bool (Sg.validE g ⟨v, r⟩)) ∧ Ext w w' := by
  have hgl := h.1
  have hrl := hr.1
  have hvl := hv.big
  have HVG := Lib.hid (i_ValidGraph A c g)
  have HAI := Lib.hid (i_inRange Av v.length cv v)
  have e0 := ((Ext.rfl' w).al (.cells #[.slice A g.length c] 25)).al (.cells #[.slice Av v.length cv, .slice Ar r.length cr] 29)
  have q1 : ((w.alloc (.cells #[.slice A g.length c] 25)).alloc (.cells #[.slice Av v.length cv, .slice Ar r.length cr] 29)).drew.cell? ⟨w.heap.size, 0, none⟩ = some (.slice A g.length c) := by simp [go_sem]
  have q2 : ((w.alloc (.cells #[.slice A g.length c] 25)).alloc (.cells #[.slice Av v.length cv, .slice Ar r.length cr] 29)).drew.cell? ⟨w.heap.size + 1, 0, none⟩ = some (.slice Av v.length cv) := by simp [go_sem]
  have q3 : ((w.alloc (.cells #[.slice A g.length c] 25)).alloc (.cells #[.slice Av v.length cv, .slice Ar r.length cr] 29)).drew.cell? ⟨w.heap.size + 1, 1, none⟩ = some (.slice Ar r.length cr) := by simp [go_sem]
  have Q1 := Lib.hid q1
  have Q2 := Lib.hid q2
  have Q3 := Lib.hid q3
  clear q1 q2 q3
  have HG := Lib.hid hG
  clear hG
  go_enter Tryz.func20, Tryz.ntmps20
  go_wp2_with fail
  refine wp_region_held_drew (S := (fun W => W.cell? ⟨w.heap.size, 0, none⟩ = some (.slice A g.length c) ∧ W.cell? ⟨w.heap.size + 1, 0, none⟩ = some (.slice Av v.length cv) ∧ W.cell? ⟨w.heap.size + 1, 1, none⟩ = some (.slice Ar r.length cr))) (by kernel_rfl) ?_ (fun hHeld => ?_)
  · exact ⟨Q1.out, Q2.out, Q3.out⟩
  refine tyImplM 0 (v := ?_) ?_ ?_
  rotate_left
  · intro w hSw; (try dsimp only at hSw); go_simp; try with_reducible rfl
  try simp only [Act.put, List.setIfInBounds_toArray, List.set_cons_zero, List.set_cons_succ]
  refine wpAnyH_ready (rs := [1]) (by kernel_rfl) (by simp) ?_
  refine AllReadyH.cons rfl (fun K hK => ?_) AllReadyH.nil
  go_simp
  refine (HVG.out _ (h.ext e0.dr)).mono ?_; rintro e w1 ⟨rfl, he1⟩; rw [HG.out]; have e1 := (e0.dr).tr he1; have k1 := he1.cellE Q1.out; have k2 := he1.cellE Q2.out; have k3 := he1.cellE Q3.out
  try go_wp2_with fail
  refine hK.out _ _ ?_ (fun hHeld2 => ?_)
  · exact ⟨k1, k2, k3⟩
  clear hK K hHeld
  have hHeld := hHeld2
  clear hHeld2
  try simp only [Act.put, List.setIfInBounds_toArray, List.set_cons_zero, List.set_cons_succ]
  refine tyImplM 2 (v := ?_) ?_ ?_
  rotate_left
  · intro w hSw; (try dsimp only at hSw); go_simp; try with_reducible rfl
  try simp only [Act.put, List.setIfInBounds_toArray, List.set_cons_zero, List.set_cons_succ]
  refine tyImplM 3 (v := ?_) ?_ ?_
  rotate_left
  · intro w hSw; (try dsimp only at hSw); go_simp; try with_reducible rfl
  try simp only [Act.put, List.setIfInBounds_toArray, List.set_cons_zero, List.set_cons_succ]
  refine tnImplM 4 ?_
  try simp only [Act.put, List.setIfInBounds_toArray, List.set_cons_zero, List.set_cons_succ]
  refine tnImplM 5 ?_
  try simp only [Act.put, List.setIfInBounds_toArray, List.set_cons_zero, List.set_cons_succ]
  refine tnImplM 6 ?_
  try simp only [Act.put, List.setIfInBounds_toArray, List.set_cons_zero, List.set_cons_succ]
  refine tnImplM 7 ?_
  try simp only [Act.put, List.setIfInBounds_toArray, List.set_cons_zero, List.set_cons_succ]
  refine tnImplM 8 ?_
  try simp only [Act.put, List.setIfInBounds_toArray, List.set_cons_zero, List.set_cons_succ]
  refine tnImplM 9 ?_
  try simp only [Act.put, List.setIfInBounds_toArray, List.set_cons_zero, List.set_cons_succ]
  refine tyImplM 10 (v := ?_) ?_ ?_
  rotate_left
  · intro w hSw; (try dsimp only at hSw); go_simp; try with_reducible rfl
  try simp only [Act.put, List.setIfInBounds_toArray, List.set_cons_zero, List.set_cons_succ]
  refine tyImplM 11 (v := ?_) ?_ ?_
  rotate_left
  · intro w hSw; (try dsimp only at hSw); go_simp; try with_reducible rfl
  try simp only [Act.put, List.setIfInBounds_toArray, List.set_cons_zero, List.set_cons_succ]
  refine tnImplM 12 ?_
  try simp only [Act.put, List.setIfInBounds_toArray, List.set_cons_zero, List.set_cons_succ]
  refine tnImplM 13 ?_
  try simp only [Act.put, List.setIfInBounds_toArray, List.set_cons_zero, List.set_cons_succ]
  refine tnImplM 14 ?_
  try simp only [Act.put, List.setIfInBounds_toArray, List.set_cons_zero, List.set_cons_succ]
  refine tnImplM 15 ?_
  try simp only [Act.put, List.setIfInBounds_toArray, List.set_cons_zero, List.set_cons_succ]
  refine tnImplM 16 ?_
  try simp only [Act.put, List.setIfInBounds_toArray, List.set_cons_zero, List.set_cons_succ]
  refine tnImplM 17 ?_
  try simp only [Act.put, List.setIfInBounds_toArray, List.set_cons_zero, List.set_cons_succ]
  refine tyImplM 18 (v := ?_) ?_ ?_
  rotate_left
  · intro w hSw; (try dsimp only at hSw); go_simp; try with_reducible rfl
  try simp only [Act.put, List.setIfInBounds_toArray, List.set_cons_zero, List.set_cons_succ]
  refine tyImplM 19 (v := ?_) ?_ ?_
  rotate_left
  · intro w hSw; (try dsimp only at hSw); go_simp; try with_reducible rfl
  try simp only [Act.put, List.setIfInBounds_toArray, List.set_cons_zero, List.set_cons_succ]
  refine tnImplM 20 ?_
  try simp only [Act.put, List.setIfInBounds_toArray, List.set_cons_zero, List.set_cons_succ]
  refine tnImplM 21 ?_
  try simp only [Act.put, List.setIfInBounds_toArray, List.set_cons_zero, List.set_cons_succ]
  refine tnImplM 22 ?_
  try simp only [Act.put, List.setIfInBounds_toArray, List.set_cons_zero, List.set_cons_succ]
  refine tnImplM 23 ?_
  try simp only [Act.put, List.setIfInBounds_toArray, List.set_cons_zero, List.set_cons_succ]
  refine tyImplM 24 (v := ?_) ?_ ?_
  rotate_left
  · intro w hSw; (try dsimp only at hSw); go_simp; try with_reducible rfl
  try simp only [Act.put, List.setIfInBounds_toArray, List.set_cons_zero, List.set_cons_succ]
  refine wpAnyH_done (by kernel_rfl) ?_ _
  go_wp2
  go_ret
  exact ⟨ret_bool (by unfold Sg.validE; rw [HG.out]; rfl), e1⟩


set_option maxRecDepth 100000 in
set_option maxHeartbeats 1000000 in
theorem ve_bad2 (A Av Ar : Option Addr) (c cv cr : Nat) (g : Sg.Graph) (v : List Int) (r : List (List Int)) (w : World) (h : RdN w A g) (hv : Rd w 1 Av v.length (ints v)) (hr : RdL w Ar r) (hG : Sg.validG g = true) (hvg : ¬ v.length = g.length) :
    Calls Tryz.prog 20 #[.agg #[.slice A g.length c], .agg #[.slice Av v.length cv, .slice Ar r.length cr]] w fun e w' => e = .returned (.bool (Sg.validE g ⟨v, r⟩)) ∧ Ext w w' := by
  have hgl := h.1
  have hrl := hr.1
  have hvl := hv.big
  have HVG := Lib.hid (i_ValidGraph A c g)
  have HAI := Lib.hid (i_inRange Av v.length cv v)
  have e0 := ((Ext.rfl' w).al (.cells #[.slice A g.length c] 25)).al (.cells #[.slice Av v.length cv, .slice Ar r.length cr] 29)
  have q1 : ((w.alloc (.cells #[.slice A g.length c] 25)).alloc (.cells #[.slice Av v.length cv, .slice Ar r.length cr] 29)).drew.cell? ⟨w.heap.size, 0, none⟩ = some (.slice A g.length c) := by simp [go_sem]
  have q2 : ((w.alloc (.cells #[.slice A g.length c] 25)).alloc (.cells #[.slice Av v.length cv, .slice Ar r.length cr] 29)).drew.cell? ⟨w.heap.size + 1, 0, none⟩ = some (.slice Av v.length cv) := by simp [go_sem]
  have q3 : ((w.alloc (.cells #[.slice A g.length c] 25)).alloc (.cells #[.slice Av v.length cv, .slice Ar r.length cr] 29)).drew.cell? ⟨w.heap.size + 1, 1, none⟩ = some (.slice Ar r.length cr) := by simp [go_sem]
  have Q1 := Lib.hid q1
  have Q2 := Lib.hid q2
  have Q3 := Lib.hid q3
  clear q1 q2 q3
  have b1 : ((v.length : Int) != (g.length : Int)) = true := by simp; omega
  have HG := Lib.hid hG
  have Hb := Lib.hid hvg
  clear hG hvg
  go_enter Tryz.func20, Tryz.ntmps20
  go_wp2_with fail
  refine wp_region_held_drew (S := (fun W => W.cell? ⟨w.heap.size, 0, none⟩ = some (.slice A g.length c) ∧ W.cell? ⟨w.heap.size + 1, 0, none⟩ = some (.slice Av v.length cv) ∧ W.cell? ⟨w.heap.size + 1, 1, none⟩ = some (.slice Ar r.length cr))) (by kernel_rfl) ?_ (fun hHeld => ?_)
  · exact ⟨Q1.out, Q2.out, Q3.out⟩
  refine tyImplM 0 (v := ?_) ?_ ?_
  rotate_left
  · intro w hSw; (try dsimp only at hSw); go_simp; try with_reducible rfl
  try simp only [Act.put, List.setIfInBounds_toArray, List.set_cons_zero, List.set_cons_succ]
  refine wpAnyH_ready (rs := [1]) (by kernel_rfl) (by simp) ?_
  refine AllReadyH.cons rfl (fun K hK => ?_) AllReadyH.nil
  go_simp
  refine (HVG.out _ (h.ext e0.dr)).mono ?_; rintro e w1 ⟨rfl, he1⟩; rw [HG.out]; have e1 := (e0.dr).tr he1; have k1 := he1.cellE Q1.out; have k2 := he1.cellE Q2.out; have k3 := he1.cellE Q3.out
  try go_wp2_with fail
  refine hK.out _ _ ?_ (fun hHeld2 => ?_)
  · exact ⟨k1, k2, k3⟩
  clear hK K hHeld
  have hHeld := hHeld2
  clear hHeld2
  try simp only [Act.put, List.setIfInBounds_toArray, List.set_cons_zero, List.set_cons_succ]
  refine tyImplM 2 (v := ?_) ?_ ?_
  rotate_left
  · intro w hSw; (try dsimp only at hSw); go_simp; try with_reducible rfl
  try simp only [Act.put, List.setIfInBounds_toArray, List.set_cons_zero, List.set_cons_succ]
  refine tyImplM 3 (v := ?_) ?_ ?_
  rotate_left
  · intro w hSw; (try dsimp only at hSw); go_simp; try with_reducible rfl
  try simp only [Act.put, List.setIfInBounds_toArray, List.set_cons_zero, List.set_cons_succ]
  refine tyImplM 4 (v := ?_) ?_ ?_
  rotate_left
  · intro w hSw; (try dsimp only at hSw); go_simp; try with_reducible rfl
  try simp only [Act.put, List.setIfInBounds_toArray, List.set_cons_zero, List.set_cons_succ]
  refine tyImplM 5 (v := ?_) ?_ ?_
  rotate_left
  · intro w hSw; (try dsimp only at hSw); go_simp; try with_reducible rfl
  try simp only [Act.put, List.setIfInBounds_toArray, List.set_cons_zero, List.set_cons_succ]
  refine tyImplM 6 (v := ?_) ?_ ?_
  rotate_left
  · intro w hSw; (try dsimp only at hSw); go_simp; try with_reducible rfl
  try simp only [Act.put, List.setIfInBounds_toArray, List.set_cons_zero, List.set_cons_succ]
  refine tyImplM 7 (v := ?_) ?_ ?_
  rotate_left
  · intro w hSw; (try dsimp only at hSw); go_simp; try with_reducible rfl
  try simp only [Act.put, List.setIfInBounds_toArray, List.set_cons_zero, List.set_cons_succ]
  refine wpAnyH_ready (rs := [8]) (by kernel_rfl) (by simp) ?_
  refine AllReadyH.cons rfl (fun K hK => ?_) AllReadyH.nil
  go_simp
  refine (i_size A g.length c _).mono ?_; rintro e w2 ⟨rfl, he2⟩; have e1 := e1.tr he2; have k1 := he2.cellE k1; have k2 := he2.cellE k2; have k3 := he2.cellE k3
  try go_wp2_with fail
  refine hK.out _ _ ?_ (fun hHeld2 => ?_)
  · exact ⟨k1, k2, k3⟩
  clear hK K hHeld
  have hHeld := hHeld2
  clear hHeld2
  try simp only [Act.put, List.setIfInBounds_toArray, List.set_cons_zero, List.set_cons_succ]
  refine tyImplM 9 (v := ?_) ?_ ?_
  rotate_left
  · intro w hSw; (try dsimp only at hSw); go_simp; try with_reducible rfl
  try simp only [Act.put, List.setIfInBounds_toArray, List.set_cons_zero, List.set_cons_succ]
  refine tyImplM 10 (v := ?_) ?_ ?_
  rotate_left
  · intro w hSw; (try dsimp only at hSw); go_simp; try with_reducible rfl
  try simp only [Act.put, List.setIfInBounds_toArray, List.set_cons_zero, List.set_cons_succ]
  refine tyImplM 11 (v := ?_) ?_ ?_
  rotate_left
  · intro w hSw; (try dsimp only at hSw); go_simp; try with_reducible rfl
  try simp only [Act.put, List.setIfInBounds_toArray, List.set_cons_zero, List.set_cons_succ]
  refine tnImplM 12 ?_
  try simp only [Act.put, List.setIfInBounds_toArray, List.set_cons_zero, List.set_cons_succ]
  refine tnImplM 13 ?_
  try simp only [Act.put, List.setIfInBounds_toArray, List.set_cons_zero, List.set_cons_succ]
  refine tnImplM 14 ?_
  try simp only [Act.put, List.setIfInBounds_toArray, List.set_cons_zero, List.set_cons_succ]
  refine tnImplM 15 ?_
  try simp only [Act.put, List.setIfInBounds_toArray, List.set_cons_zero, List.set_cons_succ]
  refine tnImplM 16 ?_
  try simp only [Act.put, List.setIfInBounds_toArray, List.set_cons_zero, List.set_cons_succ]
  refine tnImplM 17 ?_
  try simp only [Act.put, List.setIfInBounds_toArray, List.set_cons_zero, List.set_cons_succ]
  refine tyImplM 18 (v := ?_) ?_ ?_
  rotate_left
  · intro w hSw; (try dsimp only at hSw); go_simp; try with_reducible rfl
  try simp only [Act.put, List.setIfInBounds_toArray, List.set_cons_zero, List.set_cons_succ]
  refine tyImplM 19 (v := ?_) ?_ ?_
  rotate_left
  · intro w hSw; (try dsimp only at hSw); go_simp; try with_reducible rfl
  try simp only [Act.put, List.setIfInBounds_toArray, List.set_cons_zero, List.set_cons_succ]
  refine tnImplM 20 ?_
  try simp only [Act.put, List.setIfInBounds_toArray, List.set_cons_zero, List.set_cons_succ]
  refine tnImplM 21 ?_
  try simp only [Act.put, List.setIfInBounds_toArray, List.set_cons_zero, List.set_cons_succ]
  refine tnImplM 22 ?_
  try simp only [Act.put, List.setIfInBounds_toArray, List.set_cons_zero, List.set_cons_succ]
  refine tnImplM 23 ?_
  try simp only [Act.put, List.setIfInBounds_toArray, List.set_cons_zero, List.set_cons_succ]
  refine tyImplM 24 (v := ?_) ?_ ?_
  rotate_left
  · intro w hSw; (try dsimp only at hSw); go_simp; try with_reducible rfl
  try simp only [Act.put, List.setIfInBounds_toArray, List.set_cons_zero, List.set_cons_succ]
  refine wpAnyH_done (by kernel_rfl) ?_ _
  go_wp2
  go_ret
  exact ⟨ret_bool (by unfold Sg.validE; simp [Hb.out]), e1⟩

set_option maxRecDepth 100000 in
set_option maxHeartbeats 1000000 in
theorem ve_bad3 (A Av Ar : Option Addr) (c cv cr : Nat) (g : Sg.Graph) (v : List Int) (r : List (List Int)) (w : World) (h : RdN w A g) (hv : Rd w 1 Av v.length (ints v)) (hr : RdL w Ar r) (hG : Sg.validG g = true) (hvg : v.length = g.length) (hrg : ¬ r.length = g.length) :
    Calls Tryz.prog 20 #[.agg #[.slice A g.length c], .agg #[.slice Av v.length cv, .slice Ar r.length cr]] w fun e w' => e = .returned (.bool (Sg.validE g ⟨v, r⟩)) ∧ Ext w w' := by
  have hgl := h.1
  have hrl := hr.1
  have hvl := hv.big
  have HVG := Lib.hid (i_ValidGraph A c g)
  have HAI := Lib.hid (i_inRange Av v.length cv v)
  have e0 := ((Ext.rfl' w).al (.cells #[.slice A g.length c] 25)).al (.cells #[.slice Av v.length cv, .slice Ar r.length cr] 29)
  have q1 : ((w.alloc (.cells #[.slice A g.length c] 25)).alloc (.cells #[.slice Av v.length cv, .slice Ar r.length cr] 29)).drew.cell? ⟨w.heap.size, 0, none⟩ = some (.slice A g.length c) := by simp [go_sem]
  have q2 : ((w.alloc (.cells #[.slice A g.length c] 25)).alloc (.cells #[.slice Av v.length cv, .slice Ar r.length cr] 29)).drew.cell? ⟨w.heap.size + 1, 0, none⟩ = some (.slice Av v.length cv) := by simp [go_sem]
  have q3 : ((w.alloc (.cells #[.slice A g.length c] 25)).alloc (.cells #[.slice Av v.length cv, .slice Ar r.length cr] 29)).drew.cell? ⟨w.heap.size + 1, 1, none⟩ = some (.slice Ar r.length cr) := by simp [go_sem]
  have Q1 := Lib.hid q1
  have Q2 := Lib.hid q2
  have Q3 := Lib.hid q3
  clear q1 q2 q3
  have b1 : ((v.length : Int) != (g.length : Int)) = false := by simp; omega
  have b2 : ((r.length : Int) != (g.length : Int)) = true := by simp; omega
  have HG := Lib.hid hG
  have Hb := Lib.hid hrg
  clear hG hvg hrg
  go_enter Tryz.func20, Tryz.ntmps20
  go_wp2_with fail
  refine wp_region_held_drew (S := (fun W => W.cell? ⟨w.heap.size, 0, none⟩ = some (.slice A g.length c) ∧ W.cell? ⟨w.heap.size + 1, 0, none⟩ = some (.slice Av v.length cv) ∧ W.cell? ⟨w.heap.size + 1, 1, none⟩ = some (.slice Ar r.length cr))) (by kernel_rfl) ?_ (fun hHeld => ?_)
  · exact ⟨Q1.out, Q2.out, Q3.out⟩
  refine tyImplM 0 (v := ?_) ?_ ?_
  rotate_left
  · intro w hSw; (try dsimp only at hSw); go_simp; try with_reducible rfl
  try simp only [Act.put, List.setIfInBounds_toArray, List.set_cons_zero, List.set_cons_succ]
  refine wpAnyH_ready (rs := [1]) (by kernel_rfl) (by simp) ?_
  refine AllReadyH.cons rfl (fun K hK => ?_) AllReadyH.nil
  go_simp
  refine (HVG.out _ (h.ext e0.dr)).mono ?_; rintro e w1 ⟨rfl, he1⟩; rw [HG.out]; have e1 := (e0.dr).tr he1; have k1 := he1.cellE Q1.out; have k2 := he1.cellE Q2.out; have k3 := he1.cellE Q3.out
  try go_wp2_with fail
  refine hK.out _ _ ?_ (fun hHeld2 => ?_)
  · exact ⟨k1, k2, k3⟩
  clear hK K hHeld
  have hHeld := hHeld2
  clear hHeld2
  try simp only [Act.put, List.setIfInBounds_toArray, List.set_cons_zero, List.set_cons_succ]
  refine tyImplM 2 (v := ?_) ?_ ?_
  rotate_left
  · intro w hSw; (try dsimp only at hSw); go_simp; try with_reducible rfl
  try simp only [Act.put, List.setIfInBounds_toArray, List.set_cons_zero, List.set_cons_succ]
  refine tyImplM 3 (v := ?_) ?_ ?_
  rotate_left
  · intro w hSw; (try dsimp only at hSw); go_simp; try with_reducible rfl
  try simp only [Act.put, List.setIfInBounds_toArray, List.set_cons_zero, List.set_cons_succ]
  refine tyImplM 4 (v := ?_) ?_ ?_
  rotate_left
  · intro w hSw; (try dsimp only at hSw); go_simp; try with_reducible rfl
  try simp only [Act.put, List.setIfInBounds_toArray, List.set_cons_zero, List.set_cons_succ]
  refine tyImplM 5 (v := ?_) ?_ ?_
  rotate_left
  · intro w hSw; (try dsimp only at hSw); go_simp; try with_reducible rfl
  try simp only [Act.put, List.setIfInBounds_toArray, List.set_cons_zero, List.set_cons_succ]
  refine tyImplM 6 (v := ?_) ?_ ?_
  rotate_left
  · intro w hSw; (try dsimp only at hSw); go_simp; try with_reducible rfl
  try simp only [Act.put, List.setIfInBounds_toArray, List.set_cons_zero, List.set_cons_succ]
  refine tyImplM 7 (v := ?_) ?_ ?_
  rotate_left
  · intro w hSw; (try dsimp only at hSw); go_simp; try with_reducible rfl
  try simp only [Act.put, List.setIfInBounds_toArray, List.set_cons_zero, List.set_cons_succ]
  refine wpAnyH_ready (rs := [8]) (by kernel_rfl) (by simp) ?_
  refine AllReadyH.cons rfl (fun K hK => ?_) AllReadyH.nil
  go_simp
  refine (i_size A g.length c _).mono ?_; rintro e w2 ⟨rfl, he2⟩; have e1 := e1.tr he2; have k1 := he2.cellE k1; have k2 := he2.cellE k2; have k3 := he2.cellE k3
  try go_wp2_with fail
  refine hK.out _ _ ?_ (fun hHeld2 => ?_)
  · exact ⟨k1, k2, k3⟩
  clear hK K hHeld
  have hHeld := hHeld2
  clear hHeld2
  try simp only [Act.put, List.setIfInBounds_toArray, List.set_cons_zero, List.set_cons_succ]
  refine tyImplM 9 (v := ?_) ?_ ?_
  rotate_left
  · intro w hSw; (try dsimp only at hSw); go_simp; try with_reducible rfl
  try simp only [Act.put, List.setIfInBounds_toArray, List.set_cons_zero, List.set_cons_succ]
  refine tyImplM 10 (v := ?_) ?_ ?_
  rotate_left
  · intro w hSw; (try dsimp only at hSw); go_simp; try with_reducible rfl
  try simp only [Act.put, List.setIfInBounds_toArray, List.set_cons_zero, List.set_cons_succ]
  refine tyImplM 11 (v := ?_) ?_ ?_
  rotate_left
  · intro w hSw; (try dsimp only at hSw); go_simp; try with_reducible rfl
  try simp only [Act.put, List.setIfInBounds_toArray, List.set_cons_zero, List.set_cons_succ]
  refine tyImplM 12 (v := ?_) ?_ ?_
  rotate_left
  · intro w hSw; (try dsimp only at hSw); go_simp; try with_reducible rfl
  try simp only [Act.put, List.setIfInBounds_toArray, List.set_cons_zero, List.set_cons_succ]
  refine tyImplM 13 (v := ?_) ?_ ?_
  rotate_left
  · intro w hSw; (try dsimp only at hSw); go_simp; try with_reducible rfl
  try simp only [Act.put, List.setIfInBounds_toArray, List.set_cons_zero, List.set_cons_succ]
  refine tyImplM 14 (v := ?_) ?_ ?_
  rotate_left
  · intro w hSw; (try dsimp only at hSw); go_simp; try with_reducible rfl
  try simp only [Act.put, List.setIfInBounds_toArray, List.set_cons_zero, List.set_cons_succ]
  refine tyImplM 15 (v := ?_) ?_ ?_
  rotate_left
  · intro w hSw; (try dsimp only at hSw); go_simp; try with_reducible rfl
  try simp only [Act.put, List.setIfInBounds_toArray, List.set_cons_zero, List.set_cons_succ]
  refine wpAnyH_ready (rs := [16]) (by kernel_rfl) (by simp) ?_
  refine AllReadyH.cons rfl (fun K hK => ?_) AllReadyH.nil
  go_simp
  refine (i_size A g.length c _).mono ?_; rintro e w2 ⟨rfl, he2⟩; have e1 := e1.tr he2; have k1 := he2.cellE k1; have k2 := he2.cellE k2; have k3 := he2.cellE k3
  try go_wp2_with fail
  refine hK.out _ _ ?_ (fun hHeld2 => ?_)
  · exact ⟨k1, k2, k3⟩
  clear hK K hHeld
  have hHeld := hHeld2
  clear hHeld2
  try simp only [Act.put, List.setIfInBounds_toArray, List.set_cons_zero, List.set_cons_succ]
  refine tyImplM 17 (v := ?_) ?_ ?_
  rotate_left
  · intro w hSw; (try dsimp only at hSw); go_simp; try with_reducible rfl
  try simp only [Act.put, List.setIfInBounds_toArray, List.set_cons_zero, List.set_cons_succ]
  refine tyImplM 18 (v := ?_) ?_ ?_
  rotate_left
  · intro w hSw; (try dsimp only at hSw); go_simp; try with_reducible rfl
  try simp only [Act.put, List.setIfInBounds_toArray, List.set_cons_zero, List.set_cons_succ]
  refine tyImplM 19 (v := ?_) ?_ ?_
  rotate_left
  · intro w hSw; (try dsimp only at hSw); go_simp; try with_reducible rfl
  try simp only [Act.put, List.setIfInBounds_toArray, List.set_cons_zero, List.set_cons_succ]
  refine tnImplM 20 ?_
  try simp only [Act.put, List.setIfInBounds_toArray, List.set_cons_zero, List.set_cons_succ]
  refine tnImplM 21 ?_
  try simp only [Act.put, List.setIfInBounds_toArray, List.set_cons_zero, List.set_cons_succ]
  refine tnImplM 22 ?_
  try simp only [Act.put, List.setIfInBounds_toArray, List.set_cons_zero, List.set_cons_succ]
  refine tnImplM 23 ?_
  try simp only [Act.put, List.setIfInBounds_toArray, List.set_cons_zero, List.set_cons_succ]
  refine tyImplM 24 (v := ?_) ?_ ?_
  rotate_left
  · intro w hSw; (try dsimp only at hSw); go_simp; try with_reducible rfl
  try simp only [Act.put, List.setIfInBounds_toArray, List.set_cons_zero, List.set_cons_succ]
  refine wpAnyH_done (by kernel_rfl) ?_ _
  go_wp2
  go_ret
  exact ⟨ret_bool (by unfold Sg.validE; simp [Hb.out]), e1⟩

set_option maxRecDepth 100000 in
set_option maxHeartbeats 1000000 in
theorem ve_bad4 (A Av Ar : Option Addr) (c cv cr : Nat) (g : Sg.Graph) (v : List Int) (r : List (List Int)) (w : World) (h : RdN w A g) (hv : Rd w 1 Av v.length (ints v)) (hr : RdL w Ar r) (hG : Sg.validG g = true) (hvg : v.length = g.length) (hrg : r.length = g.length) (hI : (v.all fun x => Sg.inR x 0 999) = false) :
    Calls Tryz.prog 20 #[.agg #[.slice A g.length c], .agg #[.slice Av v.length cv, .slice Ar r.length cr]] w fun e w' => e = .returned (.bool (Sg.validE g ⟨v, r⟩)) ∧ Ext w w' := by
  have hgl := h.1
  have hrl := hr.1
  have hvl := hv.big
  have HVG := Lib.hid (i_ValidGraph A c g)
  have HAI := Lib.hid (i_inRange Av v.length cv v)
  have e0 := ((Ext.rfl' w).al (.cells #[.slice A g.length c] 25)).al (.cells #[.slice Av v.length cv, .slice Ar r.length cr] 29)
  have q1 : ((w.alloc (.cells #[.slice A g.length c] 25)).alloc (.cells #[.slice Av v.length cv, .slice Ar r.length cr] 29)).drew.cell? ⟨w.heap.size, 0, none⟩ = some (.slice A g.length c) := by simp [go_sem]
  have q2 : ((w.alloc (.cells #[.slice A g.length c] 25)).alloc (.cells #[.slice Av v.length cv, .slice Ar r.length cr] 29)).drew.cell? ⟨w.heap.size + 1, 0, none⟩ = some (.slice Av v.length cv) := by simp [go_sem]
  have q3 : ((w.alloc (.cells #[.slice A g.length c] 25)).alloc (.cells #[.slice Av v.length cv, .slice Ar r.length cr] 29)).drew.cell? ⟨w.heap.size + 1, 1, none⟩ = some (.slice Ar r.length cr) := by simp [go_sem]
  have Q1 := Lib.hid q1
  have Q2 := Lib.hid q2
  have Q3 := Lib.hid q3
  clear q1 q2 q3
  have b1 : ((v.length : Int) != (g.length : Int)) = false := by simp; omega
  have b2 : ((r.length : Int) != (g.length : Int)) = false := by simp; omega
  have HG := Lib.hid hG
  have HI := Lib.hid hI
  clear hG hvg hrg hI
  go_enter Tryz.func20, Tryz.ntmps20
  go_wp2_with fail
  refine wp_region_held_drew (S := (fun W => W.cell? ⟨w.heap.size, 0, none⟩ = some (.slice A g.length c) ∧ W.cell? ⟨w.heap.size + 1, 0, none⟩ = some (.slice Av v.length cv) ∧ W.cell? ⟨w.heap.size + 1, 1, none⟩ = some (.slice Ar r.length cr))) (by kernel_rfl) ?_ (fun hHeld => ?_)
  · exact ⟨Q1.out, Q2.out, Q3.out⟩
  refine tyImplM 0 (v := ?_) ?_ ?_
  rotate_left
  · intro w hSw; (try dsimp only at hSw); go_simp; try with_reducible rfl
  try simp only [Act.put, List.setIfInBounds_toArray, List.set_cons_zero, List.set_cons_succ]
  refine wpAnyH_ready (rs := [1]) (by kernel_rfl) (by simp) ?_
  refine AllReadyH.cons rfl (fun K hK => ?_) AllReadyH.nil
  go_simp
  refine (HVG.out _ (h.ext e0.dr)).mono ?_; rintro e w1 ⟨rfl, he1⟩; rw [HG.out]; have e1 := (e0.dr).tr he1; have k1 := he1.cellE Q1.out; have k2 := he1.cellE Q2.out; have k3 := he1.cellE Q3.out
  try go_wp2_with fail
  refine hK.out _ _ ?_ (fun hHeld2 => ?_)
  · exact ⟨k1, k2, k3⟩
  clear hK K hHeld
  have hHeld := hHeld2
  clear hHeld2
  try simp only [Act.put, List.setIfInBounds_toArray, List.set_cons_zero, List.set_cons_succ]
  refine tyImplM 2 (v := ?_) ?_ ?_
  rotate_left
  · intro w hSw; (try dsimp only at hSw); go_simp; try with_reducible rfl
  try simp only [Act.put, List.setIfInBounds_toArray, List.set_cons_zero, List.set_cons_succ]
  refine tyImplM 3 (v := ?_) ?_ ?_
  rotate_left
  · intro w hSw; (try dsimp only at hSw); go_simp; try with_reducible rfl
  try simp only [Act.put, List.setIfInBounds_toArray, List.set_cons_zero, List.set_cons_succ]
  refine tyImplM 4 (v := ?_) ?_ ?_
  rotate_left
  · intro w hSw; (try dsimp only at hSw); go_simp; try with_reducible rfl
  try simp only [Act.put, List.setIfInBounds_toArray, List.set_cons_zero, List.set_cons_succ]
  refine tyImplM 5 (v := ?_) ?_ ?_
  rotate_left
  · intro w hSw; (try dsimp only at hSw); go_simp; try with_reducible rfl
  try simp only [Act.put, List.setIfInBounds_toArray, List.set_cons_zero, List.set_cons_succ]
  refine tyImplM 6 (v := ?_) ?_ ?_
  rotate_left
  · intro w hSw; (try dsimp only at hSw); go_simp; try with_reducible rfl
  try simp only [Act.put, List.setIfInBounds_toArray, List.set_cons_zero, List.set_cons_succ]
  refine tyImplM 7 (v := ?_) ?_ ?_
  rotate_left
  · intro w hSw; (try dsimp only at hSw); go_simp; try with_reducible rfl
  try simp only [Act.put, List.setIfInBounds_toArray, List.set_cons_zero, List.set_cons_succ]
  refine wpAnyH_ready (rs := [8]) (by kernel_rfl) (by simp) ?_
  refine AllReadyH.cons rfl (fun K hK => ?_) AllReadyH.nil
  go_simp
  refine (i_size A g.length c _).mono ?_; rintro e w2 ⟨rfl, he2⟩; have e1 := e1.tr he2; have k1 := he2.cellE k1; have k2 := he2.cellE k2; have k3 := he2.cellE k3
  try go_wp2_with fail
  refine hK.out _ _ ?_ (fun hHeld2 => ?_)
  · exact ⟨k1, k2, k3⟩
  clear hK K hHeld
  have hHeld := hHeld2
  clear hHeld2
  try simp only [Act.put, List.setIfInBounds_toArray, List.set_cons_zero, List.set_cons_succ]
  refine tyImplM 9 (v := ?_) ?_ ?_
  rotate_left
  · intro w hSw; (try dsimp only at hSw); go_simp; try with_reducible rfl
  try simp only [Act.put, List.setIfInBounds_toArray, List.set_cons_zero, List.set_cons_succ]
  refine tyImplM 10 (v := ?_) ?_ ?_
  rotate_left
  · intro w hSw; (try dsimp only at hSw); go_simp; try with_reducible rfl
  try simp only [Act.put, List.setIfInBounds_toArray, List.set_cons_zero, List.set_cons_succ]
  refine tyImplM 11 (v := ?_) ?_ ?_
  rotate_left
  · intro w hSw; (try dsimp only at hSw); go_simp; try with_reducible rfl
  try simp only [Act.put, List.setIfInBounds_toArray, List.set_cons_zero, List.set_cons_succ]
  refine tyImplM 12 (v := ?_) ?_ ?_
  rotate_left
  · intro w hSw; (try dsimp only at hSw); go_simp; try with_reducible rfl
  try simp only [Act.put, List.setIfInBounds_toArray, List.set_cons_zero, List.set_cons_succ]
  refine tyImplM 13 (v := ?_) ?_ ?_
  rotate_left
  · intro w hSw; (try dsimp only at hSw); go_simp; try with_reducible rfl
  try simp only [Act.put, List.setIfInBounds_toArray, List.set_cons_zero, List.set_cons_succ]
  refine tyImplM 14 (v := ?_) ?_ ?_
  rotate_left
  · intro w hSw; (try dsimp only at hSw); go_simp; try with_reducible rfl
  try simp only [Act.put, List.setIfInBounds_toArray, List.set_cons_zero, List.set_cons_succ]
  refine tyImplM 15 (v := ?_) ?_ ?_
  rotate_left
  · intro w hSw; (try dsimp only at hSw); go_simp; try with_reducible rfl
  try simp only [Act.put, List.setIfInBounds_toArray, List.set_cons_zero, List.set_cons_succ]
  refine wpAnyH_ready (rs := [16]) (by kernel_rfl) (by simp) ?_
  refine AllReadyH.cons rfl (fun K hK => ?_) AllReadyH.nil
  go_simp
  refine (i_size A g.length c _).mono ?_; rintro e w2 ⟨rfl, he2⟩; have e1 := e1.tr he2; have k1 := he2.cellE k1; have k2 := he2.cellE k2; have k3 := he2.cellE k3
  try go_wp2_with fail
  refine hK.out _ _ ?_ (fun hHeld2 => ?_)
  · exact ⟨k1, k2, k3⟩
  clear hK K hHeld
  have hHeld := hHeld2
  clear hHeld2
  try simp only [Act.put, List.setIfInBounds_toArray, List.set_cons_zero, List.set_cons_succ]
  refine tyImplM 17 (v := ?_) ?_ ?_
  rotate_left
  · intro w hSw; (try dsimp only at hSw); go_simp; try with_reducible rfl
  try simp only [Act.put, List.setIfInBounds_toArray, List.set_cons_zero, List.set_cons_succ]
  refine tyImplM 18 (v := ?_) ?_ ?_
  rotate_left
  · intro w hSw; (try dsimp only at hSw); go_simp; try with_reducible rfl
  try simp only [Act.put, List.setIfInBounds_toArray, List.set_cons_zero, List.set_cons_succ]
  refine tyImplM 19 (v := ?_) ?_ ?_
  rotate_left
  · intro w hSw; (try dsimp only at hSw); go_simp; try with_reducible rfl
  try simp only [Act.put, List.setIfInBounds_toArray, List.set_cons_zero, List.set_cons_succ]
  refine tyImplM 20 (v := ?_) ?_ ?_
  rotate_left
  · intro w hSw; (try dsimp only at hSw); go_simp; try with_reducible rfl
  try simp only [Act.put, List.setIfInBounds_toArray, List.set_cons_zero, List.set_cons_succ]
  refine tyImplM 21 (v := ?_) ?_ ?_
  rotate_left
  · intro w hSw; (try dsimp only at hSw); go_simp; try with_reducible rfl
  try simp only [Act.put, List.setIfInBounds_toArray, List.set_cons_zero, List.set_cons_succ]
  refine wpAnyH_ready (rs := [22]) (by kernel_rfl) (by simp) ?_
  refine AllReadyH.cons rfl (fun K hK => ?_) AllReadyH.nil
  go_simp
  refine (HAI.out _ (hv.ext e1)).mono ?_; rintro e w3 ⟨rfl, he3⟩; rw [HI.out]; have e1 := e1.tr he3; have k1 := he3.cellE k1; have k2 := he3.cellE k2; have k3 := he3.cellE k3
  try go_wp2_with fail
  refine hK.out _ _ ?_ (fun hHeld2 => ?_)
  · exact ⟨k1, k2, k3⟩
  clear hK K hHeld
  have hHeld := hHeld2
  clear hHeld2
  try simp only [Act.put, List.setIfInBounds_toArray, List.set_cons_zero, List.set_cons_succ]
  refine tyImplM 23 (v := ?_) ?_ ?_
  rotate_left
  · intro w hSw; (try dsimp only at hSw); go_simp; try with_reducible rfl
  try simp only [Act.put, List.setIfInBounds_toArray, List.set_cons_zero, List.set_cons_succ]
  refine tyImplM 24 (v := ?_) ?_ ?_
  rotate_left
  · intro w hSw; (try dsimp only at hSw); go_simp; try with_reducible rfl
  try simp only [Act.put, List.setIfInBounds_toArray, List.set_cons_zero, List.set_cons_succ]
  refine wpAnyH_done (by kernel_rfl) ?_ _
  go_wp2
  go_ret
  exact ⟨ret_bool (by unfold Sg.validE Sg.inR999; rw [HI.out]; simp), e1⟩

end Go.Proofs.YtmelggoagbhieaaGreat

/- The program's ValidEager: its contract. Conditions: bounds on lengths. -/
namespace Go.Proofs.YtmelggoagbhieaaGreat
open Go.RowKit
section
variable {P : Program} {ops : Array Oper} {Q : Exit → Act → World → Prop} {md : Region.Mode} {S : World → Prop}
theorem tyImplN (i : Nat) {oi : Oper} {v : Value} {fuel : Nat} {listed : Array Bool} {a : Act} {w : World} (hv : ∀ w, S w → (execOp a.eval oi).run P w = .ok (.value v) w) (h : wpAnyH P md ops Q S fuel (listed.setIfInBounds i true) (a.put oi.dst v) w)
    (hi : ops[i]? = some oi := by simp only [List.getElem?_toArray, List.getElem?_cons_succ, List.getElem?_cons_zero]; rfl) (hs : Region.noSelect ops = true := by kernel_rfl) (hf : Region.free md ops listed i = true := by kernel_rfl) (hr : (Region.ready md ops listed).contains i = true := by kernel_rfl)
    (hQ : ∀ c a w, Q (.panic c) (a.put oi.dst v) w → Q (.panic c) a w := by exact fun _ _ _ h => h) (hw : Region.wanted oi (yielded ops a.tmps) = true := by kernel_rfl) (hS : S w := by assumption) : wpAnyH P md ops Q S (fuel + 1) listed a w := wpAnyH_take hi hs hf hr hQ (Or.inl ⟨hw, hv⟩) hS h
theorem tnImplN (i : Nat) {oi : Oper} {fuel : Nat} {listed : Array Bool} {a : Act} {w : World} (h : wpAnyH P md ops Q S fuel (listed.setIfInBounds i true) (a.put oi.dst undef) w)
    (hi : ops[i]? = some oi := by simp only [List.getElem?_toArray, List.getElem?_cons_succ, List.getElem?_cons_zero]; rfl) (hs : Region.noSelect ops = true := by kernel_rfl) (hf : Region.free md ops listed i = true := by kernel_rfl) (hr : (Region.ready md ops listed).contains i = true := by kernel_rfl)
    (hQ : ∀ c a w, Q (.panic c) (a.put oi.dst undef) w → Q (.panic c) a w := by exact fun _ _ _ h => h) (hw : Region.wanted oi (yielded ops a.tmps) = false := by kernel_rfl) (hS : S w := by assumption) : wpAnyH P md ops Q S (fuel + 1) listed a w := wpAnyH_take hi hs hf hr hQ (Or.inr ⟨hw, rfl⟩) hS h
end

set_option maxRecDepth 100000 in
set_option maxHeartbeats 4000000 in
theorem ve_main (A Av Ar : Option Addr) (c cv cr : Nat) (g : Sg.Graph) (v : List Int) (r : List (List Int)) (w : World) (h : RdN w A g) (hv : Rd w 1 Av v.length (ints v)) (hr : RdL w Ar r) (hG : Sg.validG g = true) (hvg : v.length = g.length) (hrg : r.length = g.length) (hI : (v.all fun x => Sg.inR x 0 999) = true) :
    Calls Tryz.prog 20 #[.agg #[.slice A g.length c], .agg #[.slice Av v.length cv, .slice Ar r.length cr]] w fun e w' => e = .returned (.bool (Sg.validE g ⟨v, r⟩)) ∧ Ext w w' := by
  have hgl := h.1
  have hrl := hr.1
  have hvl := hv.big
  have HVG := Lib.hid (i_ValidGraph A c g)
  have HAI := Lib.hid (i_inRange Av v.length cv v)
  have e0 := ((Ext.rfl' w).al (.cells #[.slice A g.length c] 25)).al (.cells #[.slice Av v.length cv, .slice Ar r.length cr] 29)
  have q1 : ((w.alloc (.cells #[.slice A g.length c] 25)).alloc (.cells #[.slice Av v.length cv, .slice Ar r.length cr] 29)).drew.cell? ⟨w.heap.size, 0, none⟩ = some (.slice A g.length c) := by simp [go_sem]
  have q2 : ((w.alloc (.cells #[.slice A g.length c] 25)).alloc (.cells #[.slice Av v.length cv, .slice Ar r.length cr] 29)).drew.cell? ⟨w.heap.size + 1, 0, none⟩ = some (.slice Av v.length cv) := by simp [go_sem]
  have q3 : ((w.alloc (.cells #[.slice A g.length c] 25)).alloc (.cells #[.slice Av v.length cv, .slice Ar r.length cr] 29)).drew.cell? ⟨w.heap.size + 1, 1, none⟩ = some (.slice Ar r.length cr) := by simp [go_sem]
  have Q1 := Lib.hid q1
  have Q2 := Lib.hid q2
  have Q3 := Lib.hid q3
  clear q1 q2 q3
  have b1 : ((v.length : Int) != (g.length : Int)) = false := by simp; omega
  have b2 : ((r.length : Int) != (g.length : Int)) = false := by simp; omega
  have HG := Lib.hid hG
  have HI := Lib.hid hI
  have Hvg := Lib.hid hvg
  have Hrg := Lib.hid hrg
  clear hG hvg hrg hI
  go_enter Tryz.func20, Tryz.ntmps20
  go_wp2_with fail
  refine wp_region_held_drew (S := (fun W => W.cell? ⟨w.heap.size, 0, none⟩ = some (.slice A g.length c) ∧ W.cell? ⟨w.heap.size + 1, 0, none⟩ = some (.slice Av v.length cv) ∧ W.cell? ⟨w.heap.size + 1, 1, none⟩ = some (.slice Ar r.length cr))) (by kernel_rfl) ?_ (fun hHeld => ?_)
  · exact ⟨Q1.out, Q2.out, Q3.out⟩
  refine tyImplN 0 (v := ?_) ?_ ?_
  rotate_left
  · intro w hSw; (try dsimp only at hSw); go_simp; try with_reducible rfl
  try simp only [Act.put, List.setIfInBounds_toArray, List.set_cons_zero, List.set_cons_succ]
  refine wpAnyH_ready (rs := [1]) (by kernel_rfl) (by simp) ?_
  refine AllReadyH.cons rfl (fun K hK => ?_) AllReadyH.nil
  go_simp
  refine (HVG.out _ (h.ext e0.dr)).mono ?_; rintro e w1 ⟨rfl, he1⟩; rw [HG.out]; have e1 := (e0.dr).tr he1; have k1 := he1.cellE Q1.out; have k2 := he1.cellE Q2.out; have k3 := he1.cellE Q3.out
  try go_wp2_with fail
  refine hK.out _ _ ?_ (fun hHeld2 => ?_)
  · exact ⟨k1, k2, k3⟩
  clear hK K hHeld
  have hHeld := hHeld2
  clear hHeld2
  try simp only [Act.put, List.setIfInBounds_toArray, List.set_cons_zero, List.set_cons_succ]
  refine tyImplN 2 (v := ?_) ?_ ?_
  rotate_left
  · intro w hSw; (try dsimp only at hSw); go_simp; try with_reducible rfl
  try simp only [Act.put, List.setIfInBounds_toArray, List.set_cons_zero, List.set_cons_succ]
  refine tyImplN 3 (v := ?_) ?_ ?_
  rotate_left
  · intro w hSw; (try dsimp only at hSw); go_simp; try with_reducible rfl
  try simp only [Act.put, List.setIfInBounds_toArray, List.set_cons_zero, List.set_cons_succ]
  refine tyImplN 4 (v := ?_) ?_ ?_
  rotate_left
  · intro w hSw; (try dsimp only at hSw); go_simp; try with_reducible rfl
  try simp only [Act.put, List.setIfInBounds_toArray, List.set_cons_zero, List.set_cons_succ]
  refine tyImplN 5 (v := ?_) ?_ ?_
  rotate_left
  · intro w hSw; (try dsimp only at hSw); go_simp; try with_reducible rfl
  try simp only [Act.put, List.setIfInBounds_toArray, List.set_cons_zero, List.set_cons_succ]
  refine tyImplN 6 (v := ?_) ?_ ?_
  rotate_left
  · intro w hSw; (try dsimp only at hSw); go_simp; try with_reducible rfl
  try simp only [Act.put, List.setIfInBounds_toArray, List.set_cons_zero, List.set_cons_succ]
  refine tyImplN 7 (v := ?_) ?_ ?_
  rotate_left
  · intro w hSw; (try dsimp only at hSw); go_simp; try with_reducible rfl
  try simp only [Act.put, List.setIfInBounds_toArray, List.set_cons_zero, List.set_cons_succ]
  refine wpAnyH_ready (rs := [8]) (by kernel_rfl) (by simp) ?_
  refine AllReadyH.cons rfl (fun K hK => ?_) AllReadyH.nil
  go_simp
  refine (i_size A g.length c _).mono ?_; rintro e w2 ⟨rfl, he2⟩; have e1 := e1.tr he2; have k1 := he2.cellE k1; have k2 := he2.cellE k2; have k3 := he2.cellE k3
  try go_wp2_with fail
  refine hK.out _ _ ?_ (fun hHeld2 => ?_)
  · exact ⟨k1, k2, k3⟩
  clear hK K hHeld
  have hHeld := hHeld2
  clear hHeld2
  try simp only [Act.put, List.setIfInBounds_toArray, List.set_cons_zero, List.set_cons_succ]
  refine tyImplN 9 (v := ?_) ?_ ?_
  rotate_left
  · intro w hSw; (try dsimp only at hSw); go_simp; try with_reducible rfl
  try simp only [Act.put, List.setIfInBounds_toArray, List.set_cons_zero, List.set_cons_succ]
  refine tyImplN 10 (v := ?_) ?_ ?_
  rotate_left
  · intro w hSw; (try dsimp only at hSw); go_simp; try with_reducible rfl
  try simp only [Act.put, List.setIfInBounds_toArray, List.set_cons_zero, List.set_cons_succ]
  refine tyImplN 11 (v := ?_) ?_ ?_
  rotate_left
  · intro w hSw; (try dsimp only at hSw); go_simp; try with_reducible rfl
  try simp only [Act.put, List.setIfInBounds_toArray, List.set_cons_zero, List.set_cons_succ]
  refine tyImplN 12 (v := ?_) ?_ ?_
  rotate_left
  · intro w hSw; (try dsimp only at hSw); go_simp; try with_reducible rfl
  try simp only [Act.put, List.setIfInBounds_toArray, List.set_cons_zero, List.set_cons_succ]
  refine tyImplN 13 (v := ?_) ?_ ?_
  rotate_left
  · intro w hSw; (try dsimp only at hSw); go_simp; try with_reducible rfl
  try simp only [Act.put, List.setIfInBounds_toArray, List.set_cons_zero, List.set_cons_succ]
  refine tyImplN 14 (v := ?_) ?_ ?_
  rotate_left
  · intro w hSw; (try dsimp only at hSw); go_simp; try with_reducible rfl
  try simp only [Act.put, List.setIfInBounds_toArray, List.set_cons_zero, List.set_cons_succ]
  refine tyImplN 15 (v := ?_) ?_ ?_
  rotate_left
  · intro w hSw; (try dsimp only at hSw); go_simp; try with_reducible rfl
  try simp only [Act.put, List.setIfInBounds_toArray, List.set_cons_zero, List.set_cons_succ]
  refine wpAnyH_ready (rs := [16]) (by kernel_rfl) (by simp) ?_
  refine AllReadyH.cons rfl (fun K hK => ?_) AllReadyH.nil
  go_simp
  refine (i_size A g.length c _).mono ?_; rintro e w2 ⟨rfl, he2⟩; have e1 := e1.tr he2; have k1 := he2.cellE k1; have k2 := he2.cellE k2; have k3 := he2.cellE k3
  try go_wp2_with fail
  refine hK.out _ _ ?_ (fun hHeld2 => ?_)
  · exact ⟨k1, k2, k3⟩
  clear hK K hHeld
  have hHeld := hHeld2
  clear hHeld2
  try simp only [Act.put, List.setIfInBounds_toArray, List.set_cons_zero, List.set_cons_succ]
  refine tyImplN 17 (v := ?_) ?_ ?_
  rotate_left
  · intro w hSw; (try dsimp only at hSw); go_simp; try with_reducible rfl
  try simp only [Act.put, List.setIfInBounds_toArray, List.set_cons_zero, List.set_cons_succ]
  refine tyImplN 18 (v := ?_) ?_ ?_
  rotate_left
  · intro w hSw; (try dsimp only at hSw); go_simp; try with_reducible rfl
  try simp only [Act.put, List.setIfInBounds_toArray, List.set_cons_zero, List.set_cons_succ]
  refine tyImplN 19 (v := ?_) ?_ ?_
  rotate_left
  · intro w hSw; (try dsimp only at hSw); go_simp; try with_reducible rfl
  try simp only [Act.put, List.setIfInBounds_toArray, List.set_cons_zero, List.set_cons_succ]
  refine tyImplN 20 (v := ?_) ?_ ?_
  rotate_left
  · intro w hSw; (try dsimp only at hSw); go_simp; try with_reducible rfl
  try simp only [Act.put, List.setIfInBounds_toArray, List.set_cons_zero, List.set_cons_succ]
  refine tyImplN 21 (v := ?_) ?_ ?_
  rotate_left
  · intro w hSw; (try dsimp only at hSw); go_simp; try with_reducible rfl
  try simp only [Act.put, List.setIfInBounds_toArray, List.set_cons_zero, List.set_cons_succ]
  refine wpAnyH_ready (rs := [22]) (by kernel_rfl) (by simp) ?_
  refine AllReadyH.cons rfl (fun K hK => ?_) AllReadyH.nil
  go_simp
  refine (HAI.out _ (hv.ext e1)).mono ?_; rintro e w3 ⟨rfl, he3⟩; rw [HI.out]; have e1 := e1.tr he3; have k1 := he3.cellE k1; have k2 := he3.cellE k2; have k3 := he3.cellE k3
  try go_wp2_with fail
  refine hK.out _ _ ?_ (fun hHeld2 => ?_)
  · exact ⟨k1, k2, k3⟩
  clear hK K hHeld
  have hHeld := hHeld2
  clear hHeld2
  try simp only [Act.put, List.setIfInBounds_toArray, List.set_cons_zero, List.set_cons_succ]
  refine tyImplN 23 (v := ?_) ?_ ?_
  rotate_left
  · intro w hSw; (try dsimp only at hSw); go_simp; try with_reducible rfl
  try simp only [Act.put, List.setIfInBounds_toArray, List.set_cons_zero, List.set_cons_succ]
  refine tyImplN 24 (v := ?_) ?_ ?_
  rotate_left
  · intro w hSw; (try dsimp only at hSw); go_simp; try with_reducible rfl
  try simp only [Act.put, List.setIfInBounds_toArray, List.set_cons_zero, List.set_cons_succ]
  refine wpAnyH_done (by kernel_rfl) ?_ _
  go_wp2
  clear b1 b2 HVG HAI Q1 Q2 Q3 e0 hHeld
  go_loopw [35] (fun i wr => ∃ k : Nat, k ≤ g.length ∧ i = .int .i64 k ∧ Ext w3 wr ∧ RA g v r k = true) (fun i _ => g.length - (intOf i).toNat)
  case atStart => exact ⟨0, Nat.zero_le _, rfl, Ext.rfl' _, rfl⟩
  case round =>
    obtain ⟨k, hk, rfl, he, hra⟩ := hrel
    have HR := Lib.hid hra
    have c1 := he.cellE k1
    have c2 := he.cellE k2
    have c3 := he.cellE k3
    have ee := e1.tr he
    clear hra k1 k2 k3
    by_cases hlt : k < g.length
    · obtain ⟨⟨nk, nf⟩, b, o, Ap, cp, hn, rfl, hkc, hs, hf, hfl⟩ := (h.ext ee).at_ hlt
      obtain ⟨l, b', o', Al, cl, hl, rfl, hlc, hlr, hll⟩ := (hr.ext ee).at_ (i := k) (by rw [Hrg.out]; exact hlt)
      obtain ⟨bv, ov, x, rfl, hx, hxc⟩ := (hv.ext ee).at1 (k := k) (by rw [Hvg.out]; exact hlt)
      have bw1 := blt c1
      have bw2 := blt c2
      have bw3 := blt hkc
      have bw4 := blt hlc
      have bw5 := blt hxc
      have kr : k < r.length := by rw [Hrg.out]; exact hlt
      have kv : k < v.length := by rw [Hvg.out]; exact hlt
      dsimp only at *
      by_cases hz : nk = 0
      · have hg := Lib.hid (rightAt_cell hn hl hz (v := v))
        have z0 : (nk == 0) = true := by simp [hz]
        have z1 : (nk != 0) = false := by simp [hz]
        clear hn hl hx
        by_cases hleq : [] = l
        · have d1 : decide ((0 : Int) < (l.length : Int)) = false := by rw [← hleq]; simp
          have d2 : decide (0 < l.length) = false := by rw [← hleq]; simp
          have Hleq := Lib.hid hleq
          clear hleq hz
          go_wp2_with fail
          go_quiet (fail)
          go_wp2
          go_roundw
          case rel => exact ⟨k + 1, by omega, by go_num, (he.al _).drN _, by rw [RA_succ, HR.out, hg.out]; simp [Hleq.out]⟩
          case measure => simp [intOf]; omega
        · have d0 : 0 < l.length := List.length_pos_iff.2 (fun e => hleq e.symm)
          have d1 : decide ((0 : Int) < (l.length : Int)) = true := by simp; omega
          have d2 : decide (0 < l.length) = true := by simp; omega
          have Hleq := Lib.hid hleq
          clear hleq hz
          go_wp2_with fail
          go_quiet (fail)
          go_wp2
          go_ret
          exact ⟨ret_bool (by rw [RA_bad g v r k hlt (by rw [hg.out]; simp [Hleq.out])]), (ee.al _).drN _⟩
      · have hg := Lib.hid (rightAt_form hn hl hx hz)
        have z0 : (nk == 0) = false := by simp [hz]
        have z1 : (nk != 0) = true := by simp [hz]
        have hok := Sg.validG_fok HG.out k hn hz
        have hin : Sg.inRange v := Sg.inR999_range HI.out
        have hrt := fun w h hv hl => i_right (some ⟨b, o, none⟩) (some ⟨bv, ov, none⟩) Al c cv cl g v l k ⟨nk, nf⟩ x w h hv hl hn hx hok hin
        dsimp only at hrt
        have HRT := Lib.hid hrt
        have e9 : Ext wr ((wr.alloc (.cells #[.int .i64 nk, .slice Ap nf.length cp] 93)).drew) := ((Ext.rfl' wr).al _).dr
        have G1 := Lib.hid (e9.cellE c1)
        have G2 := Lib.hid (e9.cellE c2)
        have G3 := Lib.hid (e9.cellE c3)
        have g4 : ((wr.alloc (.cells #[.int .i64 nk, .slice Ap nf.length cp] 93)).drew).cell? ⟨wr.heap.size, 0, none⟩ = some (.int .i64 nk) := by simp [go_sem]
        have G4 := Lib.hid g4
        have G5 := Lib.hid (e9.cellE hlc)
        have H9h := Lib.hid ((h.ext ee).ext e9)
        have H9v := Lib.hid ((hv.ext ee).ext e9)
        have H9l := Lib.hid (hlr.ext e9)
        have H9 := Lib.hid e9
        have i1 : (0 : Int) ≤ (k : Int) := by omega
        have i2 : (k : Int) < (r.length : Int) := by omega
        clear hn hl hx hok hin hrt e9 g4 hz
        cases hq : (decide ((Sg.runF nf v).1 = x) && decide ((Sg.runF nf v).2 = l))
        · have Hq := Lib.hid hq
          clear hq
          go_wp2_with fail
          refine wp_region_held_drew (S := (fun W => W.cell? ⟨w.heap.size, 0, none⟩ = some (.slice (some ⟨b, o, none⟩) g.length c) ∧ W.cell? ⟨w.heap.size + 1, 0, none⟩ = some (.slice (some ⟨bv, ov, none⟩) v.length cv) ∧ W.cell? ⟨w.heap.size + 1, 1, none⟩ = some (.slice (some ⟨b', o', none⟩) r.length cr) ∧ W.cell? ⟨wr.heap.size, 0, none⟩ = some (.int .i64 nk) ∧ W.cell? ⟨b', o' + k, none⟩ = some (.slice Al l.length cl))) (by kernel_rfl) ?_ (fun hHeld => ?_)
          · exact ⟨G1.out, G2.out, G3.out, G4.out, G5.out⟩
          refine tyImplN 0 (v := ?_) ?_ ?_
          rotate_left
          · intro w hSw; (try dsimp only at hSw); go_simp; try with_reducible rfl
          try simp only [Act.put, List.setIfInBounds_toArray, List.set_cons_zero, List.set_cons_succ]
          refine tyImplN 1 (v := ?_) ?_ ?_
          rotate_left
          · intro w hSw; (try dsimp only at hSw); go_simp; try with_reducible rfl
          try simp only [Act.put, List.setIfInBounds_toArray, List.set_cons_zero, List.set_cons_succ]
          refine tyImplN 2 (v := ?_) ?_ ?_
          rotate_left
          · intro w hSw; (try dsimp only at hSw); go_simp; try with_reducible rfl
          try simp only [Act.put, List.setIfInBounds_toArray, List.set_cons_zero, List.set_cons_succ]
          refine tyImplN 3 (v := ?_) ?_ ?_
          rotate_left
          · intro w hSw; (try dsimp only at hSw); go_simp; try with_reducible rfl
          try simp only [Act.put, List.setIfInBounds_toArray, List.set_cons_zero, List.set_cons_succ]
          refine tnImplN 4 ?_
          try simp only [Act.put, List.setIfInBounds_toArray, List.set_cons_zero, List.set_cons_succ]
          refine tnImplN 5 ?_
          try simp only [Act.put, List.setIfInBounds_toArray, List.set_cons_zero, List.set_cons_succ]
          refine tnImplN 6 ?_
          try simp only [Act.put, List.setIfInBounds_toArray, List.set_cons_zero, List.set_cons_succ]
          refine tnImplN 7 ?_
          try simp only [Act.put, List.setIfInBounds_toArray, List.set_cons_zero, List.set_cons_succ]
          refine tnImplN 8 ?_
          try simp only [Act.put, List.setIfInBounds_toArray, List.set_cons_zero, List.set_cons_succ]
          refine tnImplN 9 ?_
          try simp only [Act.put, List.setIfInBounds_toArray, List.set_cons_zero, List.set_cons_succ]
          refine tnImplN 10 ?_
          try simp only [Act.put, List.setIfInBounds_toArray, List.set_cons_zero, List.set_cons_succ]
          refine tyImplN 11 (v := ?_) ?_ ?_
          rotate_left
          · intro w hSw; (try dsimp only at hSw); go_simp; try with_reducible rfl
          try simp only [Act.put, List.setIfInBounds_toArray, List.set_cons_zero, List.set_cons_succ]
          refine tyImplN 12 (v := ?_) ?_ ?_
          rotate_left
          · intro w hSw; (try dsimp only at hSw); go_simp; try with_reducible rfl
          try simp only [Act.put, List.setIfInBounds_toArray, List.set_cons_zero, List.set_cons_succ]
          refine tyImplN 13 (v := ?_) ?_ ?_
          rotate_left
          · intro w hSw; (try dsimp only at hSw); go_simp; try with_reducible rfl
          try simp only [Act.put, List.setIfInBounds_toArray, List.set_cons_zero, List.set_cons_succ]
          refine tyImplN 14 (v := ?_) ?_ ?_
          rotate_left
          · intro w hSw; (try dsimp only at hSw); go_simp; try with_reducible rfl
          try simp only [Act.put, List.setIfInBounds_toArray, List.set_cons_zero, List.set_cons_succ]
          refine tyImplN 15 (v := ?_) ?_ ?_
          rotate_left
          · intro w hSw; (try dsimp only at hSw); go_simp; try with_reducible rfl
          try simp only [Act.put, List.setIfInBounds_toArray, List.set_cons_zero, List.set_cons_succ]
          refine tyImplN 16 (v := ?_) ?_ ?_
          rotate_left
          · intro w hSw; (try dsimp only at hSw); go_simp; try with_reducible rfl
          try simp only [Act.put, List.setIfInBounds_toArray, List.set_cons_zero, List.set_cons_succ]
          refine tyImplN 17 (v := ?_) ?_ ?_
          rotate_left
          · intro w hSw; (try dsimp only at hSw); go_simp; try with_reducible rfl
          try simp only [Act.put, List.setIfInBounds_toArray, List.set_cons_zero, List.set_cons_succ]
          refine tyImplN 18 (v := ?_) ?_ ?_
          rotate_left
          · intro w hSw; (try dsimp only at hSw); go_simp; try with_reducible rfl
          try simp only [Act.put, List.setIfInBounds_toArray, List.set_cons_zero, List.set_cons_succ]
          refine tyImplN 19 (v := ?_) ?_ ?_
          rotate_left
          · intro w hSw; (try dsimp only at hSw); go_simp; try with_reducible rfl
          try simp only [Act.put, List.setIfInBounds_toArray, List.set_cons_zero, List.set_cons_succ]
          refine tyImplN 20 (v := ?_) ?_ ?_
          rotate_left
          · intro w hSw; (try dsimp only at hSw); go_simp; try with_reducible rfl
          try simp only [Act.put, List.setIfInBounds_toArray, List.set_cons_zero, List.set_cons_succ]
          refine tyImplN 21 (v := ?_) ?_ ?_
          rotate_left
          · intro w hSw; (try dsimp only at hSw); go_simp; try with_reducible rfl
          try simp only [Act.put, List.setIfInBounds_toArray, List.set_cons_zero, List.set_cons_succ]
          refine tyImplN 22 (v := ?_) ?_ ?_
          rotate_left
          · intro w hSw; (try dsimp only at hSw); go_simp; try with_reducible rfl
          try simp only [Act.put, List.setIfInBounds_toArray, List.set_cons_zero, List.set_cons_succ]
          refine tyImplN 23 (v := ?_) ?_ ?_
          rotate_left
          · intro w hSw; (try dsimp only at hSw); go_simp; try with_reducible rfl
          try simp only [Act.put, List.setIfInBounds_toArray, List.set_cons_zero, List.set_cons_succ]
          refine tyImplN 24 (v := ?_) ?_ ?_
          rotate_left
          · intro w hSw; (try dsimp only at hSw); go_simp; try with_reducible rfl
          try simp only [Act.put, List.setIfInBounds_toArray, List.set_cons_zero, List.set_cons_succ]
          refine tyImplN 25 (v := ?_) ?_ ?_
          rotate_left
          · intro w hSw; (try dsimp only at hSw); go_simp; try with_reducible rfl
          try simp only [Act.put, List.setIfInBounds_toArray, List.set_cons_zero, List.set_cons_succ]
          refine wpAnyH_ready (rs := [26]) (by kernel_rfl) (by simp) ?_
          refine AllReadyH.cons rfl (fun K hK => ?_) AllReadyH.nil
          go_simp
          refine (HRT.out _ (H9h.out) (H9v.out) (H9l.out)).mono ?_; rintro e w5 ⟨rfl, he5⟩; rw [Hq.out]
          try go_wp2_with fail
          refine hK.out _ _ ?_ (fun hHeld2 => ?_)
          · exact ⟨he5.cellE G1.out, he5.cellE G2.out, he5.cellE G3.out, he5.cellE G4.out, he5.cellE G5.out⟩
          clear hK K hHeld
          have hHeld := hHeld2
          clear hHeld2
          try simp only [Act.put, List.setIfInBounds_toArray, List.set_cons_zero, List.set_cons_succ]
          refine tyImplN 27 (v := ?_) ?_ ?_
          rotate_left
          · intro w hSw; (try dsimp only at hSw); go_simp; try with_reducible rfl
          try simp only [Act.put, List.setIfInBounds_toArray, List.set_cons_zero, List.set_cons_succ]
          refine tyImplN 28 (v := ?_) ?_ ?_
          rotate_left
          · intro w hSw; (try dsimp only at hSw); go_simp; try with_reducible rfl
          try simp only [Act.put, List.setIfInBounds_toArray, List.set_cons_zero, List.set_cons_succ]
          refine tyImplN 29 (v := ?_) ?_ ?_
          rotate_left
          · intro w hSw; (try dsimp only at hSw); go_simp; try with_reducible rfl
          try simp only [Act.put, List.setIfInBounds_toArray, List.set_cons_zero, List.set_cons_succ]
          refine wpAnyH_done (by kernel_rfl) ?_ _
          go_wp2
          go_ret
          exact ⟨ret_bool (by rw [RA_bad g v r k hlt (by rw [hg.out, Hq.out])]), (ee.tr H9.out).tr he5⟩
        · have Hq := Lib.hid hq
          clear hq
          go_wp2_with fail
          refine wp_region_held_drew (S := (fun W => W.cell? ⟨w.heap.size, 0, none⟩ = some (.slice (some ⟨b, o, none⟩) g.length c) ∧ W.cell? ⟨w.heap.size + 1, 0, none⟩ = some (.slice (some ⟨bv, ov, none⟩) v.length cv) ∧ W.cell? ⟨w.heap.size + 1, 1, none⟩ = some (.slice (some ⟨b', o', none⟩) r.length cr) ∧ W.cell? ⟨wr.heap.size, 0, none⟩ = some (.int .i64 nk) ∧ W.cell? ⟨b', o' + k, none⟩ = some (.slice Al l.length cl))) (by kernel_rfl) ?_ (fun hHeld => ?_)
          · exact ⟨G1.out, G2.out, G3.out, G4.out, G5.out⟩
          refine tyImplN 0 (v := ?_) ?_ ?_
          rotate_left
          · intro w hSw; (try dsimp only at hSw); go_simp; try with_reducible rfl
          try simp only [Act.put, List.setIfInBounds_toArray, List.set_cons_zero, List.set_cons_succ]
          refine tyImplN 1 (v := ?_) ?_ ?_
          rotate_left
          · intro w hSw; (try dsimp only at hSw); go_simp; try with_reducible rfl
          try simp only [Act.put, List.setIfInBounds_toArray, List.set_cons_zero, List.set_cons_succ]
          refine tyImplN 2 (v := ?_) ?_ ?_
          rotate_left
          · intro w hSw; (try dsimp only at hSw); go_simp; try with_reducible rfl
          try simp only [Act.put, List.setIfInBounds_toArray, List.set_cons_zero, List.set_cons_succ]
          refine tyImplN 3 (v := ?_) ?_ ?_
          rotate_left
          · intro w hSw; (try dsimp only at hSw); go_simp; try with_reducible rfl
          try simp only [Act.put, List.setIfInBounds_toArray, List.set_cons_zero, List.set_cons_succ]
          refine tnImplN 4 ?_
          try simp only [Act.put, List.setIfInBounds_toArray, List.set_cons_zero, List.set_cons_succ]
          refine tnImplN 5 ?_
          try simp only [Act.put, List.setIfInBounds_toArray, List.set_cons_zero, List.set_cons_succ]
          refine tnImplN 6 ?_
          try simp only [Act.put, List.setIfInBounds_toArray, List.set_cons_zero, List.set_cons_succ]
          refine tnImplN 7 ?_
          try simp only [Act.put, List.setIfInBounds_toArray, List.set_cons_zero, List.set_cons_succ]
          refine tnImplN 8 ?_
          try simp only [Act.put, List.setIfInBounds_toArray, List.set_cons_zero, List.set_cons_succ]
          refine tnImplN 9 ?_
          try simp only [Act.put, List.setIfInBounds_toArray, List.set_cons_zero, List.set_cons_succ]
          refine tnImplN 10 ?_
          try simp only [Act.put, List.setIfInBounds_toArray, List.set_cons_zero, List.set_cons_succ]
          refine tyImplN 11 (v := ?_) ?_ ?_
          rotate_left
          · intro w hSw; (try dsimp only at hSw); go_simp; try with_reducible rfl
          try simp only [Act.put, List.setIfInBounds_toArray, List.set_cons_zero, List.set_cons_succ]
          refine tyImplN 12 (v := ?_) ?_ ?_
          rotate_left
          · intro w hSw; (try dsimp only at hSw); go_simp; try with_reducible rfl
          try simp only [Act.put, List.setIfInBounds_toArray, List.set_cons_zero, List.set_cons_succ]
          refine tyImplN 13 (v := ?_) ?_ ?_
          rotate_left
          · intro w hSw; (try dsimp only at hSw); go_simp; try with_reducible rfl
          try simp only [Act.put, List.setIfInBounds_toArray, List.set_cons_zero, List.set_cons_succ]
          refine tyImplN 14 (v := ?_) ?_ ?_
          rotate_left
          · intro w hSw; (try dsimp only at hSw); go_simp; try with_reducible rfl
          try simp only [Act.put, List.setIfInBounds_toArray, List.set_cons_zero, List.set_cons_succ]
          refine tyImplN 15 (v := ?_) ?_ ?_
          rotate_left
          · intro w hSw; (try dsimp only at hSw); go_simp; try with_reducible rfl
          try simp only [Act.put, List.setIfInBounds_toArray, List.set_cons_zero, List.set_cons_succ]
          refine tyImplN 16 (v := ?_) ?_ ?_
          rotate_left
          · intro w hSw; (try dsimp only at hSw); go_simp; try with_reducible rfl
          try simp only [Act.put, List.setIfInBounds_toArray, List.set_cons_zero, List.set_cons_succ]
          refine tyImplN 17 (v := ?_) ?_ ?_
          rotate_left
          · intro w hSw; (try dsimp only at hSw); go_simp; try with_reducible rfl
          try simp only [Act.put, List.setIfInBounds_toArray, List.set_cons_zero, List.set_cons_succ]
          refine tyImplN 18 (v := ?_) ?_ ?_
          rotate_left
          · intro w hSw; (try dsimp only at hSw); go_simp; try with_reducible rfl
          try simp only [Act.put, List.setIfInBounds_toArray, List.set_cons_zero, List.set_cons_succ]
          refine tyImplN 19 (v := ?_) ?_ ?_
          rotate_left
          · intro w hSw; (try dsimp only at hSw); go_simp; try with_reducible rfl
          try simp only [Act.put, List.setIfInBounds_toArray, List.set_cons_zero, List.set_cons_succ]
          refine tyImplN 20 (v := ?_) ?_ ?_
          rotate_left
          · intro w hSw; (try dsimp only at hSw); go_simp; try with_reducible rfl
          try simp only [Act.put, List.setIfInBounds_toArray, List.set_cons_zero, List.set_cons_succ]
          refine tyImplN 21 (v := ?_) ?_ ?_
          rotate_left
          · intro w hSw; (try dsimp only at hSw); go_simp; try with_reducible rfl
          try simp only [Act.put, List.setIfInBounds_toArray, List.set_cons_zero, List.set_cons_succ]
          refine tyImplN 22 (v := ?_) ?_ ?_
          rotate_left
          · intro w hSw; (try dsimp only at hSw); go_simp; try with_reducible rfl
          try simp only [Act.put, List.setIfInBounds_toArray, List.set_cons_zero, List.set_cons_succ]
          refine tyImplN 23 (v := ?_) ?_ ?_
          rotate_left
          · intro w hSw; (try dsimp only at hSw); go_simp; try with_reducible rfl
          try simp only [Act.put, List.setIfInBounds_toArray, List.set_cons_zero, List.set_cons_succ]
          refine tyImplN 24 (v := ?_) ?_ ?_
          rotate_left
          · intro w hSw; (try dsimp only at hSw); go_simp; try with_reducible rfl
          try simp only [Act.put, List.setIfInBounds_toArray, List.set_cons_zero, List.set_cons_succ]
          refine tyImplN 25 (v := ?_) ?_ ?_
          rotate_left
          · intro w hSw; (try dsimp only at hSw); go_simp; try with_reducible rfl
          try simp only [Act.put, List.setIfInBounds_toArray, List.set_cons_zero, List.set_cons_succ]
          refine wpAnyH_ready (rs := [26]) (by kernel_rfl) (by simp) ?_
          refine AllReadyH.cons rfl (fun K hK => ?_) AllReadyH.nil
          go_simp
          refine (HRT.out _ (H9h.out) (H9v.out) (H9l.out)).mono ?_; rintro e w5 ⟨rfl, he5⟩; rw [Hq.out]
          try go_wp2_with fail
          refine hK.out _ _ ?_ (fun hHeld2 => ?_)
          · exact ⟨he5.cellE G1.out, he5.cellE G2.out, he5.cellE G3.out, he5.cellE G4.out, he5.cellE G5.out⟩
          clear hK K hHeld
          have hHeld := hHeld2
          clear hHeld2
          try simp only [Act.put, List.setIfInBounds_toArray, List.set_cons_zero, List.set_cons_succ]
          refine tyImplN 27 (v := ?_) ?_ ?_
          rotate_left
          · intro w hSw; (try dsimp only at hSw); go_simp; try with_reducible rfl
          try simp only [Act.put, List.setIfInBounds_toArray, List.set_cons_zero, List.set_cons_succ]
          refine tyImplN 28 (v := ?_) ?_ ?_
          rotate_left
          · intro w hSw; (try dsimp only at hSw); go_simp; try with_reducible rfl
          try simp only [Act.put, List.setIfInBounds_toArray, List.set_cons_zero, List.set_cons_succ]
          refine tyImplN 29 (v := ?_) ?_ ?_
          rotate_left
          · intro w hSw; (try dsimp only at hSw); go_simp; try with_reducible rfl
          try simp only [Act.put, List.setIfInBounds_toArray, List.set_cons_zero, List.set_cons_succ]
          refine wpAnyH_done (by kernel_rfl) ?_ _
          go_wp2
          go_roundw
          case rel => exact ⟨k + 1, by omega, by go_num, (he.tr H9.out).tr he5, by rw [RA_succ, HR.out, hg.out, Hq.out]; rfl⟩
          case measure => simp [intOf]; omega
    · obtain rfl : k = g.length := by omega
      have hfin : Sg.validE g ⟨v, r⟩ = true := by
        unfold Sg.validE Sg.inR999
        have := HR.out
        unfold RA at this
        simp only [this, HG.out, HI.out, Hvg.out, Hrg.out, decide_true, Bool.and_self]
      have Hfin := Lib.hid hfin
      clear hfin
      go_wp2
      go_ret
      exact ⟨ret_bool (by rw [Hfin.out]), ee⟩

theorem i_ValidEager (A Av Ar : Option Addr) (c cv cr : Nat) (g : Sg.Graph) (v : List Int) (r : List (List Int)) (w : World) (h : RdN w A g) (hv : Rd w 1 Av v.length (ints v)) (hr : RdL w Ar r) :
    Calls Tryz.prog 20 #[.agg #[.slice A g.length c], .agg #[.slice Av v.length cv, .slice Ar r.length cr]] w fun e w' => e = .returned (.bool (Sg.validE g ⟨v, r⟩)) ∧ Ext w w' := by
  cases hG : Sg.validG g
  · exact ve_bad1 A Av Ar c cv cr g v r w h hv hr hG
  by_cases hvg : v.length = g.length
  case neg => exact ve_bad2 A Av Ar c cv cr g v r w h hv hr hG hvg
  by_cases hrg : r.length = g.length
  case neg => exact ve_bad3 A Av Ar c cv cr g v r w h hv hr hG hvg hrg
  cases hI : (v.all fun x => Sg.inR x 0 999)
  · exact ve_bad4 A Av Ar c cv cr g v r w h hv hr hG hvg hrg hI
  · exact ve_main A Av Ar c cv cr g v r w h hv hr hG hvg hrg hI
end Go.Proofs.YtmelggoagbhieaaGreat
