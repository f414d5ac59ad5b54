/- ForgetNode of the reference: its contract. Conditions: bounds on lengths. -/
import Derived.Test.YtmkfjnkdaeoppaaGreatLazSmall
import Derived.IntWalk
namespace Go.Proofs.YtmkfjnkdaeoppaaGreat
open Go.RowKit


set_option maxRecDepth 100000 in
set_option maxHeartbeats 16000000 in
theorem s_ForgetNode (A Av Ar Aq : Option Addr) (c cv cr cq : Nat) (g : Sg.Graph) (v q : List Int) (r : List (List Int)) (n : Int) (w : World) (h : RdN w A g) (hv : Rd w 1 Av v.length (ints v)) (hr : RdLC w Ar r) (hq : Rd w 1 Aq q.length (ints q)) (hvl : v.length ≤ 1048576) (hql : q.length ≤ 1048576) :
  Calls Tryz.prog 34 #[.agg #[.slice A g.length c], .agg #[.slice Av v.length cv, .slice Ar r.length cr, .slice Aq q.length cq], .int .i64 n] w fun e w' => ∃ A1 c1 A2 c2 A3 c3 hs, e = .returned (.tuple #[.agg #[.slice A1 (Sg.forgetLO g ⟨v, r, q⟩ n).1.vals.length c1, .slice A2 (Sg.forgetLO g ⟨v, r, q⟩ n).1.reads.length c2, .slice A3 (Sg.forgetLO g ⟨v, r, q⟩ n).1.cols.length c3], .bool (Sg.forgetLO g ⟨v, r, q⟩ n).2]) ∧
   OwnZ w' w.heap.size A1 c1 A2 c2 A3 c3 hs (Sg.forgetLO g ⟨v, r, q⟩ n).1 ∧ Ext w w' := by
 have hgl := h.1
 have ig : IntKind.i64.wrap ((g.length : Int) - 1) = (g.length : Int) - 1 := IntWalk.i64_in _ (by omega)
 have HV := lh (fun w h hv hr hq => s_validLazy A Av Ar Aq c cv cr cq g v q r w h hv hr hq hvl hql)
 have HC := lh (fun w h => s_isCell A c g n w h)
 have HI := lh (fun w => s_inRange n 0 ((g.length : Int) - 1) w)
 have H := lh h
 have Hv := lh hv
 have Hr := lh hr
 have Hq := lh hq
 clear h hv hr hq
 have b0 := Bx.new (World.alloc (World.alloc w (.cells #[.slice A g.length c] 25)) (.cells #[.slice Av v.length cv, .slice Ar r.length cr, .slice Aq q.length cq] 29)) #[.slice none 0 0, .slice none 0 0, .slice none 0 0] 29
 simp only [World.size_alloc] at b0
 have BR0 := lh b0
 clear b0
 have E0 := lh (((((Ext.rfl' w).al (.cells #[.slice A g.length c] 25)).al (.cells #[.slice Av v.length cv, .slice Ar r.length cr, .slice Aq q.length cq] 29)).al (.cells #[.slice none 0 0, .slice none 0 0, .slice none 0 0] 29)) : Ext w (World.alloc (World.alloc (World.alloc w (.cells #[.slice A g.length c] 25)) (.cells #[.slice Av v.length cv, .slice Ar r.length cr, .slice Aq q.length cq] 29)) (.cells #[.slice none 0 0, .slice none 0 0, .slice none 0 0] 29)))
 have qlg : World.cell? (World.alloc (World.alloc (World.alloc w (.cells #[.slice A g.length c] 25)) (.cells #[.slice Av v.length cv, .slice Ar r.length cr, .slice Aq q.length cq] 29)) (.cells #[.slice none 0 0, .slice none 0 0, .slice none 0 0] 29)) ⟨w.heap.size, 0, none⟩ = some (.slice A g.length c) := by simp [go_sem]
 have Qlg := lh qlg
 clear qlg
 have qlv : World.cell? (World.alloc (World.alloc (World.alloc w (.cells #[.slice A g.length c] 25)) (.cells #[.slice Av v.length cv, .slice Ar r.length cr, .slice Aq q.length cq] 29)) (.cells #[.slice none 0 0, .slice none 0 0, .slice none 0 0] 29)) ⟨w.heap.size + 1, 0, none⟩ = some (.slice Av v.length cv) := by simp [go_sem]
 have Qlv := lh qlv
 clear qlv
 have qlr : World.cell? (World.alloc (World.alloc (World.alloc w (.cells #[.slice A g.length c] 25)) (.cells #[.slice Av v.length cv, .slice Ar r.length cr, .slice Aq q.length cq] 29)) (.cells #[.slice none 0 0, .slice none 0 0, .slice none 0 0] 29)) ⟨w.heap.size + 1, 1, none⟩ = some (.slice Ar r.length cr) := by simp [go_sem]
 have Qlr := lh qlr
 clear qlr
 have qlq : World.cell? (World.alloc (World.alloc (World.alloc w (.cells #[.slice A g.length c] 25)) (.cells #[.slice Av v.length cv, .slice Ar r.length cr, .slice Aq q.length cq] 29)) (.cells #[.slice none 0 0, .slice none 0 0, .slice none 0 0] 29)) ⟨w.heap.size + 1, 2, none⟩ = some (.slice Aq q.length cq) := by simp [go_sem]
 have Qlq := lh qlq
 clear qlq
 cases hE : Sg.validL g ⟨v, r, q⟩
 ·have HE := lh hE
  have HS := lh (show Sg.forgetLO g ⟨v, r, q⟩ n = (⟨[], [], []⟩, false) by unfold Sg.forgetLO Sg.mayForgetL; rw [hE]; rfl)
  clear hE
  go_enter Tryz.func34, Tryz.ntmps34
  go_wp2_with fail
  refine (HV.out _ (H.out.ext E0.out) (Hv.out.ext E0.out) (Hr.out.l.ext E0.out) (Hq.out.ext E0.out)).mono ?_
  rintro e w1 ⟨rfl, he1⟩
  rw [Sg.validL_same, HE.out]
  have U1 := lh ((Ext.rfl' (World.alloc (World.alloc (World.alloc w (.cells #[.slice A g.length c] 25)) (.cells #[.slice Av v.length cv, .slice Ar r.length cr, .slice Aq q.length cq] 29)) (.cells #[.slice none 0 0, .slice none 0 0, .slice none 0 0] 29))).tr he1)
  have E1 := lh (E0.out.tr U1.out)
  have lg_1 := U1.out.cellE Qlg.out
  have lv_1 := U1.out.cellE Qlv.out
  have lr_1 := U1.out.cellE Qlr.out
  have lq_1 := U1.out.cellE Qlq.out
  clear he1 
  have blg_1 := blt lg_1
  have blv_1 := blt lv_1
  have blr_1 := blt lr_1
  have blq_1 := blt lq_1
  have BR := lh (BR0.out.ext ((Ext.rfl' (World.alloc (World.alloc (World.alloc w (.cells #[.slice A g.length c] 25)) (.cells #[.slice Av v.length cv, .slice Ar r.length cr, .slice Aq q.length cq] 29)) (.cells #[.slice none 0 0, .slice none 0 0, .slice none 0 0] 29))).tr U1.out))
  have f0 := BR.out.free 0
  have f1 := BR.out.free 1
  have f2 := BR.out.free 2
  have x0 := BR.out.cell (j := 0) rfl
  have x1 := BR.out.cell (j := 1) rfl
  have x2 := BR.out.cell (j := 2) rfl
  have bl := BR.out.lt
  go_wp2
  have s0 : ∀ u0 u1 u2 : Value, World.cell? (World.setCell (World.setCell (World.setCell w1 ⟨w.heap.size + 1 + 1, 0, none⟩ u0) ⟨w.heap.size + 1 + 1, 1, none⟩ u1) ⟨w.heap.size + 1 + 1, 2, none⟩ u2) ⟨w.heap.size + 1 + 1, 0, none⟩ = some u0 := fun u0 u1 u2 => (((BR.out.set 0 u0).set 1 u1).set 2 u2).cell (j := 0) rfl
  have s1 : ∀ u0 u1 u2 : Value, World.cell? (World.setCell (World.setCell (World.setCell w1 ⟨w.heap.size + 1 + 1, 0, none⟩ u0) ⟨w.heap.size + 1 + 1, 1, none⟩ u1) ⟨w.heap.size + 1 + 1, 2, none⟩ u2) ⟨w.heap.size + 1 + 1, 1, none⟩ = some u1 := fun u0 u1 u2 => (((BR.out.set 0 u0).set 1 u1).set 2 u2).cell (j := 1) rfl
  have s2 : ∀ u0 u1 u2 : Value, World.cell? (World.setCell (World.setCell (World.setCell w1 ⟨w.heap.size + 1 + 1, 0, none⟩ u0) ⟨w.heap.size + 1 + 1, 1, none⟩ u1) ⟨w.heap.size + 1 + 1, 2, none⟩ u2) ⟨w.heap.size + 1 + 1, 2, none⟩ = some u2 := fun u0 u1 u2 => (((BR.out.set 0 u0).set 1 u1).set 2 u2).cell (j := 2) rfl
  refine bodyPost_ret (v := .tuple #[.agg #[.slice none 0 0, .slice none 0 0, .slice none 0 0], .bool false]) (by simp [results, Tryz.results34, go_sem, s0, s1, s2]; try rfl) rfl ?_
  have hS := Mod.set (F := fun b => b = w.heap.size + 1 + 1) (Mod.set (F := fun b => b = w.heap.size + 1 + 1) (Mod.set (F := fun b => b = w.heap.size + 1 + 1) (Mod.rfl' (fun b => b = w.heap.size + 1 + 1) w1) (p := ⟨w.heap.size + 1 + 1, 0, none⟩) (.inl rfl) (.slice none 0 0)) (p := ⟨w.heap.size + 1 + 1, 1, none⟩) (.inl rfl) (.slice none 0 0)) (p := ⟨w.heap.size + 1 + 1, 2, none⟩) (.inl rfl) (.slice none 0 0)
  rw [HS.out]
  exact ⟨none, 0, none, 0, none, 0, [], rfl, OwnZ.nil _ _, (((E1.out.set (p := ⟨w.heap.size + 1 + 1, 0, none⟩) (show w.heap.size ≤ w.heap.size + 1 + 1 by omega) _).set (p := ⟨w.heap.size + 1 + 1, 1, none⟩) (show w.heap.size ≤ w.heap.size + 1 + 1 by omega) _).set (p := ⟨w.heap.size + 1 + 1, 2, none⟩) (show w.heap.size ≤ w.heap.size + 1 + 1 by omega) _)⟩
 have HE := lh hE
 cases hX : Sg.inR n 0 ((g.length : Int) - 1)
 ·have HX := lh hX
  have HS := lh (show Sg.forgetLO g ⟨v, r, q⟩ n = (⟨[], [], []⟩, false) by unfold Sg.forgetLO Sg.mayForgetL; rw [hE, hX]; rfl)
  clear hE hX
  go_enter Tryz.func34, Tryz.ntmps34
  go_wp2_with fail
  refine (HV.out _ (H.out.ext E0.out) (Hv.out.ext E0.out) (Hr.out.l.ext E0.out) (Hq.out.ext E0.out)).mono ?_
  rintro e w1 ⟨rfl, he1⟩
  rw [Sg.validL_same, HE.out]
  have U1 := lh ((Ext.rfl' (World.alloc (World.alloc (World.alloc w (.cells #[.slice A g.length c] 25)) (.cells #[.slice Av v.length cv, .slice Ar r.length cr, .slice Aq q.length cq] 29)) (.cells #[.slice none 0 0, .slice none 0 0, .slice none 0 0] 29))).tr he1)
  have E1 := lh (E0.out.tr U1.out)
  have lg_1 := U1.out.cellE Qlg.out
  have lv_1 := U1.out.cellE Qlv.out
  have lr_1 := U1.out.cellE Qlr.out
  have lq_1 := U1.out.cellE Qlq.out
  clear he1 
  have blg_1 := blt lg_1
  have blv_1 := blt lv_1
  have blr_1 := blt lr_1
  have blq_1 := blt lq_1
  go_wp2_with fail
  refine (HI.out _).mono ?_
  rintro e w' ⟨rfl, rfl⟩
  rw [HX.out]
  have BR := lh (BR0.out.ext ((Ext.rfl' (World.alloc (World.alloc (World.alloc w (.cells #[.slice A g.length c] 25)) (.cells #[.slice Av v.length cv, .slice Ar r.length cr, .slice Aq q.length cq] 29)) (.cells #[.slice none 0 0, .slice none 0 0, .slice none 0 0] 29))).tr U1.out))
  have f0 := BR.out.free 0
  have f1 := BR.out.free 1
  have f2 := BR.out.free 2
  have x0 := BR.out.cell (j := 0) rfl
  have x1 := BR.out.cell (j := 1) rfl
  have x2 := BR.out.cell (j := 2) rfl
  have bl := BR.out.lt
  go_wp2
  have s0 : ∀ u0 u1 u2 : Value, World.cell? (World.setCell (World.setCell (World.setCell w1 ⟨w.heap.size + 1 + 1, 0, none⟩ u0) ⟨w.heap.size + 1 + 1, 1, none⟩ u1) ⟨w.heap.size + 1 + 1, 2, none⟩ u2) ⟨w.heap.size + 1 + 1, 0, none⟩ = some u0 := fun u0 u1 u2 => (((BR.out.set 0 u0).set 1 u1).set 2 u2).cell (j := 0) rfl
  have s1 : ∀ u0 u1 u2 : Value, World.cell? (World.setCell (World.setCell (World.setCell w1 ⟨w.heap.size + 1 + 1, 0, none⟩ u0) ⟨w.heap.size + 1 + 1, 1, none⟩ u1) ⟨w.heap.size + 1 + 1, 2, none⟩ u2) ⟨w.heap.size + 1 + 1, 1, none⟩ = some u1 := fun u0 u1 u2 => (((BR.out.set 0 u0).set 1 u1).set 2 u2).cell (j := 1) rfl
  have s2 : ∀ u0 u1 u2 : Value, World.cell? (World.setCell (World.setCell (World.setCell w1 ⟨w.heap.size + 1 + 1, 0, none⟩ u0) ⟨w.heap.size + 1 + 1, 1, none⟩ u1) ⟨w.heap.size + 1 + 1, 2, none⟩ u2) ⟨w.heap.size + 1 + 1, 2, none⟩ = some u2 := fun u0 u1 u2 => (((BR.out.set 0 u0).set 1 u1).set 2 u2).cell (j := 2) rfl
  refine bodyPost_ret (v := .tuple #[.agg #[.slice none 0 0, .slice none 0 0, .slice none 0 0], .bool false]) (by simp [results, Tryz.results34, go_sem, s0, s1, s2]; try rfl) rfl ?_
  have hS := Mod.set (F := fun b => b = w.heap.size + 1 + 1) (Mod.set (F := fun b => b = w.heap.size + 1 + 1) (Mod.set (F := fun b => b = w.heap.size + 1 + 1) (Mod.rfl' (fun b => b = w.heap.size + 1 + 1) w1) (p := ⟨w.heap.size + 1 + 1, 0, none⟩) (.inl rfl) (.slice none 0 0)) (p := ⟨w.heap.size + 1 + 1, 1, none⟩) (.inl rfl) (.slice none 0 0)) (p := ⟨w.heap.size + 1 + 1, 2, none⟩) (.inl rfl) (.slice none 0 0)
  rw [HS.out]
  exact ⟨none, 0, none, 0, none, 0, [], rfl, OwnZ.nil _ _, (((E1.out.set (p := ⟨w.heap.size + 1 + 1, 0, none⟩) (show w.heap.size ≤ w.heap.size + 1 + 1 by omega) _).set (p := ⟨w.heap.size + 1 + 1, 1, none⟩) (show w.heap.size ≤ w.heap.size + 1 + 1 by omega) _).set (p := ⟨w.heap.size + 1 + 1, 2, none⟩) (show w.heap.size ≤ w.heap.size + 1 + 1 by omega) _)⟩
 have HX := lh hX
 cases hC : Sg.isCell g n
 rotate_left
 ·have HCC := lh hC
  have HS := lh (show Sg.forgetLO g ⟨v, r, q⟩ n = (⟨[], [], []⟩, false) by unfold Sg.forgetLO Sg.mayForgetL; rw [hE, hX, hC]; rfl)
  clear hE hX hC
  go_enter Tryz.func34, Tryz.ntmps34
  go_wp2_with fail
  refine (HV.out _ (H.out.ext E0.out) (Hv.out.ext E0.out) (Hr.out.l.ext E0.out) (Hq.out.ext E0.out)).mono ?_
  rintro e w1 ⟨rfl, he1⟩
  rw [Sg.validL_same, HE.out]
  have U1 := lh ((Ext.rfl' (World.alloc (World.alloc (World.alloc w (.cells #[.slice A g.length c] 25)) (.cells #[.slice Av v.length cv, .slice Ar r.length cr, .slice Aq q.length cq] 29)) (.cells #[.slice none 0 0, .slice none 0 0, .slice none 0 0] 29))).tr he1)
  have E1 := lh (E0.out.tr U1.out)
  have lg_1 := U1.out.cellE Qlg.out
  have lv_1 := U1.out.cellE Qlv.out
  have lr_1 := U1.out.cellE Qlr.out
  have lq_1 := U1.out.cellE Qlq.out
  clear he1 
  have blg_1 := blt lg_1
  have blv_1 := blt lv_1
  have blr_1 := blt lr_1
  have blq_1 := blt lq_1
  go_wp2_with fail
  refine (HI.out _).mono ?_
  rintro e w' ⟨rfl, rfl⟩
  rw [HX.out]
  go_wp2_with fail
  refine (HC.out _ (H.out.ext E1.out)).mono ?_
  rintro e w2 ⟨rfl, he2⟩
  rw [HCC.out]
  have U2 := lh ((Ext.rfl' w1).tr he2)
  have E2 := lh (E1.out.tr U2.out)
  have lg_2 := U2.out.cellE lg_1
  have lv_2 := U2.out.cellE lv_1
  have lr_2 := U2.out.cellE lr_1
  have lq_2 := U2.out.cellE lq_1
  clear he2 lg_1 lv_1 lr_1 lq_1 blg_1 blv_1 blr_1 blq_1
  have blg_2 := blt lg_2
  have blv_2 := blt lv_2
  have blr_2 := blt lr_2
  have blq_2 := blt lq_2
  have BR := lh (BR0.out.ext (((Ext.rfl' (World.alloc (World.alloc (World.alloc w (.cells #[.slice A g.length c] 25)) (.cells #[.slice Av v.length cv, .slice Ar r.length cr, .slice Aq q.length cq] 29)) (.cells #[.slice none 0 0, .slice none 0 0, .slice none 0 0] 29))).tr U1.out).tr U2.out))
  have f0 := BR.out.free 0
  have f1 := BR.out.free 1
  have f2 := BR.out.free 2
  have x0 := BR.out.cell (j := 0) rfl
  have x1 := BR.out.cell (j := 1) rfl
  have x2 := BR.out.cell (j := 2) rfl
  have bl := BR.out.lt
  go_wp2
  have s0 : ∀ u0 u1 u2 : Value, World.cell? (World.setCell (World.setCell (World.setCell w2 ⟨w.heap.size + 1 + 1, 0, none⟩ u0) ⟨w.heap.size + 1 + 1, 1, none⟩ u1) ⟨w.heap.size + 1 + 1, 2, none⟩ u2) ⟨w.heap.size + 1 + 1, 0, none⟩ = some u0 := fun u0 u1 u2 => (((BR.out.set 0 u0).set 1 u1).set 2 u2).cell (j := 0) rfl
  have s1 : ∀ u0 u1 u2 : Value, World.cell? (World.setCell (World.setCell (World.setCell w2 ⟨w.heap.size + 1 + 1, 0, none⟩ u0) ⟨w.heap.size + 1 + 1, 1, none⟩ u1) ⟨w.heap.size + 1 + 1, 2, none⟩ u2) ⟨w.heap.size + 1 + 1, 1, none⟩ = some u1 := fun u0 u1 u2 => (((BR.out.set 0 u0).set 1 u1).set 2 u2).cell (j := 1) rfl
  have s2 : ∀ u0 u1 u2 : Value, World.cell? (World.setCell (World.setCell (World.setCell w2 ⟨w.heap.size + 1 + 1, 0, none⟩ u0) ⟨w.heap.size + 1 + 1, 1, none⟩ u1) ⟨w.heap.size + 1 + 1, 2, none⟩ u2) ⟨w.heap.size + 1 + 1, 2, none⟩ = some u2 := fun u0 u1 u2 => (((BR.out.set 0 u0).set 1 u1).set 2 u2).cell (j := 2) rfl
  refine bodyPost_ret (v := .tuple #[.agg #[.slice none 0 0, .slice none 0 0, .slice none 0 0], .bool false]) (by simp [results, Tryz.results34, go_sem, s0, s1, s2]; try rfl) rfl ?_
  have hS := Mod.set (F := fun b => b = w.heap.size + 1 + 1) (Mod.set (F := fun b => b = w.heap.size + 1 + 1) (Mod.set (F := fun b => b = w.heap.size + 1 + 1) (Mod.rfl' (fun b => b = w.heap.size + 1 + 1) w2) (p := ⟨w.heap.size + 1 + 1, 0, none⟩) (.inl rfl) (.slice none 0 0)) (p := ⟨w.heap.size + 1 + 1, 1, none⟩) (.inl rfl) (.slice none 0 0)) (p := ⟨w.heap.size + 1 + 1, 2, none⟩) (.inl rfl) (.slice none 0 0)
  rw [HS.out]
  exact ⟨none, 0, none, 0, none, 0, [], rfl, OwnZ.nil _ _, (((E2.out.set (p := ⟨w.heap.size + 1 + 1, 0, none⟩) (show w.heap.size ≤ w.heap.size + 1 + 1 by omega) _).set (p := ⟨w.heap.size + 1 + 1, 1, none⟩) (show w.heap.size ≤ w.heap.size + 1 + 1 by omega) _).set (p := ⟨w.heap.size + 1 + 1, 2, none⟩) (show w.heap.size ≤ w.heap.size + 1 + 1 by omega) _)⟩
 have HCC := lh hC
 obtain ⟨hG, hvg, hrg, hqg, _⟩ := Sg.validL_shape hE
 have h10 := vG_len hG
 have hxx : 0 ≤ n ∧ n ≤ (g.length : Int) - 1 := by unfold Sg.inR at hX; simpa using hX
 obtain ⟨j, rfl⟩ := Int.eq_ofNat_of_zero_le hxx.1
 have hj : j < g.length := by omega
 have HS := lh (show Sg.forgetLO g ⟨v, r, q⟩ (j : Int) = (Sg.forgetL ⟨v, r, q⟩ j, true) by unfold Sg.forgetLO Sg.mayForgetL; rw [hE, hX, hC]; rfl)
 have HA := lh (Sg.ahead_none (Sg.ahead_of hE) j)
 have HCR := lh (Sg.cols_range hE)
 have HRS := lh (show ∀ l ∈ r.set j [], l.length ≤ 1048576 from fun l hl => by rcases List.mem_or_eq_of_mem_set hl with hl | rfl; exact Nat.le_trans (reads_small hE l hl) (by omega); simp)
 have HRS0 := lh (show ∀ l ∈ r, l.length ≤ 1048576 from fun l hl => Nat.le_trans (reads_small hE l hl) (by omega))
 have hvg' : v.length = g.length := hvg
 have hrg' : r.length = g.length := hrg
 have hqg' : q.length = g.length := hqg
 have HVG := lh hvg'
 have HRG := lh hrg'
 have HQG := lh hqg'
 have hv10 : v.length ≤ 10 := by omega
 have hr10 : r.length ≤ 10 := by omega
 have hq10 : q.length ≤ 10 := by omega
 have hv0 : 0 < v.length := by omega
 have hr0 : 0 < r.length := by omega
 have hq0 : 0 < q.length := by omega
 have hjq : j < q.length := by omega
 have hjr : j < r.length := by omega
 clear hE hC hX hG hvg hrg hqg h10 hvg' hrg' hqg' hxx
 go_enter Tryz.func34, Tryz.ntmps34
 go_wp2_with fail
 refine (HV.out _ (H.out.ext E0.out) (Hv.out.ext E0.out) (Hr.out.l.ext E0.out) (Hq.out.ext E0.out)).mono ?_
 rintro e w1 ⟨rfl, he1⟩
 rw [Sg.validL_same, HE.out]
 have U1 := lh ((Ext.rfl' (World.alloc (World.alloc (World.alloc w (.cells #[.slice A g.length c] 25)) (.cells #[.slice Av v.length cv, .slice Ar r.length cr, .slice Aq q.length cq] 29)) (.cells #[.slice none 0 0, .slice none 0 0, .slice none 0 0] 29))).tr he1)
 have E1 := lh (E0.out.tr U1.out)
 have lg_1 := U1.out.cellE Qlg.out
 have lv_1 := U1.out.cellE Qlv.out
 have lr_1 := U1.out.cellE Qlr.out
 have lq_1 := U1.out.cellE Qlq.out
 clear he1 
 have blg_1 := blt lg_1
 have blv_1 := blt lv_1
 have blr_1 := blt lr_1
 have blq_1 := blt lq_1
 go_wp2_with fail
 refine (HI.out _).mono ?_
 rintro e w' ⟨rfl, rfl⟩
 rw [HX.out]
 go_wp2_with fail
 refine (HC.out _ (H.out.ext E1.out)).mono ?_
 rintro e w2 ⟨rfl, he2⟩
 rw [HCC.out]
 have U2 := lh ((Ext.rfl' w1).tr he2)
 have E2 := lh (E1.out.tr U2.out)
 have lg_2 := U2.out.cellE lg_1
 have lv_2 := U2.out.cellE lv_1
 have lr_2 := U2.out.cellE lr_1
 have lq_2 := U2.out.cellE lq_1
 clear he2 lg_1 lv_1 lr_1 lq_1 blg_1 blv_1 blr_1 blq_1
 have blg_2 := blt lg_2
 have blv_2 := blt lv_2
 have blr_2 := blt lr_2
 have blq_2 := blt lq_2
 have hbz := Bx.lt (BR0.out.ext (((Ext.rfl' (World.alloc (World.alloc (World.alloc w (.cells #[.slice A g.length c] 25)) (.cells #[.slice Av v.length cv, .slice Ar r.length cr, .slice Aq q.length cq] 29)) (.cells #[.slice none 0 0, .slice none 0 0, .slice none 0 0] 29))).tr U1.out).tr U2.out))
 go_wp2_with fail
 refine (s_copyZ Av Ar Aq cv cr cq v q r _ (Hv.out.ext E2.out) (Hr.out.l.ext E2.out) (Hq.out.ext E2.out) hvl hql).mono ?_
 rintro e w3 ⟨A1, c1, A2, c2, A3, c3, hs, rfl, hoz, he3⟩
 obtain ⟨gr, rfl, hgr1⟩ := hoz.r.out.at_ (by simpa using hr0)
 obtain ⟨gq, rfl, hgq1⟩ := hoz.q.at_ (by simpa using hq0)
 have hgr2 : gr < w3.heap.size := (hoz.r.out.lt (g := gr) rfl).2
 have hgq2 : gq < w3.heap.size := (hoz.q.lt (g := gq) rfl).2
 have hne : gq ≠ gr := fun e => hoz.e gq rfl (.inl (by rw [e]; rfl))
 have OZ0 := lh hoz
 clear hoz
 have U3 := lh ((Ext.rfl' w2).tr he3)
 have E3 := lh (E2.out.tr U3.out)
 have lg_3 := U3.out.cellE lg_2
 have lv_3 := U3.out.cellE lv_2
 have lr_3 := U3.out.cellE lr_2
 have lq_3 := U3.out.cellE lq_2
 clear he3 lg_2 lv_2 lr_2 lq_2 blg_2 blv_2 blr_2 blq_2
 have blg_3 := blt lg_3
 have blv_3 := blt lv_3
 have blr_3 := blt lr_3
 have blq_3 := blt lq_3
 go_upto_region 4 with fail
 have he4 := Ext.rfl' (World.alloc w3 (.cells #[.slice A1 v.length c1, .slice (some ⟨gr, 0, none⟩) r.length c2, .slice (some ⟨gq, 0, none⟩) q.length c3] 29))
 have U4 := lh ((Ext.al (Ext.rfl' w3) (.cells #[.slice A1 v.length c1, .slice (some ⟨gr, 0, none⟩) r.length c2, .slice (some ⟨gq, 0, none⟩) q.length c3] 29)).tr he4)
 have E4 := lh (E3.out.tr U4.out)
 have lg_4 := U4.out.cellE lg_3
 have lv_4 := U4.out.cellE lv_3
 have lr_4 := U4.out.cellE lr_3
 have lq_4 := U4.out.cellE lq_3
 have ov_4 := he4.cellE (show World.cell? (World.alloc w3 (.cells #[.slice A1 v.length c1, .slice (some ⟨gr, 0, none⟩) r.length c2, .slice (some ⟨gq, 0, none⟩) q.length c3] 29)) ⟨w3.heap.size, 0, none⟩ = some (.slice A1 v.length c1) by simp [go_sem])
 have or_4 := he4.cellE (show World.cell? (World.alloc w3 (.cells #[.slice A1 v.length c1, .slice (some ⟨gr, 0, none⟩) r.length c2, .slice (some ⟨gq, 0, none⟩) q.length c3] 29)) ⟨w3.heap.size, 1, none⟩ = some (.slice (some ⟨gr, 0, none⟩) r.length c2) by simp [go_sem])
 have oq_4 := he4.cellE (show World.cell? (World.alloc w3 (.cells #[.slice A1 v.length c1, .slice (some ⟨gr, 0, none⟩) r.length c2, .slice (some ⟨gq, 0, none⟩) q.length c3] 29)) ⟨w3.heap.size, 2, none⟩ = some (.slice (some ⟨gq, 0, none⟩) q.length c3) by simp [go_sem])
 clear he4 lg_3 lv_3 lr_3 lq_3 blg_3 blv_3 blr_3 blq_3
 have blg_4 := blt lg_4
 have blv_4 := blt lv_4
 have blr_4 := blt lr_4
 have blq_4 := blt lq_4
 have bov_4 := blt ov_4
 have bor_4 := blt or_4
 have boq_4 := blt oq_4
 generalize (World.alloc w3 (.cells #[.slice A1 v.length c1, .slice (some ⟨gr, 0, none⟩) r.length c2, .slice (some ⟨gq, 0, none⟩) q.length c3] 29)) = w4 at *
 have OZ := lh (OZ0.out.ext (Ext.tr (Ext.rfl' _) U4.out))
 have BR := lh (BR0.out.ext (((((Ext.rfl' (World.alloc (World.alloc (World.alloc w (.cells #[.slice A g.length c] 25)) (.cells #[.slice Av v.length cv, .slice Ar r.length cr, .slice Aq q.length cq] 29)) (.cells #[.slice none 0 0, .slice none 0 0, .slice none 0 0] 29))).tr U1.out).tr U2.out).tr U3.out).tr U4.out))
 have hzz := U4.out.size
 have hbl := BR.out.lt
 obtain ⟨l0, _, _, Al0, cl0, hl0, hAe, hlc, _, _⟩ := (OwnL.rdL OZ.out.r (show r.length ≤ 1048576 by omega) HRS0.out).at_ hjr
 simp only [Option.some.injEq, Addr.mk.injEq, and_true] at hAe
 obtain ⟨rfl, rfl⟩ := hAe
 simp only [Nat.zero_add] at hlc
 have blc := blt hlc
 have frk := OZ.out.r.out.free j
 obtain ⟨z0, hz⟩ : ∃ z, q[j]? = some z := ⟨_, List.getElem?_eq_getElem hjq⟩
 have cz := OZ.out.q.cell (j := j) (u := .int .i64 z0) (by rw [ints_at, hz]; rfl)
 have fz := OZ.out.q.free j
 have bz := blt cz
 clear hz hl0
 have ob : w3.heap.size < w4.heap.size := blt ov_4
 have ha := (Ext.rfl' w4).al (.cells #[] 3)
 have own0 := Own.new w4 (B := w4.heap.size) 3 1 #[] 0 (Nat.le_refl _) (by unfold maxLen; omega) rfl
 have hd1 := Mod.set (Mod.rfl' (fun b => b = gr) (World.alloc w4 (.cells #[] 3))) (p := ⟨gr, j, none⟩) (.inl rfl) (.slice (some ⟨w4.heap.size, 0, none⟩) 0 0)
 have hd2 := Mod.set (Mod.rfl' (fun b => b = gq) (World.setCell (World.alloc w4 (.cells #[] 3)) ⟨gr, j, none⟩ (.slice (some ⟨w4.heap.size, 0, none⟩) 0 0))) (p := ⟨gq, j, none⟩) (.inl rfl) (.int .i64 2)
 have hx1 : (World.setCell (World.alloc w4 (.cells #[] 3)) ⟨gr, j, none⟩ (.slice (some ⟨w4.heap.size, 0, none⟩) 0 0)) = World.alloc (World.setCell w4 ⟨gr, j, none⟩ (.slice (some ⟨w4.heap.size, 0, none⟩) 0 0)) (.cells #[] 3) := World.setCell_alloc_past _ _ _ _ (by omega)
 have hx2 : (World.setCell (World.setCell (World.alloc w4 (.cells #[] 3)) ⟨gr, j, none⟩ (.slice (some ⟨w4.heap.size, 0, none⟩) 0 0)) ⟨gq, j, none⟩ (.int .i64 2)) = (World.alloc (World.setCell (World.setCell w4 ⟨gr, j, none⟩ (.slice (some ⟨w4.heap.size, 0, none⟩) 0 0)) ⟨gq, j, none⟩ (.int .i64 2)) (.cells #[] 3)) := by rw [hx1]; exact World.setCell_alloc_past _ _ _ _ (by simp; omega)
 have HD1 := lh hd1
 have HD2 := lh hd2
 have hq2 := ((OZ.out.q.ext ha).mod hd1 (fun b hb e => by simp [blk] at hb; omega)).st j (.int .i64 2)
 rw [ints_set] at hq2
 have e6 := (Ext.rfl' (World.setCell (World.setCell (World.alloc w4 (.cells #[] 3)) ⟨gr, j, none⟩ (.slice (some ⟨w4.heap.size, 0, none⟩) 0 0)) ⟨gq, j, none⟩ (.int .i64 2))).al (.cells #[.int .i64 (j : Int)] 3)
 have hq3 := hq2.ext e6
 have hB0 : w2.heap.size ≤ w4.heap.size := by have := (OZ.out.q.lt (g := gq) rfl).1; omega
 have hown := lh (show Own (World.alloc w4 (.cells #[] 3)) w4.heap.size 3 1 (some ⟨w4.heap.size, 0, none⟩) ([] : List Int).length 0 (ints []) by simpa [ints] using own0)
 have RL := OwnZ.putRd OZ.out hB0 ha hown.out hjr (by omega) HRS.out
 have on := Own.new (World.setCell (World.setCell (World.alloc w4 (.cells #[] 3)) ⟨gr, j, none⟩ (.slice (some ⟨w4.heap.size, 0, none⟩) 0 0)) ⟨gq, j, none⟩ (.int .i64 2)) (B := w4.heap.size + 1) 3 1 #[.int .i64 (j : Int)] 1 (by simp) (by unfold maxLen; omega) rfl
 have mAll := (((Mod.of (F := fun b => b = gr ∨ b = gq) ha).tr hd1 (fun b e => .inl (.inl e))).tr hd2 (fun b e => .inl (.inr e))).tr (Mod.of (F := fun _ => False) e6) (fun b e => e.elim)
 have ov1 := mAll.cellE ov_4 (by omega)
 have or1 := mAll.cellE or_4 (by omega)
 have oq1 := mAll.cellE oq_4 (by omega)
 have lg1 := mAll.cellE lg_4 (by omega)
 have br1 := BR.out.mod mAll (by omega)
 have em := (Ext.md E4.out mAll (fun b e => by omega))
 have hsz : w4.heap.size + 1 = (World.setCell (World.setCell (World.alloc w4 (.cells #[] 3)) ⟨gr, j, none⟩ (.slice (some ⟨w4.heap.size, 0, none⟩) 0 0)) ⟨gq, j, none⟩ (.int .i64 2)).heap.size := by simp
 rw [← hsz] at on
 have m26 := hd2.tr (Mod.of (F := fun _ => False) e6) (fun b e => e.elim)
 rw [hx2] at hq3 on m26 mAll em br1 ov1 or1 oq1 lg1
 have Q1 := lh (show Own _ w2.heap.size 3 1 (some ⟨gq, 0, none⟩) (q.set j 2).length c3 (ints (q.set j 2)) by simpa using hq3)
 have ON := lh on
 have M26 := lh m26
 have EM := lh em
 have BR1 := lh br1
 have OV1 := lh ov1
 have OR1 := lh or1
 have OQ1 := lh oq1
 have LG1 := lh lg1
 have RL2 := lh RL
 have HSZ : w4.heap.size + 2 = (World.alloc (World.alloc (World.setCell (World.setCell w4 ⟨gr, j, none⟩ (.slice (some ⟨w4.heap.size, 0, none⟩) 0 0)) ⟨gq, j, none⟩ (.int .i64 2)) (.cells #[] 3)) (.cells #[.int .i64 (j : Int)] 3)).heap.size := by simp
 clear ha own0 hd1 hd2 hq2 hq3 e6 RL on mAll br1 em hsz m26 ov1 or1 oq1 lg1 hx1 hx2
 go_upto_region 8 with fail
 generalize (World.alloc (World.alloc (World.setCell (World.setCell w4 ⟨gr, j, none⟩ (.slice (some ⟨w4.heap.size, 0, none⟩) 0 0)) ⟨gq, j, none⟩ (.int .i64 2)) (.cells #[] 3)) (.cells #[.int .i64 (j : Int)] 3)) = W3 at *
 clear ov_4 or_4 oq_4 lg_4 lv_4 lr_4 lq_4 cz fz bz hlc frk blc
 have hq' : (q.set j 2).length = q.length := by simp
 have hr' : (r.set j []).length = r.length := by simp
 have HRQ := lh (show r.length = q.length by rw [HRG.out, HQG.out])
 have HCR2 := lh (show ∀ x ∈ (q.set j 2), 0 ≤ x ∧ x ≤ 2 from fun x hx => by rcases List.mem_or_eq_of_mem_set hx with hx | rfl; exact HCR.out x hx; omega)
 have HQL := lh hq'
 have HRL := lh hr'
 clear hq' hr'
 obtain ⟨R', hR'⟩ : ∃ R', R' = (r.set j []) := ⟨_, rfl⟩
 obtain ⟨Q', hQ'⟩ : ∃ Q', Q' = (q.set j 2) := ⟨_, rfl⟩
 rw [← hR'] at HA HRS RL2 HRL
 rw [← hQ'] at Q1 HCR2 HQL
 have HRE := lh hR'
 have HQE := lh hQ'
 clear hR' hQ'
 have HGQ := lh (show g.length = Q'.length by rw [HQL.out, HQG.out])
 have hjQ : j < Q'.length := by rw [HQL.out]; exact hjq
 have hQ10 : Q'.length ≤ 10 := by rw [HQL.out]; exact hq10
 have hgQ : (g.length : Int) = (Q'.length : Int) := by rw [HGQ.out]
 have HgQ := lh hgQ
 clear hgQ
 go_wp2_with fail
 go_loopw [9, 10] (fun s6 s7 wr => ∃ (i : Nat) (ml : List Int) (A' : Option Addr) (c' : Nat), j + 1 ≤ i ∧ i ≤ g.length ∧ s7 = .int .i64 i ∧ s6 = .slice A' ml.length c' ∧ Hid (Own wr (w4.heap.size + 1) 3 1 A' ml.length c' (ints ml)) ∧ Hid (Sg.MetL R' j i ml) ∧ ml.length ≤ i ∧ Hid (Own wr w2.heap.size 3 1 (some ⟨gq, 0, none⟩) Q'.length c3 (ints (Sg.spoilTo false R' Q' j i))) ∧ Hid (Mod (fun b => b = gq ∨ w4.heap.size + 1 ≤ b) W3 wr)) (fun _ s7 _ => g.length - (intOf s7).toNat)
 case atStart => exact ⟨j + 1, [(j : Int)], _, 1, Nat.le_refl _, hj, by go_num, rfl, lh (by simpa [ints] using ON.out), lh (Sg.metL_start HA.out j), by simp, lh (by rw [Sg.spoilTo_start false HA.out]; exact Q1.out), lh (Mod.rfl' _ _)⟩
 case round =>
  obtain ⟨i, ml, A', c', hni, hi, rfl, rfl, hO, hML, hmll, hQ, hM⟩ := hrel
  have cg := hM.out.cellE LG1.out (by omega)
  have bcg := blt cg
  have s0 := hM.out.cellE OV1.out (by omega)
  have s1 := hM.out.cellE OR1.out (by omega)
  have s2 := hM.out.cellE OQ1.out (by omega)
  have bs1 := blt s1
  by_cases hlt : i < g.length
  ·have hiQ : i < Q'.length := by rw [← HGQ.out]; exact hlt
   obtain ⟨l, b, o, Al, cl, hl, hbe, hcell, hrd, _⟩ := (RL2.out wr (Mod.tr (F := fun b => b = gq) (F' := (fun b => b = gq ∨ w4.heap.size + 1 ≤ b)) M26.out hM.out (fun b e => e.elim .inl (fun e => .inr (by simp; omega))))).at_ (show i < R'.length by rw [HRL.out, HRQ.out, ← HQL.out]; exact hiQ)
   simp only [Option.some.injEq, Addr.mk.injEq, and_true] at hbe
   obtain ⟨rfl, rfl⟩ := hbe
   simp only [Nat.zero_add] at hcell
   have bce := blt hcell
   have HL := lh (show R'.getD i [] = l by simp [hl])
   have Hrd := lh hrd
   have hir : i < r.length := by rw [HRQ.out, ← HQL.out]; exact hiQ
   have hiq : i < q.length := by rw [← HQL.out]; exact hiQ
   obtain ⟨z, hz⟩ : ∃ z, Q'[i]? = some z := ⟨_, List.getElem?_eq_getElem hiQ⟩
   have HZR := lh (HCR2.out z (List.mem_of_getElem? hz))
   have HZ := lh hz
   have cz := hQ.out.cell (j := i) (u := .int .i64 z) (by rw [ints_at, Sg.spoilTo_same, hz]; rfl)
   have fz := hQ.out.free i
   have bz := blt cz
   have HME := lh (fun w h k => s_meets Al A' cl c' l.length ml.length l ml w h k)
   have HMT := lh (Sg.metL_meets HA.out hML.out)
   rw [HL.out] at HMT
   clear hl hz hrd
   cases hmt : Sg.meets l ml
   ·have hw : ¬ Sg.Way R' j i := fun h => by have := HMT.out.2 h; rw [hmt] at this; cases this
    have HS2 := lh (Sg.spoilTo_no false (c := Q') hw)
    have HM2 := lh (Sg.metL_no hML.out hw)
    have Hmt := lh hmt
    clear hw hmt
    go_wp2_with fail
    refine (HME.out _ Hrd.out hO.out.rd).mono ?_
    rw [Hmt.out]
    rintro e w5x ⟨rfl, he5⟩
    go_wp2_with fail
    go_roundw
    case rel => exact ⟨i + 1, ml, A', c', by omega, by omega, by go_num, rfl, lh (hO.out.ext he5), HM2, by omega, lh (by rw [HS2.out]; exact hQ.out.ext he5), lh (hM.out.tr' (Mod.of he5))⟩
    case measure => simp [intOf]; omega
   ·have hw : Sg.Way R' j i := HMT.out.1 hmt
    have HS2 := lh (show Sg.spoilTo false R' Q' j (i + 1) = (Sg.spoilTo false R' Q' j i).set i (if z < 1 then 1 else z) by rw [Sg.spoilTo_yes hw HZ.out, if_neg (fun h => by cases h.1), colMax HZR.out])
    have HM2 := lh (Sg.metL_yes hML.out hw)
    have Hmt := lh hmt
    clear hw hmt
    go_wp2_with fail
    refine (HME.out _ Hrd.out hO.out.rd).mono ?_
    rw [Hmt.out]
    rintro e w5x ⟨rfl, he5⟩
    have O5 := lh (hO.out.ext he5)
    have Q5 := lh (hQ.out.ext he5)
    have M5 := lh (hM.out.tr' (Mod.of he5))
    have s25 := he5.cellE s2
    have cz5 := he5.cellE cz
    have bs25 := blt s25
    have fz5 := Q5.out.free i
    clear he5 s0 s1 s2 cz fz bs1 bcg cg bz hcell bce
    go_upto_region 11 with fail
    go_still_tail 9, (by kernel_rfl)
    change wpList _ _ _ _ _ (World.drew w5x)
    have O6 := lh (O5.out.ext ((Ext.rfl' w5x).dr))
    have Q6 := lh (Q5.out.ext ((Ext.rfl' w5x).dr))
    have M6 := lh (M5.out.dr)
    have s26 := ((Ext.rfl' w5x).dr).cellE s25
    have bs26 := blt s26
    have fz6 := Q6.out.free i
    have cz6 := ((Ext.rfl' w5x).dr).cellE cz5
    have bz6 := blt cz6
    clear s25 cz5 bs25 fz5 O5 Q5 M5
    generalize World.drew w5x = w6 at *
    have Q7 := lh (Q6.out.st i (.int .i64 (if z < 1 then 1 else z)))
    have M7 := lh (Mod.set M6.out (p := ⟨gq, i, none⟩) (.inl (.inl rfl)) (.int .i64 (if z < 1 then 1 else z)))
    have O7 := lh (O6.out.set (p := ⟨gq, i, none⟩) (fun e => by have := (O6.out.lt e).1; simp at this; omega) (.int .i64 (if z < 1 then 1 else z)))
    have hs7 := M7.out.size
    go_upto_region 12 with fail
    try rw [show max z 1 = (if z < 1 then 1 else z) from by split <;> omega]
    try rw [show max 1 z = (if z < 1 then 1 else z) from by split <;> omega]
    generalize World.setCell w6 ⟨gq, i, none⟩ (.int .i64 (if z < 1 then 1 else z)) = w7 at *
    go_wp2_with (at_builtin; refine wpList_app1 rfl rfl eiInt rfl O7.out rfl rfl (one_int _ _) (by omega) (by omega) (by omega) ?_; intro A2x c2x w9 hown2 hg2 hat2)
    have M9 := lh (Mod.tr M7.out (Mod.grl (F := fun b => blk A' = some b) hg2 (fun b e => e)) (fun b e => .inl (.inr (O7.out.lt e).1)))
    have Q9 := lh (Q7.out.gr hg2 (.inr (fun e => by have := (O7.out.lt (g := gq) e.symm).1; omega)))
    go_roundw
    case rel => exact ⟨i + 1, ml ++ [(i : Int)], A2x, c2x, by omega, by omega, by go_num, by simp, lh (by simpa using hown2), HM2, by simp; omega, lh (by have := Q9.out; rw [ints_set] at this; rw [HS2.out]; exact this), M9⟩
    case measure => simp [intOf]; omega
  ·obtain rfl : i = g.length := by omega
   have BRf := lh (BR1.out.mod hM.out (by omega))
   have Qf := lh (show Own wr w2.heap.size 3 1 (some ⟨gq, 0, none⟩) q.length c3 (ints (Sg.doubtC (r.set j []) (q.set j 2) j)) by have := hQ.out; rw [HGQ.out, Sg.spoilTo_end, HQL.out, HRE.out, HQE.out] at this; exact this)
   have hMr := lh (hM.out)
   clear hlt
   have f0 := BRf.out.free 0
   have f1 := BRf.out.free 1
   have f2 := BRf.out.free 2
   have x0 := BRf.out.cell (j := 0) rfl
   have x1 := BRf.out.cell (j := 1) rfl
   have x2 := BRf.out.cell (j := 2) rfl
   have bl := BRf.out.lt
   go_wp2
   have s0 : ∀ u0 u1 u2 : Value, World.cell? (World.setCell (World.setCell (World.setCell wr ⟨w.heap.size + 1 + 1, 0, none⟩ u0) ⟨w.heap.size + 1 + 1, 1, none⟩ u1) ⟨w.heap.size + 1 + 1, 2, none⟩ u2) ⟨w.heap.size + 1 + 1, 0, none⟩ = some u0 := fun u0 u1 u2 => (((BRf.out.set 0 u0).set 1 u1).set 2 u2).cell (j := 0) rfl
   have s1 : ∀ u0 u1 u2 : Value, World.cell? (World.setCell (World.setCell (World.setCell wr ⟨w.heap.size + 1 + 1, 0, none⟩ u0) ⟨w.heap.size + 1 + 1, 1, none⟩ u1) ⟨w.heap.size + 1 + 1, 2, none⟩ u2) ⟨w.heap.size + 1 + 1, 1, none⟩ = some u1 := fun u0 u1 u2 => (((BRf.out.set 0 u0).set 1 u1).set 2 u2).cell (j := 1) rfl
   have s2 : ∀ u0 u1 u2 : Value, World.cell? (World.setCell (World.setCell (World.setCell wr ⟨w.heap.size + 1 + 1, 0, none⟩ u0) ⟨w.heap.size + 1 + 1, 1, none⟩ u1) ⟨w.heap.size + 1 + 1, 2, none⟩ u2) ⟨w.heap.size + 1 + 1, 2, none⟩ = some u2 := fun u0 u1 u2 => (((BRf.out.set 0 u0).set 1 u1).set 2 u2).cell (j := 2) rfl
   refine bodyPost_ret (v := .tuple #[.agg #[.slice A1 v.length c1, .slice (some ⟨gr, 0, none⟩) r.length c2, .slice (some ⟨gq, 0, none⟩) q.length c3], .bool true]) (by simp [results, Tryz.results34, go_sem, s0, s1, s2]; try rfl) rfl ?_
   have hS := Mod.set (F := fun b => b = w.heap.size + 1 + 1) (Mod.set (F := fun b => b = w.heap.size + 1 + 1) (Mod.set (F := fun b => b = w.heap.size + 1 + 1) (Mod.rfl' (fun b => b = w.heap.size + 1 + 1) wr) (p := ⟨w.heap.size + 1 + 1, 0, none⟩) (.inl rfl) (.slice A1 v.length c1)) (p := ⟨w.heap.size + 1 + 1, 1, none⟩) (.inl rfl) (.slice (some ⟨gr, 0, none⟩) r.length c2)) (p := ⟨w.heap.size + 1 + 1, 2, none⟩) (.inl rfl) (.slice (some ⟨gq, 0, none⟩) q.length c3)
   rw [HS.out]
   have hT := OwnZ.turn2 OZ.out hB0 ((Ext.rfl' _).al (.cells #[] 3)) hown.out hjr (q' := Sg.doubtC (r.set j []) (q.set j 2) j) Qf.out (Mod.tr (F := fun b => b = gq) (F' := (fun b => b = gq ∨ w4.heap.size + 1 ≤ b)) M26.out hMr.out (fun b e => e.elim .inl (fun e => .inr (by simp; omega)))) (by simp)
   refine ⟨A1, c1, some ⟨gr, 0, none⟩, c2, some ⟨gq, 0, none⟩, c3, hs.set j (some ⟨w4.heap.size, 0, none⟩, 0), ?_, ?_, ((((Ext.md EM.out hMr.out (fun b e => by omega)).set (p := ⟨w.heap.size + 1 + 1, 0, none⟩) (show w.heap.size ≤ w.heap.size + 1 + 1 by omega) _).set (p := ⟨w.heap.size + 1 + 1, 1, none⟩) (show w.heap.size ≤ w.heap.size + 1 + 1 by omega) _).set (p := ⟨w.heap.size + 1 + 1, 2, none⟩) (show w.heap.size ≤ w.heap.size + 1 + 1 by omega) _)⟩
   ·simp [Sg.forgetL]
   ·exact (hT.mod hS (fun b hb e => by have := (OwnZ.lt hT hb).1; omega)).mono (B' := w.heap.size) (by omega)
end Go.Proofs.YtmkfjnkdaeoppaaGreat
