/- ForgetNode of the program: its contract. Conditions: bounds on lengths. -/
import Derived.Test.YtmkfjnkdaeoppaaGreatTy
import Derived.Test.YtmkfjnkdaeoppaaGreatLazSmall
import Derived.IntWalk
namespace Go.Proofs.YtmkfjnkdaeoppaaGreat
open Go.RowKit

set_option maxRecDepth 100000 in
set_option maxHeartbeats 16000000 in
theorem i_ForgetNode (A Av Ar Aq : Option Addr) (c cv cr cq : Nat) (g : Sg.Graph) (v q : List Int) (r : List (List Int)) (n : Int) (w : World) (h : RdN w A g) (hv : Rd w 1 Av v.length (ints v)) (hr : RdLC w Ar r) (hq : Rd w 1 Aq q.length (ints q)) (hvl : v.length ≤ 1048576) (hql : q.length ≤ 1048576) :
  Calls Tryz.prog 33 #[.agg #[.slice A g.length c], .agg #[.slice Av v.length cv, .slice Ar r.length cr, .slice Aq q.length cq], .int .i64 n] w fun e w' => ∃ A1 c1 A2 c2 A3 c3 hs, e = .returned (.tuple #[.agg #[.slice A1 (Sg.forgetLO g ⟨v, r, q⟩ n).1.vals.length c1, .slice A2 (Sg.forgetLO g ⟨v, r, q⟩ n).1.reads.length c2, .slice A3 (Sg.forgetLO g ⟨v, r, q⟩ n).1.cols.length c3], .bool (Sg.forgetLO g ⟨v, r, q⟩ n).2]) ∧
   OwnZ w' w.heap.size A1 c1 A2 c2 A3 c3 hs (Sg.forgetLO g ⟨v, r, q⟩ n).1 ∧ Ext w w' := by
 have hgl := h.1
 have ig : IntKind.i64.wrap ((g.length : Int) - 1) = (g.length : Int) - 1 := IntWalk.i64_in _ (by omega)
 have HV := lh (fun w h hv hr hq => i_ValidLazy A Av Ar Aq c cv cr cq g v q r w h hv hr hq hvl hql)
 have HC := lh (fun w h => i_cellB A c g n w h)
 have HI := lh (fun w => i_has A g.length c n w hgl)
 have H := lh h
 have Hv := lh hv
 have Hr := lh hr
 have Hq := lh hq
 clear h hv hr hq
 have b0 := Bx.new (World.alloc (World.alloc w (.cells #[.slice A g.length c] 25)) (.cells #[.slice Av v.length cv, .slice Ar r.length cr, .slice Aq q.length cq] 29)) #[.slice none 0 0, .slice none 0 0, .slice none 0 0] 29
 simp only [World.size_alloc] at b0
 have BR0 := lh b0
 clear b0
 have E0 := lh (((((Ext.rfl' w).al (.cells #[.slice A g.length c] 25)).al (.cells #[.slice Av v.length cv, .slice Ar r.length cr, .slice Aq q.length cq] 29)).al (.cells #[.slice none 0 0, .slice none 0 0, .slice none 0 0] 29)) : Ext w (World.alloc (World.alloc (World.alloc w (.cells #[.slice A g.length c] 25)) (.cells #[.slice Av v.length cv, .slice Ar r.length cr, .slice Aq q.length cq] 29)) (.cells #[.slice none 0 0, .slice none 0 0, .slice none 0 0] 29)))
 have qlg : World.cell? (World.alloc (World.alloc (World.alloc w (.cells #[.slice A g.length c] 25)) (.cells #[.slice Av v.length cv, .slice Ar r.length cr, .slice Aq q.length cq] 29)) (.cells #[.slice none 0 0, .slice none 0 0, .slice none 0 0] 29)) ⟨w.heap.size, 0, none⟩ = some (.slice A g.length c) := by simp [go_sem]
 have Qlg := lh qlg
 clear qlg
 have qlv : World.cell? (World.alloc (World.alloc (World.alloc w (.cells #[.slice A g.length c] 25)) (.cells #[.slice Av v.length cv, .slice Ar r.length cr, .slice Aq q.length cq] 29)) (.cells #[.slice none 0 0, .slice none 0 0, .slice none 0 0] 29)) ⟨w.heap.size + 1, 0, none⟩ = some (.slice Av v.length cv) := by simp [go_sem]
 have Qlv := lh qlv
 clear qlv
 have qlr : World.cell? (World.alloc (World.alloc (World.alloc w (.cells #[.slice A g.length c] 25)) (.cells #[.slice Av v.length cv, .slice Ar r.length cr, .slice Aq q.length cq] 29)) (.cells #[.slice none 0 0, .slice none 0 0, .slice none 0 0] 29)) ⟨w.heap.size + 1, 1, none⟩ = some (.slice Ar r.length cr) := by simp [go_sem]
 have Qlr := lh qlr
 clear qlr
 have qlq : World.cell? (World.alloc (World.alloc (World.alloc w (.cells #[.slice A g.length c] 25)) (.cells #[.slice Av v.length cv, .slice Ar r.length cr, .slice Aq q.length cq] 29)) (.cells #[.slice none 0 0, .slice none 0 0, .slice none 0 0] 29)) ⟨w.heap.size + 1, 2, none⟩ = some (.slice Aq q.length cq) := by simp [go_sem]
 have Qlq := lh qlq
 clear qlq
 cases hE : Sg.validL g ⟨v, r, q⟩
 ·have HE := lh hE
  have HS := lh (show Sg.forgetLO g ⟨v, r, q⟩ n = (⟨[], [], []⟩, false) by unfold Sg.forgetLO Sg.mayForgetL; rw [hE]; rfl)
  clear hE
  go_enter Tryz.func33, Tryz.ntmps33
  go_wp2_with fail
  refine (HV.out _ (H.out.ext E0.out) (Hv.out.ext E0.out) (Hr.out.ext E0.out) (Hq.out.ext E0.out)).mono ?_
  rintro e w1 ⟨rfl, he1⟩
  rw [HE.out]
  have U1 := lh ((Ext.rfl' (World.alloc (World.alloc (World.alloc w (.cells #[.slice A g.length c] 25)) (.cells #[.slice Av v.length cv, .slice Ar r.length cr, .slice Aq q.length cq] 29)) (.cells #[.slice none 0 0, .slice none 0 0, .slice none 0 0] 29))).tr he1)
  have E1 := lh (E0.out.tr U1.out)
  have lg_1 := U1.out.cellE Qlg.out
  have lv_1 := U1.out.cellE Qlv.out
  have lr_1 := U1.out.cellE Qlr.out
  have lq_1 := U1.out.cellE Qlq.out
  clear he1 
  have blg_1 := blt lg_1
  have blv_1 := blt lv_1
  have blr_1 := blt lr_1
  have blq_1 := blt lq_1
  have BR := lh (BR0.out.ext ((Ext.rfl' (World.alloc (World.alloc (World.alloc w (.cells #[.slice A g.length c] 25)) (.cells #[.slice Av v.length cv, .slice Ar r.length cr, .slice Aq q.length cq] 29)) (.cells #[.slice none 0 0, .slice none 0 0, .slice none 0 0] 29))).tr U1.out))
  have f0 := BR.out.free 0
  have f1 := BR.out.free 1
  have f2 := BR.out.free 2
  have x0 := BR.out.cell (j := 0) rfl
  have x1 := BR.out.cell (j := 1) rfl
  have x2 := BR.out.cell (j := 2) rfl
  have bl := BR.out.lt
  go_wp2
  have s0 : ∀ u0 u1 u2 : Value, World.cell? (World.setCell (World.setCell (World.setCell w1 ⟨w.heap.size + 1 + 1, 0, none⟩ u0) ⟨w.heap.size + 1 + 1, 1, none⟩ u1) ⟨w.heap.size + 1 + 1, 2, none⟩ u2) ⟨w.heap.size + 1 + 1, 0, none⟩ = some u0 := fun u0 u1 u2 => (((BR.out.set 0 u0).set 1 u1).set 2 u2).cell (j := 0) rfl
  have s1 : ∀ u0 u1 u2 : Value, World.cell? (World.setCell (World.setCell (World.setCell w1 ⟨w.heap.size + 1 + 1, 0, none⟩ u0) ⟨w.heap.size + 1 + 1, 1, none⟩ u1) ⟨w.heap.size + 1 + 1, 2, none⟩ u2) ⟨w.heap.size + 1 + 1, 1, none⟩ = some u1 := fun u0 u1 u2 => (((BR.out.set 0 u0).set 1 u1).set 2 u2).cell (j := 1) rfl
  have s2 : ∀ u0 u1 u2 : Value, World.cell? (World.setCell (World.setCell (World.setCell w1 ⟨w.heap.size + 1 + 1, 0, none⟩ u0) ⟨w.heap.size + 1 + 1, 1, none⟩ u1) ⟨w.heap.size + 1 + 1, 2, none⟩ u2) ⟨w.heap.size + 1 + 1, 2, none⟩ = some u2 := fun u0 u1 u2 => (((BR.out.set 0 u0).set 1 u1).set 2 u2).cell (j := 2) rfl
  refine bodyPost_ret (v := .tuple #[.agg #[.slice none 0 0, .slice none 0 0, .slice none 0 0], .bool false]) (by simp [results, Tryz.results33, go_sem, s0, s1, s2]; try rfl) rfl ?_
  have hS := Mod.set (F := fun b => b = w.heap.size + 1 + 1) (Mod.set (F := fun b => b = w.heap.size + 1 + 1) (Mod.set (F := fun b => b = w.heap.size + 1 + 1) (Mod.rfl' (fun b => b = w.heap.size + 1 + 1) w1) (p := ⟨w.heap.size + 1 + 1, 0, none⟩) (.inl rfl) (.slice none 0 0)) (p := ⟨w.heap.size + 1 + 1, 1, none⟩) (.inl rfl) (.slice none 0 0)) (p := ⟨w.heap.size + 1 + 1, 2, none⟩) (.inl rfl) (.slice none 0 0)
  rw [HS.out]
  exact ⟨none, 0, none, 0, none, 0, [], rfl, OwnZ.nil _ _, (((E1.out.set (p := ⟨w.heap.size + 1 + 1, 0, none⟩) (show w.heap.size ≤ w.heap.size + 1 + 1 by omega) _).set (p := ⟨w.heap.size + 1 + 1, 1, none⟩) (show w.heap.size ≤ w.heap.size + 1 + 1 by omega) _).set (p := ⟨w.heap.size + 1 + 1, 2, none⟩) (show w.heap.size ≤ w.heap.size + 1 + 1 by omega) _)⟩
 have HE := lh hE
 cases hX : Sg.inR n 0 ((g.length : Int) - 1)
 ·have HX := lh hX
  have HS := lh (show Sg.forgetLO g ⟨v, r, q⟩ n = (⟨[], [], []⟩, false) by unfold Sg.forgetLO Sg.mayForgetL; rw [hE, hX]; rfl)
  clear hE hX
  go_enter Tryz.func33, Tryz.ntmps33
  go_wp2_with fail
  refine (HV.out _ (H.out.ext E0.out) (Hv.out.ext E0.out) (Hr.out.ext E0.out) (Hq.out.ext E0.out)).mono ?_
  rintro e w1 ⟨rfl, he1⟩
  rw [HE.out]
  have U1 := lh ((Ext.rfl' (World.alloc (World.alloc (World.alloc w (.cells #[.slice A g.length c] 25)) (.cells #[.slice Av v.length cv, .slice Ar r.length cr, .slice Aq q.length cq] 29)) (.cells #[.slice none 0 0, .slice none 0 0, .slice none 0 0] 29))).tr he1)
  have E1 := lh (E0.out.tr U1.out)
  have lg_1 := U1.out.cellE Qlg.out
  have lv_1 := U1.out.cellE Qlv.out
  have lr_1 := U1.out.cellE Qlr.out
  have lq_1 := U1.out.cellE Qlq.out
  clear he1 
  have blg_1 := blt lg_1
  have blv_1 := blt lv_1
  have blr_1 := blt lr_1
  have blq_1 := blt lq_1
  go_wp2_with fail
  refine (HI.out _).mono ?_
  rintro e w2 ⟨rfl, he2⟩
  rw [HX.out]
  have U2 := lh ((Ext.rfl' w1).tr he2)
  have E2 := lh (E1.out.tr U2.out)
  have lg_2 := U2.out.cellE lg_1
  have lv_2 := U2.out.cellE lv_1
  have lr_2 := U2.out.cellE lr_1
  have lq_2 := U2.out.cellE lq_1
  clear he2 lg_1 lv_1 lr_1 lq_1 blg_1 blv_1 blr_1 blq_1
  have blg_2 := blt lg_2
  have blv_2 := blt lv_2
  have blr_2 := blt lr_2
  have blq_2 := blt lq_2
  have BR := lh (BR0.out.ext (((Ext.rfl' (World.alloc (World.alloc (World.alloc w (.cells #[.slice A g.length c] 25)) (.cells #[.slice Av v.length cv, .slice Ar r.length cr, .slice Aq q.length cq] 29)) (.cells #[.slice none 0 0, .slice none 0 0, .slice none 0 0] 29))).tr U1.out).tr U2.out))
  have f0 := BR.out.free 0
  have f1 := BR.out.free 1
  have f2 := BR.out.free 2
  have x0 := BR.out.cell (j := 0) rfl
  have x1 := BR.out.cell (j := 1) rfl
  have x2 := BR.out.cell (j := 2) rfl
  have bl := BR.out.lt
  go_wp2
  have s0 : ∀ u0 u1 u2 : Value, World.cell? (World.setCell (World.setCell (World.setCell w2 ⟨w.heap.size + 1 + 1, 0, none⟩ u0) ⟨w.heap.size + 1 + 1, 1, none⟩ u1) ⟨w.heap.size + 1 + 1, 2, none⟩ u2) ⟨w.heap.size + 1 + 1, 0, none⟩ = some u0 := fun u0 u1 u2 => (((BR.out.set 0 u0).set 1 u1).set 2 u2).cell (j := 0) rfl
  have s1 : ∀ u0 u1 u2 : Value, World.cell? (World.setCell (World.setCell (World.setCell w2 ⟨w.heap.size + 1 + 1, 0, none⟩ u0) ⟨w.heap.size + 1 + 1, 1, none⟩ u1) ⟨w.heap.size + 1 + 1, 2, none⟩ u2) ⟨w.heap.size + 1 + 1, 1, none⟩ = some u1 := fun u0 u1 u2 => (((BR.out.set 0 u0).set 1 u1).set 2 u2).cell (j := 1) rfl
  have s2 : ∀ u0 u1 u2 : Value, World.cell? (World.setCell (World.setCell (World.setCell w2 ⟨w.heap.size + 1 + 1, 0, none⟩ u0) ⟨w.heap.size + 1 + 1, 1, none⟩ u1) ⟨w.heap.size + 1 + 1, 2, none⟩ u2) ⟨w.heap.size + 1 + 1, 2, none⟩ = some u2 := fun u0 u1 u2 => (((BR.out.set 0 u0).set 1 u1).set 2 u2).cell (j := 2) rfl
  refine bodyPost_ret (v := .tuple #[.agg #[.slice none 0 0, .slice none 0 0, .slice none 0 0], .bool false]) (by simp [results, Tryz.results33, go_sem, s0, s1, s2]; try rfl) rfl ?_
  have hS := Mod.set (F := fun b => b = w.heap.size + 1 + 1) (Mod.set (F := fun b => b = w.heap.size + 1 + 1) (Mod.set (F := fun b => b = w.heap.size + 1 + 1) (Mod.rfl' (fun b => b = w.heap.size + 1 + 1) w2) (p := ⟨w.heap.size + 1 + 1, 0, none⟩) (.inl rfl) (.slice none 0 0)) (p := ⟨w.heap.size + 1 + 1, 1, none⟩) (.inl rfl) (.slice none 0 0)) (p := ⟨w.heap.size + 1 + 1, 2, none⟩) (.inl rfl) (.slice none 0 0)
  rw [HS.out]
  exact ⟨none, 0, none, 0, none, 0, [], rfl, OwnZ.nil _ _, (((E2.out.set (p := ⟨w.heap.size + 1 + 1, 0, none⟩) (show w.heap.size ≤ w.heap.size + 1 + 1 by omega) _).set (p := ⟨w.heap.size + 1 + 1, 1, none⟩) (show w.heap.size ≤ w.heap.size + 1 + 1 by omega) _).set (p := ⟨w.heap.size + 1 + 1, 2, none⟩) (show w.heap.size ≤ w.heap.size + 1 + 1 by omega) _)⟩
 have HX := lh hX
 cases hC : Sg.isCell g n
 rotate_left
 ·have HCC := lh hC
  have HS := lh (show Sg.forgetLO g ⟨v, r, q⟩ n = (⟨[], [], []⟩, false) by unfold Sg.forgetLO Sg.mayForgetL; rw [hE, hX, hC]; rfl)
  clear hE hX hC
  go_enter Tryz.func33, Tryz.ntmps33
  go_wp2_with fail
  refine (HV.out _ (H.out.ext E0.out) (Hv.out.ext E0.out) (Hr.out.ext E0.out) (Hq.out.ext E0.out)).mono ?_
  rintro e w1 ⟨rfl, he1⟩
  rw [HE.out]
  have U1 := lh ((Ext.rfl' (World.alloc (World.alloc (World.alloc w (.cells #[.slice A g.length c] 25)) (.cells #[.slice Av v.length cv, .slice Ar r.length cr, .slice Aq q.length cq] 29)) (.cells #[.slice none 0 0, .slice none 0 0, .slice none 0 0] 29))).tr he1)
  have E1 := lh (E0.out.tr U1.out)
  have lg_1 := U1.out.cellE Qlg.out
  have lv_1 := U1.out.cellE Qlv.out
  have lr_1 := U1.out.cellE Qlr.out
  have lq_1 := U1.out.cellE Qlq.out
  clear he1 
  have blg_1 := blt lg_1
  have blv_1 := blt lv_1
  have blr_1 := blt lr_1
  have blq_1 := blt lq_1
  go_wp2_with fail
  refine (HI.out _).mono ?_
  rintro e w2 ⟨rfl, he2⟩
  rw [HX.out]
  have U2 := lh ((Ext.rfl' w1).tr he2)
  have E2 := lh (E1.out.tr U2.out)
  have lg_2 := U2.out.cellE lg_1
  have lv_2 := U2.out.cellE lv_1
  have lr_2 := U2.out.cellE lr_1
  have lq_2 := U2.out.cellE lq_1
  clear he2 lg_1 lv_1 lr_1 lq_1 blg_1 blv_1 blr_1 blq_1
  have blg_2 := blt lg_2
  have blv_2 := blt lv_2
  have blr_2 := blt lr_2
  have blq_2 := blt lq_2
  go_wp2_with fail
  refine (HC.out _ (H.out.ext E2.out)).mono ?_
  rintro e w3 ⟨rfl, he3⟩
  rw [HCC.out]
  have U3 := lh ((Ext.rfl' w2).tr he3)
  have E3 := lh (E2.out.tr U3.out)
  have lg_3 := U3.out.cellE lg_2
  have lv_3 := U3.out.cellE lv_2
  have lr_3 := U3.out.cellE lr_2
  have lq_3 := U3.out.cellE lq_2
  clear he3 lg_2 lv_2 lr_2 lq_2 blg_2 blv_2 blr_2 blq_2
  have blg_3 := blt lg_3
  have blv_3 := blt lv_3
  have blr_3 := blt lr_3
  have blq_3 := blt lq_3
  have BR := lh (BR0.out.ext ((((Ext.rfl' (World.alloc (World.alloc (World.alloc w (.cells #[.slice A g.length c] 25)) (.cells #[.slice Av v.length cv, .slice Ar r.length cr, .slice Aq q.length cq] 29)) (.cells #[.slice none 0 0, .slice none 0 0, .slice none 0 0] 29))).tr U1.out).tr U2.out).tr U3.out))
  have f0 := BR.out.free 0
  have f1 := BR.out.free 1
  have f2 := BR.out.free 2
  have x0 := BR.out.cell (j := 0) rfl
  have x1 := BR.out.cell (j := 1) rfl
  have x2 := BR.out.cell (j := 2) rfl
  have bl := BR.out.lt
  go_wp2
  have s0 : ∀ u0 u1 u2 : Value, World.cell? (World.setCell (World.setCell (World.setCell w3 ⟨w.heap.size + 1 + 1, 0, none⟩ u0) ⟨w.heap.size + 1 + 1, 1, none⟩ u1) ⟨w.heap.size + 1 + 1, 2, none⟩ u2) ⟨w.heap.size + 1 + 1, 0, none⟩ = some u0 := fun u0 u1 u2 => (((BR.out.set 0 u0).set 1 u1).set 2 u2).cell (j := 0) rfl
  have s1 : ∀ u0 u1 u2 : Value, World.cell? (World.setCell (World.setCell (World.setCell w3 ⟨w.heap.size + 1 + 1, 0, none⟩ u0) ⟨w.heap.size + 1 + 1, 1, none⟩ u1) ⟨w.heap.size + 1 + 1, 2, none⟩ u2) ⟨w.heap.size + 1 + 1, 1, none⟩ = some u1 := fun u0 u1 u2 => (((BR.out.set 0 u0).set 1 u1).set 2 u2).cell (j := 1) rfl
  have s2 : ∀ u0 u1 u2 : Value, World.cell? (World.setCell (World.setCell (World.setCell w3 ⟨w.heap.size + 1 + 1, 0, none⟩ u0) ⟨w.heap.size + 1 + 1, 1, none⟩ u1) ⟨w.heap.size + 1 + 1, 2, none⟩ u2) ⟨w.heap.size + 1 + 1, 2, none⟩ = some u2 := fun u0 u1 u2 => (((BR.out.set 0 u0).set 1 u1).set 2 u2).cell (j := 2) rfl
  refine bodyPost_ret (v := .tuple #[.agg #[.slice none 0 0, .slice none 0 0, .slice none 0 0], .bool false]) (by simp [results, Tryz.results33, go_sem, s0, s1, s2]; try rfl) rfl ?_
  have hS := Mod.set (F := fun b => b = w.heap.size + 1 + 1) (Mod.set (F := fun b => b = w.heap.size + 1 + 1) (Mod.set (F := fun b => b = w.heap.size + 1 + 1) (Mod.rfl' (fun b => b = w.heap.size + 1 + 1) w3) (p := ⟨w.heap.size + 1 + 1, 0, none⟩) (.inl rfl) (.slice none 0 0)) (p := ⟨w.heap.size + 1 + 1, 1, none⟩) (.inl rfl) (.slice none 0 0)) (p := ⟨w.heap.size + 1 + 1, 2, none⟩) (.inl rfl) (.slice none 0 0)
  rw [HS.out]
  exact ⟨none, 0, none, 0, none, 0, [], rfl, OwnZ.nil _ _, (((E3.out.set (p := ⟨w.heap.size + 1 + 1, 0, none⟩) (show w.heap.size ≤ w.heap.size + 1 + 1 by omega) _).set (p := ⟨w.heap.size + 1 + 1, 1, none⟩) (show w.heap.size ≤ w.heap.size + 1 + 1 by omega) _).set (p := ⟨w.heap.size + 1 + 1, 2, none⟩) (show w.heap.size ≤ w.heap.size + 1 + 1 by omega) _)⟩
 have HCC := lh hC
 obtain ⟨hG, hvg, hrg, hqg, _⟩ := Sg.validL_shape hE
 have h10 := vG_len hG
 have hxx : 0 ≤ n ∧ n ≤ (g.length : Int) - 1 := by unfold Sg.inR at hX; simpa using hX
 obtain ⟨j, rfl⟩ := Int.eq_ofNat_of_zero_le hxx.1
 have hj : j < g.length := by omega
 have HS := lh (show Sg.forgetLO g ⟨v, r, q⟩ (j : Int) = (Sg.forgetL ⟨v, r, q⟩ j, true) by unfold Sg.forgetLO Sg.mayForgetL; rw [hE, hX, hC]; rfl)
 have HA := lh (Sg.ahead_none (Sg.ahead_of hE) j)
 have HCR := lh (Sg.cols_range hE)
 have HRS := lh (show ∀ l ∈ r.set j [], l.length ≤ 1048576 from fun l hl => by rcases List.mem_or_eq_of_mem_set hl with hl | rfl; exact Nat.le_trans (reads_small hE l hl) (by omega); simp)
 have HRS0 := lh (show ∀ l ∈ r, l.length ≤ 1048576 from fun l hl => Nat.le_trans (reads_small hE l hl) (by omega))
 have hvg' : v.length = g.length := hvg
 have hrg' : r.length = g.length := hrg
 have hqg' : q.length = g.length := hqg
 have HVG := lh hvg'
 have HRG := lh hrg'
 have HQG := lh hqg'
 have hv10 : v.length ≤ 10 := by omega
 have hr10 : r.length ≤ 10 := by omega
 have hq10 : q.length ≤ 10 := by omega
 have hv0 : 0 < v.length := by omega
 have hr0 : 0 < r.length := by omega
 have hq0 : 0 < q.length := by omega
 have hjq : j < q.length := by omega
 have hjr : j < r.length := by omega
 clear hE hC hX hG hvg hrg hqg h10 hvg' hrg' hqg' hxx
 go_enter Tryz.func33, Tryz.ntmps33
 go_wp2_with fail
 refine (HV.out _ (H.out.ext E0.out) (Hv.out.ext E0.out) (Hr.out.ext E0.out) (Hq.out.ext E0.out)).mono ?_
 rintro e w1 ⟨rfl, he1⟩
 rw [HE.out]
 have U1 := lh ((Ext.rfl' (World.alloc (World.alloc (World.alloc w (.cells #[.slice A g.length c] 25)) (.cells #[.slice Av v.length cv, .slice Ar r.length cr, .slice Aq q.length cq] 29)) (.cells #[.slice none 0 0, .slice none 0 0, .slice none 0 0] 29))).tr he1)
 have E1 := lh (E0.out.tr U1.out)
 have lg_1 := U1.out.cellE Qlg.out
 have lv_1 := U1.out.cellE Qlv.out
 have lr_1 := U1.out.cellE Qlr.out
 have lq_1 := U1.out.cellE Qlq.out
 clear he1 
 have blg_1 := blt lg_1
 have blv_1 := blt lv_1
 have blr_1 := blt lr_1
 have blq_1 := blt lq_1
 go_wp2_with fail
 refine (HI.out _).mono ?_
 rintro e w2 ⟨rfl, he2⟩
 rw [HX.out]
 have U2 := lh ((Ext.rfl' w1).tr he2)
 have E2 := lh (E1.out.tr U2.out)
 have lg_2 := U2.out.cellE lg_1
 have lv_2 := U2.out.cellE lv_1
 have lr_2 := U2.out.cellE lr_1
 have lq_2 := U2.out.cellE lq_1
 clear he2 lg_1 lv_1 lr_1 lq_1 blg_1 blv_1 blr_1 blq_1
 have blg_2 := blt lg_2
 have blv_2 := blt lv_2
 have blr_2 := blt lr_2
 have blq_2 := blt lq_2
 go_wp2_with fail
 refine (HC.out _ (H.out.ext E2.out)).mono ?_
 rintro e w3 ⟨rfl, he3⟩
 rw [HCC.out]
 have U3 := lh ((Ext.rfl' w2).tr he3)
 have E3 := lh (E2.out.tr U3.out)
 have lg_3 := U3.out.cellE lg_2
 have lv_3 := U3.out.cellE lv_2
 have lr_3 := U3.out.cellE lr_2
 have lq_3 := U3.out.cellE lq_2
 clear he3 lg_2 lv_2 lr_2 lq_2 blg_2 blv_2 blr_2 blq_2
 have blg_3 := blt lg_3
 have blv_3 := blt lv_3
 have blr_3 := blt lr_3
 have blq_3 := blt lq_3
 have hbz := Bx.lt (BR0.out.ext ((((Ext.rfl' (World.alloc (World.alloc (World.alloc w (.cells #[.slice A g.length c] 25)) (.cells #[.slice Av v.length cv, .slice Ar r.length cr, .slice Aq q.length cq] 29)) (.cells #[.slice none 0 0, .slice none 0 0, .slice none 0 0] 29))).tr U1.out).tr U2.out).tr U3.out))
 go_wp2_with fail
 refine (i_copyZ Av Ar Aq cv cr cq v q r _ (Hv.out.ext E3.out) (Hr.out.l.ext E3.out) (Hq.out.ext E3.out) hvl hql).mono ?_
 rintro e w4 ⟨A1, c1, A2, c2, A3, c3, hs, rfl, hoz, he4⟩
 obtain ⟨gr, rfl, hgr1⟩ := hoz.r.out.at_ (by simpa using hr0)
 obtain ⟨gq, rfl, hgq1⟩ := hoz.q.at_ (by simpa using hq0)
 have hgr2 : gr < w4.heap.size := (hoz.r.out.lt (g := gr) rfl).2
 have hgq2 : gq < w4.heap.size := (hoz.q.lt (g := gq) rfl).2
 have hne : gq ≠ gr := fun e => hoz.e gq rfl (.inl (by rw [e]; rfl))
 have OZ0 := lh hoz
 clear hoz
 have U4 := lh ((Ext.rfl' w3).tr he4)
 have E4 := lh (E3.out.tr U4.out)
 have lg_4 := U4.out.cellE lg_3
 have lv_4 := U4.out.cellE lv_3
 have lr_4 := U4.out.cellE lr_3
 have lq_4 := U4.out.cellE lq_3
 clear he4 lg_3 lv_3 lr_3 lq_3 blg_3 blv_3 blr_3 blq_3
 have blg_4 := blt lg_4
 have blv_4 := blt lv_4
 have blr_4 := blt lr_4
 have blq_4 := blt lq_4
 go_upto_region 4 with fail
 have he5 := Ext.rfl' (World.alloc w4 (.cells #[.slice A1 v.length c1, .slice (some ⟨gr, 0, none⟩) r.length c2, .slice (some ⟨gq, 0, none⟩) q.length c3] 29))
 have U5 := lh ((Ext.al (Ext.rfl' w4) (.cells #[.slice A1 v.length c1, .slice (some ⟨gr, 0, none⟩) r.length c2, .slice (some ⟨gq, 0, none⟩) q.length c3] 29)).tr he5)
 have E5 := lh (E4.out.tr U5.out)
 have lg_5 := U5.out.cellE lg_4
 have lv_5 := U5.out.cellE lv_4
 have lr_5 := U5.out.cellE lr_4
 have lq_5 := U5.out.cellE lq_4
 have ov_5 := he5.cellE (show World.cell? (World.alloc w4 (.cells #[.slice A1 v.length c1, .slice (some ⟨gr, 0, none⟩) r.length c2, .slice (some ⟨gq, 0, none⟩) q.length c3] 29)) ⟨w4.heap.size, 0, none⟩ = some (.slice A1 v.length c1) by simp [go_sem])
 have or_5 := he5.cellE (show World.cell? (World.alloc w4 (.cells #[.slice A1 v.length c1, .slice (some ⟨gr, 0, none⟩) r.length c2, .slice (some ⟨gq, 0, none⟩) q.length c3] 29)) ⟨w4.heap.size, 1, none⟩ = some (.slice (some ⟨gr, 0, none⟩) r.length c2) by simp [go_sem])
 have oq_5 := he5.cellE (show World.cell? (World.alloc w4 (.cells #[.slice A1 v.length c1, .slice (some ⟨gr, 0, none⟩) r.length c2, .slice (some ⟨gq, 0, none⟩) q.length c3] 29)) ⟨w4.heap.size, 2, none⟩ = some (.slice (some ⟨gq, 0, none⟩) q.length c3) by simp [go_sem])
 clear he5 lg_4 lv_4 lr_4 lq_4 blg_4 blv_4 blr_4 blq_4
 have blg_5 := blt lg_5
 have blv_5 := blt lv_5
 have blr_5 := blt lr_5
 have blq_5 := blt lq_5
 have bov_5 := blt ov_5
 have bor_5 := blt or_5
 have boq_5 := blt oq_5
 generalize (World.alloc w4 (.cells #[.slice A1 v.length c1, .slice (some ⟨gr, 0, none⟩) r.length c2, .slice (some ⟨gq, 0, none⟩) q.length c3] 29)) = w5 at *
 have OZ := lh (OZ0.out.ext (Ext.tr (Ext.rfl' _) U5.out))
 have BR := lh (BR0.out.ext ((((((Ext.rfl' (World.alloc (World.alloc (World.alloc w (.cells #[.slice A g.length c] 25)) (.cells #[.slice Av v.length cv, .slice Ar r.length cr, .slice Aq q.length cq] 29)) (.cells #[.slice none 0 0, .slice none 0 0, .slice none 0 0] 29))).tr U1.out).tr U2.out).tr U3.out).tr U4.out).tr U5.out))
 have hzz := U5.out.size
 have hbl := BR.out.lt
 obtain ⟨l0, _, _, Al0, cl0, hl0, hAe, hlc, _, _⟩ := (OwnL.rdL OZ.out.r (show r.length ≤ 1048576 by omega) HRS0.out).at_ hjr
 simp only [Option.some.injEq, Addr.mk.injEq, and_true] at hAe
 obtain ⟨rfl, rfl⟩ := hAe
 simp only [Nat.zero_add] at hlc
 have blc := blt hlc
 have frk := OZ.out.r.out.free j
 obtain ⟨z, hz⟩ : ∃ z, q[j]? = some z := ⟨_, List.getElem?_eq_getElem hjq⟩
 have cz := OZ.out.q.cell (j := j) (u := .int .i64 z) (by rw [ints_at, hz]; rfl)
 have fz := OZ.out.q.free j
 have bz := blt cz
 clear hz hl0
 have ob : w4.heap.size < w5.heap.size := blt ov_5
 have hd1 := Mod.set (Mod.rfl' (fun b => b = gr) w5) (p := ⟨gr, j, none⟩) (.inl rfl) (.slice none 0 0)
 have ov1 := hd1.cellE ov_5 (by omega)
 have or1 := hd1.cellE or_5 (by omega)
 have oq1 := hd1.cellE oq_5 (by omega)
 have hd2 := Mod.set (Mod.rfl' (fun b => b = gq) (World.setCell w5 ⟨gr, j, none⟩ (.slice none 0 0))) (p := ⟨gq, j, none⟩) (.inl rfl) (.int .i64 2)
 have ov2 := hd2.cellE ov1 (by omega)
 have or2 := hd2.cellE or1 (by omega)
 have oq2 := hd2.cellE oq1 (by omega)
 have HD1 := lh hd1
 have HD2 := lh hd2
 clear hd1 hd2
 refine wp_region_held_drew (S := (fun W => W.cell? ⟨w4.heap.size, 1, none⟩ = some (.slice (some ⟨gr, 0, none⟩) r.length c2) ∧ W.cell? ⟨w4.heap.size, 2, none⟩ = some (.slice (some ⟨gq, 0, none⟩) q.length c3))) (by kernel_rfl) ?_ (fun hHeld => ?_)
 ·exact ⟨((Ext.rfl' _).dr).cellE or_5, ((Ext.rfl' _).dr).cellE oq_5⟩
 refine ty 0 ?_
 refine ty 1 ?_
 refine ty 2 ?_
 refine ty 3 ?_
 refine ty 4 ?_
 refine ty 5 ?_
 refine ty 6 ?_
 refine rd1 7 rfl fun K hK => ?_
 go_simp
 refine hK.out _ _ (by exact ⟨((Ext.rfl' _).dr).cellE or1, ((Ext.rfl' _).dr).cellE oq1⟩) fun hh2 => ?_; clear hK K hHeld; have hHeld := hh2; clear hh2
 try simp only [Act.put]
 refine ty 8 ?_
 refine rd1 9 rfl fun K hK => ?_
 go_simp
 refine hK.out _ _ (by exact ⟨((Ext.rfl' _).dr).cellE or2, ((Ext.rfl' _).dr).cellE oq2⟩) fun hh2 => ?_; clear hK K hHeld; have hHeld := hh2; clear hh2
 try simp only [Act.put]
 refine dn ?_
 clear ov_5 or_5 oq_5 lg_5 lv_5 lr_5 lq_5 cz fz bz or1 ov1 oq1 hlc frk blc hHeld
 have hq2 := (OZ.out.q.mod HD1.out (fun b hb e => by simp [blk] at hb; omega)).st j (.int .i64 2)
 rw [ints_set] at hq2
 have hq3 := hq2.ext ((Ext.rfl' _).dr)
 have Q2 := lh (show Own (World.setCell (World.setCell w5 ⟨gr, j, none⟩ (.slice none 0 0)) ⟨gq, j, none⟩ (.int .i64 2)).drew w3.heap.size 3 1 (some ⟨gq, 0, none⟩) (q.set j 2).length c3 (ints (q.set j 2)) by simpa using hq3)
 have M2 := lh (show Mod (fun b => b = gq) (World.setCell w5 ⟨gr, j, none⟩ (.slice none 0 0)) (World.setCell (World.setCell w5 ⟨gr, j, none⟩ (.slice none 0 0)) ⟨gq, j, none⟩ (.int .i64 2)).drew from HD2.out.tr' (Mod.of ((Ext.rfl' _).dr)))
 have hB0 : w3.heap.size ≤ w5.heap.size := by have := (OZ.out.q.lt (g := gq) rfl).1; omega
 have hnil := lh (show Own w5 w5.heap.size 3 1 none ([] : List Int).length 0 (ints []) by simpa [ints] using Own.nil w5 w5.heap.size 3 1)
 have RL2 := lh (OwnZ.putRd OZ.out hB0 (Ext.rfl' _) hnil.out hjr (by omega) HRS.out)
 have BR2 := lh (((BR.out.mod HD1.out (by omega)).mod HD2.out (by omega)).ext ((Ext.rfl' _).dr))
 have MW2 := lh ((((Ext.md E5.out HD1.out (fun b e => by omega))).md HD2.out (fun b e => by omega)).dr)
 have ov3 := ((Ext.rfl' _).dr).cellE ov2
 have or3 := ((Ext.rfl' _).dr).cellE or2
 have oq3 := ((Ext.rfl' _).dr).cellE oq2
 clear hq2 hq3 ov2 or2 oq2
 have HDB := i_doubt w3.heap.size j gq A1 (some ⟨gr, 0, none⟩) v.length c1 c2 c3 (q.set j 2) (r.set j []) _ HA.out (by simp [HRG.out, HQG.out]) (by simp; omega) (by simpa using hjq) (fun W m => RL2.out W (M2.out.tr' m)) Q2.out
 simp only [List.length_set] at HDB
 have HDB2 := lh HDB
 clear HDB
 have bov3 := blt ov3
 generalize (World.setCell (World.setCell w5 ⟨gr, j, none⟩ (.slice none 0 0)) ⟨gq, j, none⟩ (.int .i64 2)).drew = w9 at *
 go_wp2_with fail
 refine HDB2.out.mono ?_
 rintro e wf ⟨rfl, hq6, hm6⟩
 have Q6 := lh hq6
 have M6 := lh hm6
 have hbl2 := BR2.out.lt
 have BRf := lh (BR2.out.mod hm6 (by omega))
 have ov_f := hm6.cellE ov3 (by omega)
 have or_f := hm6.cellE or3 (by omega)
 have oq_f := hm6.cellE oq3 (by omega)
 have bov := blt ov_f
 clear hq6 hm6 ov3 or3 oq3 bov3 HDB2
 have f0 := BRf.out.free 0
 have f1 := BRf.out.free 1
 have f2 := BRf.out.free 2
 have x0 := BRf.out.cell (j := 0) rfl
 have x1 := BRf.out.cell (j := 1) rfl
 have x2 := BRf.out.cell (j := 2) rfl
 have bl := BRf.out.lt
 go_wp2
 have s0 : ∀ u0 u1 u2 : Value, World.cell? (World.setCell (World.setCell (World.setCell wf ⟨w.heap.size + 1 + 1, 0, none⟩ u0) ⟨w.heap.size + 1 + 1, 1, none⟩ u1) ⟨w.heap.size + 1 + 1, 2, none⟩ u2) ⟨w.heap.size + 1 + 1, 0, none⟩ = some u0 := fun u0 u1 u2 => (((BRf.out.set 0 u0).set 1 u1).set 2 u2).cell (j := 0) rfl
 have s1 : ∀ u0 u1 u2 : Value, World.cell? (World.setCell (World.setCell (World.setCell wf ⟨w.heap.size + 1 + 1, 0, none⟩ u0) ⟨w.heap.size + 1 + 1, 1, none⟩ u1) ⟨w.heap.size + 1 + 1, 2, none⟩ u2) ⟨w.heap.size + 1 + 1, 1, none⟩ = some u1 := fun u0 u1 u2 => (((BRf.out.set 0 u0).set 1 u1).set 2 u2).cell (j := 1) rfl
 have s2 : ∀ u0 u1 u2 : Value, World.cell? (World.setCell (World.setCell (World.setCell wf ⟨w.heap.size + 1 + 1, 0, none⟩ u0) ⟨w.heap.size + 1 + 1, 1, none⟩ u1) ⟨w.heap.size + 1 + 1, 2, none⟩ u2) ⟨w.heap.size + 1 + 1, 2, none⟩ = some u2 := fun u0 u1 u2 => (((BRf.out.set 0 u0).set 1 u1).set 2 u2).cell (j := 2) rfl
 refine bodyPost_ret (v := .tuple #[.agg #[.slice A1 v.length c1, .slice (some ⟨gr, 0, none⟩) r.length c2, .slice (some ⟨gq, 0, none⟩) q.length c3], .bool true]) (by simp [results, Tryz.results33, go_sem, s0, s1, s2]; try rfl) rfl ?_
 have hS := Mod.set (F := fun b => b = w.heap.size + 1 + 1) (Mod.set (F := fun b => b = w.heap.size + 1 + 1) (Mod.set (F := fun b => b = w.heap.size + 1 + 1) (Mod.rfl' (fun b => b = w.heap.size + 1 + 1) wf) (p := ⟨w.heap.size + 1 + 1, 0, none⟩) (.inl rfl) (.slice A1 v.length c1)) (p := ⟨w.heap.size + 1 + 1, 1, none⟩) (.inl rfl) (.slice (some ⟨gr, 0, none⟩) r.length c2)) (p := ⟨w.heap.size + 1 + 1, 2, none⟩) (.inl rfl) (.slice (some ⟨gq, 0, none⟩) q.length c3)
 rw [HS.out]
 have hT := OwnZ.turn2 OZ.out hB0 (Ext.rfl' _) hnil.out hjr (q' := Sg.doubtC (r.set j []) (q.set j 2) j) Q6.out (M2.out.tr' M6.out) (by simp)
 refine ⟨A1, c1, some ⟨gr, 0, none⟩, c2, some ⟨gq, 0, none⟩, c3, hs.set j (none, 0), ?_, ?_, ((((Ext.md MW2.out M6.out (fun b e => by omega)).set (p := ⟨w.heap.size + 1 + 1, 0, none⟩) (show w.heap.size ≤ w.heap.size + 1 + 1 by omega) _).set (p := ⟨w.heap.size + 1 + 1, 1, none⟩) (show w.heap.size ≤ w.heap.size + 1 + 1 by omega) _).set (p := ⟨w.heap.size + 1 + 1, 2, none⟩) (show w.heap.size ≤ w.heap.size + 1 + 1 by omega) _)⟩
 ·simp [Sg.forgetL]
 ·exact (hT.mod hS (fun b hb e => by have := (OwnZ.lt hT hb).1; omega)).mono (B' := w.heap.size) (by omega)
end Go.Proofs.YtmkfjnkdaeoppaaGreat
