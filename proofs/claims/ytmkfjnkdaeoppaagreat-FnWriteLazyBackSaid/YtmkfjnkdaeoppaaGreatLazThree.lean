/- Parts of one proof, joined. WriteLazy of the program: its contract. Conditions: bounds on lengths. WriteLazy of the reference: its contract. Conditions: bounds on lengths. -/
import Derived.Test.YtmkfjnkdaeoppaaGreatLazSmall
import Derived.Test.YtmkfjnkdaeoppaaGreatTy
/- WriteLazy of the program: its contract. Conditions: bounds on lengths. -/
namespace Go.Proofs.YtmkfjnkdaeoppaaGreat
open Go.RowKit

set_option maxRecDepth 100000 in
set_option maxHeartbeats 8000000 in
theorem i_WriteLazy (A Av Ar Aq : Option Addr) (c cv cr cq : Nat) (g : Sg.Graph) (v q : List Int) (r : List (List Int)) (n x : Int) (w : World) (h : RdN w A g) (hv : Rd w 1 Av v.length (ints v)) (hr : RdLC w Ar r) (hq : Rd w 1 Aq q.length (ints q)) (hvl : v.length ≤ 1048576) (hql : q.length ≤ 1048576) :
  Calls Tryz.prog 36 #[.agg #[.slice A g.length c], .agg #[.slice Av v.length cv, .slice Ar r.length cr, .slice Aq q.length cq], .int .i64 n, .int .i64 x] w fun e w' => ∃ A1 c1 A2 c2 A3 c3 hs, e = .returned (.tuple #[.agg #[.slice A1 (Sg.writeLO g ⟨v, r, q⟩ n x).1.vals.length c1, .slice A2 (Sg.writeLO g ⟨v, r, q⟩ n x).1.reads.length c2, .slice A3 (Sg.writeLO g ⟨v, r, q⟩ n x).1.cols.length c3], .bool (Sg.writeLO g ⟨v, r, q⟩ n x).2]) ∧
   OwnZ w' w.heap.size A1 c1 A2 c2 A3 c3 hs (Sg.writeLO g ⟨v, r, q⟩ n x).1 ∧ Ext w w' := by
 have hgl := h.1
 have HV := lh (fun w h hv hr hq => i_ValidLazy A Av Ar Aq c cv cr cq g v q r w h hv hr hq hvl hql)
 have HC := lh (fun w h => i_cellB A c g n w h)
 have HI := lh (fun w => i_in x 0 999 w)
 have H := lh h
 have Hv := lh hv
 have Hr := lh hr
 have Hq := lh hq
 clear h hv hr hq
 have b0 := Bx.new (World.alloc (World.alloc w (.cells #[.slice A g.length c] 25)) (.cells #[.slice Av v.length cv, .slice Ar r.length cr, .slice Aq q.length cq] 29)) #[.slice none 0 0, .slice none 0 0, .slice none 0 0] 29
 simp only [World.size_alloc] at b0
 have BR0 := lh b0
 clear b0
 have E0 := lh (((((Ext.rfl' w).al (.cells #[.slice A g.length c] 25)).al (.cells #[.slice Av v.length cv, .slice Ar r.length cr, .slice Aq q.length cq] 29)).al (.cells #[.slice none 0 0, .slice none 0 0, .slice none 0 0] 29)) : Ext w (World.alloc (World.alloc (World.alloc w (.cells #[.slice A g.length c] 25)) (.cells #[.slice Av v.length cv, .slice Ar r.length cr, .slice Aq q.length cq] 29)) (.cells #[.slice none 0 0, .slice none 0 0, .slice none 0 0] 29)))
 have qlg : World.cell? (World.alloc (World.alloc (World.alloc w (.cells #[.slice A g.length c] 25)) (.cells #[.slice Av v.length cv, .slice Ar r.length cr, .slice Aq q.length cq] 29)) (.cells #[.slice none 0 0, .slice none 0 0, .slice none 0 0] 29)) ⟨w.heap.size, 0, none⟩ = some (.slice A g.length c) := by simp [go_sem]
 have Qlg := lh qlg
 clear qlg
 have qlv : World.cell? (World.alloc (World.alloc (World.alloc w (.cells #[.slice A g.length c] 25)) (.cells #[.slice Av v.length cv, .slice Ar r.length cr, .slice Aq q.length cq] 29)) (.cells #[.slice none 0 0, .slice none 0 0, .slice none 0 0] 29)) ⟨w.heap.size + 1, 0, none⟩ = some (.slice Av v.length cv) := by simp [go_sem]
 have Qlv := lh qlv
 clear qlv
 have qlr : World.cell? (World.alloc (World.alloc (World.alloc w (.cells #[.slice A g.length c] 25)) (.cells #[.slice Av v.length cv, .slice Ar r.length cr, .slice Aq q.length cq] 29)) (.cells #[.slice none 0 0, .slice none 0 0, .slice none 0 0] 29)) ⟨w.heap.size + 1, 1, none⟩ = some (.slice Ar r.length cr) := by simp [go_sem]
 have Qlr := lh qlr
 clear qlr
 have qlq : World.cell? (World.alloc (World.alloc (World.alloc w (.cells #[.slice A g.length c] 25)) (.cells #[.slice Av v.length cv, .slice Ar r.length cr, .slice Aq q.length cq] 29)) (.cells #[.slice none 0 0, .slice none 0 0, .slice none 0 0] 29)) ⟨w.heap.size + 1, 2, none⟩ = some (.slice Aq q.length cq) := by simp [go_sem]
 have Qlq := lh qlq
 clear qlq
 cases hE : Sg.validL g ⟨v, r, q⟩
 ·have HE := lh hE
  have HS := lh (show Sg.writeLO g ⟨v, r, q⟩ n x = (⟨[], [], []⟩, false) by unfold Sg.writeLO Sg.mayWriteL; rw [hE]; rfl)
  clear hE
  go_enter Tryz.func36, Tryz.ntmps36
  go_wp2_with fail
  refine (HV.out _ (H.out.ext E0.out) (Hv.out.ext E0.out) (Hr.out.ext E0.out) (Hq.out.ext E0.out)).mono ?_
  rintro e w1 ⟨rfl, he1⟩
  rw [HE.out]
  have U1 := lh ((Ext.rfl' (World.alloc (World.alloc (World.alloc w (.cells #[.slice A g.length c] 25)) (.cells #[.slice Av v.length cv, .slice Ar r.length cr, .slice Aq q.length cq] 29)) (.cells #[.slice none 0 0, .slice none 0 0, .slice none 0 0] 29))).tr he1)
  have E1 := lh (E0.out.tr U1.out)
  have lg_1 := U1.out.cellE Qlg.out
  have lv_1 := U1.out.cellE Qlv.out
  have lr_1 := U1.out.cellE Qlr.out
  have lq_1 := U1.out.cellE Qlq.out
  clear he1 
  have blg_1 := blt lg_1
  have blv_1 := blt lv_1
  have blr_1 := blt lr_1
  have blq_1 := blt lq_1
  have BR := lh (BR0.out.ext ((Ext.rfl' (World.alloc (World.alloc (World.alloc w (.cells #[.slice A g.length c] 25)) (.cells #[.slice Av v.length cv, .slice Ar r.length cr, .slice Aq q.length cq] 29)) (.cells #[.slice none 0 0, .slice none 0 0, .slice none 0 0] 29))).tr U1.out))
  have f0 := BR.out.free 0
  have f1 := BR.out.free 1
  have f2 := BR.out.free 2
  have x0 := BR.out.cell (j := 0) rfl
  have x1 := BR.out.cell (j := 1) rfl
  have x2 := BR.out.cell (j := 2) rfl
  have bl := BR.out.lt
  go_wp2
  have s0 : ∀ u0 u1 u2 : Value, World.cell? (World.setCell (World.setCell (World.setCell w1 ⟨w.heap.size + 1 + 1, 0, none⟩ u0) ⟨w.heap.size + 1 + 1, 1, none⟩ u1) ⟨w.heap.size + 1 + 1, 2, none⟩ u2) ⟨w.heap.size + 1 + 1, 0, none⟩ = some u0 := fun u0 u1 u2 => (((BR.out.set 0 u0).set 1 u1).set 2 u2).cell (j := 0) rfl
  have s1 : ∀ u0 u1 u2 : Value, World.cell? (World.setCell (World.setCell (World.setCell w1 ⟨w.heap.size + 1 + 1, 0, none⟩ u0) ⟨w.heap.size + 1 + 1, 1, none⟩ u1) ⟨w.heap.size + 1 + 1, 2, none⟩ u2) ⟨w.heap.size + 1 + 1, 1, none⟩ = some u1 := fun u0 u1 u2 => (((BR.out.set 0 u0).set 1 u1).set 2 u2).cell (j := 1) rfl
  have s2 : ∀ u0 u1 u2 : Value, World.cell? (World.setCell (World.setCell (World.setCell w1 ⟨w.heap.size + 1 + 1, 0, none⟩ u0) ⟨w.heap.size + 1 + 1, 1, none⟩ u1) ⟨w.heap.size + 1 + 1, 2, none⟩ u2) ⟨w.heap.size + 1 + 1, 2, none⟩ = some u2 := fun u0 u1 u2 => (((BR.out.set 0 u0).set 1 u1).set 2 u2).cell (j := 2) rfl
  refine bodyPost_ret (v := .tuple #[.agg #[.slice none 0 0, .slice none 0 0, .slice none 0 0], .bool false]) (by simp [results, Tryz.results36, go_sem, s0, s1, s2]; try rfl) rfl ?_
  have hS := Mod.set (F := fun b => b = w.heap.size + 1 + 1) (Mod.set (F := fun b => b = w.heap.size + 1 + 1) (Mod.set (F := fun b => b = w.heap.size + 1 + 1) (Mod.rfl' (fun b => b = w.heap.size + 1 + 1) w1) (p := ⟨w.heap.size + 1 + 1, 0, none⟩) (.inl rfl) (.slice none 0 0)) (p := ⟨w.heap.size + 1 + 1, 1, none⟩) (.inl rfl) (.slice none 0 0)) (p := ⟨w.heap.size + 1 + 1, 2, none⟩) (.inl rfl) (.slice none 0 0)
  rw [HS.out]
  exact ⟨none, 0, none, 0, none, 0, [], rfl, OwnZ.nil _ _, (((E1.out.set (p := ⟨w.heap.size + 1 + 1, 0, none⟩) (show w.heap.size ≤ w.heap.size + 1 + 1 by omega) _).set (p := ⟨w.heap.size + 1 + 1, 1, none⟩) (show w.heap.size ≤ w.heap.size + 1 + 1 by omega) _).set (p := ⟨w.heap.size + 1 + 1, 2, none⟩) (show w.heap.size ≤ w.heap.size + 1 + 1 by omega) _)⟩
 have HE := lh hE
 cases hC : Sg.isCell g n
 ·have HCC := lh hC
  have HS := lh (show Sg.writeLO g ⟨v, r, q⟩ n x = (⟨[], [], []⟩, false) by unfold Sg.writeLO Sg.mayWriteL; rw [hE, hC]; rfl)
  clear hE hC
  go_enter Tryz.func36, Tryz.ntmps36
  go_wp2_with fail
  refine (HV.out _ (H.out.ext E0.out) (Hv.out.ext E0.out) (Hr.out.ext E0.out) (Hq.out.ext E0.out)).mono ?_
  rintro e w1 ⟨rfl, he1⟩
  rw [HE.out]
  have U1 := lh ((Ext.rfl' (World.alloc (World.alloc (World.alloc w (.cells #[.slice A g.length c] 25)) (.cells #[.slice Av v.length cv, .slice Ar r.length cr, .slice Aq q.length cq] 29)) (.cells #[.slice none 0 0, .slice none 0 0, .slice none 0 0] 29))).tr he1)
  have E1 := lh (E0.out.tr U1.out)
  have lg_1 := U1.out.cellE Qlg.out
  have lv_1 := U1.out.cellE Qlv.out
  have lr_1 := U1.out.cellE Qlr.out
  have lq_1 := U1.out.cellE Qlq.out
  clear he1 
  have blg_1 := blt lg_1
  have blv_1 := blt lv_1
  have blr_1 := blt lr_1
  have blq_1 := blt lq_1
  go_wp2_with fail
  refine (HC.out _ (H.out.ext E1.out)).mono ?_
  rintro e w2 ⟨rfl, he2⟩
  rw [HCC.out]
  have U2 := lh ((Ext.rfl' w1).tr he2)
  have E2 := lh (E1.out.tr U2.out)
  have lg_2 := U2.out.cellE lg_1
  have lv_2 := U2.out.cellE lv_1
  have lr_2 := U2.out.cellE lr_1
  have lq_2 := U2.out.cellE lq_1
  clear he2 lg_1 lv_1 lr_1 lq_1 blg_1 blv_1 blr_1 blq_1
  have blg_2 := blt lg_2
  have blv_2 := blt lv_2
  have blr_2 := blt lr_2
  have blq_2 := blt lq_2
  have BR := lh (BR0.out.ext (((Ext.rfl' (World.alloc (World.alloc (World.alloc w (.cells #[.slice A g.length c] 25)) (.cells #[.slice Av v.length cv, .slice Ar r.length cr, .slice Aq q.length cq] 29)) (.cells #[.slice none 0 0, .slice none 0 0, .slice none 0 0] 29))).tr U1.out).tr U2.out))
  have f0 := BR.out.free 0
  have f1 := BR.out.free 1
  have f2 := BR.out.free 2
  have x0 := BR.out.cell (j := 0) rfl
  have x1 := BR.out.cell (j := 1) rfl
  have x2 := BR.out.cell (j := 2) rfl
  have bl := BR.out.lt
  go_wp2
  have s0 : ∀ u0 u1 u2 : Value, World.cell? (World.setCell (World.setCell (World.setCell w2 ⟨w.heap.size + 1 + 1, 0, none⟩ u0) ⟨w.heap.size + 1 + 1, 1, none⟩ u1) ⟨w.heap.size + 1 + 1, 2, none⟩ u2) ⟨w.heap.size + 1 + 1, 0, none⟩ = some u0 := fun u0 u1 u2 => (((BR.out.set 0 u0).set 1 u1).set 2 u2).cell (j := 0) rfl
  have s1 : ∀ u0 u1 u2 : Value, World.cell? (World.setCell (World.setCell (World.setCell w2 ⟨w.heap.size + 1 + 1, 0, none⟩ u0) ⟨w.heap.size + 1 + 1, 1, none⟩ u1) ⟨w.heap.size + 1 + 1, 2, none⟩ u2) ⟨w.heap.size + 1 + 1, 1, none⟩ = some u1 := fun u0 u1 u2 => (((BR.out.set 0 u0).set 1 u1).set 2 u2).cell (j := 1) rfl
  have s2 : ∀ u0 u1 u2 : Value, World.cell? (World.setCell (World.setCell (World.setCell w2 ⟨w.heap.size + 1 + 1, 0, none⟩ u0) ⟨w.heap.size + 1 + 1, 1, none⟩ u1) ⟨w.heap.size + 1 + 1, 2, none⟩ u2) ⟨w.heap.size + 1 + 1, 2, none⟩ = some u2 := fun u0 u1 u2 => (((BR.out.set 0 u0).set 1 u1).set 2 u2).cell (j := 2) rfl
  refine bodyPost_ret (v := .tuple #[.agg #[.slice none 0 0, .slice none 0 0, .slice none 0 0], .bool false]) (by simp [results, Tryz.results36, go_sem, s0, s1, s2]; try rfl) rfl ?_
  have hS := Mod.set (F := fun b => b = w.heap.size + 1 + 1) (Mod.set (F := fun b => b = w.heap.size + 1 + 1) (Mod.set (F := fun b => b = w.heap.size + 1 + 1) (Mod.rfl' (fun b => b = w.heap.size + 1 + 1) w2) (p := ⟨w.heap.size + 1 + 1, 0, none⟩) (.inl rfl) (.slice none 0 0)) (p := ⟨w.heap.size + 1 + 1, 1, none⟩) (.inl rfl) (.slice none 0 0)) (p := ⟨w.heap.size + 1 + 1, 2, none⟩) (.inl rfl) (.slice none 0 0)
  rw [HS.out]
  exact ⟨none, 0, none, 0, none, 0, [], rfl, OwnZ.nil _ _, (((E2.out.set (p := ⟨w.heap.size + 1 + 1, 0, none⟩) (show w.heap.size ≤ w.heap.size + 1 + 1 by omega) _).set (p := ⟨w.heap.size + 1 + 1, 1, none⟩) (show w.heap.size ≤ w.heap.size + 1 + 1 by omega) _).set (p := ⟨w.heap.size + 1 + 1, 2, none⟩) (show w.heap.size ≤ w.heap.size + 1 + 1 by omega) _)⟩
 have HCC := lh hC
 cases hX : Sg.inR x 0 999
 ·have HX := lh hX
  have HS := lh (show Sg.writeLO g ⟨v, r, q⟩ n x = (⟨[], [], []⟩, false) by unfold Sg.writeLO Sg.mayWriteL; rw [hE, hC, hX]; rfl)
  clear hE hC hX
  go_enter Tryz.func36, Tryz.ntmps36
  go_wp2_with fail
  refine (HV.out _ (H.out.ext E0.out) (Hv.out.ext E0.out) (Hr.out.ext E0.out) (Hq.out.ext E0.out)).mono ?_
  rintro e w1 ⟨rfl, he1⟩
  rw [HE.out]
  have U1 := lh ((Ext.rfl' (World.alloc (World.alloc (World.alloc w (.cells #[.slice A g.length c] 25)) (.cells #[.slice Av v.length cv, .slice Ar r.length cr, .slice Aq q.length cq] 29)) (.cells #[.slice none 0 0, .slice none 0 0, .slice none 0 0] 29))).tr he1)
  have E1 := lh (E0.out.tr U1.out)
  have lg_1 := U1.out.cellE Qlg.out
  have lv_1 := U1.out.cellE Qlv.out
  have lr_1 := U1.out.cellE Qlr.out
  have lq_1 := U1.out.cellE Qlq.out
  clear he1 
  have blg_1 := blt lg_1
  have blv_1 := blt lv_1
  have blr_1 := blt lr_1
  have blq_1 := blt lq_1
  go_wp2_with fail
  refine (HC.out _ (H.out.ext E1.out)).mono ?_
  rintro e w2 ⟨rfl, he2⟩
  rw [HCC.out]
  have U2 := lh ((Ext.rfl' w1).tr he2)
  have E2 := lh (E1.out.tr U2.out)
  have lg_2 := U2.out.cellE lg_1
  have lv_2 := U2.out.cellE lv_1
  have lr_2 := U2.out.cellE lr_1
  have lq_2 := U2.out.cellE lq_1
  clear he2 lg_1 lv_1 lr_1 lq_1 blg_1 blv_1 blr_1 blq_1
  have blg_2 := blt lg_2
  have blv_2 := blt lv_2
  have blr_2 := blt lr_2
  have blq_2 := blt lq_2
  go_wp2_with fail
  refine (HI.out _).mono ?_
  rintro e w' ⟨rfl, rfl⟩
  rw [HX.out]
  have BR := lh (BR0.out.ext (((Ext.rfl' (World.alloc (World.alloc (World.alloc w (.cells #[.slice A g.length c] 25)) (.cells #[.slice Av v.length cv, .slice Ar r.length cr, .slice Aq q.length cq] 29)) (.cells #[.slice none 0 0, .slice none 0 0, .slice none 0 0] 29))).tr U1.out).tr U2.out))
  have f0 := BR.out.free 0
  have f1 := BR.out.free 1
  have f2 := BR.out.free 2
  have x0 := BR.out.cell (j := 0) rfl
  have x1 := BR.out.cell (j := 1) rfl
  have x2 := BR.out.cell (j := 2) rfl
  have bl := BR.out.lt
  go_wp2
  have s0 : ∀ u0 u1 u2 : Value, World.cell? (World.setCell (World.setCell (World.setCell w2 ⟨w.heap.size + 1 + 1, 0, none⟩ u0) ⟨w.heap.size + 1 + 1, 1, none⟩ u1) ⟨w.heap.size + 1 + 1, 2, none⟩ u2) ⟨w.heap.size + 1 + 1, 0, none⟩ = some u0 := fun u0 u1 u2 => (((BR.out.set 0 u0).set 1 u1).set 2 u2).cell (j := 0) rfl
  have s1 : ∀ u0 u1 u2 : Value, World.cell? (World.setCell (World.setCell (World.setCell w2 ⟨w.heap.size + 1 + 1, 0, none⟩ u0) ⟨w.heap.size + 1 + 1, 1, none⟩ u1) ⟨w.heap.size + 1 + 1, 2, none⟩ u2) ⟨w.heap.size + 1 + 1, 1, none⟩ = some u1 := fun u0 u1 u2 => (((BR.out.set 0 u0).set 1 u1).set 2 u2).cell (j := 1) rfl
  have s2 : ∀ u0 u1 u2 : Value, World.cell? (World.setCell (World.setCell (World.setCell w2 ⟨w.heap.size + 1 + 1, 0, none⟩ u0) ⟨w.heap.size + 1 + 1, 1, none⟩ u1) ⟨w.heap.size + 1 + 1, 2, none⟩ u2) ⟨w.heap.size + 1 + 1, 2, none⟩ = some u2 := fun u0 u1 u2 => (((BR.out.set 0 u0).set 1 u1).set 2 u2).cell (j := 2) rfl
  refine bodyPost_ret (v := .tuple #[.agg #[.slice none 0 0, .slice none 0 0, .slice none 0 0], .bool false]) (by simp [results, Tryz.results36, go_sem, s0, s1, s2]; try rfl) rfl ?_
  have hS := Mod.set (F := fun b => b = w.heap.size + 1 + 1) (Mod.set (F := fun b => b = w.heap.size + 1 + 1) (Mod.set (F := fun b => b = w.heap.size + 1 + 1) (Mod.rfl' (fun b => b = w.heap.size + 1 + 1) w2) (p := ⟨w.heap.size + 1 + 1, 0, none⟩) (.inl rfl) (.slice none 0 0)) (p := ⟨w.heap.size + 1 + 1, 1, none⟩) (.inl rfl) (.slice none 0 0)) (p := ⟨w.heap.size + 1 + 1, 2, none⟩) (.inl rfl) (.slice none 0 0)
  rw [HS.out]
  exact ⟨none, 0, none, 0, none, 0, [], rfl, OwnZ.nil _ _, (((E2.out.set (p := ⟨w.heap.size + 1 + 1, 0, none⟩) (show w.heap.size ≤ w.heap.size + 1 + 1 by omega) _).set (p := ⟨w.heap.size + 1 + 1, 1, none⟩) (show w.heap.size ≤ w.heap.size + 1 + 1 by omega) _).set (p := ⟨w.heap.size + 1 + 1, 2, none⟩) (show w.heap.size ≤ w.heap.size + 1 + 1 by omega) _)⟩
 have HX := lh hX
 obtain ⟨hG, hvg, hrg, hqg, _⟩ := Sg.validL_shape hE
 have h10 := vG_len hG
 obtain ⟨j, nd, rfl, hnd, _⟩ := Sg.isCell_at hC
 have hj := (List.getElem?_eq_some_iff.1 hnd).1
 have HS := lh (show Sg.writeLO g ⟨v, r, q⟩ (j : Int) x = (Sg.writeL ⟨v, r, q⟩ j x, true) by unfold Sg.writeLO Sg.mayWriteL; rw [hE, hC, hX]; rfl)
 have HA := lh (Sg.ahead_of hE)
 have HCR := lh (Sg.cols_range hE)
 have HRS := lh (show ∀ l ∈ r, l.length ≤ 1048576 from fun l hl => Nat.le_trans (reads_small hE l hl) (by omega))
 have hvg' : v.length = g.length := hvg
 have hrg' : r.length = g.length := hrg
 have hqg' : q.length = g.length := hqg
 have HVG := lh hvg'
 have HRG := lh hrg'
 have HQG := lh hqg'
 have hv10 : v.length ≤ 10 := by omega
 have hr10 : r.length ≤ 10 := by omega
 have hq10 : q.length ≤ 10 := by omega
 have hv0 : 0 < v.length := by omega
 have hq0 : 0 < q.length := by omega
 have hjq : j < q.length := by omega
 clear hE hC hX hG hvg hrg hqg hnd h10 hvg' hrg' hqg'
 go_enter Tryz.func36, Tryz.ntmps36
 go_wp2_with fail
 refine (HV.out _ (H.out.ext E0.out) (Hv.out.ext E0.out) (Hr.out.ext E0.out) (Hq.out.ext E0.out)).mono ?_
 rintro e w1 ⟨rfl, he1⟩
 rw [HE.out]
 have U1 := lh ((Ext.rfl' (World.alloc (World.alloc (World.alloc w (.cells #[.slice A g.length c] 25)) (.cells #[.slice Av v.length cv, .slice Ar r.length cr, .slice Aq q.length cq] 29)) (.cells #[.slice none 0 0, .slice none 0 0, .slice none 0 0] 29))).tr he1)
 have E1 := lh (E0.out.tr U1.out)
 have lg_1 := U1.out.cellE Qlg.out
 have lv_1 := U1.out.cellE Qlv.out
 have lr_1 := U1.out.cellE Qlr.out
 have lq_1 := U1.out.cellE Qlq.out
 clear he1 
 have blg_1 := blt lg_1
 have blv_1 := blt lv_1
 have blr_1 := blt lr_1
 have blq_1 := blt lq_1
 go_wp2_with fail
 refine (HC.out _ (H.out.ext E1.out)).mono ?_
 rintro e w2 ⟨rfl, he2⟩
 rw [HCC.out]
 have U2 := lh ((Ext.rfl' w1).tr he2)
 have E2 := lh (E1.out.tr U2.out)
 have lg_2 := U2.out.cellE lg_1
 have lv_2 := U2.out.cellE lv_1
 have lr_2 := U2.out.cellE lr_1
 have lq_2 := U2.out.cellE lq_1
 clear he2 lg_1 lv_1 lr_1 lq_1 blg_1 blv_1 blr_1 blq_1
 have blg_2 := blt lg_2
 have blv_2 := blt lv_2
 have blr_2 := blt lr_2
 have blq_2 := blt lq_2
 go_wp2_with fail
 refine (HI.out _).mono ?_
 rintro e w' ⟨rfl, rfl⟩
 rw [HX.out]
 have hbz := Bx.lt (BR0.out.ext (((Ext.rfl' (World.alloc (World.alloc (World.alloc w (.cells #[.slice A g.length c] 25)) (.cells #[.slice Av v.length cv, .slice Ar r.length cr, .slice Aq q.length cq] 29)) (.cells #[.slice none 0 0, .slice none 0 0, .slice none 0 0] 29))).tr U1.out).tr U2.out))
 go_wp2_with fail
 refine (i_copyZ Av Ar Aq cv cr cq v q r _ (Hv.out.ext E2.out) (Hr.out.l.ext E2.out) (Hq.out.ext E2.out) hvl hql).mono ?_
 rintro e w3 ⟨A1, c1, A2, c2, A3, c3, hs, rfl, hoz, he3⟩
 obtain ⟨gv, rfl, _⟩ := hoz.v.at_ (by simpa using hv0)
 obtain ⟨gq, rfl, _⟩ := hoz.q.at_ (by simpa using hq0)
 obtain ⟨hne, hgv1, hgv2, hgq1, hgq2⟩ := gvq hoz
 have OZ0 := lh hoz
 clear hoz
 have U3 := lh ((Ext.rfl' w2).tr he3)
 have E3 := lh (E2.out.tr U3.out)
 have lg_3 := U3.out.cellE lg_2
 have lv_3 := U3.out.cellE lv_2
 have lr_3 := U3.out.cellE lr_2
 have lq_3 := U3.out.cellE lq_2
 clear he3 lg_2 lv_2 lr_2 lq_2 blg_2 blv_2 blr_2 blq_2
 have blg_3 := blt lg_3
 have blv_3 := blt lv_3
 have blr_3 := blt lr_3
 have blq_3 := blt lq_3
 go_upto_region 4 with fail
 have he4 := Ext.rfl' (World.alloc w3 (.cells #[.slice (some ⟨gv, 0, none⟩) v.length c1, .slice A2 r.length c2, .slice (some ⟨gq, 0, none⟩) q.length c3] 29))
 have U4 := lh ((Ext.al (Ext.rfl' w3) (.cells #[.slice (some ⟨gv, 0, none⟩) v.length c1, .slice A2 r.length c2, .slice (some ⟨gq, 0, none⟩) q.length c3] 29)).tr he4)
 have E4 := lh (E3.out.tr U4.out)
 have lg_4 := U4.out.cellE lg_3
 have lv_4 := U4.out.cellE lv_3
 have lr_4 := U4.out.cellE lr_3
 have lq_4 := U4.out.cellE lq_3
 have ov_4 := he4.cellE (show World.cell? (World.alloc w3 (.cells #[.slice (some ⟨gv, 0, none⟩) v.length c1, .slice A2 r.length c2, .slice (some ⟨gq, 0, none⟩) q.length c3] 29)) ⟨w3.heap.size, 0, none⟩ = some (.slice (some ⟨gv, 0, none⟩) v.length c1) by simp [go_sem])
 have or_4 := he4.cellE (show World.cell? (World.alloc w3 (.cells #[.slice (some ⟨gv, 0, none⟩) v.length c1, .slice A2 r.length c2, .slice (some ⟨gq, 0, none⟩) q.length c3] 29)) ⟨w3.heap.size, 1, none⟩ = some (.slice A2 r.length c2) by simp [go_sem])
 have oq_4 := he4.cellE (show World.cell? (World.alloc w3 (.cells #[.slice (some ⟨gv, 0, none⟩) v.length c1, .slice A2 r.length c2, .slice (some ⟨gq, 0, none⟩) q.length c3] 29)) ⟨w3.heap.size, 2, none⟩ = some (.slice (some ⟨gq, 0, none⟩) q.length c3) by simp [go_sem])
 clear he4 lg_3 lv_3 lr_3 lq_3 blg_3 blv_3 blr_3 blq_3
 have blg_4 := blt lg_4
 have blv_4 := blt lv_4
 have blr_4 := blt lr_4
 have blq_4 := blt lq_4
 have bov_4 := blt ov_4
 have bor_4 := blt or_4
 have boq_4 := blt oq_4
 generalize (World.alloc w3 (.cells #[.slice (some ⟨gv, 0, none⟩) v.length c1, .slice A2 r.length c2, .slice (some ⟨gq, 0, none⟩) q.length c3] 29)) = w4 at *
 have OZ := lh (OZ0.out.ext (Ext.tr (Ext.rfl' _) U4.out))
 have BR := lh (BR0.out.ext (((((Ext.rfl' (World.alloc (World.alloc (World.alloc w (.cells #[.slice A g.length c] 25)) (.cells #[.slice Av v.length cv, .slice Ar r.length cr, .slice Aq q.length cq] 29)) (.cells #[.slice none 0 0, .slice none 0 0, .slice none 0 0] 29))).tr U1.out).tr U2.out).tr U3.out).tr U4.out))
 have hz2 := E2.out.size
 go_wp2_with fail
 refine (i_writeZ w2.heap.size j gv gq x A2 c1 c2 c3 v q r _ HA.out (by rw [HVG.out, HQG.out]) (by rw [HRG.out, HQG.out]) (by omega) hjq hne (fun W m => OZ.out.rdL' (by omega) HRS.out W (m.mono (fun b _ e => e.imp (fun e => by rw [e]; rfl) (fun e => by rw [e]; rfl)))) OZ.out.v OZ.out.q).mono ?_
 rintro e wf ⟨rfl, hv6, hq6, hm6⟩
 have V6 := lh hv6
 have Q6 := lh hq6
 have M6 := lh hm6
 have hbl := BR.out.lt
 have BRf := lh (BR.out.mod hm6 (by omega))
 have ov_f := hm6.cellE ov_4 (by omega)
 have or_f := hm6.cellE or_4 (by omega)
 have oq_f := hm6.cellE oq_4 (by omega)
 have bov := blt ov_f
 clear hv6 hq6 hm6 ov_4 or_4 oq_4 lg_4 lv_4 lr_4 lq_4
 have f0 := BRf.out.free 0
 have f1 := BRf.out.free 1
 have f2 := BRf.out.free 2
 have x0 := BRf.out.cell (j := 0) rfl
 have x1 := BRf.out.cell (j := 1) rfl
 have x2 := BRf.out.cell (j := 2) rfl
 have bl := BRf.out.lt
 go_wp2
 have s0 : ∀ u0 u1 u2 : Value, World.cell? (World.setCell (World.setCell (World.setCell wf ⟨w.heap.size + 1 + 1, 0, none⟩ u0) ⟨w.heap.size + 1 + 1, 1, none⟩ u1) ⟨w.heap.size + 1 + 1, 2, none⟩ u2) ⟨w.heap.size + 1 + 1, 0, none⟩ = some u0 := fun u0 u1 u2 => (((BRf.out.set 0 u0).set 1 u1).set 2 u2).cell (j := 0) rfl
 have s1 : ∀ u0 u1 u2 : Value, World.cell? (World.setCell (World.setCell (World.setCell wf ⟨w.heap.size + 1 + 1, 0, none⟩ u0) ⟨w.heap.size + 1 + 1, 1, none⟩ u1) ⟨w.heap.size + 1 + 1, 2, none⟩ u2) ⟨w.heap.size + 1 + 1, 1, none⟩ = some u1 := fun u0 u1 u2 => (((BRf.out.set 0 u0).set 1 u1).set 2 u2).cell (j := 1) rfl
 have s2 : ∀ u0 u1 u2 : Value, World.cell? (World.setCell (World.setCell (World.setCell wf ⟨w.heap.size + 1 + 1, 0, none⟩ u0) ⟨w.heap.size + 1 + 1, 1, none⟩ u1) ⟨w.heap.size + 1 + 1, 2, none⟩ u2) ⟨w.heap.size + 1 + 1, 2, none⟩ = some u2 := fun u0 u1 u2 => (((BRf.out.set 0 u0).set 1 u1).set 2 u2).cell (j := 2) rfl
 refine bodyPost_ret (v := .tuple #[.agg #[.slice (some ⟨gv, 0, none⟩) v.length c1, .slice A2 r.length c2, .slice (some ⟨gq, 0, none⟩) q.length c3], .bool true]) (by simp [results, Tryz.results36, go_sem, s0, s1, s2]; try rfl) rfl ?_
 have hS := Mod.set (F := fun b => b = w.heap.size + 1 + 1) (Mod.set (F := fun b => b = w.heap.size + 1 + 1) (Mod.set (F := fun b => b = w.heap.size + 1 + 1) (Mod.rfl' (fun b => b = w.heap.size + 1 + 1) wf) (p := ⟨w.heap.size + 1 + 1, 0, none⟩) (.inl rfl) (.slice (some ⟨gv, 0, none⟩) v.length c1)) (p := ⟨w.heap.size + 1 + 1, 1, none⟩) (.inl rfl) (.slice A2 r.length c2)) (p := ⟨w.heap.size + 1 + 1, 2, none⟩) (.inl rfl) (.slice (some ⟨gq, 0, none⟩) q.length c3)
 rw [HS.out]
 obtain ⟨lv, lr, lq⟩ := Sg.writeL_len ⟨v, r, q⟩ j x
 have hT := OZ.out.turn V6.out Q6.out M6.out lv lq
 have hw : Sg.writeL ⟨v, r, q⟩ j x = ⟨(Sg.writeL ⟨v, r, q⟩ j x).vals, r, (Sg.writeL ⟨v, r, q⟩ j x).cols⟩ := Sg.writeL_eq ⟨v, r, q⟩ j x
 refine ⟨some ⟨gv, 0, none⟩, c1, A2, c2, some ⟨gq, 0, none⟩, c3, hs, ?_, ?_, ((((Ext.md E4.out M6.out (fun b e => by omega)).set (p := ⟨w.heap.size + 1 + 1, 0, none⟩) (show w.heap.size ≤ w.heap.size + 1 + 1 by omega) _).set (p := ⟨w.heap.size + 1 + 1, 1, none⟩) (show w.heap.size ≤ w.heap.size + 1 + 1 by omega) _).set (p := ⟨w.heap.size + 1 + 1, 2, none⟩) (show w.heap.size ≤ w.heap.size + 1 + 1 by omega) _)⟩
 ·rw [show (Sg.writeL ⟨v, r, q⟩ j x, true).1 = Sg.writeL ⟨v, r, q⟩ j x from rfl, lv, lr, lq]
 ·have h9 := (hT.mod hS (fun b hb e => by have := (OwnZ.lt hT hb).1; omega)).mono (B' := w.heap.size) (by omega)
  rw [← hw] at h9
  exact h9
end Go.Proofs.YtmkfjnkdaeoppaaGreat

/- WriteLazy of the reference: its contract. Conditions: bounds on lengths. -/
namespace Go.Proofs.YtmkfjnkdaeoppaaGreat
open Go.RowKit


set_option maxRecDepth 100000 in
set_option maxHeartbeats 8000000 in
theorem s_WriteLazy (A Av Ar Aq : Option Addr) (c cv cr cq : Nat) (g : Sg.Graph) (v q : List Int) (r : List (List Int)) (n x : Int) (w : World) (h : RdN w A g) (hv : Rd w 1 Av v.length (ints v)) (hr : RdLC w Ar r) (hq : Rd w 1 Aq q.length (ints q)) (hvl : v.length ≤ 1048576) (hql : q.length ≤ 1048576) :
  Calls Tryz.prog 37 #[.agg #[.slice A g.length c], .agg #[.slice Av v.length cv, .slice Ar r.length cr, .slice Aq q.length cq], .int .i64 n, .int .i64 x] w fun e w' => ∃ A1 c1 A2 c2 A3 c3 hs, e = .returned (.tuple #[.agg #[.slice A1 (Sg.writeLO g ⟨v, r, q⟩ n x).1.vals.length c1, .slice A2 (Sg.writeLO g ⟨v, r, q⟩ n x).1.reads.length c2, .slice A3 (Sg.writeLO g ⟨v, r, q⟩ n x).1.cols.length c3], .bool (Sg.writeLO g ⟨v, r, q⟩ n x).2]) ∧
   OwnZ w' w.heap.size A1 c1 A2 c2 A3 c3 hs (Sg.writeLO g ⟨v, r, q⟩ n x).1 ∧ Ext w w' := by
 have hgl := h.1
 have HV := lh (fun w h hv hr hq => s_validLazy A Av Ar Aq c cv cr cq g v q r w h hv hr hq hvl hql)
 have HC := lh (fun w h => s_isCell A c g n w h)
 have HI := lh (fun w => s_inRange x 0 999 w)
 have H := lh h
 have Hv := lh hv
 have Hr := lh hr
 have Hq := lh hq
 clear h hv hr hq
 have b0 := Bx.new (World.alloc (World.alloc w (.cells #[.slice A g.length c] 25)) (.cells #[.slice Av v.length cv, .slice Ar r.length cr, .slice Aq q.length cq] 29)) #[.slice none 0 0, .slice none 0 0, .slice none 0 0] 29
 simp only [World.size_alloc] at b0
 have BR0 := lh b0
 clear b0
 have E0 := lh (((((Ext.rfl' w).al (.cells #[.slice A g.length c] 25)).al (.cells #[.slice Av v.length cv, .slice Ar r.length cr, .slice Aq q.length cq] 29)).al (.cells #[.slice none 0 0, .slice none 0 0, .slice none 0 0] 29)) : Ext w (World.alloc (World.alloc (World.alloc w (.cells #[.slice A g.length c] 25)) (.cells #[.slice Av v.length cv, .slice Ar r.length cr, .slice Aq q.length cq] 29)) (.cells #[.slice none 0 0, .slice none 0 0, .slice none 0 0] 29)))
 have qlg : World.cell? (World.alloc (World.alloc (World.alloc w (.cells #[.slice A g.length c] 25)) (.cells #[.slice Av v.length cv, .slice Ar r.length cr, .slice Aq q.length cq] 29)) (.cells #[.slice none 0 0, .slice none 0 0, .slice none 0 0] 29)) ⟨w.heap.size, 0, none⟩ = some (.slice A g.length c) := by simp [go_sem]
 have Qlg := lh qlg
 clear qlg
 have qlv : World.cell? (World.alloc (World.alloc (World.alloc w (.cells #[.slice A g.length c] 25)) (.cells #[.slice Av v.length cv, .slice Ar r.length cr, .slice Aq q.length cq] 29)) (.cells #[.slice none 0 0, .slice none 0 0, .slice none 0 0] 29)) ⟨w.heap.size + 1, 0, none⟩ = some (.slice Av v.length cv) := by simp [go_sem]
 have Qlv := lh qlv
 clear qlv
 have qlr : World.cell? (World.alloc (World.alloc (World.alloc w (.cells #[.slice A g.length c] 25)) (.cells #[.slice Av v.length cv, .slice Ar r.length cr, .slice Aq q.length cq] 29)) (.cells #[.slice none 0 0, .slice none 0 0, .slice none 0 0] 29)) ⟨w.heap.size + 1, 1, none⟩ = some (.slice Ar r.length cr) := by simp [go_sem]
 have Qlr := lh qlr
 clear qlr
 have qlq : World.cell? (World.alloc (World.alloc (World.alloc w (.cells #[.slice A g.length c] 25)) (.cells #[.slice Av v.length cv, .slice Ar r.length cr, .slice Aq q.length cq] 29)) (.cells #[.slice none 0 0, .slice none 0 0, .slice none 0 0] 29)) ⟨w.heap.size + 1, 2, none⟩ = some (.slice Aq q.length cq) := by simp [go_sem]
 have Qlq := lh qlq
 clear qlq
 cases hE : Sg.validL g ⟨v, r, q⟩
 ·have HE := lh hE
  have HS := lh (show Sg.writeLO g ⟨v, r, q⟩ n x = (⟨[], [], []⟩, false) by unfold Sg.writeLO Sg.mayWriteL; rw [hE]; rfl)
  clear hE
  go_enter Tryz.func37, Tryz.ntmps37
  go_wp2_with fail
  refine (HV.out _ (H.out.ext E0.out) (Hv.out.ext E0.out) (Hr.out.l.ext E0.out) (Hq.out.ext E0.out)).mono ?_
  rintro e w1 ⟨rfl, he1⟩
  rw [Sg.validL_same, HE.out]
  have U1 := lh ((Ext.rfl' (World.alloc (World.alloc (World.alloc w (.cells #[.slice A g.length c] 25)) (.cells #[.slice Av v.length cv, .slice Ar r.length cr, .slice Aq q.length cq] 29)) (.cells #[.slice none 0 0, .slice none 0 0, .slice none 0 0] 29))).tr he1)
  have E1 := lh (E0.out.tr U1.out)
  have lg_1 := U1.out.cellE Qlg.out
  have lv_1 := U1.out.cellE Qlv.out
  have lr_1 := U1.out.cellE Qlr.out
  have lq_1 := U1.out.cellE Qlq.out
  clear he1 
  have blg_1 := blt lg_1
  have blv_1 := blt lv_1
  have blr_1 := blt lr_1
  have blq_1 := blt lq_1
  have BR := lh (BR0.out.ext ((Ext.rfl' (World.alloc (World.alloc (World.alloc w (.cells #[.slice A g.length c] 25)) (.cells #[.slice Av v.length cv, .slice Ar r.length cr, .slice Aq q.length cq] 29)) (.cells #[.slice none 0 0, .slice none 0 0, .slice none 0 0] 29))).tr U1.out))
  have f0 := BR.out.free 0
  have f1 := BR.out.free 1
  have f2 := BR.out.free 2
  have x0 := BR.out.cell (j := 0) rfl
  have x1 := BR.out.cell (j := 1) rfl
  have x2 := BR.out.cell (j := 2) rfl
  have bl := BR.out.lt
  go_wp2
  have s0 : ∀ u0 u1 u2 : Value, World.cell? (World.setCell (World.setCell (World.setCell w1 ⟨w.heap.size + 1 + 1, 0, none⟩ u0) ⟨w.heap.size + 1 + 1, 1, none⟩ u1) ⟨w.heap.size + 1 + 1, 2, none⟩ u2) ⟨w.heap.size + 1 + 1, 0, none⟩ = some u0 := fun u0 u1 u2 => (((BR.out.set 0 u0).set 1 u1).set 2 u2).cell (j := 0) rfl
  have s1 : ∀ u0 u1 u2 : Value, World.cell? (World.setCell (World.setCell (World.setCell w1 ⟨w.heap.size + 1 + 1, 0, none⟩ u0) ⟨w.heap.size + 1 + 1, 1, none⟩ u1) ⟨w.heap.size + 1 + 1, 2, none⟩ u2) ⟨w.heap.size + 1 + 1, 1, none⟩ = some u1 := fun u0 u1 u2 => (((BR.out.set 0 u0).set 1 u1).set 2 u2).cell (j := 1) rfl
  have s2 : ∀ u0 u1 u2 : Value, World.cell? (World.setCell (World.setCell (World.setCell w1 ⟨w.heap.size + 1 + 1, 0, none⟩ u0) ⟨w.heap.size + 1 + 1, 1, none⟩ u1) ⟨w.heap.size + 1 + 1, 2, none⟩ u2) ⟨w.heap.size + 1 + 1, 2, none⟩ = some u2 := fun u0 u1 u2 => (((BR.out.set 0 u0).set 1 u1).set 2 u2).cell (j := 2) rfl
  refine bodyPost_ret (v := .tuple #[.agg #[.slice none 0 0, .slice none 0 0, .slice none 0 0], .bool false]) (by simp [results, Tryz.results37, go_sem, s0, s1, s2]; try rfl) rfl ?_
  have hS := Mod.set (F := fun b => b = w.heap.size + 1 + 1) (Mod.set (F := fun b => b = w.heap.size + 1 + 1) (Mod.set (F := fun b => b = w.heap.size + 1 + 1) (Mod.rfl' (fun b => b = w.heap.size + 1 + 1) w1) (p := ⟨w.heap.size + 1 + 1, 0, none⟩) (.inl rfl) (.slice none 0 0)) (p := ⟨w.heap.size + 1 + 1, 1, none⟩) (.inl rfl) (.slice none 0 0)) (p := ⟨w.heap.size + 1 + 1, 2, none⟩) (.inl rfl) (.slice none 0 0)
  rw [HS.out]
  exact ⟨none, 0, none, 0, none, 0, [], rfl, OwnZ.nil _ _, (((E1.out.set (p := ⟨w.heap.size + 1 + 1, 0, none⟩) (show w.heap.size ≤ w.heap.size + 1 + 1 by omega) _).set (p := ⟨w.heap.size + 1 + 1, 1, none⟩) (show w.heap.size ≤ w.heap.size + 1 + 1 by omega) _).set (p := ⟨w.heap.size + 1 + 1, 2, none⟩) (show w.heap.size ≤ w.heap.size + 1 + 1 by omega) _)⟩
 have HE := lh hE
 cases hC : Sg.isCell g n
 ·have HCC := lh hC
  have HS := lh (show Sg.writeLO g ⟨v, r, q⟩ n x = (⟨[], [], []⟩, false) by unfold Sg.writeLO Sg.mayWriteL; rw [hE, hC]; rfl)
  clear hE hC
  go_enter Tryz.func37, Tryz.ntmps37
  go_wp2_with fail
  refine (HV.out _ (H.out.ext E0.out) (Hv.out.ext E0.out) (Hr.out.l.ext E0.out) (Hq.out.ext E0.out)).mono ?_
  rintro e w1 ⟨rfl, he1⟩
  rw [Sg.validL_same, HE.out]
  have U1 := lh ((Ext.rfl' (World.alloc (World.alloc (World.alloc w (.cells #[.slice A g.length c] 25)) (.cells #[.slice Av v.length cv, .slice Ar r.length cr, .slice Aq q.length cq] 29)) (.cells #[.slice none 0 0, .slice none 0 0, .slice none 0 0] 29))).tr he1)
  have E1 := lh (E0.out.tr U1.out)
  have lg_1 := U1.out.cellE Qlg.out
  have lv_1 := U1.out.cellE Qlv.out
  have lr_1 := U1.out.cellE Qlr.out
  have lq_1 := U1.out.cellE Qlq.out
  clear he1 
  have blg_1 := blt lg_1
  have blv_1 := blt lv_1
  have blr_1 := blt lr_1
  have blq_1 := blt lq_1
  go_wp2_with fail
  refine (HC.out _ (H.out.ext E1.out)).mono ?_
  rintro e w2 ⟨rfl, he2⟩
  rw [HCC.out]
  have U2 := lh ((Ext.rfl' w1).tr he2)
  have E2 := lh (E1.out.tr U2.out)
  have lg_2 := U2.out.cellE lg_1
  have lv_2 := U2.out.cellE lv_1
  have lr_2 := U2.out.cellE lr_1
  have lq_2 := U2.out.cellE lq_1
  clear he2 lg_1 lv_1 lr_1 lq_1 blg_1 blv_1 blr_1 blq_1
  have blg_2 := blt lg_2
  have blv_2 := blt lv_2
  have blr_2 := blt lr_2
  have blq_2 := blt lq_2
  have BR := lh (BR0.out.ext (((Ext.rfl' (World.alloc (World.alloc (World.alloc w (.cells #[.slice A g.length c] 25)) (.cells #[.slice Av v.length cv, .slice Ar r.length cr, .slice Aq q.length cq] 29)) (.cells #[.slice none 0 0, .slice none 0 0, .slice none 0 0] 29))).tr U1.out).tr U2.out))
  have f0 := BR.out.free 0
  have f1 := BR.out.free 1
  have f2 := BR.out.free 2
  have x0 := BR.out.cell (j := 0) rfl
  have x1 := BR.out.cell (j := 1) rfl
  have x2 := BR.out.cell (j := 2) rfl
  have bl := BR.out.lt
  go_wp2
  have s0 : ∀ u0 u1 u2 : Value, World.cell? (World.setCell (World.setCell (World.setCell w2 ⟨w.heap.size + 1 + 1, 0, none⟩ u0) ⟨w.heap.size + 1 + 1, 1, none⟩ u1) ⟨w.heap.size + 1 + 1, 2, none⟩ u2) ⟨w.heap.size + 1 + 1, 0, none⟩ = some u0 := fun u0 u1 u2 => (((BR.out.set 0 u0).set 1 u1).set 2 u2).cell (j := 0) rfl
  have s1 : ∀ u0 u1 u2 : Value, World.cell? (World.setCell (World.setCell (World.setCell w2 ⟨w.heap.size + 1 + 1, 0, none⟩ u0) ⟨w.heap.size + 1 + 1, 1, none⟩ u1) ⟨w.heap.size + 1 + 1, 2, none⟩ u2) ⟨w.heap.size + 1 + 1, 1, none⟩ = some u1 := fun u0 u1 u2 => (((BR.out.set 0 u0).set 1 u1).set 2 u2).cell (j := 1) rfl
  have s2 : ∀ u0 u1 u2 : Value, World.cell? (World.setCell (World.setCell (World.setCell w2 ⟨w.heap.size + 1 + 1, 0, none⟩ u0) ⟨w.heap.size + 1 + 1, 1, none⟩ u1) ⟨w.heap.size + 1 + 1, 2, none⟩ u2) ⟨w.heap.size + 1 + 1, 2, none⟩ = some u2 := fun u0 u1 u2 => (((BR.out.set 0 u0).set 1 u1).set 2 u2).cell (j := 2) rfl
  refine bodyPost_ret (v := .tuple #[.agg #[.slice none 0 0, .slice none 0 0, .slice none 0 0], .bool false]) (by simp [results, Tryz.results37, go_sem, s0, s1, s2]; try rfl) rfl ?_
  have hS := Mod.set (F := fun b => b = w.heap.size + 1 + 1) (Mod.set (F := fun b => b = w.heap.size + 1 + 1) (Mod.set (F := fun b => b = w.heap.size + 1 + 1) (Mod.rfl' (fun b => b = w.heap.size + 1 + 1) w2) (p := ⟨w.heap.size + 1 + 1, 0, none⟩) (.inl rfl) (.slice none 0 0)) (p := ⟨w.heap.size + 1 + 1, 1, none⟩) (.inl rfl) (.slice none 0 0)) (p := ⟨w.heap.size + 1 + 1, 2, none⟩) (.inl rfl) (.slice none 0 0)
  rw [HS.out]
  exact ⟨none, 0, none, 0, none, 0, [], rfl, OwnZ.nil _ _, (((E2.out.set (p := ⟨w.heap.size + 1 + 1, 0, none⟩) (show w.heap.size ≤ w.heap.size + 1 + 1 by omega) _).set (p := ⟨w.heap.size + 1 + 1, 1, none⟩) (show w.heap.size ≤ w.heap.size + 1 + 1 by omega) _).set (p := ⟨w.heap.size + 1 + 1, 2, none⟩) (show w.heap.size ≤ w.heap.size + 1 + 1 by omega) _)⟩
 have HCC := lh hC
 cases hX : Sg.inR x 0 999
 ·have HX := lh hX
  have HS := lh (show Sg.writeLO g ⟨v, r, q⟩ n x = (⟨[], [], []⟩, false) by unfold Sg.writeLO Sg.mayWriteL; rw [hE, hC, hX]; rfl)
  clear hE hC hX
  go_enter Tryz.func37, Tryz.ntmps37
  go_wp2_with fail
  refine (HV.out _ (H.out.ext E0.out) (Hv.out.ext E0.out) (Hr.out.l.ext E0.out) (Hq.out.ext E0.out)).mono ?_
  rintro e w1 ⟨rfl, he1⟩
  rw [Sg.validL_same, HE.out]
  have U1 := lh ((Ext.rfl' (World.alloc (World.alloc (World.alloc w (.cells #[.slice A g.length c] 25)) (.cells #[.slice Av v.length cv, .slice Ar r.length cr, .slice Aq q.length cq] 29)) (.cells #[.slice none 0 0, .slice none 0 0, .slice none 0 0] 29))).tr he1)
  have E1 := lh (E0.out.tr U1.out)
  have lg_1 := U1.out.cellE Qlg.out
  have lv_1 := U1.out.cellE Qlv.out
  have lr_1 := U1.out.cellE Qlr.out
  have lq_1 := U1.out.cellE Qlq.out
  clear he1 
  have blg_1 := blt lg_1
  have blv_1 := blt lv_1
  have blr_1 := blt lr_1
  have blq_1 := blt lq_1
  go_wp2_with fail
  refine (HC.out _ (H.out.ext E1.out)).mono ?_
  rintro e w2 ⟨rfl, he2⟩
  rw [HCC.out]
  have U2 := lh ((Ext.rfl' w1).tr he2)
  have E2 := lh (E1.out.tr U2.out)
  have lg_2 := U2.out.cellE lg_1
  have lv_2 := U2.out.cellE lv_1
  have lr_2 := U2.out.cellE lr_1
  have lq_2 := U2.out.cellE lq_1
  clear he2 lg_1 lv_1 lr_1 lq_1 blg_1 blv_1 blr_1 blq_1
  have blg_2 := blt lg_2
  have blv_2 := blt lv_2
  have blr_2 := blt lr_2
  have blq_2 := blt lq_2
  go_wp2_with fail
  refine (HI.out _).mono ?_
  rintro e w' ⟨rfl, rfl⟩
  rw [HX.out]
  have BR := lh (BR0.out.ext (((Ext.rfl' (World.alloc (World.alloc (World.alloc w (.cells #[.slice A g.length c] 25)) (.cells #[.slice Av v.length cv, .slice Ar r.length cr, .slice Aq q.length cq] 29)) (.cells #[.slice none 0 0, .slice none 0 0, .slice none 0 0] 29))).tr U1.out).tr U2.out))
  have f0 := BR.out.free 0
  have f1 := BR.out.free 1
  have f2 := BR.out.free 2
  have x0 := BR.out.cell (j := 0) rfl
  have x1 := BR.out.cell (j := 1) rfl
  have x2 := BR.out.cell (j := 2) rfl
  have bl := BR.out.lt
  go_wp2
  have s0 : ∀ u0 u1 u2 : Value, World.cell? (World.setCell (World.setCell (World.setCell w2 ⟨w.heap.size + 1 + 1, 0, none⟩ u0) ⟨w.heap.size + 1 + 1, 1, none⟩ u1) ⟨w.heap.size + 1 + 1, 2, none⟩ u2) ⟨w.heap.size + 1 + 1, 0, none⟩ = some u0 := fun u0 u1 u2 => (((BR.out.set 0 u0).set 1 u1).set 2 u2).cell (j := 0) rfl
  have s1 : ∀ u0 u1 u2 : Value, World.cell? (World.setCell (World.setCell (World.setCell w2 ⟨w.heap.size + 1 + 1, 0, none⟩ u0) ⟨w.heap.size + 1 + 1, 1, none⟩ u1) ⟨w.heap.size + 1 + 1, 2, none⟩ u2) ⟨w.heap.size + 1 + 1, 1, none⟩ = some u1 := fun u0 u1 u2 => (((BR.out.set 0 u0).set 1 u1).set 2 u2).cell (j := 1) rfl
  have s2 : ∀ u0 u1 u2 : Value, World.cell? (World.setCell (World.setCell (World.setCell w2 ⟨w.heap.size + 1 + 1, 0, none⟩ u0) ⟨w.heap.size + 1 + 1, 1, none⟩ u1) ⟨w.heap.size + 1 + 1, 2, none⟩ u2) ⟨w.heap.size + 1 + 1, 2, none⟩ = some u2 := fun u0 u1 u2 => (((BR.out.set 0 u0).set 1 u1).set 2 u2).cell (j := 2) rfl
  refine bodyPost_ret (v := .tuple #[.agg #[.slice none 0 0, .slice none 0 0, .slice none 0 0], .bool false]) (by simp [results, Tryz.results37, go_sem, s0, s1, s2]; try rfl) rfl ?_
  have hS := Mod.set (F := fun b => b = w.heap.size + 1 + 1) (Mod.set (F := fun b => b = w.heap.size + 1 + 1) (Mod.set (F := fun b => b = w.heap.size + 1 + 1) (Mod.rfl' (fun b => b = w.heap.size + 1 + 1) w2) (p := ⟨w.heap.size + 1 + 1, 0, none⟩) (.inl rfl) (.slice none 0 0)) (p := ⟨w.heap.size + 1 + 1, 1, none⟩) (.inl rfl) (.slice none 0 0)) (p := ⟨w.heap.size + 1 + 1, 2, none⟩) (.inl rfl) (.slice none 0 0)
  rw [HS.out]
  exact ⟨none, 0, none, 0, none, 0, [], rfl, OwnZ.nil _ _, (((E2.out.set (p := ⟨w.heap.size + 1 + 1, 0, none⟩) (show w.heap.size ≤ w.heap.size + 1 + 1 by omega) _).set (p := ⟨w.heap.size + 1 + 1, 1, none⟩) (show w.heap.size ≤ w.heap.size + 1 + 1 by omega) _).set (p := ⟨w.heap.size + 1 + 1, 2, none⟩) (show w.heap.size ≤ w.heap.size + 1 + 1 by omega) _)⟩
 have HX := lh hX
 obtain ⟨hG, hvg, hrg, hqg, _⟩ := Sg.validL_shape hE
 have h10 := vG_len hG
 obtain ⟨j, nd, rfl, hnd, _⟩ := Sg.isCell_at hC
 have hj := (List.getElem?_eq_some_iff.1 hnd).1
 have HS := lh (show Sg.writeLO g ⟨v, r, q⟩ (j : Int) x = (Sg.writeL ⟨v, r, q⟩ j x, true) by unfold Sg.writeLO Sg.mayWriteL; rw [hE, hC, hX]; rfl)
 have HA := lh (Sg.ahead_of hE)
 have HCR := lh (Sg.cols_range hE)
 have HRS := lh (show ∀ l ∈ r, l.length ≤ 1048576 from fun l hl => Nat.le_trans (reads_small hE l hl) (by omega))
 have hvg' : v.length = g.length := hvg
 have hrg' : r.length = g.length := hrg
 have hqg' : q.length = g.length := hqg
 have HVG := lh hvg'
 have HRG := lh hrg'
 have HQG := lh hqg'
 have hv10 : v.length ≤ 10 := by omega
 have hr10 : r.length ≤ 10 := by omega
 have hq10 : q.length ≤ 10 := by omega
 have hv0 : 0 < v.length := by omega
 have hq0 : 0 < q.length := by omega
 have hjq : j < q.length := by omega
 clear hE hC hX hG hvg hrg hqg hnd h10 hvg' hrg' hqg'
 go_enter Tryz.func37, Tryz.ntmps37
 go_wp2_with fail
 refine (HV.out _ (H.out.ext E0.out) (Hv.out.ext E0.out) (Hr.out.l.ext E0.out) (Hq.out.ext E0.out)).mono ?_
 rintro e w1 ⟨rfl, he1⟩
 rw [Sg.validL_same, HE.out]
 have U1 := lh ((Ext.rfl' (World.alloc (World.alloc (World.alloc w (.cells #[.slice A g.length c] 25)) (.cells #[.slice Av v.length cv, .slice Ar r.length cr, .slice Aq q.length cq] 29)) (.cells #[.slice none 0 0, .slice none 0 0, .slice none 0 0] 29))).tr he1)
 have E1 := lh (E0.out.tr U1.out)
 have lg_1 := U1.out.cellE Qlg.out
 have lv_1 := U1.out.cellE Qlv.out
 have lr_1 := U1.out.cellE Qlr.out
 have lq_1 := U1.out.cellE Qlq.out
 clear he1 
 have blg_1 := blt lg_1
 have blv_1 := blt lv_1
 have blr_1 := blt lr_1
 have blq_1 := blt lq_1
 go_wp2_with fail
 refine (HC.out _ (H.out.ext E1.out)).mono ?_
 rintro e w2 ⟨rfl, he2⟩
 rw [HCC.out]
 have U2 := lh ((Ext.rfl' w1).tr he2)
 have E2 := lh (E1.out.tr U2.out)
 have lg_2 := U2.out.cellE lg_1
 have lv_2 := U2.out.cellE lv_1
 have lr_2 := U2.out.cellE lr_1
 have lq_2 := U2.out.cellE lq_1
 clear he2 lg_1 lv_1 lr_1 lq_1 blg_1 blv_1 blr_1 blq_1
 have blg_2 := blt lg_2
 have blv_2 := blt lv_2
 have blr_2 := blt lr_2
 have blq_2 := blt lq_2
 go_wp2_with fail
 refine (HI.out _).mono ?_
 rintro e w' ⟨rfl, rfl⟩
 rw [HX.out]
 have hz2 := E2.out.size
 have BRp := lh (BR0.out.ext (((Ext.rfl' (World.alloc (World.alloc (World.alloc w (.cells #[.slice A g.length c] 25)) (.cells #[.slice Av v.length cv, .slice Ar r.length cr, .slice Aq q.length cq] 29)) (.cells #[.slice none 0 0, .slice none 0 0, .slice none 0 0] 29))).tr U1.out).tr U2.out))
 have hbz := BRp.out.lt
 go_wp2_with fail
 refine wp_region_held_drew (S := (fun W => W.cell? ⟨w.heap.size, 0, none⟩ = some (.slice A g.length c) ∧ W.cell? ⟨w.heap.size + 1, 0, none⟩ = some (.slice Av v.length cv) ∧ W.cell? ⟨w.heap.size + 1, 1, none⟩ = some (.slice Ar r.length cr) ∧ W.cell? ⟨w.heap.size + 1, 2, none⟩ = some (.slice Aq q.length cq))) (by kernel_rfl) ?_ (fun hHeld => ?_)
 ·exact ⟨((Ext.rfl' _).dr).cellE lg_2, ((Ext.rfl' _).dr).cellE lv_2, ((Ext.rfl' _).dr).cellE lr_2, ((Ext.rfl' _).dr).cellE lq_2⟩
 refine ty 0 ?_
 refine ty 1 ?_
 refine ty 3 ?_
 refine ty 4 ?_
 refine rd1 2 rfl fun K hK => ?_
 go_simp
 refine (s_copyZ Av Ar Aq cv cr cq v q r _ (Hv.out.ext (E2.out.dr)) (Hr.out.l.ext (E2.out.dr)) (Hq.out.ext (E2.out.dr)) hvl hql).mono ?_
 rintro e w3 ⟨A1, c1, A2, c2, A3, c3, hs, rfl, hoz, he3⟩
 obtain ⟨gv, rfl, _⟩ := hoz.v.at_ (by simpa using hv0)
 obtain ⟨gq, rfl, _⟩ := hoz.q.at_ (by simpa using hq0)
 have hoz2 := hoz.mono (B' := w2.heap.size) (by simp)
 obtain ⟨hne, hgv1, hgv2, hgq1, hgq2⟩ := gvq hoz2
 have OZ := lh hoz2
 clear hoz hoz2
 have U3 := lh (((Ext.rfl' w2).dr).tr he3)
 have E3 := lh (E2.out.tr U3.out)
 have lg_3 := U3.out.cellE lg_2
 have lv_3 := U3.out.cellE lv_2
 have lr_3 := U3.out.cellE lr_2
 have lq_3 := U3.out.cellE lq_2
 clear he3 lg_2 lv_2 lr_2 lq_2 blg_2 blv_2 blr_2 blq_2
 have blg_3 := blt lg_3
 have blv_3 := blt lv_3
 have blr_3 := blt lr_3
 have blq_3 := blt lq_3
 try go_wp2_with fail
 refine hK.out _ _ (by exact ⟨lg_3, lv_3, lr_3, lq_3⟩) fun hh2 => ?_; clear hK K hHeld; have hHeld := hh2; clear hh2
 try simp only [Act.put, pu]
 refine rd1 5 rfl fun K hK => ?_
 go_simp
 have BR := lh (BRp.out.ext ((Ext.rfl' _).tr U3.out))
 have hqg2 : q.length = g.length := HQG.out
 have HWZ := lh (s_writeZ w2.heap.size j gv gq x A A2 c c1 c2 c3 v q r w3 HA.out (by rw [HVG.out, HQG.out]) (by rw [HRG.out, HQG.out]) (by omega) hjq hne HCR.out (fun W m => OZ.out.rdL' (by omega) HRS.out W (m.mono (fun b _ e => e.imp (fun e => by rw [e]; rfl) (fun e => by rw [e]; rfl)))) OZ.out.v OZ.out.q)
 have HWZ2 := lh (show Calls Tryz.prog 87 #[.agg #[.slice A g.length c], .agg #[.slice (some ⟨gv, 0, none⟩) v.length c1, .slice A2 r.length c2, .slice (some ⟨gq, 0, none⟩) q.length c3], .int .i64 j, .int .i64 x] w3 _ by rw [← hqg2]; exact HWZ.out)
 clear hqg2 HWZ
 refine HWZ2.out.mono ?_
 rintro e wf ⟨rfl, hv6, hq6, hm6⟩
 have V6 := lh hv6
 have Q6 := lh hq6
 have M6 := lh hm6
 have hbl := BR.out.lt
 have BRf := lh (BR.out.mod hm6 (by omega))
 have lg_f := hm6.cellE lg_3 (by omega)
 have lv_f := hm6.cellE lv_3 (by omega)
 have lr_f := hm6.cellE lr_3 (by omega)
 have lq_f := hm6.cellE lq_3 (by omega)
 have blg := blt lg_f
 have fr0 := BRf.out.free 0
 have fr1 := BRf.out.free 1
 have fr2 := BRf.out.free 2
 have xr0 := BRf.out.cell (j := 0) rfl
 have xr1 := BRf.out.cell (j := 1) rfl
 have xr2 := BRf.out.cell (j := 2) rfl
 clear hv6 hq6 hm6 lg_3 lv_3 lr_3 lq_3
 try go_wp2_with fail
 refine hK.out _ _ (by exact ⟨lg_f, lv_f, lr_f, lq_f⟩) fun hh2 => ?_; clear hK K hHeld; have hHeld := hh2; clear hh2
 try simp only [Act.put, pu]
 refine rd1 6 rfl fun K hK => ?_
 go_simp
 refine hK.out _ _ (by exact ⟨(co).trans ((co).trans ((co).trans lg_f)), (co).trans ((co).trans ((co).trans lv_f)), (co).trans ((co).trans ((co).trans lr_f)), (co).trans ((co).trans ((co).trans lq_f))⟩) fun hh2 => ?_; clear hK K hHeld; have hHeld := hh2; clear hh2
 try simp only [Act.put]
 refine ty 7 ?_
 refine dn ?_
 go_wp2
 have s0 : ∀ u0 u1 u2 : Value, World.cell? (World.setCell (World.setCell (World.setCell wf ⟨w.heap.size + 1 + 1, 0, none⟩ u0) ⟨w.heap.size + 1 + 1, 1, none⟩ u1) ⟨w.heap.size + 1 + 1, 2, none⟩ u2) ⟨w.heap.size + 1 + 1, 0, none⟩ = some u0 := fun u0 u1 u2 => (((BRf.out.set 0 u0).set 1 u1).set 2 u2).cell (j := 0) rfl
 have s1 : ∀ u0 u1 u2 : Value, World.cell? (World.setCell (World.setCell (World.setCell wf ⟨w.heap.size + 1 + 1, 0, none⟩ u0) ⟨w.heap.size + 1 + 1, 1, none⟩ u1) ⟨w.heap.size + 1 + 1, 2, none⟩ u2) ⟨w.heap.size + 1 + 1, 1, none⟩ = some u1 := fun u0 u1 u2 => (((BRf.out.set 0 u0).set 1 u1).set 2 u2).cell (j := 1) rfl
 have s2 : ∀ u0 u1 u2 : Value, World.cell? (World.setCell (World.setCell (World.setCell wf ⟨w.heap.size + 1 + 1, 0, none⟩ u0) ⟨w.heap.size + 1 + 1, 1, none⟩ u1) ⟨w.heap.size + 1 + 1, 2, none⟩ u2) ⟨w.heap.size + 1 + 1, 2, none⟩ = some u2 := fun u0 u1 u2 => (((BRf.out.set 0 u0).set 1 u1).set 2 u2).cell (j := 2) rfl
 refine bodyPost_ret (v := .tuple #[.agg #[.slice (some ⟨gv, 0, none⟩) v.length c1, .slice A2 r.length c2, .slice (some ⟨gq, 0, none⟩) q.length c3], .bool true]) (by simp [results, Tryz.results37, go_sem, s0, s1, s2]; try rfl) rfl ?_
 have hS := Mod.set (F := fun b => b = w.heap.size + 1 + 1) (Mod.set (F := fun b => b = w.heap.size + 1 + 1) (Mod.set (F := fun b => b = w.heap.size + 1 + 1) (Mod.rfl' (fun b => b = w.heap.size + 1 + 1) wf) (p := ⟨w.heap.size + 1 + 1, 0, none⟩) (.inl rfl) (.slice (some ⟨gv, 0, none⟩) v.length c1)) (p := ⟨w.heap.size + 1 + 1, 1, none⟩) (.inl rfl) (.slice A2 r.length c2)) (p := ⟨w.heap.size + 1 + 1, 2, none⟩) (.inl rfl) (.slice (some ⟨gq, 0, none⟩) q.length c3)
 rw [HS.out]
 obtain ⟨lv, lr, lq⟩ := Sg.writeL_len ⟨v, r, q⟩ j x
 have hT := OZ.out.turn V6.out Q6.out M6.out lv lq
 have hw : Sg.writeL ⟨v, r, q⟩ j x = ⟨(Sg.writeL ⟨v, r, q⟩ j x).vals, r, (Sg.writeL ⟨v, r, q⟩ j x).cols⟩ := Sg.writeL_eq ⟨v, r, q⟩ j x
 refine ⟨some ⟨gv, 0, none⟩, c1, A2, c2, some ⟨gq, 0, none⟩, c3, hs, ?_, ?_, ((((Ext.md E3.out M6.out (fun b e => by omega)).set (p := ⟨w.heap.size + 1 + 1, 0, none⟩) (show w.heap.size ≤ w.heap.size + 1 + 1 by omega) _).set (p := ⟨w.heap.size + 1 + 1, 1, none⟩) (show w.heap.size ≤ w.heap.size + 1 + 1 by omega) _).set (p := ⟨w.heap.size + 1 + 1, 2, none⟩) (show w.heap.size ≤ w.heap.size + 1 + 1 by omega) _)⟩
 ·rw [show (Sg.writeL ⟨v, r, q⟩ j x, true).1 = Sg.writeL ⟨v, r, q⟩ j x from rfl, lv, lr, lq]
 ·have h9 := (hT.mod hS (fun b hb e => by have := (OwnZ.lt hT hb).1; omega)).mono (B' := w.heap.size) (by omega)
  rw [← hw] at h9
  exact h9
end Go.Proofs.YtmkfjnkdaeoppaaGreat
