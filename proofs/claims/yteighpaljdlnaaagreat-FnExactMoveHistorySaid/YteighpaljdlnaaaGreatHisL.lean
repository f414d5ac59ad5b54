/- The laws' histories: sizes, copies, equality, marks: contracts. Conditions: bounds on lengths. -/
import Derived.Test.YteighpaljdlnaaaGreatTy
import Derived.Test.YteighpaljdlnaaaGreatLawAll
import Derived.Test.YteighpaljdlnaaaGreatOpenAll
namespace Go.Proofs.YteighpaljdlnaaaGreat
open Go.RowKit

theorem l_szHistory (A : Option Addr) (c : Nat) (r : List (List Int)) (p : Int) (L : Nat) (w : World) (h : RdL0 w A r) (hL : L ≤ 1048576) :
  Calls Tryz.prog 5 #[.agg #[.slice A r.length c, .int .i64 p], .int .i64 (L : Int)] w fun e w' => e = .returned (.int .i64 (Sg.szL (r.map List.length) L)) ∧ Ext w w' := by
 have HD := lh (fun w h => l_szIntSS A c r L w h hL)
 rcases Sg.szL_neg (r.map List.length) L with hs | hs
 ·have Hq := lh hs
  clear hs
  go_enter Tryz.func5, Tryz.ntmps5
  go_wp2_with (go_at_call 19; refine (HD.out _ (h.ext ((Ext.rfl' w).al _))).mono ?_; rintro e w2 ⟨rfl, he2⟩; rw [Hq.out])
  go_ret
  exact ⟨ret_int Hq.out.symm, ((Ext.rfl' w).al _).tr he2⟩
 ·obtain ⟨_, _, M, _, hM⟩ := Sg.szL_ok _ _ hs
  have Hq := lh hM
  clear hs hM
  go_enter Tryz.func5, Tryz.ntmps5
  go_wp2_with (go_at_call 19; refine (HD.out _ (h.ext ((Ext.rfl' w).al _))).mono ?_; rintro e w2 ⟨rfl, he2⟩; rw [Hq.out])
  go_ret
  exact ⟨ret_int Hq.out.symm, ((Ext.rfl' w).al _).tr he2⟩

theorem l_eqHistory (A B : Option Addr) (ca cb : Nat) (r : List (List Int)) (p : Int) (w : World) (h : RdL w A r) (k : RdL w B r) :
  Calls Tryz.prog 10 #[.agg #[.slice A r.length ca, .int .i64 p], .agg #[.slice B r.length cb, .int .i64 p]] w fun e w' => e = .returned (.bool true) ∧ Ext w w' := by
 have HE := lh (((Ext.rfl' w).al (.cells #[.slice A r.length ca, .int .i64 p] 30)).al (.cells #[.slice B r.length cb, .int .i64 p] 30))
 have HD := lh (fun w h k => l_eqIntSS A B ca cb r w h k)
 go_enter Tryz.func10, Tryz.ntmps10
 go_wp2_with fail
 refine (HD.out _ (h.ext HE.out) (k.ext HE.out)).mono ?_
 rintro e w2 ⟨rfl, he2⟩
 have e2 := HE.out.tr he2
 have k1 := he2.cellE (by simp [go_sem] : (((w.alloc (.cells #[.slice A r.length ca, .int .i64 p] 30)).alloc (.cells #[.slice B r.length cb, .int .i64 p] 30)).cell? ⟨w.heap.size, 1, none⟩ = some (.int .i64 p)))
 have k2 := he2.cellE (by simp [go_sem] : (((w.alloc (.cells #[.slice A r.length ca, .int .i64 p] 30)).alloc (.cells #[.slice B r.length cb, .int .i64 p] 30)).cell? ⟨w.heap.size + 1, 1, none⟩ = some (.int .i64 p)))
 have hne : (p != p) = false := by simp
 go_wp2
 go_ret
 exact ⟨rfl, e2⟩

theorem l_markHistory {B : Nat} (A : Option Addr) (c : Nat) (r : List (List Int)) (hs : List (Option Addr × Nat)) (p k : Int) (w : World) (h : OwnL w B A c r hs) (hk : 0 ≤ k) (hb : k + (totL r : Int) ≤ 1000000000000) (hbl : r.length ≤ 1048576) :
  Calls Tryz.prog 14 #[.agg #[.slice A r.length c, .int .i64 p], .int .i64 k] w fun e w' => e = .returned (.int .i64 (k + (totL r : Int))) ∧ OwnL w' B A c (numL k r) hs ∧ Mod (fun b => fpD A hs b) w w' := by
 have HR := lh (fun w h => l_markIntSS (B := B) A c r hs k w h hk hb hbl)
 have Hr := lh (OwnD.ext h ((Ext.rfl' w).al (.cells #[.slice A r.length c, .int .i64 p] 30)))
 clear h
 go_enter Tryz.func14, Tryz.ntmps14
 go_wp2_with fail
 refine (HR.out _ Hr.out).mono ?_
 rintro e w2 ⟨rfl, ho2, hm2⟩
 have Ho2 := lh ho2
 have Hm2 := lh hm2
 clear ho2 hm2
 go_wp2
 go_ret
 exact ⟨rfl, Ho2.out, ((Mod.rfl' _ w).al _).tr Hm2.out fun x hx => .inl hx⟩

theorem l_heldHistory (A : Option Addr) (c : Nat) (r : List (List Int)) (p k : Int) (w : World) (h : RdL w A (numL k r)) (hk : 0 ≤ k) (hb : k + (totL r : Int) ≤ 1000000000000) :
  Calls Tryz.prog 16 #[.agg #[.slice A r.length c, .int .i64 p], .int .i64 k] w fun e w' => e = .returned (.int .i64 (k + (totL r : Int))) ∧ Ext w w' := by
 have HR := lh (fun w h => l_heldIntSS A c r k w h hk hb)
 have E0 := lh ((Ext.rfl' w).al (.cells #[.slice A r.length c, .int .i64 p] 30))
 have h1 : 0 ≤ k + (totL r : Int) := by omega
 go_enter Tryz.func16, Tryz.ntmps16
 go_wp2_with (go_at_call 34; refine (HR.out _ (h.ext E0.out)).mono ?_; rintro e w1 ⟨rfl, rfl⟩)
 go_ret
 exact ⟨rfl, E0.out⟩

set_option maxHeartbeats 2000000 in
theorem l_toHistory (A : Option Addr) (c : Nat) (r : List (List Int)) (p : Int) (w : World) (hr : RdL w A r) :
  Calls Tryz.prog 8 #[.agg #[.slice A r.length c, .int .i64 p]] w fun e w' => ∃ A1 hs, e = .returned (.agg #[.slice A1 r.length r.length, .int .i64 p]) ∧ OwnL w' w.heap.size A1 r.length r hs ∧ Ext w w' := by
 have HD := lh (fun w h => l_toIntSS A c r w h)
 have Hr := lh hr
 have HE := lh ((((Ext.rfl' w).al (.cells #[.slice A r.length c, .int .i64 p] 27)).al (.cells #[.slice none 0 0, .int .i64 0] 30)).al (.cells #[.slice none 0 0, .int .i64 0] 30))
 clear hr
 go_enter Tryz.func8, Tryz.ntmps8
 go_wp2_with fail
 refine (HD.out _ (Hr.out.ext HE.out)).mono ?_
 rintro e w1 ⟨A1, hs, rfl, ho1, he1⟩
 obtain ⟨bc, bf⟩ := bcell he1
 have hz1 := he1.size
 have k01 : w1.cell? ⟨w.heap.size, 1, none⟩ = some (.int .i64 p) := he1.cellE (by simp [go_sem])
 have k10 : w1.cell? ⟨w.heap.size + 1, 0, none⟩ = some (.slice none 0 0) := he1.cellE (by simp [go_sem])
 have k11 : w1.cell? ⟨w.heap.size + 1, 1, none⟩ = some (.int .i64 0) := he1.cellE (by simp [go_sem])
 have k20 : w1.cell? ⟨w.heap.size + 1 + 1, 0, none⟩ = some (.slice none 0 0) := he1.cellE (by simp [go_sem])
 have k21 : w1.cell? ⟨w.heap.size + 1 + 1, 1, none⟩ = some (.int .i64 0) := he1.cellE (by simp [go_sem])
 have f11 : ∀ j, w1.frozen? ⟨w.heap.size + 1, j, none⟩ = false := fun j => (bf _ _ (by simp)).trans (by simp [go_sem])
 have f12 : ∀ j, w1.frozen? ⟨w.heap.size + 1 + 1, j, none⟩ = false := fun j => (bf _ _ (by simp)).trans (by simp [go_sem])
 have f10 := f11 0
 have f11 := f11 1
 have f20 := f12 0
 have f21 := f12 1
 have Ho1 := lh ho1
 have He1 := lh he1
 clear bc bf f12 ho1 he1
 go_wp2
 have q0 : ∀ u v z y : Value, ((((w1.setCell ⟨w.heap.size + 1 + 1, 0, none⟩ y).setCell ⟨w.heap.size + 1 + 1, 1, none⟩ u).setCell ⟨w.heap.size + 1, 0, none⟩ v).setCell ⟨w.heap.size + 1, 1, none⟩ z).cell? ⟨w.heap.size + 1, 0, none⟩ = some v := by
  intro u v z y
  rw [co]
  refine World.cell?_setCell_same _ _ _ (u := .slice none 0 0) ?_
  rw [co, co]
  exact k10
 have q1 : ∀ u v z y : Value, ((((w1.setCell ⟨w.heap.size + 1 + 1, 0, none⟩ y).setCell ⟨w.heap.size + 1 + 1, 1, none⟩ u).setCell ⟨w.heap.size + 1, 0, none⟩ v).setCell ⟨w.heap.size + 1, 1, none⟩ z).cell? ⟨w.heap.size + 1, 1, none⟩ = some z := by
  intro u v z y
  refine World.cell?_setCell_same _ _ _ (u := .int .i64 0) ?_
  rw [co, co, co]
  exact k11
 refine bodyPost_ret (v := .agg #[.slice A1 r.length r.length, .int .i64 p]) (by simp [results, Tryz.results8, go_sem, q0, q1]; try rfl) rfl ?_
 have ho := OwnD.mono (((((Ho1.out.below (p := ⟨w.heap.size + 1 + 1, 0, none⟩) (by simp) (.slice A1 r.length r.length)).below (p := ⟨w.heap.size + 1 + 1, 1, none⟩) (by simp) (.int .i64 p)).below (p := ⟨w.heap.size + 1, 0, none⟩) (by simp) (.slice A1 r.length r.length)).below (p := ⟨w.heap.size + 1, 1, none⟩) (by simp) (.int .i64 p))) (B' := w.heap.size) (by simp; omega)
 exact ⟨A1, hs, rfl, ho, (((((HE.out.tr He1.out).set (p := ⟨w.heap.size + 1 + 1, 0, none⟩) (show w.heap.size ≤ w.heap.size + 1 + 1 by omega) _).set (p := ⟨w.heap.size + 1 + 1, 1, none⟩) (show w.heap.size ≤ w.heap.size + 1 + 1 by omega) _).set (p := ⟨w.heap.size + 1, 0, none⟩) (show w.heap.size ≤ w.heap.size + 1 by omega) _).set (p := ⟨w.heap.size + 1, 1, none⟩) (show w.heap.size ≤ w.heap.size + 1 by omega) _)⟩
end Go.Proofs.YteighpaljdlnaaaGreat
