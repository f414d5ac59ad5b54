/- The program's OrderParts, in memory: its contract. Conditions: at most 2^20 parts. -/
import Derived.Test.YtdnlpklmihoapaaDoorTy
import Derived.Test.YtdnlpklmihoapaaDoorTxC
import Derived.Test.YtdnlpklmihoapaaDoorPlJ
import Derived.Test.YtdnlpklmihoapaaDoorImplOne
import Derived.Test.YtdnlpklmihoapaaDoorImplTwo
import Derived.Test.YtdnlpklmihoapaaDoorReg
namespace Go.Proofs.YtdnlpklmihoapaaDoor
open Go.RowKit
theorem i_ClipP (A : Option Addr) (n c : Nat) (w : World) (h : n ≤ c) (_hm : c ≤ maxLen) : Calls Tryd.prog 49 #[.slice A n c] w fun e w' => e = .returned (.slice A n n) ∧ w = w' := by
 unfold maxLen at _hm
 go_enter Tryd.func49, Tryd.ntmps49
 go_wp2
 go_ret
 exact ⟨rfl, rfl⟩
set_option maxRecDepth 100000 in
set_option maxHeartbeats 2000000 in
theorem i_OrderParts (A : Option Addr) (c : Nat) (f : List Sg.Part) (w : World) (h : Rd w 5 A f.length (parts f)) (hb : f.length ≤ 1048576) :
  Calls Tryd.prog 20 #[.agg #[.slice A f.length c]] w fun e w' => ∃ A1, e = .returned (.agg #[.slice A1 (Sg.orderF f).length (Sg.orderF f).length]) ∧ Ext w w' ∧
   Own w' w.heap.size 73 5 A1 (Sg.orderF f).length (Sg.orderF f).length (parts (Sg.orderF f)) := by
 have HV := lh fun w' (e : Ext w w') => i_ValidFormula A c f w' (h.ext e) hb
 have e1 := (Ext.rfl' w).al (.cells #[.slice A f.length c] 39)
 have e0 := e1.al (.cells #[.slice none 0 0] 39)
 have E0 := lh e0
 have q0 : World.cell? (World.alloc (World.alloc w (.cells #[.slice A f.length c] 39)) (.cells #[.slice none 0 0] 39)) ⟨w.heap.size, 0, none⟩ = some (.slice A f.length c) := by simp [go_sem]
 have Q0 := lh q0
 have HB := lh (show Bx (World.alloc (World.alloc w (.cells #[.slice A f.length c] 39)) (.cells #[.slice none 0 0] 39)) (w.heap.size + 1) [.slice none 0 0] by have := Bx.new (World.alloc w (.cells #[.slice A f.length c] 39)) #[.slice none 0 0] 39; simpa [go_sem] using this)
 have H := lh h
 clear h e0 e1 q0
 cases hv : Sg.validF f
 ·have HN : Hid (Sg.orderF f = []) := lh (by unfold Sg.orderF; rw [if_neg (by rw [hv]; decide)])
  have HVF := lh hv
  clear hv
  go_enter Tryd.func20, Tryd.ntmps20
  go_wp2_with fail
  refine (HV.out _ E0.out).mono ?_
  rintro e w2 ⟨rfl, he⟩
  rw [HVF.out]
  have HB2 := HB.out.ext he
  have E2 := lh (E0.out.tr he)
  have z0 := HB2.cell (j := 0) rfl
  have zf := HB2.free 0
  have zl := HB2.lt
  have HB3 := lh (HB2.set 0 (.slice none 0 0))
  clear HB2 he
  go_wp2
  have s0 := HB3.out.cell (j := 0) rfl
  refine bodyPost_ret (v := .agg #[.slice none 0 0]) (by simp [results, Tryd.results20, go_sem, s0]; try rfl) rfl ?_
  refine ⟨none, by rw [HN.out]; rfl, E2.out.set (p := ⟨w.heap.size + 1, 0, none⟩) (by simp) _, ?_⟩
  rw [HN.out]
  exact Own.nil _ _ _ _
 ·have hl := Sg.validF_len hv
  have hi : ((f.length - 1 : Nat) : Int) = (f.length : Int) - 1 := by omega
  have hO : Sg.orderF f = Sg.postF f f.length ((f.length - 1 : Nat) : Int) [] := by rw [hi]; unfold Sg.orderF; rw [if_pos hv]
  have hz := Sg.tree_size hv
  have hol := Sg.order_len hv
  rw [← hi] at hz
  have HP := lh fun w' (e : Ext w w') => i_put w' A c f (Sg.validF_goods hv) (H.out.ext e) f.length (f.length - 1) [] none 0 [] w' (by omega) (by omega) (by simp; omega) (Ext.rfl' _) ⟨Own.nil _ _ _ _, by simp, trivial⟩
  rw [← hO, hi] at HP
  have HVF := lh hv
  clear hv hO hi hz H
  generalize Sg.orderF f = l at *
  have HOL := lh hol
  clear hol
  go_enter Tryd.func20, Tryd.ntmps20
  go_wp2_with fail
  refine (HV.out _ E0.out).mono ?_
  rintro e w2 ⟨rfl, he⟩
  rw [HVF.out]
  have HB2 := lh (HB.out.ext he)
  have EW := lh (E0.out.tr he)
  have Q2 := lh (he.cellE Q0.out)
  have q2 := Q2.out
  have bq2 := blt q2
  clear he Q0 E0 HB

  have E0 := lh ((Ext.rfl' w2).dr)
  go_wp2_with fail
  refine zb 6 (fun W => W.cell? ⟨w.heap.size, 0, none⟩ = some (.slice A f.length c)) ?_ (fun hHeld => ?_)
  ·exact E0.out.cellE Q2.out
  refine zy 0 ?_
  refine zy 1 ?_
  refine zr 2 rfl fun K hK => ?_
  go_simp
  refine (i_last A f.length c _ (by omega) (by omega)).mono ?_
  rintro e v1 ⟨rfl, he1⟩
  have E1 := lh (E0.out.tr he1)
  clear he1
  try go_wp2_with fail
  refine hK.out _ _ (fun _ => E1.out.cellE Q2.out) (fun hh => ?_)
  have hHeld := hh (by decide)
  clear hK K hh
  try simp only [Act.put, pu]
  refine zr 3 rfl fun K hK => ?_
  go_simp
  refine (HP.out _ (EW.out.tr E1.out)).mono ?_
  rintro e v2 ⟨A1, c1, rfl, he2, hS2⟩
  have E2 := lh (E1.out.tr he2)
  have HO2 := lh (show Own v2 v1.heap.size 73 5 A1 l.length c1 (parts l) from hS2.1)
  clear hS2 he2
  have hc1 := HO2.out.2.1
  have hc2 := HO2.out.2.2.1
  try go_wp2_with fail
  refine hK.out _ _ (fun _ => E2.out.cellE Q2.out) (fun hh => ?_)
  have hHeld := hh (by decide)
  clear hK K hh
  try simp only [Act.put, pu]
  refine zr 4 rfl fun K hK => ?_
  go_simp
  refine (i_ClipP A1 l.length c1 _ hc1 hc2).mono ?_
  rintro e v3 ⟨rfl, rfl⟩
  try go_wp2_with fail
  refine hK.out _ _ (fun _ => E2.out.cellE Q2.out) (fun hh => ?_)
  have hHeld := hh (by decide)
  clear hK K hh
  try simp only [Act.put, pu]
  refine zy 5 ?_
  refine zr 6 rfl fun K hK => ?_
  have hb3 := HB2.out.ext E2.out
  have z0 := hb3.cell (j := 0) rfl
  have zf := hb3.free 0
  have zl := hb3.lt
  have HB3 := lh (hb3.set 0 (.slice A1 l.length l.length))
  clear hb3
  go_simp
  refine hK.out _ _ (fun e => absurd rfl e) (fun hh => ?_)
  clear hK K hHeld hh
  try simp only [Act.put]
  refine zn ?_
  go_wp2
  have s0 := HB3.out.cell (j := 0) rfl
  refine bodyPost_ret (v := .agg #[.slice A1 l.length l.length]) (by simp [results, Tryd.results20, go_sem, s0]; try rfl) rfl ?_
  have hn : blk A1 ≠ some (w.heap.size + 1) := fun e => by have h1 := HO2.out.lt e; have h2 := HB2.out.lt; have h3 := E1.out.size; omega
  exact ⟨A1, rfl, (EW.out.tr E2.out).set (p := ⟨w.heap.size + 1, 0, none⟩) (by simp) _, (HO2.out.clip.mono (Nat.le_trans EW.out.size E1.out.size)).set hn _⟩
end Go.Proofs.YtdnlpklmihoapaaDoor
