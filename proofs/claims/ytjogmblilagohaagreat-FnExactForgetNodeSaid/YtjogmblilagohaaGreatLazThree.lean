/- Parts of one proof, joined. Copies of lazy states: contracts. Conditions: bounds on lengths. WriteLazy of the program and of the reference: contracts. Conditions: bounds on lengths. WriteLazy of the reference: its contract. Conditions: bounds on lengths. -/
import Derived.Test.YtjogmblilagohaaGreatCopyA
import Derived.Test.YtjogmblilagohaaGreatLawU
import Derived.Test.YtjogmblilagohaaGreatLazOne
import Derived.Test.YtjogmblilagohaaGreatLazTwo
import Derived.Test.YtjogmblilagohaaGreatLawW
import Derived.Test.YtjogmblilagohaaGreatImplW
import Derived.Test.YtjogmblilagohaaGreatCellA
import Derived.Test.YtjogmblilagohaaGreatModelJ
/- Copies of lazy states: contracts. Conditions: bounds on lengths. -/
namespace Go.Proofs.YtjogmblilagohaaGreat
open Go.RowKit


set_option maxRecDepth 100000 in
set_option maxHeartbeats 4000000 in
theorem i_copyZ (Av Ar Aq : Option Addr) (kv kr kq : Nat) (v q : List Int) (r : List (List Int)) (w : World) (hv : Rd w 1 Av v.length (ints v)) (hr : RdL w Ar r) (hq : Rd w 1 Aq q.length (ints q)) (hvl : v.length ≤ 1048576) (hql : q.length ≤ 1048576) :
    Calls Tryz.prog 147 #[.agg #[.slice Av v.length kv, .slice Ar r.length kr, .slice Aq q.length kq]] w fun e w' => ∃ A1 c1 A2 c2 A3 c3 hs, e = .returned (.agg #[.slice A1 v.length c1, .slice A2 r.length c2, .slice A3 q.length c3]) ∧ OwnZ w' w.heap.size A1 c1 A2 c2 A3 c3 hs ⟨v, r, q⟩ ∧ Ext w w' := by
  have E0 := Lib.hid (show Ext w (World.alloc (World.alloc w (.cells #[.slice Av v.length kv, .slice Ar r.length kr, .slice Aq q.length kq] 84)) (.cells #[.slice none 0 0, .slice none 0 0, .slice none 0 0] 84)) from ((Ext.rfl' w).al _).al _)
  have b0 := Bx.new (World.alloc w (.cells #[.slice Av v.length kv, .slice Ar r.length kr, .slice Aq q.length kq] 84)) #[.slice none 0 0, .slice none 0 0, .slice none 0 0] 84
  simp only [World.size_alloc] at b0
  have B0 := Lib.hid b0
  clear b0
  have q0 : World.cell? (World.alloc (World.alloc w (.cells #[.slice Av v.length kv, .slice Ar r.length kr, .slice Aq q.length kq] 84)) (.cells #[.slice none 0 0, .slice none 0 0, .slice none 0 0] 84)) ⟨w.heap.size, 0, none⟩ = some (.slice Av v.length kv) := by simp [go_sem]
  have q1 : World.cell? (World.alloc (World.alloc w (.cells #[.slice Av v.length kv, .slice Ar r.length kr, .slice Aq q.length kq] 84)) (.cells #[.slice none 0 0, .slice none 0 0, .slice none 0 0] 84)) ⟨w.heap.size, 1, none⟩ = some (.slice Ar r.length kr) := by simp [go_sem]
  have q2 : World.cell? (World.alloc (World.alloc w (.cells #[.slice Av v.length kv, .slice Ar r.length kr, .slice Aq q.length kq] 84)) (.cells #[.slice none 0 0, .slice none 0 0, .slice none 0 0] 84)) ⟨w.heap.size, 2, none⟩ = some (.slice Aq q.length kq) := by simp [go_sem]
  have Hv := Lib.hid hv
  have Hr := Lib.hid hr
  have Hq := Lib.hid hq
  clear hv hr hq
  go_enter Tryz.func147, Tryz.ntmps147
  go_wp2_with fail
  refine wp_region_held_drew (S := (fun W => W.cell? ⟨w.heap.size, 0, none⟩ = some (.slice Av v.length kv) ∧ W.cell? ⟨w.heap.size, 1, none⟩ = some (.slice Ar r.length kr) ∧ W.cell? ⟨w.heap.size, 2, none⟩ = some (.slice Aq q.length kq))) (by kernel_rfl) ?_ (fun hHeld => ?_)
  · exact ⟨((Ext.rfl' _).dr).cellE q0, ((Ext.rfl' _).dr).cellE q1, ((Ext.rfl' _).dr).cellE q2⟩
  refine wpAnyH_take (i := 0) (v := ?_) (by simp only [List.getElem?_toArray, List.getElem?_cons_zero]; rfl) (by kernel_rfl) (by kernel_rfl) (by kernel_rfl) (by exact fun _ _ _ h => h) (Or.inl ⟨by kernel_rfl, ?_⟩) (by assumption) ?_
  rotate_left
  · intro w hSw; (try dsimp only at hSw); go_simp; try with_reducible rfl
  try simp only [Act.put, List.setIfInBounds_toArray, List.set_cons_zero, List.set_cons_succ]
  refine wpAnyH_take (i := 1) (v := ?_) (by simp only [List.getElem?_toArray, List.getElem?_cons_succ, List.getElem?_cons_zero]; rfl) (by kernel_rfl) (by kernel_rfl) (by kernel_rfl) (by exact fun _ _ _ h => h) (Or.inl ⟨by kernel_rfl, ?_⟩) (by assumption) ?_
  rotate_left
  · intro w hSw; (try dsimp only at hSw); go_simp; try with_reducible rfl
  try simp only [Act.put, List.setIfInBounds_toArray, List.set_cons_zero, List.set_cons_succ]
  refine wpAnyH_take (i := 3) (v := ?_) (by simp only [List.getElem?_toArray, List.getElem?_cons_succ, List.getElem?_cons_zero]; rfl) (by kernel_rfl) (by kernel_rfl) (by kernel_rfl) (by exact fun _ _ _ h => h) (Or.inl ⟨by kernel_rfl, ?_⟩) (by assumption) ?_
  rotate_left
  · intro w hSw; (try dsimp only at hSw); go_simp; try with_reducible rfl
  try simp only [Act.put, List.setIfInBounds_toArray, List.set_cons_zero, List.set_cons_succ]
  refine wpAnyH_take (i := 4) (v := ?_) (by simp only [List.getElem?_toArray, List.getElem?_cons_succ, List.getElem?_cons_zero]; rfl) (by kernel_rfl) (by kernel_rfl) (by kernel_rfl) (by exact fun _ _ _ h => h) (Or.inl ⟨by kernel_rfl, ?_⟩) (by assumption) ?_
  rotate_left
  · intro w hSw; (try dsimp only at hSw); go_simp; try with_reducible rfl
  try simp only [Act.put, List.setIfInBounds_toArray, List.set_cons_zero, List.set_cons_succ]
  refine wpAnyH_take (i := 6) (v := ?_) (by simp only [List.getElem?_toArray, List.getElem?_cons_succ, List.getElem?_cons_zero]; rfl) (by kernel_rfl) (by kernel_rfl) (by kernel_rfl) (by exact fun _ _ _ h => h) (Or.inl ⟨by kernel_rfl, ?_⟩) (by assumption) ?_
  rotate_left
  · intro w hSw; (try dsimp only at hSw); go_simp; try with_reducible rfl
  try simp only [Act.put, List.setIfInBounds_toArray, List.set_cons_zero, List.set_cons_succ]
  refine wpAnyH_take (i := 7) (v := ?_) (by simp only [List.getElem?_toArray, List.getElem?_cons_succ, List.getElem?_cons_zero]; rfl) (by kernel_rfl) (by kernel_rfl) (by kernel_rfl) (by exact fun _ _ _ h => h) (Or.inl ⟨by kernel_rfl, ?_⟩) (by assumption) ?_
  rotate_left
  · intro w hSw; (try dsimp only at hSw); go_simp; try with_reducible rfl
  try simp only [Act.put, List.setIfInBounds_toArray, List.set_cons_zero, List.set_cons_succ]
  refine wpAnyH_ready (rs := [2]) (by kernel_rfl) (by simp) ?_
  refine AllReadyH.cons rfl (fun K hK => ?_) AllReadyH.nil
  go_simp
  refine (i_clone Av v.length kv v _ (Hv.out.ext (E0.out.dr)) (by omega)).mono ?_
  rintro e w3 ⟨A1, rfl, ho3, he3⟩
  have E3 := Lib.hid ((E0.out.dr).tr he3)
  have O3 := Lib.hid (ho3.mono (B' := w.heap.size + 2) (by simp))
  have hz3 : w.heap.size + 2 ≤ w3.heap.size := by have := he3.size; simpa using this
  have B3 := Lib.hid ((B0.out.ext ((Ext.rfl' _).dr)).ext he3)
  have q03 := he3.cellE (((Ext.rfl' _).dr).cellE q0)
  have q13 := he3.cellE (((Ext.rfl' _).dr).cellE q1)
  have q23 := he3.cellE (((Ext.rfl' _).dr).cellE q2)
  clear ho3 he3 q0 q1 q2 B0
  try go_wp2_with fail
  refine hK.out _ _ ?_ (fun hHeld2 => ?_)
  · exact ⟨q03, q13, q23⟩
  clear hK K hHeld
  have hHeld := hHeld2
  clear hHeld2
  try simp only [Act.put, List.setIfInBounds_toArray, List.set_cons_zero, List.set_cons_succ]
  refine wpAnyH_ready (rs := [5]) (by kernel_rfl) (by simp) ?_
  refine AllReadyH.cons rfl (fun K hK => ?_) AllReadyH.nil
  go_simp
  refine (i_copyReads Ar kr r _ (Hr.out.ext E3.out)).mono ?_
  rintro e w4 ⟨A2, hs, rfl, ho4, he4⟩
  have E4 := Lib.hid (E3.out.tr he4)
  have O4 := Lib.hid (O3.out.ext he4)
  have R4 := Lib.hid (OwnD.mono ho4 (B' := w.heap.size + 2) hz3)
  have D4 := Lib.hid (show ∀ b, blk A1 = some b → ¬ fpD A2 hs b from fun b hb hb' => by have h1 := (O3.out.lt hb).2; have h2 := (ho4.lt hb').1; omega)
  have B4 := Lib.hid (B3.out.ext he4)
  have hz4 := he4.size
  have q04 := he4.cellE q03
  have q14 := he4.cellE q13
  have q24 := he4.cellE q23
  clear ho4 he4 q03 q13 q23 B3
  try go_wp2_with fail
  refine hK.out _ _ ?_ (fun hHeld2 => ?_)
  · exact ⟨q04, q14, q24⟩
  clear hK K hHeld
  have hHeld := hHeld2
  clear hHeld2
  try simp only [Act.put, List.setIfInBounds_toArray, List.set_cons_zero, List.set_cons_succ]
  refine wpAnyH_ready (rs := [8]) (by kernel_rfl) (by simp) ?_
  refine AllReadyH.cons rfl (fun K hK => ?_) AllReadyH.nil
  go_simp
  refine (i_clone Aq q.length kq q _ (Hq.out.ext E4.out) (by omega)).mono ?_
  rintro e w5 ⟨A3, rfl, ho5, he5⟩
  have E5 := Lib.hid (E4.out.tr he5)
  have O5 := Lib.hid (O4.out.ext he5)
  have R5 := Lib.hid (OwnD.ext R4.out he5)
  have Q5 := Lib.hid (ho5.mono (B' := w.heap.size + 2) (by omega))
  have D5 := Lib.hid (show (∀ b, blk A1 = some b → ¬ fpD A2 hs b ∧ blk A3 ≠ some b) ∧ ∀ b, blk A3 = some b → ¬ fpD A2 hs b from ⟨fun b hb => ⟨D4.out b hb, fun e => by have h1 := (O4.out.lt hb).2; have h2 := (ho5.lt e).1; omega⟩, fun b hb hf => by have h1 := (OwnD.lt R4.out hf).2; have h2 := (ho5.lt hb).1; omega⟩)
  have B5 := Lib.hid (B4.out.ext he5)
  have q05 := he5.cellE q04
  have q15 := he5.cellE q14
  have q25 := he5.cellE q24
  have f0 := B5.out.free 0
  have f1 := B5.out.free 1
  have f2 := B5.out.free 2
  have bl := B5.out.lt
  have x0 := B5.out.cell (j := 0) rfl
  have x1 := B5.out.cell (j := 1) rfl
  have x2 := B5.out.cell (j := 2) rfl
  clear ho5 he5 q04 q14 q24 B4 O4 R4 D4
  try go_wp2_with fail
  refine hK.out _ _ ?_ (fun hHeld2 => ?_)
  · exact ⟨q05, q15, q25⟩
  clear hK K hHeld
  have hHeld := hHeld2
  clear hHeld2
  try simp only [Act.put, List.setIfInBounds_toArray, List.set_cons_zero, List.set_cons_succ]
  refine wpAnyH_take (i := 9) (v := ?_) (by simp only [List.getElem?_toArray, List.getElem?_cons_succ, List.getElem?_cons_zero]; rfl) (by kernel_rfl) (by kernel_rfl) (by kernel_rfl) (by exact fun _ _ _ h => h) (Or.inl ⟨by kernel_rfl, ?_⟩) (by assumption) ?_
  rotate_left
  · intro w hSw; (try dsimp only at hSw); go_simp; try with_reducible rfl
  try simp only [Act.put, List.setIfInBounds_toArray, List.set_cons_zero, List.set_cons_succ]
  refine wpAnyH_ready (rs := [10]) (by kernel_rfl) (by simp) ?_
  refine AllReadyH.cons rfl (fun K hK => ?_) AllReadyH.nil
  go_simp
  refine hK.out _ _ ?_ (fun hHeld2 => ?_)
  · exact ⟨(World.cell?_setCell_other _ _ _ _ (by intro e; injection e; omega)).trans ((World.cell?_setCell_other _ _ _ _ (by intro e; injection e; omega)).trans ((World.cell?_setCell_other _ _ _ _ (by intro e; injection e; omega)).trans q05)), (World.cell?_setCell_other _ _ _ _ (by intro e; injection e; omega)).trans ((World.cell?_setCell_other _ _ _ _ (by intro e; injection e; omega)).trans ((World.cell?_setCell_other _ _ _ _ (by intro e; injection e; omega)).trans q15)), (World.cell?_setCell_other _ _ _ _ (by intro e; injection e; omega)).trans ((World.cell?_setCell_other _ _ _ _ (by intro e; injection e; omega)).trans ((World.cell?_setCell_other _ _ _ _ (by intro e; injection e; omega)).trans q25))⟩
  clear hK K hHeld
  have hHeld := hHeld2
  clear hHeld2
  try simp only [Act.put]
  refine wpAnyH_done (by kernel_rfl) ?_ _
  go_wp2
  have hz : w.heap.size ≤ w.heap.size + 1 := by omega
  have hS := Mod.set (F := fun b => b = w.heap.size + 1) (Mod.set (F := fun b => b = w.heap.size + 1) (Mod.set (F := fun b => b = w.heap.size + 1) (Mod.rfl' (fun b => b = w.heap.size + 1) w5) (p := ⟨w.heap.size + 1, 0, none⟩) (.inl rfl) (.slice A1 v.length v.length)) (p := ⟨w.heap.size + 1, 1, none⟩) (.inl rfl) (.slice A2 r.length r.length)) (p := ⟨w.heap.size + 1, 2, none⟩) (.inl rfl) (.slice A3 q.length q.length)
  have s0 : ∀ u0 u1 u2 : Value, World.cell? (World.setCell (World.setCell (World.setCell w5 ⟨w.heap.size + 1, 0, none⟩ u0) ⟨w.heap.size + 1, 1, none⟩ u1) ⟨w.heap.size + 1, 2, none⟩ u2) ⟨w.heap.size + 1, 0, none⟩ = some u0 := fun u0 u1 u2 => (((B5.out.set 0 u0).set 1 u1).set 2 u2).cell (j := 0) rfl
  have s1 : ∀ u0 u1 u2 : Value, World.cell? (World.setCell (World.setCell (World.setCell w5 ⟨w.heap.size + 1, 0, none⟩ u0) ⟨w.heap.size + 1, 1, none⟩ u1) ⟨w.heap.size + 1, 2, none⟩ u2) ⟨w.heap.size + 1, 1, none⟩ = some u1 := fun u0 u1 u2 => (((B5.out.set 0 u0).set 1 u1).set 2 u2).cell (j := 1) rfl
  have s2 : ∀ u0 u1 u2 : Value, World.cell? (World.setCell (World.setCell (World.setCell w5 ⟨w.heap.size + 1, 0, none⟩ u0) ⟨w.heap.size + 1, 1, none⟩ u1) ⟨w.heap.size + 1, 2, none⟩ u2) ⟨w.heap.size + 1, 2, none⟩ = some u2 := fun u0 u1 u2 => (((B5.out.set 0 u0).set 1 u1).set 2 u2).cell (j := 2) rfl
  refine bodyPost_ret (v := .agg #[.slice A1 v.length v.length, .slice A2 r.length r.length, .slice A3 q.length q.length]) (by simp [results, Tryz.results147, go_sem, s0, s1, s2]; try rfl) rfl ?_
  exact ⟨A1, v.length, A2, r.length, A3, q.length, hs, rfl, ⟨(O5.out.mod hS (fun b hb e => by have := (O5.out.lt hb).1; omega)).mono (by omega), OwnD.mono (OwnD.mod R5.out hS (fun b hb e => by have := (OwnD.lt R5.out hb).1; omega)) (by omega), (Q5.out.mod hS (fun b hb e => by have := (Q5.out.lt hb).1; omega)).mono (by omega), D5.out.1, D5.out.2⟩, (((E5.out.set (p := ⟨w.heap.size + 1, 0, none⟩) hz _).set (p := ⟨w.heap.size + 1, 1, none⟩) hz _).set (p := ⟨w.heap.size + 1, 2, none⟩) hz _)⟩

set_option maxRecDepth 100000 in
set_option maxHeartbeats 4000000 in
theorem s_copyZ (Av Ar Aq : Option Addr) (kv kr kq : Nat) (v q : List Int) (r : List (List Int)) (w : World) (hv : Rd w 1 Av v.length (ints v)) (hr : RdL w Ar r) (hq : Rd w 1 Aq q.length (ints q)) (hvl : v.length ≤ 1048576) (hql : q.length ≤ 1048576) :
    Calls Tryz.prog 145 #[.agg #[.slice Av v.length kv, .slice Ar r.length kr, .slice Aq q.length kq]] w fun e w' => ∃ A1 c1 A2 c2 A3 c3 hs, e = .returned (.agg #[.slice A1 v.length c1, .slice A2 r.length c2, .slice A3 q.length c3]) ∧ OwnZ w' w.heap.size A1 c1 A2 c2 A3 c3 hs ⟨v, r, q⟩ ∧ Ext w w' := by
  have E0 := Lib.hid (show Ext w (World.alloc (World.alloc w (.cells #[.slice Av v.length kv, .slice Ar r.length kr, .slice Aq q.length kq] 84)) (.cells #[.slice none 0 0, .slice none 0 0, .slice none 0 0] 84)) from ((Ext.rfl' w).al _).al _)
  have b0 := Bx.new (World.alloc w (.cells #[.slice Av v.length kv, .slice Ar r.length kr, .slice Aq q.length kq] 84)) #[.slice none 0 0, .slice none 0 0, .slice none 0 0] 84
  simp only [World.size_alloc] at b0
  have B0 := Lib.hid b0
  clear b0
  have q0 : World.cell? (World.alloc (World.alloc w (.cells #[.slice Av v.length kv, .slice Ar r.length kr, .slice Aq q.length kq] 84)) (.cells #[.slice none 0 0, .slice none 0 0, .slice none 0 0] 84)) ⟨w.heap.size, 0, none⟩ = some (.slice Av v.length kv) := by simp [go_sem]
  have q1 : World.cell? (World.alloc (World.alloc w (.cells #[.slice Av v.length kv, .slice Ar r.length kr, .slice Aq q.length kq] 84)) (.cells #[.slice none 0 0, .slice none 0 0, .slice none 0 0] 84)) ⟨w.heap.size, 1, none⟩ = some (.slice Ar r.length kr) := by simp [go_sem]
  have q2 : World.cell? (World.alloc (World.alloc w (.cells #[.slice Av v.length kv, .slice Ar r.length kr, .slice Aq q.length kq] 84)) (.cells #[.slice none 0 0, .slice none 0 0, .slice none 0 0] 84)) ⟨w.heap.size, 2, none⟩ = some (.slice Aq q.length kq) := by simp [go_sem]
  have Hv := Lib.hid hv
  have Hr := Lib.hid hr
  have Hq := Lib.hid hq
  clear hv hr hq
  go_enter Tryz.func145, Tryz.ntmps145
  go_wp2_with fail
  refine wp_region_held_drew (S := (fun W => W.cell? ⟨w.heap.size, 0, none⟩ = some (.slice Av v.length kv) ∧ W.cell? ⟨w.heap.size, 1, none⟩ = some (.slice Ar r.length kr) ∧ W.cell? ⟨w.heap.size, 2, none⟩ = some (.slice Aq q.length kq))) (by kernel_rfl) ?_ (fun hHeld => ?_)
  · exact ⟨((Ext.rfl' _).dr).cellE q0, ((Ext.rfl' _).dr).cellE q1, ((Ext.rfl' _).dr).cellE q2⟩
  refine wpAnyH_take (i := 0) (v := ?_) (by simp only [List.getElem?_toArray, List.getElem?_cons_zero]; rfl) (by kernel_rfl) (by kernel_rfl) (by kernel_rfl) (by exact fun _ _ _ h => h) (Or.inl ⟨by kernel_rfl, ?_⟩) (by assumption) ?_
  rotate_left
  · intro w hSw; (try dsimp only at hSw); go_simp; try with_reducible rfl
  try simp only [Act.put, List.setIfInBounds_toArray, List.set_cons_zero, List.set_cons_succ]
  refine wpAnyH_take (i := 1) (v := ?_) (by simp only [List.getElem?_toArray, List.getElem?_cons_succ, List.getElem?_cons_zero]; rfl) (by kernel_rfl) (by kernel_rfl) (by kernel_rfl) (by exact fun _ _ _ h => h) (Or.inl ⟨by kernel_rfl, ?_⟩) (by assumption) ?_
  rotate_left
  · intro w hSw; (try dsimp only at hSw); go_simp; try with_reducible rfl
  try simp only [Act.put, List.setIfInBounds_toArray, List.set_cons_zero, List.set_cons_succ]
  refine wpAnyH_take (i := 3) (v := ?_) (by simp only [List.getElem?_toArray, List.getElem?_cons_succ, List.getElem?_cons_zero]; rfl) (by kernel_rfl) (by kernel_rfl) (by kernel_rfl) (by exact fun _ _ _ h => h) (Or.inl ⟨by kernel_rfl, ?_⟩) (by assumption) ?_
  rotate_left
  · intro w hSw; (try dsimp only at hSw); go_simp; try with_reducible rfl
  try simp only [Act.put, List.setIfInBounds_toArray, List.set_cons_zero, List.set_cons_succ]
  refine wpAnyH_take (i := 4) (v := ?_) (by simp only [List.getElem?_toArray, List.getElem?_cons_succ, List.getElem?_cons_zero]; rfl) (by kernel_rfl) (by kernel_rfl) (by kernel_rfl) (by exact fun _ _ _ h => h) (Or.inl ⟨by kernel_rfl, ?_⟩) (by assumption) ?_
  rotate_left
  · intro w hSw; (try dsimp only at hSw); go_simp; try with_reducible rfl
  try simp only [Act.put, List.setIfInBounds_toArray, List.set_cons_zero, List.set_cons_succ]
  refine wpAnyH_take (i := 6) (v := ?_) (by simp only [List.getElem?_toArray, List.getElem?_cons_succ, List.getElem?_cons_zero]; rfl) (by kernel_rfl) (by kernel_rfl) (by kernel_rfl) (by exact fun _ _ _ h => h) (Or.inl ⟨by kernel_rfl, ?_⟩) (by assumption) ?_
  rotate_left
  · intro w hSw; (try dsimp only at hSw); go_simp; try with_reducible rfl
  try simp only [Act.put, List.setIfInBounds_toArray, List.set_cons_zero, List.set_cons_succ]
  refine wpAnyH_take (i := 7) (v := ?_) (by simp only [List.getElem?_toArray, List.getElem?_cons_succ, List.getElem?_cons_zero]; rfl) (by kernel_rfl) (by kernel_rfl) (by kernel_rfl) (by exact fun _ _ _ h => h) (Or.inl ⟨by kernel_rfl, ?_⟩) (by assumption) ?_
  rotate_left
  · intro w hSw; (try dsimp only at hSw); go_simp; try with_reducible rfl
  try simp only [Act.put, List.setIfInBounds_toArray, List.set_cons_zero, List.set_cons_succ]
  refine wpAnyH_ready (rs := [2]) (by kernel_rfl) (by simp) ?_
  refine AllReadyH.cons rfl (fun K hK => ?_) AllReadyH.nil
  go_simp
  refine (s_copyInts Av v.length kv v _ (Hv.out.ext (E0.out.dr)) (by omega)).mono ?_
  rintro e w3 ⟨A1, c1, rfl, ho3, he3⟩
  have E3 := Lib.hid ((E0.out.dr).tr he3)
  have O3 := Lib.hid (ho3.mono (B' := w.heap.size + 2) (by simp))
  have hz3 : w.heap.size + 2 ≤ w3.heap.size := by have := he3.size; simpa using this
  have B3 := Lib.hid ((B0.out.ext ((Ext.rfl' _).dr)).ext he3)
  have q03 := he3.cellE (((Ext.rfl' _).dr).cellE q0)
  have q13 := he3.cellE (((Ext.rfl' _).dr).cellE q1)
  have q23 := he3.cellE (((Ext.rfl' _).dr).cellE q2)
  clear ho3 he3 q0 q1 q2 B0
  try go_wp2_with fail
  refine hK.out _ _ ?_ (fun hHeld2 => ?_)
  · exact ⟨q03, q13, q23⟩
  clear hK K hHeld
  have hHeld := hHeld2
  clear hHeld2
  try simp only [Act.put, List.setIfInBounds_toArray, List.set_cons_zero, List.set_cons_succ]
  refine wpAnyH_ready (rs := [5]) (by kernel_rfl) (by simp) ?_
  refine AllReadyH.cons rfl (fun K hK => ?_) AllReadyH.nil
  go_simp
  refine (s_copyLists Ar kr r _ (Hr.out.ext E3.out)).mono ?_
  rintro e w4 ⟨A2, c2, hs, rfl, ho4, he4⟩
  have E4 := Lib.hid (E3.out.tr he4)
  have O4 := Lib.hid (O3.out.ext he4)
  have R4 := Lib.hid (OwnD.mono ho4 (B' := w.heap.size + 2) hz3)
  have D4 := Lib.hid (show ∀ b, blk A1 = some b → ¬ fpD A2 hs b from fun b hb hb' => by have h1 := (O3.out.lt hb).2; have h2 := (ho4.lt hb').1; omega)
  have B4 := Lib.hid (B3.out.ext he4)
  have hz4 := he4.size
  have q04 := he4.cellE q03
  have q14 := he4.cellE q13
  have q24 := he4.cellE q23
  clear ho4 he4 q03 q13 q23 B3
  try go_wp2_with fail
  refine hK.out _ _ ?_ (fun hHeld2 => ?_)
  · exact ⟨q04, q14, q24⟩
  clear hK K hHeld
  have hHeld := hHeld2
  clear hHeld2
  try simp only [Act.put, List.setIfInBounds_toArray, List.set_cons_zero, List.set_cons_succ]
  refine wpAnyH_ready (rs := [8]) (by kernel_rfl) (by simp) ?_
  refine AllReadyH.cons rfl (fun K hK => ?_) AllReadyH.nil
  go_simp
  refine (s_copyInts Aq q.length kq q _ (Hq.out.ext E4.out) (by omega)).mono ?_
  rintro e w5 ⟨A3, c3, rfl, ho5, he5⟩
  have E5 := Lib.hid (E4.out.tr he5)
  have O5 := Lib.hid (O4.out.ext he5)
  have R5 := Lib.hid (OwnD.ext R4.out he5)
  have Q5 := Lib.hid (ho5.mono (B' := w.heap.size + 2) (by omega))
  have D5 := Lib.hid (show (∀ b, blk A1 = some b → ¬ fpD A2 hs b ∧ blk A3 ≠ some b) ∧ ∀ b, blk A3 = some b → ¬ fpD A2 hs b from ⟨fun b hb => ⟨D4.out b hb, fun e => by have h1 := (O4.out.lt hb).2; have h2 := (ho5.lt e).1; omega⟩, fun b hb hf => by have h1 := (OwnD.lt R4.out hf).2; have h2 := (ho5.lt hb).1; omega⟩)
  have B5 := Lib.hid (B4.out.ext he5)
  have q05 := he5.cellE q04
  have q15 := he5.cellE q14
  have q25 := he5.cellE q24
  have f0 := B5.out.free 0
  have f1 := B5.out.free 1
  have f2 := B5.out.free 2
  have bl := B5.out.lt
  have x0 := B5.out.cell (j := 0) rfl
  have x1 := B5.out.cell (j := 1) rfl
  have x2 := B5.out.cell (j := 2) rfl
  clear ho5 he5 q04 q14 q24 B4 O4 R4 D4
  try go_wp2_with fail
  refine hK.out _ _ ?_ (fun hHeld2 => ?_)
  · exact ⟨q05, q15, q25⟩
  clear hK K hHeld
  have hHeld := hHeld2
  clear hHeld2
  try simp only [Act.put, List.setIfInBounds_toArray, List.set_cons_zero, List.set_cons_succ]
  refine wpAnyH_take (i := 9) (v := ?_) (by simp only [List.getElem?_toArray, List.getElem?_cons_succ, List.getElem?_cons_zero]; rfl) (by kernel_rfl) (by kernel_rfl) (by kernel_rfl) (by exact fun _ _ _ h => h) (Or.inl ⟨by kernel_rfl, ?_⟩) (by assumption) ?_
  rotate_left
  · intro w hSw; (try dsimp only at hSw); go_simp; try with_reducible rfl
  try simp only [Act.put, List.setIfInBounds_toArray, List.set_cons_zero, List.set_cons_succ]
  refine wpAnyH_ready (rs := [10]) (by kernel_rfl) (by simp) ?_
  refine AllReadyH.cons rfl (fun K hK => ?_) AllReadyH.nil
  go_simp
  refine hK.out _ _ ?_ (fun hHeld2 => ?_)
  · exact ⟨(World.cell?_setCell_other _ _ _ _ (by intro e; injection e; omega)).trans ((World.cell?_setCell_other _ _ _ _ (by intro e; injection e; omega)).trans ((World.cell?_setCell_other _ _ _ _ (by intro e; injection e; omega)).trans q05)), (World.cell?_setCell_other _ _ _ _ (by intro e; injection e; omega)).trans ((World.cell?_setCell_other _ _ _ _ (by intro e; injection e; omega)).trans ((World.cell?_setCell_other _ _ _ _ (by intro e; injection e; omega)).trans q15)), (World.cell?_setCell_other _ _ _ _ (by intro e; injection e; omega)).trans ((World.cell?_setCell_other _ _ _ _ (by intro e; injection e; omega)).trans ((World.cell?_setCell_other _ _ _ _ (by intro e; injection e; omega)).trans q25))⟩
  clear hK K hHeld
  have hHeld := hHeld2
  clear hHeld2
  try simp only [Act.put]
  refine wpAnyH_done (by kernel_rfl) ?_ _
  go_wp2
  have hz : w.heap.size ≤ w.heap.size + 1 := by omega
  have hS := Mod.set (F := fun b => b = w.heap.size + 1) (Mod.set (F := fun b => b = w.heap.size + 1) (Mod.set (F := fun b => b = w.heap.size + 1) (Mod.rfl' (fun b => b = w.heap.size + 1) w5) (p := ⟨w.heap.size + 1, 0, none⟩) (.inl rfl) (.slice A1 v.length c1)) (p := ⟨w.heap.size + 1, 1, none⟩) (.inl rfl) (.slice A2 r.length c2)) (p := ⟨w.heap.size + 1, 2, none⟩) (.inl rfl) (.slice A3 q.length c3)
  have s0 : ∀ u0 u1 u2 : Value, World.cell? (World.setCell (World.setCell (World.setCell w5 ⟨w.heap.size + 1, 0, none⟩ u0) ⟨w.heap.size + 1, 1, none⟩ u1) ⟨w.heap.size + 1, 2, none⟩ u2) ⟨w.heap.size + 1, 0, none⟩ = some u0 := fun u0 u1 u2 => (((B5.out.set 0 u0).set 1 u1).set 2 u2).cell (j := 0) rfl
  have s1 : ∀ u0 u1 u2 : Value, World.cell? (World.setCell (World.setCell (World.setCell w5 ⟨w.heap.size + 1, 0, none⟩ u0) ⟨w.heap.size + 1, 1, none⟩ u1) ⟨w.heap.size + 1, 2, none⟩ u2) ⟨w.heap.size + 1, 1, none⟩ = some u1 := fun u0 u1 u2 => (((B5.out.set 0 u0).set 1 u1).set 2 u2).cell (j := 1) rfl
  have s2 : ∀ u0 u1 u2 : Value, World.cell? (World.setCell (World.setCell (World.setCell w5 ⟨w.heap.size + 1, 0, none⟩ u0) ⟨w.heap.size + 1, 1, none⟩ u1) ⟨w.heap.size + 1, 2, none⟩ u2) ⟨w.heap.size + 1, 2, none⟩ = some u2 := fun u0 u1 u2 => (((B5.out.set 0 u0).set 1 u1).set 2 u2).cell (j := 2) rfl
  refine bodyPost_ret (v := .agg #[.slice A1 v.length c1, .slice A2 r.length c2, .slice A3 q.length c3]) (by simp [results, Tryz.results145, go_sem, s0, s1, s2]; try rfl) rfl ?_
  exact ⟨A1, c1, A2, c2, A3, c3, hs, rfl, ⟨(O5.out.mod hS (fun b hb e => by have := (O5.out.lt hb).1; omega)).mono (by omega), OwnD.mono (OwnD.mod R5.out hS (fun b hb e => by have := (OwnD.lt R5.out hb).1; omega)) (by omega), (Q5.out.mod hS (fun b hb e => by have := (Q5.out.lt hb).1; omega)).mono (by omega), D5.out.1, D5.out.2⟩, (((E5.out.set (p := ⟨w.heap.size + 1, 0, none⟩) hz _).set (p := ⟨w.heap.size + 1, 1, none⟩) hz _).set (p := ⟨w.heap.size + 1, 2, none⟩) hz _)⟩
end Go.Proofs.YtjogmblilagohaaGreat

/- WriteLazy of the program and of the reference: contracts. Conditions: bounds on lengths. -/
namespace Sg
def mayWriteL (g : Graph) (st : Lazy) (n x : Int) : Bool := validL g st && isCell g n && inR x 0 999
noncomputable def writeLO (g : Graph) (st : Lazy) (n x : Int) : Lazy × Bool := if mayWriteL g st n x = true then (writeL st n.toNat x, true) else (⟨[], [], []⟩, false)
theorem writeL_len (st : Lazy) (n : Nat) (x : Int) : (writeL st n x).vals.length = st.vals.length ∧ (writeL st n x).reads = st.reads ∧ (writeL st n x).cols.length = st.cols.length := by
  unfold writeL
  split
  · exact ⟨rfl, rfl, rfl⟩
  · simp
theorem writeL_eq (st : Lazy) (n : Nat) (x : Int) : writeL st n x = ⟨(writeL st n x).vals, st.reads, (writeL st n x).cols⟩ := by
  unfold writeL
  split <;> rfl
end Sg
namespace Go.Proofs.YtjogmblilagohaaGreat
open Go.RowKit

theorem OwnZ.nil (w : World) (B : Nat) : OwnZ w B none 0 none 0 none 0 [] ⟨[], [], []⟩ :=
  ⟨by simpa [ints] using Own.nil w B 3 1, ⟨by simp [listIts], by simpa [dcells, listIts] using Own.nil w B 26 1, by simp [listIts], by simp, by simp⟩, by simpa [ints] using Own.nil w B 3 1, by simp [blk], by simp [blk]⟩
theorem RdLC.l {w : World} {A : Option Addr} {ll : List (List Int)} (h : RdLC w A ll) : RdL w A ll :=
  ⟨h.1, fun i l hi => let ⟨b, o, Al, cl, h1, h2, h3, h4, _⟩ := h.2 i l hi; ⟨b, o, Al, cl, h1, h2, h3, h4⟩⟩
theorem OwnZ.rdL' {w : World} {B c1 c2 c3 : Nat} {A1 A2 A3 : Option Addr} {hs : List (Option Addr × Nat)} {v q : List Int} {r : List (List Int)} (h : OwnZ w B A1 c1 A2 c2 A3 c3 hs ⟨v, r, q⟩) (hb : r.length ≤ 1048576) (hl : ∀ l ∈ r, l.length ≤ 1048576) :
    ∀ W, Mod (fun b => blk A1 = some b ∨ blk A3 = some b) w W → RdL W A2 r := fun W m =>
  OwnL.rdL (OwnD.mod h.r m (fun b hb e => by
    rcases e with e | e
    · exact (h.d b e).1 hb
    · exact h.e b e hb)) hb hl
/-- a state of the call's own, after its values and colours were turned in place -/
theorem OwnZ.turn {w w' : World} {B gv gq c1 c2 c3 : Nat} {A2 : Option Addr} {hs : List (Option Addr × Nat)} {v q v' q' : List Int} {r : List (List Int)} (h : OwnZ w B (some ⟨gv, 0, none⟩) c1 A2 c2 (some ⟨gq, 0, none⟩) c3 hs ⟨v, r, q⟩)
    (hv : Own w' B 3 1 (some ⟨gv, 0, none⟩) v.length c1 (ints v')) (hq : Own w' B 3 1 (some ⟨gq, 0, none⟩) q.length c3 (ints q')) (m : Mod (fun b => b = gv ∨ b = gq) w w') (lv : v'.length = v.length) (lq : q'.length = q.length) :
    OwnZ w' B (some ⟨gv, 0, none⟩) c1 A2 c2 (some ⟨gq, 0, none⟩) c3 hs ⟨v', r, q'⟩ :=
  ⟨by show Own _ _ _ _ _ v'.length _ _; rw [lv]; exact hv, OwnD.mod h.r m (fun b hb e => by
    rcases e with rfl | rfl
    · exact (h.d b rfl).1 hb
    · exact h.e b rfl hb), by show Own _ _ _ _ _ q'.length _ _; rw [lq]; exact hq, h.d, h.e⟩
theorem gvq {w : World} {B gv gq c1 c2 c3 : Nat} {A2 : Option Addr} {hs : List (Option Addr × Nat)} {st : Sg.Lazy} (h : OwnZ w B (some ⟨gv, 0, none⟩) c1 A2 c2 (some ⟨gq, 0, none⟩) c3 hs st) : gv ≠ gq ∧ B ≤ gv ∧ gv < w.heap.size ∧ B ≤ gq ∧ gq < w.heap.size :=
  ⟨fun e => (h.d gv rfl).2 (by rw [e]; rfl), (h.v.lt (g := gv) rfl).1, (h.v.lt (g := gv) rfl).2, (h.q.lt (g := gq) rfl).1, (h.q.lt (g := gq) rfl).2⟩
theorem reads_small {g : Sg.Graph} {st : Sg.Lazy} (h : Sg.validL g st = true) : ∀ l ∈ st.reads, l.length ≤ 10 := by
  intro l hl
  obtain ⟨hs, hC⟩ := Sg.validL_iff.1 h
  obtain ⟨i, hi⟩ := List.getElem?_of_mem hl
  have hil := (List.getElem?_eq_some_iff.1 hi).1
  have hn : g[i]? = some g[i] := List.getElem?_eq_getElem (by omega)
  have hd : st.reads.getD i [] = l := by simp [hi]
  have hA := Sg.ahead_of h i
  rw [hd] at hA
  have h10 := vG_len hs.1
  have hk := hC i _ hn
  by_cases h0 : g[i].kind = 0
  · rw [← hd, (hk.cell h0).2]; simp
  · have hm := (hk.may hs.1 hn h0).2
    rw [hd] at hm
    exact Nat.le_trans (Sg.nodup_bound 10 l hm (fun x hx => by have := hA x hx; omega)) (by omega)


set_option maxRecDepth 100000 in
set_option maxHeartbeats 8000000 in
theorem i_WriteLazy (A Av Ar Aq : Option Addr) (c cv cr cq : Nat) (g : Sg.Graph) (v q : List Int) (r : List (List Int)) (n x : Int) (w : World) (h : RdN w A g) (hv : Rd w 1 Av v.length (ints v)) (hr : RdLC w Ar r) (hq : Rd w 1 Aq q.length (ints q)) (hvl : v.length ≤ 1048576) (hql : q.length ≤ 1048576) :
    Calls Tryz.prog 62 #[.agg #[.slice A g.length c], .agg #[.slice Av v.length cv, .slice Ar r.length cr, .slice Aq q.length cq], .int .i64 n, .int .i64 x] w fun e w' => ∃ A1 c1 A2 c2 A3 c3 hs, e = .returned (.tuple #[.agg #[.slice A1 (Sg.writeLO g ⟨v, r, q⟩ n x).1.vals.length c1, .slice A2 (Sg.writeLO g ⟨v, r, q⟩ n x).1.reads.length c2, .slice A3 (Sg.writeLO g ⟨v, r, q⟩ n x).1.cols.length c3], .bool (Sg.writeLO g ⟨v, r, q⟩ n x).2]) ∧
      OwnZ w' w.heap.size A1 c1 A2 c2 A3 c3 hs (Sg.writeLO g ⟨v, r, q⟩ n x).1 ∧ Ext w w' := by
  have hgl := h.1
  have HV := Lib.hid (fun w h hv hr hq => i_ValidLazy A Av Ar Aq c cv cr cq g v q r w h hv hr hq hvl hql)
  have HC := Lib.hid (fun w h => i_cellB A c g n w h)
  have HI := Lib.hid (fun w => i_in x 0 999 w)
  have H := Lib.hid h
  have Hv := Lib.hid hv
  have Hr := Lib.hid hr
  have Hq := Lib.hid hq
  clear h hv hr hq
  have b0 := Bx.new (World.alloc (World.alloc w (.cells #[.slice A g.length c] 25)) (.cells #[.slice Av v.length cv, .slice Ar r.length cr, .slice Aq q.length cq] 84)) #[.slice none 0 0, .slice none 0 0, .slice none 0 0] 84
  simp only [World.size_alloc] at b0
  have BR0 := Lib.hid b0
  clear b0
  have E0 := Lib.hid (((((Ext.rfl' w).al (.cells #[.slice A g.length c] 25)).al (.cells #[.slice Av v.length cv, .slice Ar r.length cr, .slice Aq q.length cq] 84)).al (.cells #[.slice none 0 0, .slice none 0 0, .slice none 0 0] 84)) : Ext w (World.alloc (World.alloc (World.alloc w (.cells #[.slice A g.length c] 25)) (.cells #[.slice Av v.length cv, .slice Ar r.length cr, .slice Aq q.length cq] 84)) (.cells #[.slice none 0 0, .slice none 0 0, .slice none 0 0] 84)))
  have qlg : World.cell? (World.alloc (World.alloc (World.alloc w (.cells #[.slice A g.length c] 25)) (.cells #[.slice Av v.length cv, .slice Ar r.length cr, .slice Aq q.length cq] 84)) (.cells #[.slice none 0 0, .slice none 0 0, .slice none 0 0] 84)) ⟨w.heap.size, 0, none⟩ = some (.slice A g.length c) := by simp [go_sem]
  have Qlg := Lib.hid qlg
  clear qlg
  have qlv : World.cell? (World.alloc (World.alloc (World.alloc w (.cells #[.slice A g.length c] 25)) (.cells #[.slice Av v.length cv, .slice Ar r.length cr, .slice Aq q.length cq] 84)) (.cells #[.slice none 0 0, .slice none 0 0, .slice none 0 0] 84)) ⟨w.heap.size + 1, 0, none⟩ = some (.slice Av v.length cv) := by simp [go_sem]
  have Qlv := Lib.hid qlv
  clear qlv
  have qlr : World.cell? (World.alloc (World.alloc (World.alloc w (.cells #[.slice A g.length c] 25)) (.cells #[.slice Av v.length cv, .slice Ar r.length cr, .slice Aq q.length cq] 84)) (.cells #[.slice none 0 0, .slice none 0 0, .slice none 0 0] 84)) ⟨w.heap.size + 1, 1, none⟩ = some (.slice Ar r.length cr) := by simp [go_sem]
  have Qlr := Lib.hid qlr
  clear qlr
  have qlq : World.cell? (World.alloc (World.alloc (World.alloc w (.cells #[.slice A g.length c] 25)) (.cells #[.slice Av v.length cv, .slice Ar r.length cr, .slice Aq q.length cq] 84)) (.cells #[.slice none 0 0, .slice none 0 0, .slice none 0 0] 84)) ⟨w.heap.size + 1, 2, none⟩ = some (.slice Aq q.length cq) := by simp [go_sem]
  have Qlq := Lib.hid qlq
  clear qlq
  cases hE : Sg.validL g ⟨v, r, q⟩
  · have HE := Lib.hid hE
    have HS := Lib.hid (show Sg.writeLO g ⟨v, r, q⟩ n x = (⟨[], [], []⟩, false) by unfold Sg.writeLO Sg.mayWriteL; rw [hE]; rfl)
    clear hE
    go_enter Tryz.func62, Tryz.ntmps62
    go_wp2_with fail
    refine (HV.out _ (H.out.ext E0.out) (Hv.out.ext E0.out) (Hr.out.ext E0.out) (Hq.out.ext E0.out)).mono ?_
    rintro e w1 ⟨rfl, he1⟩
    rw [HE.out]
    have U1 := Lib.hid ((Ext.rfl' (World.alloc (World.alloc (World.alloc w (.cells #[.slice A g.length c] 25)) (.cells #[.slice Av v.length cv, .slice Ar r.length cr, .slice Aq q.length cq] 84)) (.cells #[.slice none 0 0, .slice none 0 0, .slice none 0 0] 84))).tr he1)
    have E1 := Lib.hid (E0.out.tr U1.out)
    have lg_1 := U1.out.cellE Qlg.out
    have lv_1 := U1.out.cellE Qlv.out
    have lr_1 := U1.out.cellE Qlr.out
    have lq_1 := U1.out.cellE Qlq.out
    clear he1 
    have blg_1 := blt lg_1
    have blv_1 := blt lv_1
    have blr_1 := blt lr_1
    have blq_1 := blt lq_1
    have BR := Lib.hid (BR0.out.ext ((Ext.rfl' (World.alloc (World.alloc (World.alloc w (.cells #[.slice A g.length c] 25)) (.cells #[.slice Av v.length cv, .slice Ar r.length cr, .slice Aq q.length cq] 84)) (.cells #[.slice none 0 0, .slice none 0 0, .slice none 0 0] 84))).tr U1.out))
    have f0 := BR.out.free 0
    have f1 := BR.out.free 1
    have f2 := BR.out.free 2
    have x0 := BR.out.cell (j := 0) rfl
    have x1 := BR.out.cell (j := 1) rfl
    have x2 := BR.out.cell (j := 2) rfl
    have bl := BR.out.lt
    go_wp2
    have s0 : ∀ u0 u1 u2 : Value, World.cell? (World.setCell (World.setCell (World.setCell w1 ⟨w.heap.size + 1 + 1, 0, none⟩ u0) ⟨w.heap.size + 1 + 1, 1, none⟩ u1) ⟨w.heap.size + 1 + 1, 2, none⟩ u2) ⟨w.heap.size + 1 + 1, 0, none⟩ = some u0 := fun u0 u1 u2 => (((BR.out.set 0 u0).set 1 u1).set 2 u2).cell (j := 0) rfl
    have s1 : ∀ u0 u1 u2 : Value, World.cell? (World.setCell (World.setCell (World.setCell w1 ⟨w.heap.size + 1 + 1, 0, none⟩ u0) ⟨w.heap.size + 1 + 1, 1, none⟩ u1) ⟨w.heap.size + 1 + 1, 2, none⟩ u2) ⟨w.heap.size + 1 + 1, 1, none⟩ = some u1 := fun u0 u1 u2 => (((BR.out.set 0 u0).set 1 u1).set 2 u2).cell (j := 1) rfl
    have s2 : ∀ u0 u1 u2 : Value, World.cell? (World.setCell (World.setCell (World.setCell w1 ⟨w.heap.size + 1 + 1, 0, none⟩ u0) ⟨w.heap.size + 1 + 1, 1, none⟩ u1) ⟨w.heap.size + 1 + 1, 2, none⟩ u2) ⟨w.heap.size + 1 + 1, 2, none⟩ = some u2 := fun u0 u1 u2 => (((BR.out.set 0 u0).set 1 u1).set 2 u2).cell (j := 2) rfl
    refine bodyPost_ret (v := .tuple #[.agg #[.slice none 0 0, .slice none 0 0, .slice none 0 0], .bool false]) (by simp [results, Tryz.results62, go_sem, s0, s1, s2]; try rfl) rfl ?_
    have hS := Mod.set (F := fun b => b = w.heap.size + 1 + 1) (Mod.set (F := fun b => b = w.heap.size + 1 + 1) (Mod.set (F := fun b => b = w.heap.size + 1 + 1) (Mod.rfl' (fun b => b = w.heap.size + 1 + 1) w1) (p := ⟨w.heap.size + 1 + 1, 0, none⟩) (.inl rfl) (.slice none 0 0)) (p := ⟨w.heap.size + 1 + 1, 1, none⟩) (.inl rfl) (.slice none 0 0)) (p := ⟨w.heap.size + 1 + 1, 2, none⟩) (.inl rfl) (.slice none 0 0)
    rw [HS.out]
    exact ⟨none, 0, none, 0, none, 0, [], rfl, OwnZ.nil _ _, (((E1.out.set (p := ⟨w.heap.size + 1 + 1, 0, none⟩) (show w.heap.size ≤ w.heap.size + 1 + 1 by omega) _).set (p := ⟨w.heap.size + 1 + 1, 1, none⟩) (show w.heap.size ≤ w.heap.size + 1 + 1 by omega) _).set (p := ⟨w.heap.size + 1 + 1, 2, none⟩) (show w.heap.size ≤ w.heap.size + 1 + 1 by omega) _)⟩
  have HE := Lib.hid hE
  cases hC : Sg.isCell g n
  · have HCC := Lib.hid hC
    have HS := Lib.hid (show Sg.writeLO g ⟨v, r, q⟩ n x = (⟨[], [], []⟩, false) by unfold Sg.writeLO Sg.mayWriteL; rw [hE, hC]; rfl)
    clear hE hC
    go_enter Tryz.func62, Tryz.ntmps62
    go_wp2_with fail
    refine (HV.out _ (H.out.ext E0.out) (Hv.out.ext E0.out) (Hr.out.ext E0.out) (Hq.out.ext E0.out)).mono ?_
    rintro e w1 ⟨rfl, he1⟩
    rw [HE.out]
    have U1 := Lib.hid ((Ext.rfl' (World.alloc (World.alloc (World.alloc w (.cells #[.slice A g.length c] 25)) (.cells #[.slice Av v.length cv, .slice Ar r.length cr, .slice Aq q.length cq] 84)) (.cells #[.slice none 0 0, .slice none 0 0, .slice none 0 0] 84))).tr he1)
    have E1 := Lib.hid (E0.out.tr U1.out)
    have lg_1 := U1.out.cellE Qlg.out
    have lv_1 := U1.out.cellE Qlv.out
    have lr_1 := U1.out.cellE Qlr.out
    have lq_1 := U1.out.cellE Qlq.out
    clear he1 
    have blg_1 := blt lg_1
    have blv_1 := blt lv_1
    have blr_1 := blt lr_1
    have blq_1 := blt lq_1
    go_wp2_with fail
    refine (HC.out _ (H.out.ext E1.out)).mono ?_
    rintro e w2 ⟨rfl, he2⟩
    rw [HCC.out]
    have U2 := Lib.hid ((Ext.rfl' w1).tr he2)
    have E2 := Lib.hid (E1.out.tr U2.out)
    have lg_2 := U2.out.cellE lg_1
    have lv_2 := U2.out.cellE lv_1
    have lr_2 := U2.out.cellE lr_1
    have lq_2 := U2.out.cellE lq_1
    clear he2 lg_1 lv_1 lr_1 lq_1 blg_1 blv_1 blr_1 blq_1
    have blg_2 := blt lg_2
    have blv_2 := blt lv_2
    have blr_2 := blt lr_2
    have blq_2 := blt lq_2
    have BR := Lib.hid (BR0.out.ext (((Ext.rfl' (World.alloc (World.alloc (World.alloc w (.cells #[.slice A g.length c] 25)) (.cells #[.slice Av v.length cv, .slice Ar r.length cr, .slice Aq q.length cq] 84)) (.cells #[.slice none 0 0, .slice none 0 0, .slice none 0 0] 84))).tr U1.out).tr U2.out))
    have f0 := BR.out.free 0
    have f1 := BR.out.free 1
    have f2 := BR.out.free 2
    have x0 := BR.out.cell (j := 0) rfl
    have x1 := BR.out.cell (j := 1) rfl
    have x2 := BR.out.cell (j := 2) rfl
    have bl := BR.out.lt
    go_wp2
    have s0 : ∀ u0 u1 u2 : Value, World.cell? (World.setCell (World.setCell (World.setCell w2 ⟨w.heap.size + 1 + 1, 0, none⟩ u0) ⟨w.heap.size + 1 + 1, 1, none⟩ u1) ⟨w.heap.size + 1 + 1, 2, none⟩ u2) ⟨w.heap.size + 1 + 1, 0, none⟩ = some u0 := fun u0 u1 u2 => (((BR.out.set 0 u0).set 1 u1).set 2 u2).cell (j := 0) rfl
    have s1 : ∀ u0 u1 u2 : Value, World.cell? (World.setCell (World.setCell (World.setCell w2 ⟨w.heap.size + 1 + 1, 0, none⟩ u0) ⟨w.heap.size + 1 + 1, 1, none⟩ u1) ⟨w.heap.size + 1 + 1, 2, none⟩ u2) ⟨w.heap.size + 1 + 1, 1, none⟩ = some u1 := fun u0 u1 u2 => (((BR.out.set 0 u0).set 1 u1).set 2 u2).cell (j := 1) rfl
    have s2 : ∀ u0 u1 u2 : Value, World.cell? (World.setCell (World.setCell (World.setCell w2 ⟨w.heap.size + 1 + 1, 0, none⟩ u0) ⟨w.heap.size + 1 + 1, 1, none⟩ u1) ⟨w.heap.size + 1 + 1, 2, none⟩ u2) ⟨w.heap.size + 1 + 1, 2, none⟩ = some u2 := fun u0 u1 u2 => (((BR.out.set 0 u0).set 1 u1).set 2 u2).cell (j := 2) rfl
    refine bodyPost_ret (v := .tuple #[.agg #[.slice none 0 0, .slice none 0 0, .slice none 0 0], .bool false]) (by simp [results, Tryz.results62, go_sem, s0, s1, s2]; try rfl) rfl ?_
    have hS := Mod.set (F := fun b => b = w.heap.size + 1 + 1) (Mod.set (F := fun b => b = w.heap.size + 1 + 1) (Mod.set (F := fun b => b = w.heap.size + 1 + 1) (Mod.rfl' (fun b => b = w.heap.size + 1 + 1) w2) (p := ⟨w.heap.size + 1 + 1, 0, none⟩) (.inl rfl) (.slice none 0 0)) (p := ⟨w.heap.size + 1 + 1, 1, none⟩) (.inl rfl) (.slice none 0 0)) (p := ⟨w.heap.size + 1 + 1, 2, none⟩) (.inl rfl) (.slice none 0 0)
    rw [HS.out]
    exact ⟨none, 0, none, 0, none, 0, [], rfl, OwnZ.nil _ _, (((E2.out.set (p := ⟨w.heap.size + 1 + 1, 0, none⟩) (show w.heap.size ≤ w.heap.size + 1 + 1 by omega) _).set (p := ⟨w.heap.size + 1 + 1, 1, none⟩) (show w.heap.size ≤ w.heap.size + 1 + 1 by omega) _).set (p := ⟨w.heap.size + 1 + 1, 2, none⟩) (show w.heap.size ≤ w.heap.size + 1 + 1 by omega) _)⟩
  have HCC := Lib.hid hC
  cases hX : Sg.inR x 0 999
  · have HX := Lib.hid hX
    have HS := Lib.hid (show Sg.writeLO g ⟨v, r, q⟩ n x = (⟨[], [], []⟩, false) by unfold Sg.writeLO Sg.mayWriteL; rw [hE, hC, hX]; rfl)
    clear hE hC hX
    go_enter Tryz.func62, Tryz.ntmps62
    go_wp2_with fail
    refine (HV.out _ (H.out.ext E0.out) (Hv.out.ext E0.out) (Hr.out.ext E0.out) (Hq.out.ext E0.out)).mono ?_
    rintro e w1 ⟨rfl, he1⟩
    rw [HE.out]
    have U1 := Lib.hid ((Ext.rfl' (World.alloc (World.alloc (World.alloc w (.cells #[.slice A g.length c] 25)) (.cells #[.slice Av v.length cv, .slice Ar r.length cr, .slice Aq q.length cq] 84)) (.cells #[.slice none 0 0, .slice none 0 0, .slice none 0 0] 84))).tr he1)
    have E1 := Lib.hid (E0.out.tr U1.out)
    have lg_1 := U1.out.cellE Qlg.out
    have lv_1 := U1.out.cellE Qlv.out
    have lr_1 := U1.out.cellE Qlr.out
    have lq_1 := U1.out.cellE Qlq.out
    clear he1 
    have blg_1 := blt lg_1
    have blv_1 := blt lv_1
    have blr_1 := blt lr_1
    have blq_1 := blt lq_1
    go_wp2_with fail
    refine (HC.out _ (H.out.ext E1.out)).mono ?_
    rintro e w2 ⟨rfl, he2⟩
    rw [HCC.out]
    have U2 := Lib.hid ((Ext.rfl' w1).tr he2)
    have E2 := Lib.hid (E1.out.tr U2.out)
    have lg_2 := U2.out.cellE lg_1
    have lv_2 := U2.out.cellE lv_1
    have lr_2 := U2.out.cellE lr_1
    have lq_2 := U2.out.cellE lq_1
    clear he2 lg_1 lv_1 lr_1 lq_1 blg_1 blv_1 blr_1 blq_1
    have blg_2 := blt lg_2
    have blv_2 := blt lv_2
    have blr_2 := blt lr_2
    have blq_2 := blt lq_2
    go_wp2_with fail
    refine (HI.out _).mono ?_
    rintro e w' ⟨rfl, rfl⟩
    rw [HX.out]
    have BR := Lib.hid (BR0.out.ext (((Ext.rfl' (World.alloc (World.alloc (World.alloc w (.cells #[.slice A g.length c] 25)) (.cells #[.slice Av v.length cv, .slice Ar r.length cr, .slice Aq q.length cq] 84)) (.cells #[.slice none 0 0, .slice none 0 0, .slice none 0 0] 84))).tr U1.out).tr U2.out))
    have f0 := BR.out.free 0
    have f1 := BR.out.free 1
    have f2 := BR.out.free 2
    have x0 := BR.out.cell (j := 0) rfl
    have x1 := BR.out.cell (j := 1) rfl
    have x2 := BR.out.cell (j := 2) rfl
    have bl := BR.out.lt
    go_wp2
    have s0 : ∀ u0 u1 u2 : Value, World.cell? (World.setCell (World.setCell (World.setCell w2 ⟨w.heap.size + 1 + 1, 0, none⟩ u0) ⟨w.heap.size + 1 + 1, 1, none⟩ u1) ⟨w.heap.size + 1 + 1, 2, none⟩ u2) ⟨w.heap.size + 1 + 1, 0, none⟩ = some u0 := fun u0 u1 u2 => (((BR.out.set 0 u0).set 1 u1).set 2 u2).cell (j := 0) rfl
    have s1 : ∀ u0 u1 u2 : Value, World.cell? (World.setCell (World.setCell (World.setCell w2 ⟨w.heap.size + 1 + 1, 0, none⟩ u0) ⟨w.heap.size + 1 + 1, 1, none⟩ u1) ⟨w.heap.size + 1 + 1, 2, none⟩ u2) ⟨w.heap.size + 1 + 1, 1, none⟩ = some u1 := fun u0 u1 u2 => (((BR.out.set 0 u0).set 1 u1).set 2 u2).cell (j := 1) rfl
    have s2 : ∀ u0 u1 u2 : Value, World.cell? (World.setCell (World.setCell (World.setCell w2 ⟨w.heap.size + 1 + 1, 0, none⟩ u0) ⟨w.heap.size + 1 + 1, 1, none⟩ u1) ⟨w.heap.size + 1 + 1, 2, none⟩ u2) ⟨w.heap.size + 1 + 1, 2, none⟩ = some u2 := fun u0 u1 u2 => (((BR.out.set 0 u0).set 1 u1).set 2 u2).cell (j := 2) rfl
    refine bodyPost_ret (v := .tuple #[.agg #[.slice none 0 0, .slice none 0 0, .slice none 0 0], .bool false]) (by simp [results, Tryz.results62, go_sem, s0, s1, s2]; try rfl) rfl ?_
    have hS := Mod.set (F := fun b => b = w.heap.size + 1 + 1) (Mod.set (F := fun b => b = w.heap.size + 1 + 1) (Mod.set (F := fun b => b = w.heap.size + 1 + 1) (Mod.rfl' (fun b => b = w.heap.size + 1 + 1) w2) (p := ⟨w.heap.size + 1 + 1, 0, none⟩) (.inl rfl) (.slice none 0 0)) (p := ⟨w.heap.size + 1 + 1, 1, none⟩) (.inl rfl) (.slice none 0 0)) (p := ⟨w.heap.size + 1 + 1, 2, none⟩) (.inl rfl) (.slice none 0 0)
    rw [HS.out]
    exact ⟨none, 0, none, 0, none, 0, [], rfl, OwnZ.nil _ _, (((E2.out.set (p := ⟨w.heap.size + 1 + 1, 0, none⟩) (show w.heap.size ≤ w.heap.size + 1 + 1 by omega) _).set (p := ⟨w.heap.size + 1 + 1, 1, none⟩) (show w.heap.size ≤ w.heap.size + 1 + 1 by omega) _).set (p := ⟨w.heap.size + 1 + 1, 2, none⟩) (show w.heap.size ≤ w.heap.size + 1 + 1 by omega) _)⟩
  have HX := Lib.hid hX
  obtain ⟨hG, hvg, hrg, hqg, _⟩ := Sg.validL_shape hE
  have h10 := vG_len hG
  obtain ⟨j, nd, rfl, hnd, _⟩ := Sg.isCell_at hC
  have hj := (List.getElem?_eq_some_iff.1 hnd).1
  have HS := Lib.hid (show Sg.writeLO g ⟨v, r, q⟩ (j : Int) x = (Sg.writeL ⟨v, r, q⟩ j x, true) by unfold Sg.writeLO Sg.mayWriteL; rw [hE, hC, hX]; rfl)
  have HA := Lib.hid (Sg.ahead_of hE)
  have HCR := Lib.hid (Sg.cols_range hE)
  have HRS := Lib.hid (show ∀ l ∈ r, l.length ≤ 1048576 from fun l hl => Nat.le_trans (reads_small hE l hl) (by omega))
  have hvg' : v.length = g.length := hvg
  have hrg' : r.length = g.length := hrg
  have hqg' : q.length = g.length := hqg
  have HVG := Lib.hid hvg'
  have HRG := Lib.hid hrg'
  have HQG := Lib.hid hqg'
  have hv10 : v.length ≤ 10 := by omega
  have hr10 : r.length ≤ 10 := by omega
  have hq10 : q.length ≤ 10 := by omega
  have hv0 : 0 < v.length := by omega
  have hq0 : 0 < q.length := by omega
  have hjq : j < q.length := by omega
  clear hE hC hX hG hvg hrg hqg hnd h10 hvg' hrg' hqg'
  go_enter Tryz.func62, Tryz.ntmps62
  go_wp2_with fail
  refine (HV.out _ (H.out.ext E0.out) (Hv.out.ext E0.out) (Hr.out.ext E0.out) (Hq.out.ext E0.out)).mono ?_
  rintro e w1 ⟨rfl, he1⟩
  rw [HE.out]
  have U1 := Lib.hid ((Ext.rfl' (World.alloc (World.alloc (World.alloc w (.cells #[.slice A g.length c] 25)) (.cells #[.slice Av v.length cv, .slice Ar r.length cr, .slice Aq q.length cq] 84)) (.cells #[.slice none 0 0, .slice none 0 0, .slice none 0 0] 84))).tr he1)
  have E1 := Lib.hid (E0.out.tr U1.out)
  have lg_1 := U1.out.cellE Qlg.out
  have lv_1 := U1.out.cellE Qlv.out
  have lr_1 := U1.out.cellE Qlr.out
  have lq_1 := U1.out.cellE Qlq.out
  clear he1 
  have blg_1 := blt lg_1
  have blv_1 := blt lv_1
  have blr_1 := blt lr_1
  have blq_1 := blt lq_1
  go_wp2_with fail
  refine (HC.out _ (H.out.ext E1.out)).mono ?_
  rintro e w2 ⟨rfl, he2⟩
  rw [HCC.out]
  have U2 := Lib.hid ((Ext.rfl' w1).tr he2)
  have E2 := Lib.hid (E1.out.tr U2.out)
  have lg_2 := U2.out.cellE lg_1
  have lv_2 := U2.out.cellE lv_1
  have lr_2 := U2.out.cellE lr_1
  have lq_2 := U2.out.cellE lq_1
  clear he2 lg_1 lv_1 lr_1 lq_1 blg_1 blv_1 blr_1 blq_1
  have blg_2 := blt lg_2
  have blv_2 := blt lv_2
  have blr_2 := blt lr_2
  have blq_2 := blt lq_2
  go_wp2_with fail
  refine (HI.out _).mono ?_
  rintro e w' ⟨rfl, rfl⟩
  rw [HX.out]
  have hbz := Bx.lt (BR0.out.ext (((Ext.rfl' (World.alloc (World.alloc (World.alloc w (.cells #[.slice A g.length c] 25)) (.cells #[.slice Av v.length cv, .slice Ar r.length cr, .slice Aq q.length cq] 84)) (.cells #[.slice none 0 0, .slice none 0 0, .slice none 0 0] 84))).tr U1.out).tr U2.out))
  go_wp2_with fail
  refine (i_copyZ Av Ar Aq cv cr cq v q r _ (Hv.out.ext E2.out) (Hr.out.l.ext E2.out) (Hq.out.ext E2.out) hvl hql).mono ?_
  rintro e w3 ⟨A1, c1, A2, c2, A3, c3, hs, rfl, hoz, he3⟩
  obtain ⟨gv, rfl, _⟩ := hoz.v.at_ (by simpa using hv0)
  obtain ⟨gq, rfl, _⟩ := hoz.q.at_ (by simpa using hq0)
  obtain ⟨hne, hgv1, hgv2, hgq1, hgq2⟩ := gvq hoz
  have OZ0 := Lib.hid hoz
  clear hoz
  have U3 := Lib.hid ((Ext.rfl' w2).tr he3)
  have E3 := Lib.hid (E2.out.tr U3.out)
  have lg_3 := U3.out.cellE lg_2
  have lv_3 := U3.out.cellE lv_2
  have lr_3 := U3.out.cellE lr_2
  have lq_3 := U3.out.cellE lq_2
  clear he3 lg_2 lv_2 lr_2 lq_2 blg_2 blv_2 blr_2 blq_2
  have blg_3 := blt lg_3
  have blv_3 := blt lv_3
  have blr_3 := blt lr_3
  have blq_3 := blt lq_3
  go_upto_region 4 with fail
  have he4 := Ext.rfl' (World.alloc w3 (.cells #[.slice (some ⟨gv, 0, none⟩) v.length c1, .slice A2 r.length c2, .slice (some ⟨gq, 0, none⟩) q.length c3] 84))
  have U4 := Lib.hid ((Ext.al (Ext.rfl' w3) (.cells #[.slice (some ⟨gv, 0, none⟩) v.length c1, .slice A2 r.length c2, .slice (some ⟨gq, 0, none⟩) q.length c3] 84)).tr he4)
  have E4 := Lib.hid (E3.out.tr U4.out)
  have lg_4 := U4.out.cellE lg_3
  have lv_4 := U4.out.cellE lv_3
  have lr_4 := U4.out.cellE lr_3
  have lq_4 := U4.out.cellE lq_3
  have ov_4 := he4.cellE (show World.cell? (World.alloc w3 (.cells #[.slice (some ⟨gv, 0, none⟩) v.length c1, .slice A2 r.length c2, .slice (some ⟨gq, 0, none⟩) q.length c3] 84)) ⟨w3.heap.size, 0, none⟩ = some (.slice (some ⟨gv, 0, none⟩) v.length c1) by simp [go_sem])
  have or_4 := he4.cellE (show World.cell? (World.alloc w3 (.cells #[.slice (some ⟨gv, 0, none⟩) v.length c1, .slice A2 r.length c2, .slice (some ⟨gq, 0, none⟩) q.length c3] 84)) ⟨w3.heap.size, 1, none⟩ = some (.slice A2 r.length c2) by simp [go_sem])
  have oq_4 := he4.cellE (show World.cell? (World.alloc w3 (.cells #[.slice (some ⟨gv, 0, none⟩) v.length c1, .slice A2 r.length c2, .slice (some ⟨gq, 0, none⟩) q.length c3] 84)) ⟨w3.heap.size, 2, none⟩ = some (.slice (some ⟨gq, 0, none⟩) q.length c3) by simp [go_sem])
  clear he4 lg_3 lv_3 lr_3 lq_3 blg_3 blv_3 blr_3 blq_3
  have blg_4 := blt lg_4
  have blv_4 := blt lv_4
  have blr_4 := blt lr_4
  have blq_4 := blt lq_4
  have bov_4 := blt ov_4
  have bor_4 := blt or_4
  have boq_4 := blt oq_4
  generalize (World.alloc w3 (.cells #[.slice (some ⟨gv, 0, none⟩) v.length c1, .slice A2 r.length c2, .slice (some ⟨gq, 0, none⟩) q.length c3] 84)) = w4 at *
  have OZ := Lib.hid (OZ0.out.ext (Ext.tr (Ext.rfl' _) U4.out))
  have BR := Lib.hid (BR0.out.ext (((((Ext.rfl' (World.alloc (World.alloc (World.alloc w (.cells #[.slice A g.length c] 25)) (.cells #[.slice Av v.length cv, .slice Ar r.length cr, .slice Aq q.length cq] 84)) (.cells #[.slice none 0 0, .slice none 0 0, .slice none 0 0] 84))).tr U1.out).tr U2.out).tr U3.out).tr U4.out))
  have hz2 := E2.out.size
  go_wp2_with fail
  refine (i_writeZ w2.heap.size j gv gq x A2 c1 c2 c3 v q r _ HA.out (by rw [HVG.out, HQG.out]) (by rw [HRG.out, HQG.out]) (by omega) hjq hne (fun W m => OZ.out.rdL' (by omega) HRS.out W (m.mono (fun b _ e => e.imp (fun e => by rw [e]; rfl) (fun e => by rw [e]; rfl)))) OZ.out.v OZ.out.q).mono ?_
  rintro e wf ⟨rfl, hv6, hq6, hm6⟩
  have V6 := Lib.hid hv6
  have Q6 := Lib.hid hq6
  have M6 := Lib.hid hm6
  have hbl := BR.out.lt
  have BRf := Lib.hid (BR.out.mod hm6 (by omega))
  have ov_f := hm6.cellE ov_4 (by omega)
  have or_f := hm6.cellE or_4 (by omega)
  have oq_f := hm6.cellE oq_4 (by omega)
  have bov := blt ov_f
  clear hv6 hq6 hm6 ov_4 or_4 oq_4 lg_4 lv_4 lr_4 lq_4
  have f0 := BRf.out.free 0
  have f1 := BRf.out.free 1
  have f2 := BRf.out.free 2
  have x0 := BRf.out.cell (j := 0) rfl
  have x1 := BRf.out.cell (j := 1) rfl
  have x2 := BRf.out.cell (j := 2) rfl
  have bl := BRf.out.lt
  go_wp2
  have s0 : ∀ u0 u1 u2 : Value, World.cell? (World.setCell (World.setCell (World.setCell wf ⟨w.heap.size + 1 + 1, 0, none⟩ u0) ⟨w.heap.size + 1 + 1, 1, none⟩ u1) ⟨w.heap.size + 1 + 1, 2, none⟩ u2) ⟨w.heap.size + 1 + 1, 0, none⟩ = some u0 := fun u0 u1 u2 => (((BRf.out.set 0 u0).set 1 u1).set 2 u2).cell (j := 0) rfl
  have s1 : ∀ u0 u1 u2 : Value, World.cell? (World.setCell (World.setCell (World.setCell wf ⟨w.heap.size + 1 + 1, 0, none⟩ u0) ⟨w.heap.size + 1 + 1, 1, none⟩ u1) ⟨w.heap.size + 1 + 1, 2, none⟩ u2) ⟨w.heap.size + 1 + 1, 1, none⟩ = some u1 := fun u0 u1 u2 => (((BRf.out.set 0 u0).set 1 u1).set 2 u2).cell (j := 1) rfl
  have s2 : ∀ u0 u1 u2 : Value, World.cell? (World.setCell (World.setCell (World.setCell wf ⟨w.heap.size + 1 + 1, 0, none⟩ u0) ⟨w.heap.size + 1 + 1, 1, none⟩ u1) ⟨w.heap.size + 1 + 1, 2, none⟩ u2) ⟨w.heap.size + 1 + 1, 2, none⟩ = some u2 := fun u0 u1 u2 => (((BRf.out.set 0 u0).set 1 u1).set 2 u2).cell (j := 2) rfl
  refine bodyPost_ret (v := .tuple #[.agg #[.slice (some ⟨gv, 0, none⟩) v.length c1, .slice A2 r.length c2, .slice (some ⟨gq, 0, none⟩) q.length c3], .bool true]) (by simp [results, Tryz.results62, go_sem, s0, s1, s2]; try rfl) rfl ?_
  have hS := Mod.set (F := fun b => b = w.heap.size + 1 + 1) (Mod.set (F := fun b => b = w.heap.size + 1 + 1) (Mod.set (F := fun b => b = w.heap.size + 1 + 1) (Mod.rfl' (fun b => b = w.heap.size + 1 + 1) wf) (p := ⟨w.heap.size + 1 + 1, 0, none⟩) (.inl rfl) (.slice (some ⟨gv, 0, none⟩) v.length c1)) (p := ⟨w.heap.size + 1 + 1, 1, none⟩) (.inl rfl) (.slice A2 r.length c2)) (p := ⟨w.heap.size + 1 + 1, 2, none⟩) (.inl rfl) (.slice (some ⟨gq, 0, none⟩) q.length c3)
  rw [HS.out]
  obtain ⟨lv, lr, lq⟩ := Sg.writeL_len ⟨v, r, q⟩ j x
  have hT := OZ.out.turn V6.out Q6.out M6.out lv lq
  have hw : Sg.writeL ⟨v, r, q⟩ j x = ⟨(Sg.writeL ⟨v, r, q⟩ j x).vals, r, (Sg.writeL ⟨v, r, q⟩ j x).cols⟩ := Sg.writeL_eq ⟨v, r, q⟩ j x
  refine ⟨some ⟨gv, 0, none⟩, c1, A2, c2, some ⟨gq, 0, none⟩, c3, hs, ?_, ?_, ((((Ext.md E4.out M6.out (fun b e => by omega)).set (p := ⟨w.heap.size + 1 + 1, 0, none⟩) (show w.heap.size ≤ w.heap.size + 1 + 1 by omega) _).set (p := ⟨w.heap.size + 1 + 1, 1, none⟩) (show w.heap.size ≤ w.heap.size + 1 + 1 by omega) _).set (p := ⟨w.heap.size + 1 + 1, 2, none⟩) (show w.heap.size ≤ w.heap.size + 1 + 1 by omega) _)⟩
  · rw [show (Sg.writeL ⟨v, r, q⟩ j x, true).1 = Sg.writeL ⟨v, r, q⟩ j x from rfl, lv, lr, lq]
  · have h9 := (hT.mod hS (fun b hb e => by have := (OwnZ.lt hT hb).1; omega)).mono (B' := w.heap.size) (by omega)
    rw [← hw] at h9
    exact h9
end Go.Proofs.YtjogmblilagohaaGreat

/- WriteLazy of the reference: its contract. Conditions: bounds on lengths. -/
namespace Go.Proofs.YtjogmblilagohaaGreat
open Go.RowKit


set_option maxRecDepth 100000 in
set_option maxHeartbeats 8000000 in
theorem s_WriteLazy (A Av Ar Aq : Option Addr) (c cv cr cq : Nat) (g : Sg.Graph) (v q : List Int) (r : List (List Int)) (n x : Int) (w : World) (h : RdN w A g) (hv : Rd w 1 Av v.length (ints v)) (hr : RdLC w Ar r) (hq : Rd w 1 Aq q.length (ints q)) (hvl : v.length ≤ 1048576) (hql : q.length ≤ 1048576) :
    Calls Tryz.prog 60 #[.agg #[.slice A g.length c], .agg #[.slice Av v.length cv, .slice Ar r.length cr, .slice Aq q.length cq], .int .i64 n, .int .i64 x] w fun e w' => ∃ A1 c1 A2 c2 A3 c3 hs, e = .returned (.tuple #[.agg #[.slice A1 (Sg.writeLO g ⟨v, r, q⟩ n x).1.vals.length c1, .slice A2 (Sg.writeLO g ⟨v, r, q⟩ n x).1.reads.length c2, .slice A3 (Sg.writeLO g ⟨v, r, q⟩ n x).1.cols.length c3], .bool (Sg.writeLO g ⟨v, r, q⟩ n x).2]) ∧
      OwnZ w' w.heap.size A1 c1 A2 c2 A3 c3 hs (Sg.writeLO g ⟨v, r, q⟩ n x).1 ∧ Ext w w' := by
  have hgl := h.1
  have HV := Lib.hid (fun w h hv hr hq => s_validLazy A Av Ar Aq c cv cr cq g v q r w h hv hr hq hvl hql)
  have HC := Lib.hid (fun w h => s_isCell A c g n w h)
  have HI := Lib.hid (fun w => s_inRange x 0 999 w)
  have H := Lib.hid h
  have Hv := Lib.hid hv
  have Hr := Lib.hid hr
  have Hq := Lib.hid hq
  clear h hv hr hq
  have b0 := Bx.new (World.alloc (World.alloc w (.cells #[.slice A g.length c] 25)) (.cells #[.slice Av v.length cv, .slice Ar r.length cr, .slice Aq q.length cq] 84)) #[.slice none 0 0, .slice none 0 0, .slice none 0 0] 84
  simp only [World.size_alloc] at b0
  have BR0 := Lib.hid b0
  clear b0
  have E0 := Lib.hid (((((Ext.rfl' w).al (.cells #[.slice A g.length c] 25)).al (.cells #[.slice Av v.length cv, .slice Ar r.length cr, .slice Aq q.length cq] 84)).al (.cells #[.slice none 0 0, .slice none 0 0, .slice none 0 0] 84)) : Ext w (World.alloc (World.alloc (World.alloc w (.cells #[.slice A g.length c] 25)) (.cells #[.slice Av v.length cv, .slice Ar r.length cr, .slice Aq q.length cq] 84)) (.cells #[.slice none 0 0, .slice none 0 0, .slice none 0 0] 84)))
  have qlg : World.cell? (World.alloc (World.alloc (World.alloc w (.cells #[.slice A g.length c] 25)) (.cells #[.slice Av v.length cv, .slice Ar r.length cr, .slice Aq q.length cq] 84)) (.cells #[.slice none 0 0, .slice none 0 0, .slice none 0 0] 84)) ⟨w.heap.size, 0, none⟩ = some (.slice A g.length c) := by simp [go_sem]
  have Qlg := Lib.hid qlg
  clear qlg
  have qlv : World.cell? (World.alloc (World.alloc (World.alloc w (.cells #[.slice A g.length c] 25)) (.cells #[.slice Av v.length cv, .slice Ar r.length cr, .slice Aq q.length cq] 84)) (.cells #[.slice none 0 0, .slice none 0 0, .slice none 0 0] 84)) ⟨w.heap.size + 1, 0, none⟩ = some (.slice Av v.length cv) := by simp [go_sem]
  have Qlv := Lib.hid qlv
  clear qlv
  have qlr : World.cell? (World.alloc (World.alloc (World.alloc w (.cells #[.slice A g.length c] 25)) (.cells #[.slice Av v.length cv, .slice Ar r.length cr, .slice Aq q.length cq] 84)) (.cells #[.slice none 0 0, .slice none 0 0, .slice none 0 0] 84)) ⟨w.heap.size + 1, 1, none⟩ = some (.slice Ar r.length cr) := by simp [go_sem]
  have Qlr := Lib.hid qlr
  clear qlr
  have qlq : World.cell? (World.alloc (World.alloc (World.alloc w (.cells #[.slice A g.length c] 25)) (.cells #[.slice Av v.length cv, .slice Ar r.length cr, .slice Aq q.length cq] 84)) (.cells #[.slice none 0 0, .slice none 0 0, .slice none 0 0] 84)) ⟨w.heap.size + 1, 2, none⟩ = some (.slice Aq q.length cq) := by simp [go_sem]
  have Qlq := Lib.hid qlq
  clear qlq
  cases hE : Sg.validL g ⟨v, r, q⟩
  · have HE := Lib.hid hE
    have HS := Lib.hid (show Sg.writeLO g ⟨v, r, q⟩ n x = (⟨[], [], []⟩, false) by unfold Sg.writeLO Sg.mayWriteL; rw [hE]; rfl)
    clear hE
    go_enter Tryz.func60, Tryz.ntmps60
    go_wp2_with fail
    refine (HV.out _ (H.out.ext E0.out) (Hv.out.ext E0.out) (Hr.out.l.ext E0.out) (Hq.out.ext E0.out)).mono ?_
    rintro e w1 ⟨rfl, he1⟩
    rw [Sg.validL_same, HE.out]
    have U1 := Lib.hid ((Ext.rfl' (World.alloc (World.alloc (World.alloc w (.cells #[.slice A g.length c] 25)) (.cells #[.slice Av v.length cv, .slice Ar r.length cr, .slice Aq q.length cq] 84)) (.cells #[.slice none 0 0, .slice none 0 0, .slice none 0 0] 84))).tr he1)
    have E1 := Lib.hid (E0.out.tr U1.out)
    have lg_1 := U1.out.cellE Qlg.out
    have lv_1 := U1.out.cellE Qlv.out
    have lr_1 := U1.out.cellE Qlr.out
    have lq_1 := U1.out.cellE Qlq.out
    clear he1 
    have blg_1 := blt lg_1
    have blv_1 := blt lv_1
    have blr_1 := blt lr_1
    have blq_1 := blt lq_1
    have BR := Lib.hid (BR0.out.ext ((Ext.rfl' (World.alloc (World.alloc (World.alloc w (.cells #[.slice A g.length c] 25)) (.cells #[.slice Av v.length cv, .slice Ar r.length cr, .slice Aq q.length cq] 84)) (.cells #[.slice none 0 0, .slice none 0 0, .slice none 0 0] 84))).tr U1.out))
    have f0 := BR.out.free 0
    have f1 := BR.out.free 1
    have f2 := BR.out.free 2
    have x0 := BR.out.cell (j := 0) rfl
    have x1 := BR.out.cell (j := 1) rfl
    have x2 := BR.out.cell (j := 2) rfl
    have bl := BR.out.lt
    go_wp2
    have s0 : ∀ u0 u1 u2 : Value, World.cell? (World.setCell (World.setCell (World.setCell w1 ⟨w.heap.size + 1 + 1, 0, none⟩ u0) ⟨w.heap.size + 1 + 1, 1, none⟩ u1) ⟨w.heap.size + 1 + 1, 2, none⟩ u2) ⟨w.heap.size + 1 + 1, 0, none⟩ = some u0 := fun u0 u1 u2 => (((BR.out.set 0 u0).set 1 u1).set 2 u2).cell (j := 0) rfl
    have s1 : ∀ u0 u1 u2 : Value, World.cell? (World.setCell (World.setCell (World.setCell w1 ⟨w.heap.size + 1 + 1, 0, none⟩ u0) ⟨w.heap.size + 1 + 1, 1, none⟩ u1) ⟨w.heap.size + 1 + 1, 2, none⟩ u2) ⟨w.heap.size + 1 + 1, 1, none⟩ = some u1 := fun u0 u1 u2 => (((BR.out.set 0 u0).set 1 u1).set 2 u2).cell (j := 1) rfl
    have s2 : ∀ u0 u1 u2 : Value, World.cell? (World.setCell (World.setCell (World.setCell w1 ⟨w.heap.size + 1 + 1, 0, none⟩ u0) ⟨w.heap.size + 1 + 1, 1, none⟩ u1) ⟨w.heap.size + 1 + 1, 2, none⟩ u2) ⟨w.heap.size + 1 + 1, 2, none⟩ = some u2 := fun u0 u1 u2 => (((BR.out.set 0 u0).set 1 u1).set 2 u2).cell (j := 2) rfl
    refine bodyPost_ret (v := .tuple #[.agg #[.slice none 0 0, .slice none 0 0, .slice none 0 0], .bool false]) (by simp [results, Tryz.results60, go_sem, s0, s1, s2]; try rfl) rfl ?_
    have hS := Mod.set (F := fun b => b = w.heap.size + 1 + 1) (Mod.set (F := fun b => b = w.heap.size + 1 + 1) (Mod.set (F := fun b => b = w.heap.size + 1 + 1) (Mod.rfl' (fun b => b = w.heap.size + 1 + 1) w1) (p := ⟨w.heap.size + 1 + 1, 0, none⟩) (.inl rfl) (.slice none 0 0)) (p := ⟨w.heap.size + 1 + 1, 1, none⟩) (.inl rfl) (.slice none 0 0)) (p := ⟨w.heap.size + 1 + 1, 2, none⟩) (.inl rfl) (.slice none 0 0)
    rw [HS.out]
    exact ⟨none, 0, none, 0, none, 0, [], rfl, OwnZ.nil _ _, (((E1.out.set (p := ⟨w.heap.size + 1 + 1, 0, none⟩) (show w.heap.size ≤ w.heap.size + 1 + 1 by omega) _).set (p := ⟨w.heap.size + 1 + 1, 1, none⟩) (show w.heap.size ≤ w.heap.size + 1 + 1 by omega) _).set (p := ⟨w.heap.size + 1 + 1, 2, none⟩) (show w.heap.size ≤ w.heap.size + 1 + 1 by omega) _)⟩
  have HE := Lib.hid hE
  cases hC : Sg.isCell g n
  · have HCC := Lib.hid hC
    have HS := Lib.hid (show Sg.writeLO g ⟨v, r, q⟩ n x = (⟨[], [], []⟩, false) by unfold Sg.writeLO Sg.mayWriteL; rw [hE, hC]; rfl)
    clear hE hC
    go_enter Tryz.func60, Tryz.ntmps60
    go_wp2_with fail
    refine (HV.out _ (H.out.ext E0.out) (Hv.out.ext E0.out) (Hr.out.l.ext E0.out) (Hq.out.ext E0.out)).mono ?_
    rintro e w1 ⟨rfl, he1⟩
    rw [Sg.validL_same, HE.out]
    have U1 := Lib.hid ((Ext.rfl' (World.alloc (World.alloc (World.alloc w (.cells #[.slice A g.length c] 25)) (.cells #[.slice Av v.length cv, .slice Ar r.length cr, .slice Aq q.length cq] 84)) (.cells #[.slice none 0 0, .slice none 0 0, .slice none 0 0] 84))).tr he1)
    have E1 := Lib.hid (E0.out.tr U1.out)
    have lg_1 := U1.out.cellE Qlg.out
    have lv_1 := U1.out.cellE Qlv.out
    have lr_1 := U1.out.cellE Qlr.out
    have lq_1 := U1.out.cellE Qlq.out
    clear he1 
    have blg_1 := blt lg_1
    have blv_1 := blt lv_1
    have blr_1 := blt lr_1
    have blq_1 := blt lq_1
    go_wp2_with fail
    refine (HC.out _ (H.out.ext E1.out)).mono ?_
    rintro e w2 ⟨rfl, he2⟩
    rw [HCC.out]
    have U2 := Lib.hid ((Ext.rfl' w1).tr he2)
    have E2 := Lib.hid (E1.out.tr U2.out)
    have lg_2 := U2.out.cellE lg_1
    have lv_2 := U2.out.cellE lv_1
    have lr_2 := U2.out.cellE lr_1
    have lq_2 := U2.out.cellE lq_1
    clear he2 lg_1 lv_1 lr_1 lq_1 blg_1 blv_1 blr_1 blq_1
    have blg_2 := blt lg_2
    have blv_2 := blt lv_2
    have blr_2 := blt lr_2
    have blq_2 := blt lq_2
    have BR := Lib.hid (BR0.out.ext (((Ext.rfl' (World.alloc (World.alloc (World.alloc w (.cells #[.slice A g.length c] 25)) (.cells #[.slice Av v.length cv, .slice Ar r.length cr, .slice Aq q.length cq] 84)) (.cells #[.slice none 0 0, .slice none 0 0, .slice none 0 0] 84))).tr U1.out).tr U2.out))
    have f0 := BR.out.free 0
    have f1 := BR.out.free 1
    have f2 := BR.out.free 2
    have x0 := BR.out.cell (j := 0) rfl
    have x1 := BR.out.cell (j := 1) rfl
    have x2 := BR.out.cell (j := 2) rfl
    have bl := BR.out.lt
    go_wp2
    have s0 : ∀ u0 u1 u2 : Value, World.cell? (World.setCell (World.setCell (World.setCell w2 ⟨w.heap.size + 1 + 1, 0, none⟩ u0) ⟨w.heap.size + 1 + 1, 1, none⟩ u1) ⟨w.heap.size + 1 + 1, 2, none⟩ u2) ⟨w.heap.size + 1 + 1, 0, none⟩ = some u0 := fun u0 u1 u2 => (((BR.out.set 0 u0).set 1 u1).set 2 u2).cell (j := 0) rfl
    have s1 : ∀ u0 u1 u2 : Value, World.cell? (World.setCell (World.setCell (World.setCell w2 ⟨w.heap.size + 1 + 1, 0, none⟩ u0) ⟨w.heap.size + 1 + 1, 1, none⟩ u1) ⟨w.heap.size + 1 + 1, 2, none⟩ u2) ⟨w.heap.size + 1 + 1, 1, none⟩ = some u1 := fun u0 u1 u2 => (((BR.out.set 0 u0).set 1 u1).set 2 u2).cell (j := 1) rfl
    have s2 : ∀ u0 u1 u2 : Value, World.cell? (World.setCell (World.setCell (World.setCell w2 ⟨w.heap.size + 1 + 1, 0, none⟩ u0) ⟨w.heap.size + 1 + 1, 1, none⟩ u1) ⟨w.heap.size + 1 + 1, 2, none⟩ u2) ⟨w.heap.size + 1 + 1, 2, none⟩ = some u2 := fun u0 u1 u2 => (((BR.out.set 0 u0).set 1 u1).set 2 u2).cell (j := 2) rfl
    refine bodyPost_ret (v := .tuple #[.agg #[.slice none 0 0, .slice none 0 0, .slice none 0 0], .bool false]) (by simp [results, Tryz.results60, go_sem, s0, s1, s2]; try rfl) rfl ?_
    have hS := Mod.set (F := fun b => b = w.heap.size + 1 + 1) (Mod.set (F := fun b => b = w.heap.size + 1 + 1) (Mod.set (F := fun b => b = w.heap.size + 1 + 1) (Mod.rfl' (fun b => b = w.heap.size + 1 + 1) w2) (p := ⟨w.heap.size + 1 + 1, 0, none⟩) (.inl rfl) (.slice none 0 0)) (p := ⟨w.heap.size + 1 + 1, 1, none⟩) (.inl rfl) (.slice none 0 0)) (p := ⟨w.heap.size + 1 + 1, 2, none⟩) (.inl rfl) (.slice none 0 0)
    rw [HS.out]
    exact ⟨none, 0, none, 0, none, 0, [], rfl, OwnZ.nil _ _, (((E2.out.set (p := ⟨w.heap.size + 1 + 1, 0, none⟩) (show w.heap.size ≤ w.heap.size + 1 + 1 by omega) _).set (p := ⟨w.heap.size + 1 + 1, 1, none⟩) (show w.heap.size ≤ w.heap.size + 1 + 1 by omega) _).set (p := ⟨w.heap.size + 1 + 1, 2, none⟩) (show w.heap.size ≤ w.heap.size + 1 + 1 by omega) _)⟩
  have HCC := Lib.hid hC
  cases hX : Sg.inR x 0 999
  · have HX := Lib.hid hX
    have HS := Lib.hid (show Sg.writeLO g ⟨v, r, q⟩ n x = (⟨[], [], []⟩, false) by unfold Sg.writeLO Sg.mayWriteL; rw [hE, hC, hX]; rfl)
    clear hE hC hX
    go_enter Tryz.func60, Tryz.ntmps60
    go_wp2_with fail
    refine (HV.out _ (H.out.ext E0.out) (Hv.out.ext E0.out) (Hr.out.l.ext E0.out) (Hq.out.ext E0.out)).mono ?_
    rintro e w1 ⟨rfl, he1⟩
    rw [Sg.validL_same, HE.out]
    have U1 := Lib.hid ((Ext.rfl' (World.alloc (World.alloc (World.alloc w (.cells #[.slice A g.length c] 25)) (.cells #[.slice Av v.length cv, .slice Ar r.length cr, .slice Aq q.length cq] 84)) (.cells #[.slice none 0 0, .slice none 0 0, .slice none 0 0] 84))).tr he1)
    have E1 := Lib.hid (E0.out.tr U1.out)
    have lg_1 := U1.out.cellE Qlg.out
    have lv_1 := U1.out.cellE Qlv.out
    have lr_1 := U1.out.cellE Qlr.out
    have lq_1 := U1.out.cellE Qlq.out
    clear he1 
    have blg_1 := blt lg_1
    have blv_1 := blt lv_1
    have blr_1 := blt lr_1
    have blq_1 := blt lq_1
    go_wp2_with fail
    refine (HC.out _ (H.out.ext E1.out)).mono ?_
    rintro e w2 ⟨rfl, he2⟩
    rw [HCC.out]
    have U2 := Lib.hid ((Ext.rfl' w1).tr he2)
    have E2 := Lib.hid (E1.out.tr U2.out)
    have lg_2 := U2.out.cellE lg_1
    have lv_2 := U2.out.cellE lv_1
    have lr_2 := U2.out.cellE lr_1
    have lq_2 := U2.out.cellE lq_1
    clear he2 lg_1 lv_1 lr_1 lq_1 blg_1 blv_1 blr_1 blq_1
    have blg_2 := blt lg_2
    have blv_2 := blt lv_2
    have blr_2 := blt lr_2
    have blq_2 := blt lq_2
    go_wp2_with fail
    refine (HI.out _).mono ?_
    rintro e w' ⟨rfl, rfl⟩
    rw [HX.out]
    have BR := Lib.hid (BR0.out.ext (((Ext.rfl' (World.alloc (World.alloc (World.alloc w (.cells #[.slice A g.length c] 25)) (.cells #[.slice Av v.length cv, .slice Ar r.length cr, .slice Aq q.length cq] 84)) (.cells #[.slice none 0 0, .slice none 0 0, .slice none 0 0] 84))).tr U1.out).tr U2.out))
    have f0 := BR.out.free 0
    have f1 := BR.out.free 1
    have f2 := BR.out.free 2
    have x0 := BR.out.cell (j := 0) rfl
    have x1 := BR.out.cell (j := 1) rfl
    have x2 := BR.out.cell (j := 2) rfl
    have bl := BR.out.lt
    go_wp2
    have s0 : ∀ u0 u1 u2 : Value, World.cell? (World.setCell (World.setCell (World.setCell w2 ⟨w.heap.size + 1 + 1, 0, none⟩ u0) ⟨w.heap.size + 1 + 1, 1, none⟩ u1) ⟨w.heap.size + 1 + 1, 2, none⟩ u2) ⟨w.heap.size + 1 + 1, 0, none⟩ = some u0 := fun u0 u1 u2 => (((BR.out.set 0 u0).set 1 u1).set 2 u2).cell (j := 0) rfl
    have s1 : ∀ u0 u1 u2 : Value, World.cell? (World.setCell (World.setCell (World.setCell w2 ⟨w.heap.size + 1 + 1, 0, none⟩ u0) ⟨w.heap.size + 1 + 1, 1, none⟩ u1) ⟨w.heap.size + 1 + 1, 2, none⟩ u2) ⟨w.heap.size + 1 + 1, 1, none⟩ = some u1 := fun u0 u1 u2 => (((BR.out.set 0 u0).set 1 u1).set 2 u2).cell (j := 1) rfl
    have s2 : ∀ u0 u1 u2 : Value, World.cell? (World.setCell (World.setCell (World.setCell w2 ⟨w.heap.size + 1 + 1, 0, none⟩ u0) ⟨w.heap.size + 1 + 1, 1, none⟩ u1) ⟨w.heap.size + 1 + 1, 2, none⟩ u2) ⟨w.heap.size + 1 + 1, 2, none⟩ = some u2 := fun u0 u1 u2 => (((BR.out.set 0 u0).set 1 u1).set 2 u2).cell (j := 2) rfl
    refine bodyPost_ret (v := .tuple #[.agg #[.slice none 0 0, .slice none 0 0, .slice none 0 0], .bool false]) (by simp [results, Tryz.results60, go_sem, s0, s1, s2]; try rfl) rfl ?_
    have hS := Mod.set (F := fun b => b = w.heap.size + 1 + 1) (Mod.set (F := fun b => b = w.heap.size + 1 + 1) (Mod.set (F := fun b => b = w.heap.size + 1 + 1) (Mod.rfl' (fun b => b = w.heap.size + 1 + 1) w2) (p := ⟨w.heap.size + 1 + 1, 0, none⟩) (.inl rfl) (.slice none 0 0)) (p := ⟨w.heap.size + 1 + 1, 1, none⟩) (.inl rfl) (.slice none 0 0)) (p := ⟨w.heap.size + 1 + 1, 2, none⟩) (.inl rfl) (.slice none 0 0)
    rw [HS.out]
    exact ⟨none, 0, none, 0, none, 0, [], rfl, OwnZ.nil _ _, (((E2.out.set (p := ⟨w.heap.size + 1 + 1, 0, none⟩) (show w.heap.size ≤ w.heap.size + 1 + 1 by omega) _).set (p := ⟨w.heap.size + 1 + 1, 1, none⟩) (show w.heap.size ≤ w.heap.size + 1 + 1 by omega) _).set (p := ⟨w.heap.size + 1 + 1, 2, none⟩) (show w.heap.size ≤ w.heap.size + 1 + 1 by omega) _)⟩
  have HX := Lib.hid hX
  obtain ⟨hG, hvg, hrg, hqg, _⟩ := Sg.validL_shape hE
  have h10 := vG_len hG
  obtain ⟨j, nd, rfl, hnd, _⟩ := Sg.isCell_at hC
  have hj := (List.getElem?_eq_some_iff.1 hnd).1
  have HS := Lib.hid (show Sg.writeLO g ⟨v, r, q⟩ (j : Int) x = (Sg.writeL ⟨v, r, q⟩ j x, true) by unfold Sg.writeLO Sg.mayWriteL; rw [hE, hC, hX]; rfl)
  have HA := Lib.hid (Sg.ahead_of hE)
  have HCR := Lib.hid (Sg.cols_range hE)
  have HRS := Lib.hid (show ∀ l ∈ r, l.length ≤ 1048576 from fun l hl => Nat.le_trans (reads_small hE l hl) (by omega))
  have hvg' : v.length = g.length := hvg
  have hrg' : r.length = g.length := hrg
  have hqg' : q.length = g.length := hqg
  have HVG := Lib.hid hvg'
  have HRG := Lib.hid hrg'
  have HQG := Lib.hid hqg'
  have hv10 : v.length ≤ 10 := by omega
  have hr10 : r.length ≤ 10 := by omega
  have hq10 : q.length ≤ 10 := by omega
  have hv0 : 0 < v.length := by omega
  have hq0 : 0 < q.length := by omega
  have hjq : j < q.length := by omega
  clear hE hC hX hG hvg hrg hqg hnd h10 hvg' hrg' hqg'
  go_enter Tryz.func60, Tryz.ntmps60
  go_wp2_with fail
  refine (HV.out _ (H.out.ext E0.out) (Hv.out.ext E0.out) (Hr.out.l.ext E0.out) (Hq.out.ext E0.out)).mono ?_
  rintro e w1 ⟨rfl, he1⟩
  rw [Sg.validL_same, HE.out]
  have U1 := Lib.hid ((Ext.rfl' (World.alloc (World.alloc (World.alloc w (.cells #[.slice A g.length c] 25)) (.cells #[.slice Av v.length cv, .slice Ar r.length cr, .slice Aq q.length cq] 84)) (.cells #[.slice none 0 0, .slice none 0 0, .slice none 0 0] 84))).tr he1)
  have E1 := Lib.hid (E0.out.tr U1.out)
  have lg_1 := U1.out.cellE Qlg.out
  have lv_1 := U1.out.cellE Qlv.out
  have lr_1 := U1.out.cellE Qlr.out
  have lq_1 := U1.out.cellE Qlq.out
  clear he1 
  have blg_1 := blt lg_1
  have blv_1 := blt lv_1
  have blr_1 := blt lr_1
  have blq_1 := blt lq_1
  go_wp2_with fail
  refine (HC.out _ (H.out.ext E1.out)).mono ?_
  rintro e w2 ⟨rfl, he2⟩
  rw [HCC.out]
  have U2 := Lib.hid ((Ext.rfl' w1).tr he2)
  have E2 := Lib.hid (E1.out.tr U2.out)
  have lg_2 := U2.out.cellE lg_1
  have lv_2 := U2.out.cellE lv_1
  have lr_2 := U2.out.cellE lr_1
  have lq_2 := U2.out.cellE lq_1
  clear he2 lg_1 lv_1 lr_1 lq_1 blg_1 blv_1 blr_1 blq_1
  have blg_2 := blt lg_2
  have blv_2 := blt lv_2
  have blr_2 := blt lr_2
  have blq_2 := blt lq_2
  go_wp2_with fail
  refine (HI.out _).mono ?_
  rintro e w' ⟨rfl, rfl⟩
  rw [HX.out]
  have hz2 := E2.out.size
  have BRp := Lib.hid (BR0.out.ext (((Ext.rfl' (World.alloc (World.alloc (World.alloc w (.cells #[.slice A g.length c] 25)) (.cells #[.slice Av v.length cv, .slice Ar r.length cr, .slice Aq q.length cq] 84)) (.cells #[.slice none 0 0, .slice none 0 0, .slice none 0 0] 84))).tr U1.out).tr U2.out))
  have hbz := BRp.out.lt
  go_wp2_with fail
  refine wp_region_held_drew (S := (fun W => W.cell? ⟨w.heap.size, 0, none⟩ = some (.slice A g.length c) ∧ W.cell? ⟨w.heap.size + 1, 0, none⟩ = some (.slice Av v.length cv) ∧ W.cell? ⟨w.heap.size + 1, 1, none⟩ = some (.slice Ar r.length cr) ∧ W.cell? ⟨w.heap.size + 1, 2, none⟩ = some (.slice Aq q.length cq))) (by kernel_rfl) ?_ (fun hHeld => ?_)
  · exact ⟨((Ext.rfl' _).dr).cellE lg_2, ((Ext.rfl' _).dr).cellE lv_2, ((Ext.rfl' _).dr).cellE lr_2, ((Ext.rfl' _).dr).cellE lq_2⟩
  refine wpAnyH_take (i := 0) (v := ?_) (by simp only [List.getElem?_toArray, List.getElem?_cons_zero]; rfl) (by kernel_rfl) (by kernel_rfl) (by kernel_rfl) (by exact fun _ _ _ h => h) (Or.inl ⟨by kernel_rfl, ?_⟩) (by assumption) ?_
  rotate_left
  · intro w hSw; (try dsimp only at hSw); go_simp; try with_reducible rfl
  try simp only [Act.put, List.setIfInBounds_toArray, List.set_cons_zero, List.set_cons_succ]
  refine wpAnyH_take (i := 1) (v := ?_) (by simp only [List.getElem?_toArray, List.getElem?_cons_succ, List.getElem?_cons_zero]; rfl) (by kernel_rfl) (by kernel_rfl) (by kernel_rfl) (by exact fun _ _ _ h => h) (Or.inl ⟨by kernel_rfl, ?_⟩) (by assumption) ?_
  rotate_left
  · intro w hSw; (try dsimp only at hSw); go_simp; try with_reducible rfl
  try simp only [Act.put, List.setIfInBounds_toArray, List.set_cons_zero, List.set_cons_succ]
  refine wpAnyH_take (i := 3) (v := ?_) (by simp only [List.getElem?_toArray, List.getElem?_cons_succ, List.getElem?_cons_zero]; rfl) (by kernel_rfl) (by kernel_rfl) (by kernel_rfl) (by exact fun _ _ _ h => h) (Or.inl ⟨by kernel_rfl, ?_⟩) (by assumption) ?_
  rotate_left
  · intro w hSw; (try dsimp only at hSw); go_simp; try with_reducible rfl
  try simp only [Act.put, List.setIfInBounds_toArray, List.set_cons_zero, List.set_cons_succ]
  refine wpAnyH_take (i := 4) (v := ?_) (by simp only [List.getElem?_toArray, List.getElem?_cons_succ, List.getElem?_cons_zero]; rfl) (by kernel_rfl) (by kernel_rfl) (by kernel_rfl) (by exact fun _ _ _ h => h) (Or.inl ⟨by kernel_rfl, ?_⟩) (by assumption) ?_
  rotate_left
  · intro w hSw; (try dsimp only at hSw); go_simp; try with_reducible rfl
  try simp only [Act.put, List.setIfInBounds_toArray, List.set_cons_zero, List.set_cons_succ]
  refine wpAnyH_ready (rs := [2]) (by kernel_rfl) (by simp) ?_
  refine AllReadyH.cons rfl (fun K hK => ?_) AllReadyH.nil
  go_simp
  refine (s_copyZ Av Ar Aq cv cr cq v q r _ (Hv.out.ext (E2.out.dr)) (Hr.out.l.ext (E2.out.dr)) (Hq.out.ext (E2.out.dr)) hvl hql).mono ?_
  rintro e w3 ⟨A1, c1, A2, c2, A3, c3, hs, rfl, hoz, he3⟩
  obtain ⟨gv, rfl, _⟩ := hoz.v.at_ (by simpa using hv0)
  obtain ⟨gq, rfl, _⟩ := hoz.q.at_ (by simpa using hq0)
  have hoz2 := hoz.mono (B' := w2.heap.size) (by simp)
  obtain ⟨hne, hgv1, hgv2, hgq1, hgq2⟩ := gvq hoz2
  have OZ := Lib.hid hoz2
  clear hoz hoz2
  have U3 := Lib.hid (((Ext.rfl' w2).dr).tr he3)
  have E3 := Lib.hid (E2.out.tr U3.out)
  have lg_3 := U3.out.cellE lg_2
  have lv_3 := U3.out.cellE lv_2
  have lr_3 := U3.out.cellE lr_2
  have lq_3 := U3.out.cellE lq_2
  clear he3 lg_2 lv_2 lr_2 lq_2 blg_2 blv_2 blr_2 blq_2
  have blg_3 := blt lg_3
  have blv_3 := blt lv_3
  have blr_3 := blt lr_3
  have blq_3 := blt lq_3
  try go_wp2_with fail
  refine hK.out _ _ ?_ (fun hHeld2 => ?_)
  · exact ⟨lg_3, lv_3, lr_3, lq_3⟩
  clear hK K hHeld
  have hHeld := hHeld2
  clear hHeld2
  try simp only [Act.put, List.setIfInBounds_toArray, List.set_cons_zero, List.set_cons_succ]
  refine wpAnyH_ready (rs := [5]) (by kernel_rfl) (by simp) ?_
  refine AllReadyH.cons rfl (fun K hK => ?_) AllReadyH.nil
  go_simp
  have BR := Lib.hid (BRp.out.ext ((Ext.rfl' _).tr U3.out))
  have hqg2 : q.length = g.length := HQG.out
  have HWZ := Lib.hid (s_writeZ w2.heap.size j gv gq x A A2 c c1 c2 c3 v q r w3 HA.out (by rw [HVG.out, HQG.out]) (by rw [HRG.out, HQG.out]) (by omega) hjq hne HCR.out (fun W m => OZ.out.rdL' (by omega) HRS.out W (m.mono (fun b _ e => e.imp (fun e => by rw [e]; rfl) (fun e => by rw [e]; rfl)))) OZ.out.v OZ.out.q)
  have HWZ2 := Lib.hid (show Calls Tryz.prog 144 #[.agg #[.slice A g.length c], .agg #[.slice (some ⟨gv, 0, none⟩) v.length c1, .slice A2 r.length c2, .slice (some ⟨gq, 0, none⟩) q.length c3], .int .i64 j, .int .i64 x] w3 _ by rw [← hqg2]; exact HWZ.out)
  clear hqg2 HWZ
  refine HWZ2.out.mono ?_
  rintro e wf ⟨rfl, hv6, hq6, hm6⟩
  have V6 := Lib.hid hv6
  have Q6 := Lib.hid hq6
  have M6 := Lib.hid hm6
  have hbl := BR.out.lt
  have BRf := Lib.hid (BR.out.mod hm6 (by omega))
  have lg_f := hm6.cellE lg_3 (by omega)
  have lv_f := hm6.cellE lv_3 (by omega)
  have lr_f := hm6.cellE lr_3 (by omega)
  have lq_f := hm6.cellE lq_3 (by omega)
  have blg := blt lg_f
  have fr0 := BRf.out.free 0
  have fr1 := BRf.out.free 1
  have fr2 := BRf.out.free 2
  have xr0 := BRf.out.cell (j := 0) rfl
  have xr1 := BRf.out.cell (j := 1) rfl
  have xr2 := BRf.out.cell (j := 2) rfl
  clear hv6 hq6 hm6 lg_3 lv_3 lr_3 lq_3
  try go_wp2_with fail
  refine hK.out _ _ ?_ (fun hHeld2 => ?_)
  · exact ⟨lg_f, lv_f, lr_f, lq_f⟩
  clear hK K hHeld
  have hHeld := hHeld2
  clear hHeld2
  try simp only [Act.put, List.setIfInBounds_toArray, List.set_cons_zero, List.set_cons_succ]
  refine wpAnyH_ready (rs := [6]) (by kernel_rfl) (by simp) ?_
  refine AllReadyH.cons rfl (fun K hK => ?_) AllReadyH.nil
  go_simp
  refine hK.out _ _ ?_ (fun hHeld2 => ?_)
  · exact ⟨(World.cell?_setCell_other _ _ _ _ (by intro e; injection e; omega)).trans ((World.cell?_setCell_other _ _ _ _ (by intro e; injection e; omega)).trans ((World.cell?_setCell_other _ _ _ _ (by intro e; injection e; omega)).trans lg_f)), (World.cell?_setCell_other _ _ _ _ (by intro e; injection e; omega)).trans ((World.cell?_setCell_other _ _ _ _ (by intro e; injection e; omega)).trans ((World.cell?_setCell_other _ _ _ _ (by intro e; injection e; omega)).trans lv_f)), (World.cell?_setCell_other _ _ _ _ (by intro e; injection e; omega)).trans ((World.cell?_setCell_other _ _ _ _ (by intro e; injection e; omega)).trans ((World.cell?_setCell_other _ _ _ _ (by intro e; injection e; omega)).trans lr_f)), (World.cell?_setCell_other _ _ _ _ (by intro e; injection e; omega)).trans ((World.cell?_setCell_other _ _ _ _ (by intro e; injection e; omega)).trans ((World.cell?_setCell_other _ _ _ _ (by intro e; injection e; omega)).trans lq_f))⟩
  clear hK K hHeld
  have hHeld := hHeld2
  clear hHeld2
  try simp only [Act.put]
  refine wpAnyH_take (i := 7) (v := ?_) (by simp only [List.getElem?_toArray, List.getElem?_cons_succ, List.getElem?_cons_zero]; rfl) (by kernel_rfl) (by kernel_rfl) (by kernel_rfl) (by exact fun _ _ _ h => h) (Or.inl ⟨by kernel_rfl, ?_⟩) (by assumption) ?_
  rotate_left
  · intro w hSw; (try dsimp only at hSw); go_simp; try with_reducible rfl
  try simp only [Act.put, List.setIfInBounds_toArray, List.set_cons_zero, List.set_cons_succ]
  refine wpAnyH_done (by kernel_rfl) ?_ _
  go_wp2
  have s0 : ∀ u0 u1 u2 : Value, World.cell? (World.setCell (World.setCell (World.setCell wf ⟨w.heap.size + 1 + 1, 0, none⟩ u0) ⟨w.heap.size + 1 + 1, 1, none⟩ u1) ⟨w.heap.size + 1 + 1, 2, none⟩ u2) ⟨w.heap.size + 1 + 1, 0, none⟩ = some u0 := fun u0 u1 u2 => (((BRf.out.set 0 u0).set 1 u1).set 2 u2).cell (j := 0) rfl
  have s1 : ∀ u0 u1 u2 : Value, World.cell? (World.setCell (World.setCell (World.setCell wf ⟨w.heap.size + 1 + 1, 0, none⟩ u0) ⟨w.heap.size + 1 + 1, 1, none⟩ u1) ⟨w.heap.size + 1 + 1, 2, none⟩ u2) ⟨w.heap.size + 1 + 1, 1, none⟩ = some u1 := fun u0 u1 u2 => (((BRf.out.set 0 u0).set 1 u1).set 2 u2).cell (j := 1) rfl
  have s2 : ∀ u0 u1 u2 : Value, World.cell? (World.setCell (World.setCell (World.setCell wf ⟨w.heap.size + 1 + 1, 0, none⟩ u0) ⟨w.heap.size + 1 + 1, 1, none⟩ u1) ⟨w.heap.size + 1 + 1, 2, none⟩ u2) ⟨w.heap.size + 1 + 1, 2, none⟩ = some u2 := fun u0 u1 u2 => (((BRf.out.set 0 u0).set 1 u1).set 2 u2).cell (j := 2) rfl
  refine bodyPost_ret (v := .tuple #[.agg #[.slice (some ⟨gv, 0, none⟩) v.length c1, .slice A2 r.length c2, .slice (some ⟨gq, 0, none⟩) q.length c3], .bool true]) (by simp [results, Tryz.results60, go_sem, s0, s1, s2]; try rfl) rfl ?_
  have hS := Mod.set (F := fun b => b = w.heap.size + 1 + 1) (Mod.set (F := fun b => b = w.heap.size + 1 + 1) (Mod.set (F := fun b => b = w.heap.size + 1 + 1) (Mod.rfl' (fun b => b = w.heap.size + 1 + 1) wf) (p := ⟨w.heap.size + 1 + 1, 0, none⟩) (.inl rfl) (.slice (some ⟨gv, 0, none⟩) v.length c1)) (p := ⟨w.heap.size + 1 + 1, 1, none⟩) (.inl rfl) (.slice A2 r.length c2)) (p := ⟨w.heap.size + 1 + 1, 2, none⟩) (.inl rfl) (.slice (some ⟨gq, 0, none⟩) q.length c3)
  rw [HS.out]
  obtain ⟨lv, lr, lq⟩ := Sg.writeL_len ⟨v, r, q⟩ j x
  have hT := OZ.out.turn V6.out Q6.out M6.out lv lq
  have hw : Sg.writeL ⟨v, r, q⟩ j x = ⟨(Sg.writeL ⟨v, r, q⟩ j x).vals, r, (Sg.writeL ⟨v, r, q⟩ j x).cols⟩ := Sg.writeL_eq ⟨v, r, q⟩ j x
  refine ⟨some ⟨gv, 0, none⟩, c1, A2, c2, some ⟨gq, 0, none⟩, c3, hs, ?_, ?_, ((((Ext.md E3.out M6.out (fun b e => by omega)).set (p := ⟨w.heap.size + 1 + 1, 0, none⟩) (show w.heap.size ≤ w.heap.size + 1 + 1 by omega) _).set (p := ⟨w.heap.size + 1 + 1, 1, none⟩) (show w.heap.size ≤ w.heap.size + 1 + 1 by omega) _).set (p := ⟨w.heap.size + 1 + 1, 2, none⟩) (show w.heap.size ≤ w.heap.size + 1 + 1 by omega) _)⟩
  · rw [show (Sg.writeL ⟨v, r, q⟩ j x, true).1 = Sg.writeL ⟨v, r, q⟩ j x from rfl, lv, lr, lq]
  · have h9 := (hT.mod hS (fun b hb e => by have := (OwnZ.lt hT hb).1; omega)).mono (B' := w.heap.size) (by omega)
    rw [← hw] at h9
    exact h9
end Go.Proofs.YtjogmblilagohaaGreat
