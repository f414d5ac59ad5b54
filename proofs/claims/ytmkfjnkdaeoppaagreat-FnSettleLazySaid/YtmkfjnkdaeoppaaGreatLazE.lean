/- Copies of lazy states: contracts. Conditions: bounds on lengths. -/
import Derived.Test.YtmkfjnkdaeoppaaGreatTy
import Derived.Test.YtmkfjnkdaeoppaaGreatCopyA
import Derived.Test.YtmkfjnkdaeoppaaGreatLawVW
namespace Go.Proofs.YtmkfjnkdaeoppaaGreat
open Go.RowKit


set_option maxRecDepth 100000 in
set_option maxHeartbeats 4000000 in
theorem i_copyZ (Av Ar Aq : Option Addr) (kv kr kq : Nat) (v q : List Int) (r : List (List Int)) (w : World) (hv : Rd w 1 Av v.length (ints v)) (hr : RdL w Ar r) (hq : Rd w 1 Aq q.length (ints q)) (hvl : v.length ≤ 1048576) (hql : q.length ≤ 1048576) :
  Calls Tryz.prog 75 #[.agg #[.slice Av v.length kv, .slice Ar r.length kr, .slice Aq q.length kq]] w fun e w' => ∃ A1 c1 A2 c2 A3 c3 hs, e = .returned (.agg #[.slice A1 v.length c1, .slice A2 r.length c2, .slice A3 q.length c3]) ∧ OwnZ w' w.heap.size A1 c1 A2 c2 A3 c3 hs ⟨v, r, q⟩ ∧ Ext w w' := by
 have E0 := lh (show Ext w (World.alloc (World.alloc w (.cells #[.slice Av v.length kv, .slice Ar r.length kr, .slice Aq q.length kq] 29)) (.cells #[.slice none 0 0, .slice none 0 0, .slice none 0 0] 29)) from ((Ext.rfl' w).al _).al _)
 have b0 := Bx.new (World.alloc w (.cells #[.slice Av v.length kv, .slice Ar r.length kr, .slice Aq q.length kq] 29)) #[.slice none 0 0, .slice none 0 0, .slice none 0 0] 29
 simp only [World.size_alloc] at b0
 have B0 := lh b0
 clear b0
 have q0 : World.cell? (World.alloc (World.alloc w (.cells #[.slice Av v.length kv, .slice Ar r.length kr, .slice Aq q.length kq] 29)) (.cells #[.slice none 0 0, .slice none 0 0, .slice none 0 0] 29)) ⟨w.heap.size, 0, none⟩ = some (.slice Av v.length kv) := by simp [go_sem]
 have q1 : World.cell? (World.alloc (World.alloc w (.cells #[.slice Av v.length kv, .slice Ar r.length kr, .slice Aq q.length kq] 29)) (.cells #[.slice none 0 0, .slice none 0 0, .slice none 0 0] 29)) ⟨w.heap.size, 1, none⟩ = some (.slice Ar r.length kr) := by simp [go_sem]
 have q2 : World.cell? (World.alloc (World.alloc w (.cells #[.slice Av v.length kv, .slice Ar r.length kr, .slice Aq q.length kq] 29)) (.cells #[.slice none 0 0, .slice none 0 0, .slice none 0 0] 29)) ⟨w.heap.size, 2, none⟩ = some (.slice Aq q.length kq) := by simp [go_sem]
 have Hv := lh hv
 have Hr := lh hr
 have Hq := lh hq
 clear hv hr hq
 go_enter Tryz.func75, Tryz.ntmps75
 go_wp2_with fail
 refine wp_region_held_drew (S := (fun W => W.cell? ⟨w.heap.size, 0, none⟩ = some (.slice Av v.length kv) ∧ W.cell? ⟨w.heap.size, 1, none⟩ = some (.slice Ar r.length kr) ∧ W.cell? ⟨w.heap.size, 2, none⟩ = some (.slice Aq q.length kq))) (by kernel_rfl) ?_ (fun hHeld => ?_)
 ·exact ⟨((Ext.rfl' _).dr).cellE q0, ((Ext.rfl' _).dr).cellE q1, ((Ext.rfl' _).dr).cellE q2⟩
 refine ty 0 ?_
 refine ty 1 ?_
 refine ty 3 ?_
 refine ty 4 ?_
 refine ty 6 ?_
 refine ty 7 ?_
 refine rd1 2 rfl fun K hK => ?_
 go_simp
 refine (i_clone Av v.length kv v _ (Hv.out.ext (E0.out.dr)) (by omega)).mono ?_
 rintro e w3 ⟨A1, rfl, ho3, he3⟩
 have E3 := lh ((E0.out.dr).tr he3)
 have O3 := lh (ho3.mono (B' := w.heap.size + 2) (by simp))
 have hz3 : w.heap.size + 2 ≤ w3.heap.size := by have := he3.size; simpa using this
 have B3 := lh ((B0.out.ext ((Ext.rfl' _).dr)).ext he3)
 have q03 := he3.cellE (((Ext.rfl' _).dr).cellE q0)
 have q13 := he3.cellE (((Ext.rfl' _).dr).cellE q1)
 have q23 := he3.cellE (((Ext.rfl' _).dr).cellE q2)
 clear ho3 he3 q0 q1 q2 B0
 try go_wp2_with fail
 refine hK.out _ _ (by exact ⟨q03, q13, q23⟩) fun hh2 => ?_; clear hK K hHeld; have hHeld := hh2; clear hh2
 try simp only [Act.put, pu]
 refine rd1 5 rfl fun K hK => ?_
 go_simp
 refine (i_copyReads Ar kr r _ (Hr.out.ext E3.out)).mono ?_
 rintro e w4 ⟨A2, hs, rfl, ho4, he4⟩
 have E4 := lh (E3.out.tr he4)
 have O4 := lh (O3.out.ext he4)
 have R4 := lh (OwnD.mono ho4 (B' := w.heap.size + 2) hz3)
 have D4 := lh (show ∀ b, blk A1 = some b → ¬ fpD A2 hs b from fun b hb hb' => by have h1 := (O3.out.lt hb).2; have h2 := (ho4.lt hb').1; omega)
 have B4 := lh (B3.out.ext he4)
 have hz4 := he4.size
 have q04 := he4.cellE q03
 have q14 := he4.cellE q13
 have q24 := he4.cellE q23
 clear ho4 he4 q03 q13 q23 B3
 try go_wp2_with fail
 refine hK.out _ _ (by exact ⟨q04, q14, q24⟩) fun hh2 => ?_; clear hK K hHeld; have hHeld := hh2; clear hh2
 try simp only [Act.put, pu]
 refine rd1 8 rfl fun K hK => ?_
 go_simp
 refine (i_clone Aq q.length kq q _ (Hq.out.ext E4.out) (by omega)).mono ?_
 rintro e w5 ⟨A3, rfl, ho5, he5⟩
 have E5 := lh (E4.out.tr he5)
 have O5 := lh (O4.out.ext he5)
 have R5 := lh (OwnD.ext R4.out he5)
 have Q5 := lh (ho5.mono (B' := w.heap.size + 2) (by omega))
 have D5 := lh (show (∀ b, blk A1 = some b → ¬ fpD A2 hs b ∧ blk A3 ≠ some b) ∧ ∀ b, blk A3 = some b → ¬ fpD A2 hs b from ⟨fun b hb => ⟨D4.out b hb, fun e => by have h1 := (O4.out.lt hb).2; have h2 := (ho5.lt e).1; omega⟩, fun b hb hf => by have h1 := (OwnD.lt R4.out hf).2; have h2 := (ho5.lt hb).1; omega⟩)
 have B5 := lh (B4.out.ext he5)
 have q05 := he5.cellE q04
 have q15 := he5.cellE q14
 have q25 := he5.cellE q24
 have f0 := B5.out.free 0
 have f1 := B5.out.free 1
 have f2 := B5.out.free 2
 have bl := B5.out.lt
 have x0 := B5.out.cell (j := 0) rfl
 have x1 := B5.out.cell (j := 1) rfl
 have x2 := B5.out.cell (j := 2) rfl
 clear ho5 he5 q04 q14 q24 B4 O4 R4 D4
 try go_wp2_with fail
 refine hK.out _ _ (by exact ⟨q05, q15, q25⟩) fun hh2 => ?_; clear hK K hHeld; have hHeld := hh2; clear hh2
 try simp only [Act.put, pu]
 refine ty 9 ?_
 refine rd1 10 rfl fun K hK => ?_
 go_simp
 refine hK.out _ _ (by exact ⟨(co).trans ((co).trans ((co).trans q05)), (co).trans ((co).trans ((co).trans q15)), (co).trans ((co).trans ((co).trans q25))⟩) fun hh2 => ?_; clear hK K hHeld; have hHeld := hh2; clear hh2
 try simp only [Act.put]
 refine dn ?_
 go_wp2
 have hz : w.heap.size ≤ w.heap.size + 1 := by omega
 have hS := Mod.set (F := fun b => b = w.heap.size + 1) (Mod.set (F := fun b => b = w.heap.size + 1) (Mod.set (F := fun b => b = w.heap.size + 1) (Mod.rfl' (fun b => b = w.heap.size + 1) w5) (p := ⟨w.heap.size + 1, 0, none⟩) (.inl rfl) (.slice A1 v.length v.length)) (p := ⟨w.heap.size + 1, 1, none⟩) (.inl rfl) (.slice A2 r.length r.length)) (p := ⟨w.heap.size + 1, 2, none⟩) (.inl rfl) (.slice A3 q.length q.length)
 have s0 : ∀ u0 u1 u2 : Value, World.cell? (World.setCell (World.setCell (World.setCell w5 ⟨w.heap.size + 1, 0, none⟩ u0) ⟨w.heap.size + 1, 1, none⟩ u1) ⟨w.heap.size + 1, 2, none⟩ u2) ⟨w.heap.size + 1, 0, none⟩ = some u0 := fun u0 u1 u2 => (((B5.out.set 0 u0).set 1 u1).set 2 u2).cell (j := 0) rfl
 have s1 : ∀ u0 u1 u2 : Value, World.cell? (World.setCell (World.setCell (World.setCell w5 ⟨w.heap.size + 1, 0, none⟩ u0) ⟨w.heap.size + 1, 1, none⟩ u1) ⟨w.heap.size + 1, 2, none⟩ u2) ⟨w.heap.size + 1, 1, none⟩ = some u1 := fun u0 u1 u2 => (((B5.out.set 0 u0).set 1 u1).set 2 u2).cell (j := 1) rfl
 have s2 : ∀ u0 u1 u2 : Value, World.cell? (World.setCell (World.setCell (World.setCell w5 ⟨w.heap.size + 1, 0, none⟩ u0) ⟨w.heap.size + 1, 1, none⟩ u1) ⟨w.heap.size + 1, 2, none⟩ u2) ⟨w.heap.size + 1, 2, none⟩ = some u2 := fun u0 u1 u2 => (((B5.out.set 0 u0).set 1 u1).set 2 u2).cell (j := 2) rfl
 refine bodyPost_ret (v := .agg #[.slice A1 v.length v.length, .slice A2 r.length r.length, .slice A3 q.length q.length]) (by simp [results, Tryz.results75, go_sem, s0, s1, s2]; try rfl) rfl ?_
 exact ⟨A1, v.length, A2, r.length, A3, q.length, hs, rfl, ⟨(O5.out.mod hS (fun b hb e => by have := (O5.out.lt hb).1; omega)).mono (by omega), OwnD.mono (OwnD.mod R5.out hS (fun b hb e => by have := (OwnD.lt R5.out hb).1; omega)) (by omega), (Q5.out.mod hS (fun b hb e => by have := (Q5.out.lt hb).1; omega)).mono (by omega), D5.out.1, D5.out.2⟩, (((E5.out.set (p := ⟨w.heap.size + 1, 0, none⟩) hz _).set (p := ⟨w.heap.size + 1, 1, none⟩) hz _).set (p := ⟨w.heap.size + 1, 2, none⟩) hz _)⟩

set_option maxRecDepth 100000 in
set_option maxHeartbeats 4000000 in
theorem s_copyZ (Av Ar Aq : Option Addr) (kv kr kq : Nat) (v q : List Int) (r : List (List Int)) (w : World) (hv : Rd w 1 Av v.length (ints v)) (hr : RdL w Ar r) (hq : Rd w 1 Aq q.length (ints q)) (hvl : v.length ≤ 1048576) (hql : q.length ≤ 1048576) :
  Calls Tryz.prog 79 #[.agg #[.slice Av v.length kv, .slice Ar r.length kr, .slice Aq q.length kq]] w fun e w' => ∃ A1 c1 A2 c2 A3 c3 hs, e = .returned (.agg #[.slice A1 v.length c1, .slice A2 r.length c2, .slice A3 q.length c3]) ∧ OwnZ w' w.heap.size A1 c1 A2 c2 A3 c3 hs ⟨v, r, q⟩ ∧ Ext w w' := by
 have E0 := lh (show Ext w (World.alloc (World.alloc w (.cells #[.slice Av v.length kv, .slice Ar r.length kr, .slice Aq q.length kq] 29)) (.cells #[.slice none 0 0, .slice none 0 0, .slice none 0 0] 29)) from ((Ext.rfl' w).al _).al _)
 have b0 := Bx.new (World.alloc w (.cells #[.slice Av v.length kv, .slice Ar r.length kr, .slice Aq q.length kq] 29)) #[.slice none 0 0, .slice none 0 0, .slice none 0 0] 29
 simp only [World.size_alloc] at b0
 have B0 := lh b0
 clear b0
 have q0 : World.cell? (World.alloc (World.alloc w (.cells #[.slice Av v.length kv, .slice Ar r.length kr, .slice Aq q.length kq] 29)) (.cells #[.slice none 0 0, .slice none 0 0, .slice none 0 0] 29)) ⟨w.heap.size, 0, none⟩ = some (.slice Av v.length kv) := by simp [go_sem]
 have q1 : World.cell? (World.alloc (World.alloc w (.cells #[.slice Av v.length kv, .slice Ar r.length kr, .slice Aq q.length kq] 29)) (.cells #[.slice none 0 0, .slice none 0 0, .slice none 0 0] 29)) ⟨w.heap.size, 1, none⟩ = some (.slice Ar r.length kr) := by simp [go_sem]
 have q2 : World.cell? (World.alloc (World.alloc w (.cells #[.slice Av v.length kv, .slice Ar r.length kr, .slice Aq q.length kq] 29)) (.cells #[.slice none 0 0, .slice none 0 0, .slice none 0 0] 29)) ⟨w.heap.size, 2, none⟩ = some (.slice Aq q.length kq) := by simp [go_sem]
 have Hv := lh hv
 have Hr := lh hr
 have Hq := lh hq
 clear hv hr hq
 go_enter Tryz.func79, Tryz.ntmps79
 go_wp2_with fail
 refine wp_region_held_drew (S := (fun W => W.cell? ⟨w.heap.size, 0, none⟩ = some (.slice Av v.length kv) ∧ W.cell? ⟨w.heap.size, 1, none⟩ = some (.slice Ar r.length kr) ∧ W.cell? ⟨w.heap.size, 2, none⟩ = some (.slice Aq q.length kq))) (by kernel_rfl) ?_ (fun hHeld => ?_)
 ·exact ⟨((Ext.rfl' _).dr).cellE q0, ((Ext.rfl' _).dr).cellE q1, ((Ext.rfl' _).dr).cellE q2⟩
 refine ty 0 ?_
 refine ty 1 ?_
 refine ty 3 ?_
 refine ty 4 ?_
 refine ty 6 ?_
 refine ty 7 ?_
 refine rd1 2 rfl fun K hK => ?_
 go_simp
 refine (s_copyInts Av v.length kv v _ (Hv.out.ext (E0.out.dr)) (by omega)).mono ?_
 rintro e w3 ⟨A1, c1, rfl, ho3, he3⟩
 have E3 := lh ((E0.out.dr).tr he3)
 have O3 := lh (ho3.mono (B' := w.heap.size + 2) (by simp))
 have hz3 : w.heap.size + 2 ≤ w3.heap.size := by have := he3.size; simpa using this
 have B3 := lh ((B0.out.ext ((Ext.rfl' _).dr)).ext he3)
 have q03 := he3.cellE (((Ext.rfl' _).dr).cellE q0)
 have q13 := he3.cellE (((Ext.rfl' _).dr).cellE q1)
 have q23 := he3.cellE (((Ext.rfl' _).dr).cellE q2)
 clear ho3 he3 q0 q1 q2 B0
 try go_wp2_with fail
 refine hK.out _ _ (by exact ⟨q03, q13, q23⟩) fun hh2 => ?_; clear hK K hHeld; have hHeld := hh2; clear hh2
 try simp only [Act.put, pu]
 refine rd1 5 rfl fun K hK => ?_
 go_simp
 refine (s_copyLists Ar kr r _ (Hr.out.ext E3.out)).mono ?_
 rintro e w4 ⟨A2, c2, hs, rfl, ho4, he4⟩
 have E4 := lh (E3.out.tr he4)
 have O4 := lh (O3.out.ext he4)
 have R4 := lh (OwnD.mono ho4 (B' := w.heap.size + 2) hz3)
 have D4 := lh (show ∀ b, blk A1 = some b → ¬ fpD A2 hs b from fun b hb hb' => by have h1 := (O3.out.lt hb).2; have h2 := (ho4.lt hb').1; omega)
 have B4 := lh (B3.out.ext he4)
 have hz4 := he4.size
 have q04 := he4.cellE q03
 have q14 := he4.cellE q13
 have q24 := he4.cellE q23
 clear ho4 he4 q03 q13 q23 B3
 try go_wp2_with fail
 refine hK.out _ _ (by exact ⟨q04, q14, q24⟩) fun hh2 => ?_; clear hK K hHeld; have hHeld := hh2; clear hh2
 try simp only [Act.put, pu]
 refine rd1 8 rfl fun K hK => ?_
 go_simp
 refine (s_copyInts Aq q.length kq q _ (Hq.out.ext E4.out) (by omega)).mono ?_
 rintro e w5 ⟨A3, c3, rfl, ho5, he5⟩
 have E5 := lh (E4.out.tr he5)
 have O5 := lh (O4.out.ext he5)
 have R5 := lh (OwnD.ext R4.out he5)
 have Q5 := lh (ho5.mono (B' := w.heap.size + 2) (by omega))
 have D5 := lh (show (∀ b, blk A1 = some b → ¬ fpD A2 hs b ∧ blk A3 ≠ some b) ∧ ∀ b, blk A3 = some b → ¬ fpD A2 hs b from ⟨fun b hb => ⟨D4.out b hb, fun e => by have h1 := (O4.out.lt hb).2; have h2 := (ho5.lt e).1; omega⟩, fun b hb hf => by have h1 := (OwnD.lt R4.out hf).2; have h2 := (ho5.lt hb).1; omega⟩)
 have B5 := lh (B4.out.ext he5)
 have q05 := he5.cellE q04
 have q15 := he5.cellE q14
 have q25 := he5.cellE q24
 have f0 := B5.out.free 0
 have f1 := B5.out.free 1
 have f2 := B5.out.free 2
 have bl := B5.out.lt
 have x0 := B5.out.cell (j := 0) rfl
 have x1 := B5.out.cell (j := 1) rfl
 have x2 := B5.out.cell (j := 2) rfl
 clear ho5 he5 q04 q14 q24 B4 O4 R4 D4
 try go_wp2_with fail
 refine hK.out _ _ (by exact ⟨q05, q15, q25⟩) fun hh2 => ?_; clear hK K hHeld; have hHeld := hh2; clear hh2
 try simp only [Act.put, pu]
 refine ty 9 ?_
 refine rd1 10 rfl fun K hK => ?_
 go_simp
 refine hK.out _ _ (by exact ⟨(co).trans ((co).trans ((co).trans q05)), (co).trans ((co).trans ((co).trans q15)), (co).trans ((co).trans ((co).trans q25))⟩) fun hh2 => ?_; clear hK K hHeld; have hHeld := hh2; clear hh2
 try simp only [Act.put]
 refine dn ?_
 go_wp2
 have hz : w.heap.size ≤ w.heap.size + 1 := by omega
 have hS := Mod.set (F := fun b => b = w.heap.size + 1) (Mod.set (F := fun b => b = w.heap.size + 1) (Mod.set (F := fun b => b = w.heap.size + 1) (Mod.rfl' (fun b => b = w.heap.size + 1) w5) (p := ⟨w.heap.size + 1, 0, none⟩) (.inl rfl) (.slice A1 v.length c1)) (p := ⟨w.heap.size + 1, 1, none⟩) (.inl rfl) (.slice A2 r.length c2)) (p := ⟨w.heap.size + 1, 2, none⟩) (.inl rfl) (.slice A3 q.length c3)
 have s0 : ∀ u0 u1 u2 : Value, World.cell? (World.setCell (World.setCell (World.setCell w5 ⟨w.heap.size + 1, 0, none⟩ u0) ⟨w.heap.size + 1, 1, none⟩ u1) ⟨w.heap.size + 1, 2, none⟩ u2) ⟨w.heap.size + 1, 0, none⟩ = some u0 := fun u0 u1 u2 => (((B5.out.set 0 u0).set 1 u1).set 2 u2).cell (j := 0) rfl
 have s1 : ∀ u0 u1 u2 : Value, World.cell? (World.setCell (World.setCell (World.setCell w5 ⟨w.heap.size + 1, 0, none⟩ u0) ⟨w.heap.size + 1, 1, none⟩ u1) ⟨w.heap.size + 1, 2, none⟩ u2) ⟨w.heap.size + 1, 1, none⟩ = some u1 := fun u0 u1 u2 => (((B5.out.set 0 u0).set 1 u1).set 2 u2).cell (j := 1) rfl
 have s2 : ∀ u0 u1 u2 : Value, World.cell? (World.setCell (World.setCell (World.setCell w5 ⟨w.heap.size + 1, 0, none⟩ u0) ⟨w.heap.size + 1, 1, none⟩ u1) ⟨w.heap.size + 1, 2, none⟩ u2) ⟨w.heap.size + 1, 2, none⟩ = some u2 := fun u0 u1 u2 => (((B5.out.set 0 u0).set 1 u1).set 2 u2).cell (j := 2) rfl
 refine bodyPost_ret (v := .agg #[.slice A1 v.length c1, .slice A2 r.length c2, .slice A3 q.length c3]) (by simp [results, Tryz.results79, go_sem, s0, s1, s2]; try rfl) rfl ?_
 exact ⟨A1, c1, A2, c2, A3, c3, hs, rfl, ⟨(O5.out.mod hS (fun b hb e => by have := (O5.out.lt hb).1; omega)).mono (by omega), OwnD.mono (OwnD.mod R5.out hS (fun b hb e => by have := (OwnD.lt R5.out hb).1; omega)) (by omega), (Q5.out.mod hS (fun b hb e => by have := (Q5.out.lt hb).1; omega)).mono (by omega), D5.out.1, D5.out.2⟩, (((E5.out.set (p := ⟨w.heap.size + 1, 0, none⟩) hz _).set (p := ⟨w.heap.size + 1, 1, none⟩) hz _).set (p := ⟨w.heap.size + 1, 2, none⟩) hz _)⟩
end Go.Proofs.YtmkfjnkdaeoppaaGreat
