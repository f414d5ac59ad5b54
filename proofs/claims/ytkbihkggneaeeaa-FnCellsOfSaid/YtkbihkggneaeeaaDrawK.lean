/- The draws of a graph and a state: contracts. Conditions: the code can be read. -/
import Derived.Test.YtkbihkggneaeeaaDrawJ
namespace Go.Proofs.Ytkbihkggneaeeaa
open Go.RowKit

set_option maxRecDepth 100000 in
set_option maxHeartbeats 1000000 in
theorem s_DrawValidEager (A : Option Addr) (c : Nat) (l : List Int) (w : World) (h : Rd w 1 A l.length (u8s l)) (hr : ∀ x ∈ l, 0 ≤ x ∧ x ≤ 255) (hc : l.length ≤ c) (hcm : c ≤ maxLen) :
    Calls Try.prog 24 #[.slice A l.length c] w fun e w' => ∃ (g : Sg.Graph) (Ag : Option Addr) (cg : Nat) (v : List Int) (Av : Option Addr) (cv : Nat) (r : List (List Int)) (Ar : Option Addr) (cr : Nat), e = .returned (.tuple #[.agg #[.slice Ag g.length cg], .agg #[.slice Av v.length cv, .slice Ar r.length cr]]) ∧
      2 ≤ g.length ∧ g.length ≤ 10 ∧ v.length ≤ 11 ∧ r.length ≤ 10 ∧ RdN w' Ag g ∧ Rd w' 1 Av v.length (ints v) ∧ RdL w' Ar r ∧ Ext w w' := by
  have e0 : Ext w (World.alloc (World.alloc w (.cells #[.slice none 0 0] 25)) (.cells #[.slice none 0 0, .slice none 0 0] 31)) := ((Ext.rfl' w).al _).al _
  have HN := Lib.hid (s_newReader A c l _ (h.ext e0) hr hc hcm)
  have B0 := Lib.hid ((Bx.new w #[.slice none 0 0] 25).al (.cells #[.slice none 0 0, .slice none 0 0] 31))
  have d0 := Bx.new (World.alloc w (.cells #[.slice none 0 0] 25)) #[.slice none 0 0, .slice none 0 0] 31
  simp only [World.size_alloc] at d0
  have D0 := Lib.hid d0
  have E0 := Lib.hid e0
  clear h e0 d0
  go_enter Try.func24, Try.ntmps24
  go_wp2_with fail
  refine HN.out.mono ?_
  rintro e w1 ⟨rfl, hr1, he1⟩
  have B1 := Lib.hid (B0.out.ext he1)
  have D1 := Lib.hid (D0.out.ext he1)
  have E1 := Lib.hid (E0.out.tr he1)
  have R1 := Lib.hid hr1
  have hw1 := he1.size
  simp only [World.size_alloc] at hw1 hr1
  clear hr1 he1 HN B0 D0
  go_wp2_with fail
  refine (s_eagerOf _ 0 _ (by have := R1.out; simpa using this) (by omega)).mono ?_
  rintro e w2 ⟨g, Ag, cg, v, Av, cv, r, Ar, cr, rfl, hg2, hg10, hvl, hrl, hok, hr2, hm2⟩
  have HOK := Lib.hid hok
  have B2 := Lib.hid (B1.out.mod hm2 (by omega))
  have D2 := Lib.hid (D1.out.mod hm2 (by omega))
  have E2 := Lib.hid (Ext.md E1.out hm2 (fun b e => by omega))
  have f0 := B2.out.free 0
  have qr := B2.out.cell (j := 0) rfl
  have bl := B2.out.lt
  have f1 := D2.out.free 0
  have f2 := D2.out.free 1
  have y0 := D2.out.cell (j := 0) rfl
  have y1 := D2.out.cell (j := 1) rfl
  have bd := D2.out.lt
  clear hok hr2 hm2 R1
  go_wp2
  have s0 : ∀ u0 u1 u2 : Value, World.cell? (World.setCell (World.setCell (World.setCell w2 ⟨w.heap.size, 0, none⟩ u0) ⟨w.heap.size + 1, 0, none⟩ u1) ⟨w.heap.size + 1, 1, none⟩ u2) ⟨w.heap.size, 0, none⟩ = some u0 := fun u0 u1 u2 => (((B2.out.set 0 u0).oth (show w.heap.size + 1 ≠ w.heap.size by omega) u1).oth (show w.heap.size + 1 ≠ w.heap.size by omega) u2).cell (j := 0) rfl
  have s1 : ∀ u0 u1 u2 : Value, World.cell? (World.setCell (World.setCell (World.setCell w2 ⟨w.heap.size, 0, none⟩ u0) ⟨w.heap.size + 1, 0, none⟩ u1) ⟨w.heap.size + 1, 1, none⟩ u2) ⟨w.heap.size + 1, 0, none⟩ = some u1 := fun u0 u1 u2 => (((D2.out.oth (show w.heap.size ≠ w.heap.size + 1 by omega) u0).set 0 u1).set 1 u2).cell (j := 0) rfl
  have s2 : ∀ u0 u1 u2 : Value, World.cell? (World.setCell (World.setCell (World.setCell w2 ⟨w.heap.size, 0, none⟩ u0) ⟨w.heap.size + 1, 0, none⟩ u1) ⟨w.heap.size + 1, 1, none⟩ u2) ⟨w.heap.size + 1, 1, none⟩ = some u2 := fun u0 u1 u2 => (((D2.out.oth (show w.heap.size ≠ w.heap.size + 1 by omega) u0).set 0 u1).set 1 u2).cell (j := 1) rfl
  refine bodyPost_ret (v := .tuple #[.agg #[.slice Ag g.length cg], .agg #[.slice Av v.length cv, .slice Ar r.length cr]]) (by simp [results, Try.results24, go_sem, s0, s1, s2]; try rfl) rfl ?_
  have hS := Lib.hid (Mod.set (F := fun b => b = w.heap.size ∨ b = w.heap.size + 1) (Mod.set (F := fun b => b = w.heap.size ∨ b = w.heap.size + 1) (Mod.set (F := fun b => b = w.heap.size ∨ b = w.heap.size + 1) (Mod.rfl' (fun b => b = w.heap.size ∨ b = w.heap.size + 1) w2) (p := ⟨w.heap.size, 0, none⟩) (.inl (.inl rfl)) (.slice Ag g.length cg)) (p := ⟨w.heap.size + 1, 0, none⟩) (.inl (.inr rfl)) (.slice Av v.length cv)) (p := ⟨w.heap.size + 1, 1, none⟩) (.inl (.inr rfl)) (.slice Ar r.length cr))
  obtain ⟨x1, x2, x3⟩ := HOK.out _ (hS.out.mono (fun b _ e => by omega))
  exact ⟨g, Ag, cg, v, Av, cv, r, Ar, cr, rfl, hg2, hg10, hvl, hrl, x1, x2, x3, Ext.md E2.out hS.out (fun b e => by omega)⟩

set_option maxRecDepth 100000 in
set_option maxHeartbeats 1000000 in
theorem s_DrawCellsOf (A : Option Addr) (c : Nat) (l : List Int) (w : World) (h : Rd w 1 A l.length (u8s l)) (hr : ∀ x ∈ l, 0 ≤ x ∧ x ≤ 255) (hc : l.length ≤ c) (hcm : c ≤ maxLen) :
    Calls Try.prog 26 #[.slice A l.length c] w fun e w' => ∃ (g : Sg.Graph) (Ag : Option Addr) (cg : Nat) (v : List Int) (Av : Option Addr) (cv : Nat) (r : List (List Int)) (Ar : Option Addr) (cr : Nat), e = .returned (.tuple #[.agg #[.slice Ag g.length cg], .agg #[.slice Av v.length cv, .slice Ar r.length cr]]) ∧
      2 ≤ g.length ∧ g.length ≤ 10 ∧ v.length ≤ 11 ∧ r.length ≤ 10 ∧ RdN w' Ag g ∧ Rd w' 1 Av v.length (ints v) ∧ RdL w' Ar r ∧ Ext w w' := by
  have e0 : Ext w (World.alloc (World.alloc w (.cells #[.slice none 0 0] 25)) (.cells #[.slice none 0 0, .slice none 0 0] 31)) := ((Ext.rfl' w).al _).al _
  have HN := Lib.hid (s_newReader A c l _ (h.ext e0) hr hc hcm)
  have B0 := Lib.hid ((Bx.new w #[.slice none 0 0] 25).al (.cells #[.slice none 0 0, .slice none 0 0] 31))
  have d0 := Bx.new (World.alloc w (.cells #[.slice none 0 0] 25)) #[.slice none 0 0, .slice none 0 0] 31
  simp only [World.size_alloc] at d0
  have D0 := Lib.hid d0
  have E0 := Lib.hid e0
  clear h e0 d0
  go_enter Try.func26, Try.ntmps26
  go_wp2_with fail
  refine HN.out.mono ?_
  rintro e w1 ⟨rfl, hr1, he1⟩
  have B1 := Lib.hid (B0.out.ext he1)
  have D1 := Lib.hid (D0.out.ext he1)
  have E1 := Lib.hid (E0.out.tr he1)
  have R1 := Lib.hid hr1
  have hw1 := he1.size
  simp only [World.size_alloc] at hw1 hr1
  clear hr1 he1 HN B0 D0
  go_wp2_with fail
  refine (s_eagerOf _ 0 _ (by have := R1.out; simpa using this) (by omega)).mono ?_
  rintro e w2 ⟨g, Ag, cg, v, Av, cv, r, Ar, cr, rfl, hg2, hg10, hvl, hrl, hok, hr2, hm2⟩
  have HOK := Lib.hid hok
  have B2 := Lib.hid (B1.out.mod hm2 (by omega))
  have D2 := Lib.hid (D1.out.mod hm2 (by omega))
  have E2 := Lib.hid (Ext.md E1.out hm2 (fun b e => by omega))
  have f0 := B2.out.free 0
  have qr := B2.out.cell (j := 0) rfl
  have bl := B2.out.lt
  have f1 := D2.out.free 0
  have f2 := D2.out.free 1
  have y0 := D2.out.cell (j := 0) rfl
  have y1 := D2.out.cell (j := 1) rfl
  have bd := D2.out.lt
  clear hok hr2 hm2 R1
  go_wp2
  have s0 : ∀ u0 u1 u2 : Value, World.cell? (World.setCell (World.setCell (World.setCell w2 ⟨w.heap.size, 0, none⟩ u0) ⟨w.heap.size + 1, 0, none⟩ u1) ⟨w.heap.size + 1, 1, none⟩ u2) ⟨w.heap.size, 0, none⟩ = some u0 := fun u0 u1 u2 => (((B2.out.set 0 u0).oth (show w.heap.size + 1 ≠ w.heap.size by omega) u1).oth (show w.heap.size + 1 ≠ w.heap.size by omega) u2).cell (j := 0) rfl
  have s1 : ∀ u0 u1 u2 : Value, World.cell? (World.setCell (World.setCell (World.setCell w2 ⟨w.heap.size, 0, none⟩ u0) ⟨w.heap.size + 1, 0, none⟩ u1) ⟨w.heap.size + 1, 1, none⟩ u2) ⟨w.heap.size + 1, 0, none⟩ = some u1 := fun u0 u1 u2 => (((D2.out.oth (show w.heap.size ≠ w.heap.size + 1 by omega) u0).set 0 u1).set 1 u2).cell (j := 0) rfl
  have s2 : ∀ u0 u1 u2 : Value, World.cell? (World.setCell (World.setCell (World.setCell w2 ⟨w.heap.size, 0, none⟩ u0) ⟨w.heap.size + 1, 0, none⟩ u1) ⟨w.heap.size + 1, 1, none⟩ u2) ⟨w.heap.size + 1, 1, none⟩ = some u2 := fun u0 u1 u2 => (((D2.out.oth (show w.heap.size ≠ w.heap.size + 1 by omega) u0).set 0 u1).set 1 u2).cell (j := 1) rfl
  refine bodyPost_ret (v := .tuple #[.agg #[.slice Ag g.length cg], .agg #[.slice Av v.length cv, .slice Ar r.length cr]]) (by simp [results, Try.results26, go_sem, s0, s1, s2]; try rfl) rfl ?_
  have hS := Lib.hid (Mod.set (F := fun b => b = w.heap.size ∨ b = w.heap.size + 1) (Mod.set (F := fun b => b = w.heap.size ∨ b = w.heap.size + 1) (Mod.set (F := fun b => b = w.heap.size ∨ b = w.heap.size + 1) (Mod.rfl' (fun b => b = w.heap.size ∨ b = w.heap.size + 1) w2) (p := ⟨w.heap.size, 0, none⟩) (.inl (.inl rfl)) (.slice Ag g.length cg)) (p := ⟨w.heap.size + 1, 0, none⟩) (.inl (.inr rfl)) (.slice Av v.length cv)) (p := ⟨w.heap.size + 1, 1, none⟩) (.inl (.inr rfl)) (.slice Ar r.length cr))
  obtain ⟨x1, x2, x3⟩ := HOK.out _ (hS.out.mono (fun b _ e => by omega))
  exact ⟨g, Ag, cg, v, Av, cv, r, Ar, cr, rfl, hg2, hg10, hvl, hrl, x1, x2, x3, Ext.md E2.out hS.out (fun b e => by omega)⟩
end Go.Proofs.Ytkbihkggneaeeaa
