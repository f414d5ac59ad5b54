/- The draws of a graph, a state and writes: contracts. Conditions: the code can be read. -/
import Derived.Test.YtmelggoagbhieaaGreatDrawJ
import Derived.Test.YtmelggoagbhieaaGreatDrawL
namespace Go.Proofs.YtmelggoagbhieaaGreat
open Go.RowKit

set_option maxRecDepth 100000 in
set_option maxHeartbeats 1000000 in
theorem s_DrawWriteEager (A : Option Addr) (c : Nat) (l : List Int) (w : World) (h : Rd w 1 A l.length (u8s l)) (hr : ∀ x ∈ l, 0 ≤ x ∧ x ≤ 255) (hc : l.length ≤ c) (hcm : c ≤ maxLen) :
    Calls Tryz.prog 15 #[.slice A l.length c] w fun e w' => ∃ (g : Sg.Graph) (Ag : Option Addr) (cg : Nat) (v : List Int) (Av : Option Addr) (cv : Nat) (r : List (List Int)) (Ar : Option Addr) (cr : Nat) (ns : List Int) (An : Option Addr) (cn : Nat) (xs : List Int) (Ax : Option Addr) (cx : Nat),
      e = .returned (.tuple #[.agg #[.slice Ag g.length cg], .agg #[.slice Av v.length cv, .slice Ar r.length cr], .slice An ns.length cn, .slice Ax xs.length cx]) ∧
      2 ≤ g.length ∧ g.length ≤ 10 ∧ v.length ≤ 11 ∧ r.length ≤ 10 ∧ ns.length = xs.length ∧ ns.length ≤ 3 ∧ ns.length ≤ cn ∧ cn ≤ maxLen ∧ RdN w' Ag g ∧ Rd w' 1 Av v.length (ints v) ∧ RdL w' Ar r ∧ Rd w' 1 An ns.length (ints ns) ∧ Rd w' 1 Ax xs.length (ints xs) ∧ Ext w w' := by
  have e0 : Ext w (World.alloc (World.alloc w (.cells #[.slice none 0 0] 25)) (.cells #[.slice none 0 0, .slice none 0 0] 29)) := ((Ext.rfl' w).al _).al _
  have HN := Lib.hid (s_newReader A c l _ (h.ext e0) hr hc hcm)
  have B0 := Lib.hid ((Bx.new w #[.slice none 0 0] 25).al (.cells #[.slice none 0 0, .slice none 0 0] 29))
  have d0 := Bx.new (World.alloc w (.cells #[.slice none 0 0] 25)) #[.slice none 0 0, .slice none 0 0] 29
  simp only [World.size_alloc] at d0
  have D0 := Lib.hid d0
  have E0 := Lib.hid e0
  clear h e0 d0
  go_enter Tryz.func15, Tryz.ntmps15
  go_wp2_with fail
  refine HN.out.mono ?_
  rintro e w1 ⟨rfl, hr1, he1⟩
  have B1 := Lib.hid (B0.out.ext he1)
  have D1 := Lib.hid (D0.out.ext he1)
  have E1 := Lib.hid (E0.out.tr he1)
  have R1 := Lib.hid hr1
  have hw1 := he1.size
  simp only [World.size_alloc] at hw1 hr1
  have hR1 := hr1.lt
  clear hr1 he1 HN B0 D0
  go_wp2_with fail
  refine (s_eagerOf _ 0 _ (by have := R1.out; simpa using this) (by omega)).mono ?_
  rintro e w2 ⟨g, Ag, cg, v, Av, cv, r, Ar, cr, rfl, hg2, hg10, hvl, hrl, hok, hr2, hm2⟩
  have hw2 := hm2.size
  have HOK := Lib.hid hok
  have B2 := Lib.hid (B1.out.mod hm2 (by omega))
  have D2 := Lib.hid (D1.out.mod hm2 (by omega))
  have E2 := Lib.hid (Ext.md E1.out hm2 (fun b e => by omega))
  have R2 := Lib.hid hr2
  clear hok hr2 hm2 R1 B1 D1
  have eb : Ext w2 (World.alloc (World.alloc w2 (.cells #[.slice Ag g.length cg] 25)) (.cells #[.slice Av v.length cv, .slice Ar r.length cr] 29)) := ((Ext.rfl' w2).al _).al _
  have b3 := Bx.new w2 #[.slice Ag g.length cg] 25
  have B3 := Lib.hid (b3.al (.cells #[.slice Av v.length cv, .slice Ar r.length cr] 29))
  have d3 := Bx.new (World.alloc w2 (.cells #[.slice Ag g.length cg] 25)) #[.slice Av v.length cv, .slice Ar r.length cr] 29
  simp only [World.size_alloc] at d3
  have D3 := Lib.hid d3
  have B2b := Lib.hid (B2.out.ext eb)
  have D2b := Lib.hid (D2.out.ext eb)
  have R2b := Lib.hid (R2.out.ext eb)
  have E2b := Lib.hid (E2.out.tr eb)
  have OKb := Lib.hid (fun X (hX : Mod (fun b => b ≤ w.heap.size + 1 + 1 ∨ b < w1.heap.size) (World.alloc (World.alloc w2 (.cells #[.slice Ag g.length cg] 25)) (.cells #[.slice Av v.length cv, .slice Ar r.length cr] 29)) X) => HOK.out X ((Mod.of (F := fun b => b ≤ w.heap.size + 1 + 1 ∨ b < w1.heap.size) eb).tr' hX))
  have SW := Lib.hid (s_someWrites (w.heap.size + 1 + 1) (0 + 1600) Ag cg g _ (by have := R2b.out; simpa using this) (fun W hm => (OKb.out W (hm.mono (fun b _ e => by omega))).1) (by omega) hg10 (by omega))
  clear b3 d3 eb B2 D2 R2 E2 HOK R2b
  go_upto_region 3 with fail
  have hs23 : w2.heap.size < (World.alloc (World.alloc w2 (.cells #[.slice Ag g.length cg] 25)) (.cells #[.slice Av v.length cv, .slice Ar r.length cr] 29)).heap.size := by simp only [World.size_alloc]; omega
  generalize World.alloc (World.alloc w2 (.cells #[.slice Ag g.length cg] 25)) (.cells #[.slice Av v.length cv, .slice Ar r.length cr] 29) = w3 at *
  have cg3 := B3.out.cell (j := 0) rfl
  have bg3 := blt cg3
  go_wp2_with fail
  refine SW.out.mono ?_
  rintro e w4 ⟨ns, xs, An, cn, Ax, cx, rfl, ho1, ho2, hnx, hn3, hr4, hm4⟩

  have hs3 := hm4.size
  have B24 := Lib.hid (B2b.out.mod hm4 (by omega))
  have D24 := Lib.hid (D2b.out.mod hm4 (by omega))
  have G4 := Lib.hid (B3.out.mod hm4 (by omega))
  have S4 := Lib.hid (D3.out.mod hm4 (by omega))
  have E4 := Lib.hid (Ext.md E2b.out hm4 (fun b e => by omega))
  have OK4 := Lib.hid (fun X (hX : Mod (fun b => b ≤ w.heap.size + 1 + 1 ∨ b < w1.heap.size) w4 X) => OKb.out X ((hm4.mono (F' := fun b => b ≤ w.heap.size + 1 + 1 ∨ b < w1.heap.size) (fun b _ e => by omega)).tr' hX))
  have O1 := Lib.hid ho1
  have O2 := Lib.hid ho2
  have HNX := Lib.hid hnx
  clear hnx
  clear ho1 ho2 hr4 hm4 B2b D2b B3 D3 E2b OKb SW cg3 bg3
  go_wp2_with fail
  have ed := (Ext.rfl' w4).dr
  have B25 := Lib.hid (B24.out.ext ed)
  have D25 := Lib.hid (D24.out.ext ed)
  have G5 := Lib.hid (G4.out.ext ed)
  have S5 := Lib.hid (S4.out.ext ed)
  have E5 := Lib.hid (E4.out.tr ed)
  have OK5 := Lib.hid (fun X (hX : Mod (fun b => b ≤ w.heap.size + 1 + 1 ∨ b < w1.heap.size) (World.drew w4) X) => OK4.out X ((Mod.of (F := fun b => b ≤ w.heap.size + 1 + 1 ∨ b < w1.heap.size) ed).tr' hX))
  have P1 := Lib.hid (O1.out.ext ed)
  have P2 := Lib.hid (O2.out.ext ed)
  clear ed B24 D24 G4 S4 E4 OK4 O1 O2
  refine wp_region_held_drew (S := (fun W => W.cell? ⟨w2.heap.size, 0, none⟩ = some (.slice Ag g.length cg) ∧ W.cell? ⟨w2.heap.size + 1, 0, none⟩ = some (.slice Av v.length cv) ∧ W.cell? ⟨w2.heap.size + 1, 1, none⟩ = some (.slice Ar r.length cr))) (by kernel_rfl) ?_ (fun hHeld => ?_)
  · exact ⟨G5.out.cell (j := 0) rfl, S5.out.cell (j := 0) rfl, S5.out.cell (j := 1) rfl⟩
  generalize World.drew w4 = w5 at *
  have kg := G5.out.cell (j := 0) rfl
  have kv := S5.out.cell (j := 0) rfl
  have kr := S5.out.cell (j := 1) rfl
  have bkg := blt kg
  have bkv := blt kv
  have f0 := B25.out.free 0
  have qr := B25.out.cell (j := 0) rfl
  have bl := B25.out.lt
  have f1 := D25.out.free 0
  have f2 := D25.out.free 1
  have y0 := D25.out.cell (j := 0) rfl
  have y1 := D25.out.cell (j := 1) rfl
  have bd := D25.out.lt
  refine wpAnyH_take (i := 0) (v := ?_) (by simp only [List.getElem?_toArray, List.getElem?_cons_zero]; rfl) (by kernel_rfl) (by kernel_rfl) (by kernel_rfl) (by exact fun _ _ _ h => h) (Or.inl ⟨by kernel_rfl, ?_⟩) (by assumption) ?_
  rotate_left
  · intro w hSw; (try dsimp only at hSw); go_simp; try with_reducible rfl
  try simp only [Act.put, List.setIfInBounds_toArray, List.set_cons_zero, List.set_cons_succ]
  refine wpAnyH_take (i := 1) (v := ?_) (by simp only [List.getElem?_toArray, List.getElem?_cons_succ, List.getElem?_cons_zero]; rfl) (by kernel_rfl) (by kernel_rfl) (by kernel_rfl) (by exact fun _ _ _ h => h) (Or.inl ⟨by kernel_rfl, ?_⟩) (by assumption) ?_
  rotate_left
  · intro w hSw; (try dsimp only at hSw); go_simp; try with_reducible rfl
  try simp only [Act.put, List.setIfInBounds_toArray, List.set_cons_zero, List.set_cons_succ]
  refine wpAnyH_take (i := 2) (v := ?_) (by simp only [List.getElem?_toArray, List.getElem?_cons_succ, List.getElem?_cons_zero]; rfl) (by kernel_rfl) (by kernel_rfl) (by kernel_rfl) (by exact fun _ _ _ h => h) (Or.inl ⟨by kernel_rfl, ?_⟩) (by assumption) ?_
  rotate_left
  · intro w hSw; (try dsimp only at hSw); go_simp; try with_reducible rfl
  try simp only [Act.put, List.setIfInBounds_toArray, List.set_cons_zero, List.set_cons_succ]
  refine wpAnyH_take (i := 3) (v := ?_) (by simp only [List.getElem?_toArray, List.getElem?_cons_succ, List.getElem?_cons_zero]; rfl) (by kernel_rfl) (by kernel_rfl) (by kernel_rfl) (by exact fun _ _ _ h => h) (Or.inl ⟨by kernel_rfl, ?_⟩) (by assumption) ?_
  rotate_left
  · intro w hSw; (try dsimp only at hSw); go_simp; try with_reducible rfl
  try simp only [Act.put, List.setIfInBounds_toArray, List.set_cons_zero, List.set_cons_succ]
  refine wpAnyH_ready (rs := [4]) (by kernel_rfl) (by simp) ?_
  refine AllReadyH.cons rfl (fun K hK => ?_) AllReadyH.nil
  go_simp
  refine hK.out _ _ ?_ (fun hHeld2 => ?_)
  · exact ⟨((World.cell?_setCell_other _ _ _ _ (by intro e; injection e; omega)).trans kg), ((World.cell?_setCell_other _ _ _ _ (by intro e; injection e; omega)).trans kv), ((World.cell?_setCell_other _ _ _ _ (by intro e; injection e; omega)).trans kr)⟩
  clear hK K hHeld
  have hHeld := hHeld2
  clear hHeld2
  try simp only [Act.put]
  refine wpAnyH_ready (rs := [5]) (by kernel_rfl) (by simp) ?_
  refine AllReadyH.cons rfl (fun K hK => ?_) AllReadyH.nil
  go_simp
  refine hK.out _ _ ?_ (fun hHeld2 => ?_)
  · exact ⟨((World.cell?_setCell_other _ _ _ _ (by intro e; injection e; omega)).trans ((World.cell?_setCell_other _ _ _ _ (by intro e; injection e; omega)).trans ((World.cell?_setCell_other _ _ _ _ (by intro e; injection e; omega)).trans kg))), ((World.cell?_setCell_other _ _ _ _ (by intro e; injection e; omega)).trans ((World.cell?_setCell_other _ _ _ _ (by intro e; injection e; omega)).trans ((World.cell?_setCell_other _ _ _ _ (by intro e; injection e; omega)).trans kv))), ((World.cell?_setCell_other _ _ _ _ (by intro e; injection e; omega)).trans ((World.cell?_setCell_other _ _ _ _ (by intro e; injection e; omega)).trans ((World.cell?_setCell_other _ _ _ _ (by intro e; injection e; omega)).trans kr)))⟩
  clear hK K hHeld
  have hHeld := hHeld2
  clear hHeld2
  try simp only [Act.put]
  refine wpAnyH_take (i := 6) (v := ?_) (by simp only [List.getElem?_toArray, List.getElem?_cons_succ, List.getElem?_cons_zero]; rfl) (by kernel_rfl) (by kernel_rfl) (by kernel_rfl) (by exact fun _ _ _ h => h) (Or.inl ⟨by kernel_rfl, ?_⟩) (by assumption) ?_
  rotate_left
  · intro w hSw; (try dsimp only at hSw); go_simp; try with_reducible rfl
  try simp only [Act.put, List.setIfInBounds_toArray, List.set_cons_zero, List.set_cons_succ]
  refine wpAnyH_take (i := 7) (v := ?_) (by simp only [List.getElem?_toArray, List.getElem?_cons_succ, List.getElem?_cons_zero]; rfl) (by kernel_rfl) (by kernel_rfl) (by kernel_rfl) (by exact fun _ _ _ h => h) (Or.inl ⟨by kernel_rfl, ?_⟩) (by assumption) ?_
  rotate_left
  · intro w hSw; (try dsimp only at hSw); go_simp; try with_reducible rfl
  try simp only [Act.put, List.setIfInBounds_toArray, List.set_cons_zero, List.set_cons_succ]
  refine wpAnyH_done (by kernel_rfl) ?_ _
  go_wp2
  have s0 : ∀ u0 u1 u2 : Value, World.cell? (World.setCell (World.setCell (World.setCell w5 ⟨w.heap.size, 0, none⟩ u0) ⟨w.heap.size + 1, 0, none⟩ u1) ⟨w.heap.size + 1, 1, none⟩ u2) ⟨w.heap.size, 0, none⟩ = some u0 := fun u0 u1 u2 => (((B25.out.set 0 u0).oth (show w.heap.size + 1 ≠ w.heap.size by omega) u1).oth (show w.heap.size + 1 ≠ w.heap.size by omega) u2).cell (j := 0) rfl
  have s1 : ∀ u0 u1 u2 : Value, World.cell? (World.setCell (World.setCell (World.setCell w5 ⟨w.heap.size, 0, none⟩ u0) ⟨w.heap.size + 1, 0, none⟩ u1) ⟨w.heap.size + 1, 1, none⟩ u2) ⟨w.heap.size + 1, 0, none⟩ = some u1 := fun u0 u1 u2 => (((D25.out.oth (show w.heap.size ≠ w.heap.size + 1 by omega) u0).set 0 u1).set 1 u2).cell (j := 0) rfl
  have s2 : ∀ u0 u1 u2 : Value, World.cell? (World.setCell (World.setCell (World.setCell w5 ⟨w.heap.size, 0, none⟩ u0) ⟨w.heap.size + 1, 0, none⟩ u1) ⟨w.heap.size + 1, 1, none⟩ u2) ⟨w.heap.size + 1, 1, none⟩ = some u2 := fun u0 u1 u2 => (((D25.out.oth (show w.heap.size ≠ w.heap.size + 1 by omega) u0).set 0 u1).set 1 u2).cell (j := 1) rfl
  refine bodyPost_ret (v := .tuple #[.agg #[.slice Ag g.length cg], .agg #[.slice Av v.length cv, .slice Ar r.length cr], .slice An ns.length cn, .slice Ax xs.length cx]) (by simp [results, Tryz.results15, go_sem, s0, s1, s2]; try rfl) rfl ?_
  have hS := Lib.hid (Mod.set (F := fun b => b = w.heap.size ∨ b = w.heap.size + 1) (Mod.set (F := fun b => b = w.heap.size ∨ b = w.heap.size + 1) (Mod.set (F := fun b => b = w.heap.size ∨ b = w.heap.size + 1) (Mod.rfl' (fun b => b = w.heap.size ∨ b = w.heap.size + 1) w5) (p := ⟨w.heap.size, 0, none⟩) (.inl (.inl rfl)) (.slice Ag g.length cg)) (p := ⟨w.heap.size + 1, 0, none⟩) (.inl (.inr rfl)) (.slice Av v.length cv)) (p := ⟨w.heap.size + 1, 1, none⟩) (.inl (.inr rfl)) (.slice Ar r.length cr))
  obtain ⟨x1, x2, x3⟩ := OK5.out _ (hS.out.mono (fun b _ e => by omega))
  exact ⟨g, Ag, cg, v, Av, cv, r, Ar, cr, ns, An, cn, xs, Ax, cx, rfl, hg2, hg10, hvl, hrl, HNX.out, hn3, P1.out.2.1, P1.out.2.2.1, x1, x2, x3, (P1.out.mod hS.out (fun b hb e => by have := (P1.out.lt hb).1; omega)).rd, (P2.out.mod hS.out (fun b hb e => by have := (P2.out.lt hb).1; omega)).rd, Ext.md E5.out hS.out (fun b e => by omega)⟩
end Go.Proofs.YtmelggoagbhieaaGreat
