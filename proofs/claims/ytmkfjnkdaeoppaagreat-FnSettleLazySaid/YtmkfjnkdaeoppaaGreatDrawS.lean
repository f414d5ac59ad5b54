/- The draws of a graph and a state: contracts. Conditions: the code can be read. -/
import Derived.Test.YtmkfjnkdaeoppaaGreatDrawZ
namespace Go.Proofs.YtmkfjnkdaeoppaaGreat
open Go.RowKit

set_option maxRecDepth 100000 in
set_option maxHeartbeats 1000000 in
theorem s_DrawSettleLazy (A : Option Addr) (c : Nat) (l : List Int) (w : World) (h : Rd w 1 A l.length (u8s l)) (hr : ∀ x ∈ l, 0 ≤ x ∧ x ≤ 255) (hc : l.length ≤ c) (hcm : c ≤ maxLen) :
  Calls Tryz.prog 49 #[.slice A l.length c] w fun e w' => ∃ (g : Sg.Graph) (Ag : Option Addr) (cg : Nat) (v : List Int) (Av : Option Addr) (cv : Nat) (r : List (List Int)) (Ar : Option Addr) (cr : Nat) (q : List Int) (Aq : Option Addr) (cq : Nat), e = .returned (.tuple #[.agg #[.slice Ag g.length cg], .agg #[.slice Av v.length cv, .slice Ar r.length cr, .slice Aq q.length cq]]) ∧
   2 ≤ g.length ∧ g.length ≤ 10 ∧ v.length ≤ 11 ∧ r.length ≤ 10 ∧ q.length ≤ 10 ∧ RdN w' Ag g ∧ Rd w' 1 Av v.length (ints v) ∧ RdLC w' Ar r ∧ Rd w' 1 Aq q.length (ints q) ∧ Ext w w' := by
 have e0 : Ext w (World.alloc (World.alloc w (.cells #[.slice none 0 0] 25)) (.cells #[.slice none 0 0, .slice none 0 0, .slice none 0 0] 29)) := ((Ext.rfl' w).al _).al _
 have HN := lh (s_newReader A c l _ (h.ext e0) hr hc hcm)
 have B0 := lh ((Bx.new w #[.slice none 0 0] 25).al (.cells #[.slice none 0 0, .slice none 0 0, .slice none 0 0] 29))
 have d0 := Bx.new (World.alloc w (.cells #[.slice none 0 0] 25)) #[.slice none 0 0, .slice none 0 0, .slice none 0 0] 29
 simp only [World.size_alloc] at d0
 have D0 := lh d0
 have E0 := lh e0
 clear h e0 d0
 go_enter Tryz.func49, Tryz.ntmps49
 go_wp2_with fail
 refine HN.out.mono ?_
 rintro e w1 ⟨rfl, hr1, he1⟩
 have B1 := lh (B0.out.ext he1)
 have D1 := lh (D0.out.ext he1)
 have E1 := lh (E0.out.tr he1)
 have R1 := lh hr1
 have hw1 := he1.size
 simp only [World.size_alloc] at hw1 hr1
 clear hr1 he1 HN B0 D0
 go_wp2_with fail
 refine (s_lazyOf _ 0 _ (by have := R1.out; simpa using this) (by omega)).mono ?_
 rintro e w2 ⟨g, Ag, cg, v, Av, cv, r, Ar, cr, q, Aq, cq, rfl, hg2, hg10, hvl, hrl, hql, hok, hr2, hm2⟩
 have HOK := lh hok
 have B2 := lh (B1.out.mod hm2 (by omega))
 have D2 := lh (D1.out.mod hm2 (by omega))
 have E2 := lh (Ext.md E1.out hm2 (fun b e => by omega))
 have f0 := B2.out.free 0
 have qr := B2.out.cell (j := 0) rfl
 have bl := B2.out.lt
 have f1 := D2.out.free 0
 have f2 := D2.out.free 1
 have y0 := D2.out.cell (j := 0) rfl
 have y1 := D2.out.cell (j := 1) rfl
 have y2 := D2.out.cell (j := 2) rfl
 have f3 := D2.out.free 2
 have bd := D2.out.lt
 clear hok hr2 hm2 R1
 go_wp2
 have bx0 : Bx (World.setCell (World.setCell (World.setCell (World.setCell w2 ⟨w.heap.size, 0, none⟩ (.slice Ag g.length cg)) ⟨w.heap.size + 1, 0, none⟩ (.slice Av v.length cv)) ⟨w.heap.size + 1, 1, none⟩ (.slice Ar r.length cr)) ⟨w.heap.size + 1, 2, none⟩ (.slice Aq q.length cq)) w.heap.size [.slice Ag g.length cg] := (((B2.out.set 0 (.slice Ag g.length cg)).oth (show w.heap.size + 1 ≠ w.heap.size by omega) (.slice Av v.length cv)).oth (show w.heap.size + 1 ≠ w.heap.size by omega) (.slice Ar r.length cr)).oth (show w.heap.size + 1 ≠ w.heap.size by omega) (.slice Aq q.length cq)
 have bx1 : Bx (World.setCell (World.setCell (World.setCell (World.setCell w2 ⟨w.heap.size, 0, none⟩ (.slice Ag g.length cg)) ⟨w.heap.size + 1, 0, none⟩ (.slice Av v.length cv)) ⟨w.heap.size + 1, 1, none⟩ (.slice Ar r.length cr)) ⟨w.heap.size + 1, 2, none⟩ (.slice Aq q.length cq)) (w.heap.size + 1) [.slice Av v.length cv, .slice Ar r.length cr, .slice Aq q.length cq] := Bx.set3z (D2.out.oth (show w.heap.size ≠ w.heap.size + 1 by omega) (.slice Ag g.length cg)) (.slice Av v.length cv) (.slice Ar r.length cr) (.slice Aq q.length cq)
 have s0 := bx0.cell (j := 0) rfl
 have s1 := bx1.cell (j := 0) rfl
 have s2 := bx1.cell (j := 1) rfl
 have s3 := bx1.cell (j := 2) rfl
 refine bodyPost_ret (v := .tuple #[.agg #[.slice Ag g.length cg], .agg #[.slice Av v.length cv, .slice Ar r.length cr, .slice Aq q.length cq]]) (by simp [results, Tryz.results49, go_sem, s0, s1, s2, s3]; try rfl) rfl ?_
 have hS := lh (show Mod (fun b => b = w.heap.size ∨ b = w.heap.size + 1) w2 (World.setCell (World.setCell (World.setCell (World.setCell w2 ⟨w.heap.size, 0, none⟩ (.slice Ag g.length cg)) ⟨w.heap.size + 1, 0, none⟩ (.slice Av v.length cv)) ⟨w.heap.size + 1, 1, none⟩ (.slice Ar r.length cr)) ⟨w.heap.size + 1, 2, none⟩ (.slice Aq q.length cq)) from Mod.set (F := fun b => b = w.heap.size ∨ b = w.heap.size + 1) (Mod.set (F := fun b => b = w.heap.size ∨ b = w.heap.size + 1) (Mod.set (F := fun b => b = w.heap.size ∨ b = w.heap.size + 1) (Mod.set (F := fun b => b = w.heap.size ∨ b = w.heap.size + 1) (Mod.rfl' _ _) (p := ⟨w.heap.size, 0, none⟩) (.inl (.inl rfl)) _) (p := ⟨w.heap.size + 1, 0, none⟩) (.inl (.inr rfl)) _) (p := ⟨w.heap.size + 1, 1, none⟩) (.inl (.inr rfl)) _) (p := ⟨w.heap.size + 1, 2, none⟩) (.inl (.inr rfl)) _)
 obtain ⟨x1, x2, x3, x4⟩ := HOK.out _ (hS.out.mono (fun b _ e => by omega))
 exact ⟨g, Ag, cg, v, Av, cv, r, Ar, cr, q, Aq, cq, rfl, hg2, hg10, hvl, hrl, hql, x1, x2, x3, x4, Ext.md E2.out hS.out (fun b e => by omega)⟩
end Go.Proofs.YtmkfjnkdaeoppaaGreat
