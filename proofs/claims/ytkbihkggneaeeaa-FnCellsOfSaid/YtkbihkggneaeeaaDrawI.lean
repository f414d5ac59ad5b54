/- The draws of a graph and cells: contracts. Conditions: the code can be read. -/
import Derived.Test.YtkbihkggneaeeaaDrawH
namespace Go.Proofs.Ytkbihkggneaeeaa
open Go.RowKit

set_option maxHeartbeats 1000000 in
theorem s_DrawStartEager (A : Option Addr) (c : Nat) (l : List Int) (w : World) (h : Rd w 1 A l.length (u8s l)) (hr : ∀ x ∈ l, 0 ≤ x ∧ x ≤ 255) (hc : l.length ≤ c) (hcm : c ≤ maxLen) :
    Calls Try.prog 8 #[.slice A l.length c] w fun e w' => ∃ (g : Sg.Graph) (Ag : Option Addr) (cg : Nat) (hs : List (Option Addr × Nat)) (cl : List Int) (Ac : Option Addr) (cc : Nat), e = .returned (.tuple #[.agg #[.slice Ag g.length cg], .slice Ac cl.length cc]) ∧
      GOK w.heap.size 0 Ag cg g hs w' ∧ Own w' w.heap.size 3 1 Ac cl.length cc (ints cl) ∧ cl.length ≤ 11 ∧ Ext w w' := by
  have HN := Lib.hid (s_newReader A c l _ (h.ext ((Ext.rfl' w).al (.cells #[.slice none 0 0] 25))) hr hc hcm)
  have B0 := Lib.hid (Bx.new w #[.slice none 0 0] 25)
  have E0 := Lib.hid (show Ext w (World.alloc w (.cells #[.slice none 0 0] 25)) from (Ext.rfl' w).al _)
  clear h
  go_enter Try.func8, Try.ntmps8
  go_wp2_with fail
  refine HN.out.mono ?_
  rintro e w1 ⟨rfl, hr1, he1⟩
  have B1 := Lib.hid (B0.out.ext he1)
  have E1 := Lib.hid (E0.out.tr he1)
  have R1 := Lib.hid hr1
  have hw1 := he1.size
  simp only [World.size_alloc] at hw1 hr1
  clear hr1 he1 HN B0
  go_wp2_with fail
  refine (s_graphOf _ 0 _ (by have := R1.out; simpa using this) (by omega)).mono ?_
  rintro e w2 ⟨g, Ag, cg, hs, cl, Ac, cc, rfl, hk, ho, hl1, hl2, hd, hr2, hm2⟩
  have K2 := Lib.hid hk
  have O2 := Lib.hid ho
  have B2 := Lib.hid (B1.out.mod hm2 (by omega))
  have E2 := Lib.hid (Ext.md E1.out hm2 (fun b e => by omega))
  have f0 := B2.out.free 0
  have qr := B2.out.cell (j := 0) rfl
  have bl := B2.out.lt
  clear hk ho hd hr2 hm2 R1
  go_wp2
  have s0 : ∀ u : Value, World.cell? (World.setCell w2 ⟨w.heap.size, 0, none⟩ u) ⟨w.heap.size, 0, none⟩ = some u := fun u => (B2.out.set 0 u).cell (j := 0) rfl
  refine bodyPost_ret (v := .tuple #[.agg #[.slice Ag g.length cg], .slice Ac cl.length cc]) (by simp [results, Try.results8, go_sem, s0]; try rfl) rfl ?_
  have hS := Mod.set (F := fun b => b = w.heap.size) (Mod.rfl' (fun b => b = w.heap.size) w2) (p := ⟨w.heap.size, 0, none⟩) (.inl rfl) (.slice Ag g.length cg)
  have hz : w.heap.size < w1.heap.size := by omega
  have hGK : GOK w1.heap.size 0 Ag cg g hs w2 := ⟨K2.out.own, K2.out.lo, K2.out.hi, K2.out.nf⟩
  exact ⟨g, Ag, cg, hs, cl, Ac, cc, rfl, (GOK.mod hGK hS (fun b e => by omega)).mono (by omega), (O2.out.mod hS (fun b hb e => by have := (O2.out.lt hb).1; omega)).mono (by omega), hl2, E2.out.set (p := ⟨w.heap.size, 0, none⟩) (Nat.le_refl _) _⟩
end Go.Proofs.Ytkbihkggneaeeaa
