/- The reference's someGraph and graphOf: contracts. Conditions: bounds on the number of draws. -/
import Derived.Test.YtmelggoagbhieaaGreatDrawF
import Derived.Test.YtmelggoagbhieaaGreatDrawG
namespace Go.Proofs.YtmelggoagbhieaaGreat
open Go.RowKit

/-- an own graph that can be read, whatever the reader does -/
structure GOK (B R : Nat) (A : Option Addr) (c : Nat) (g : Sg.Graph) (hs : List (Option Addr × Nat)) (W : World) : Prop where
  own : OwnN W B A c g hs
  lo : 2 ≤ g.length
  hi : g.length ≤ 10
  nf : ∀ n ∈ g, n.f.length ≤ 30
theorem GOK.mod {B R c : Nat} {A : Option Addr} {g : Sg.Graph} {hs : List (Option Addr × Nat)} {F : Nat → Prop} {W W' : World} (h : GOK B R A c g hs W) (hm : Mod F W W') (hF : ∀ b, F b → b < B) : GOK B R A c g hs W' :=
  ⟨h.own.mod hm (fun b hb e => by have := (h.own.lt hb).1; have := hF b e; omega), h.lo, h.hi, h.nf⟩
theorem GOK.ext {B R c : Nat} {A : Option Addr} {g : Sg.Graph} {hs : List (Option Addr × Nat)} {W W' : World} (h : GOK B R A c g hs W) (e : Ext W W') : GOK B R A c g hs W' := h.mod (F := fun _ => False) (Mod.of e) (fun _ => False.elim)
theorem GOK.rd {B R c : Nat} {A : Option Addr} {g : Sg.Graph} {hs : List (Option Addr × Nat)} {W : World} (h : GOK B R A c g hs W) : RdN W A g := h.own.rdN (by have := h.hi; omega) (fun n hn => by have := h.nf n hn; omega)
theorem GOK.mono {B B' R c : Nat} {A : Option Addr} {g : Sg.Graph} {hs : List (Option Addr × Nat)} {W : World} (h : GOK B R A c g hs W) (hB : B' ≤ B) : GOK B' R A c g hs W := ⟨h.own.mono hB, h.lo, h.hi, h.nf⟩
def SGraphed (R m : Nat) (w : World) (e : Ending) (w' : World) : Prop := ∃ (g : Sg.Graph) (A : Option Addr) (c : Nat) (hs : List (Option Addr × Nat)), e = .returned (.agg #[.slice A g.length c]) ∧ GOK w.heap.size R A c g hs w' ∧ Rdr w' R (m + 1400) ∧ Mod (fun b => b = R) w w'

set_option maxRecDepth 100000 in
set_option maxHeartbeats 8000000 in
theorem s_someGraph (R m : Nat) (w : World) (h : Rdr w R m) (hm : m ≤ 700000) :
    Calls Tryz.prog 184 #[.pointer (some ⟨R, 0, none⟩)] w (SGraphed R m w) := by
  have hRl := h.lt
  have H0 := Lib.hid (h.ext (show Ext w (World.alloc w (.cells #[.slice none 0 0] 25)) from (Ext.rfl' w).al _))
  have M0 := Lib.hid (Mod.of (F := fun b => b = R) (show Ext w (World.alloc w (.cells #[.slice none 0 0] 25)) from (Ext.rfl' w).al _))
  have B0 := Lib.hid (Bx.new w #[.slice none 0 0] 25)
  clear h
  go_enter Tryz.func184, Tryz.ntmps184
  go_wp2_with fail
  refine (s_goodGraph R m _ H0.out (by omega)).mono ?_
  rintro e w1 ⟨g, A, c, hs, rfl, ho, hg2, hg10, hnf, hr1, hm1⟩
  have M1 := Lib.hid ((M0.out.tr' hm1).al (.cells #[.slice A g.length c] 25))
  have B1 := Lib.hid ((B0.out.mod hm1 (by omega)).al (.cells #[.slice A g.length c] 25))
  have K1 := Lib.hid (GOK.ext (R := R) ⟨ho.mono (B' := w.heap.size + 1) (by simp), hg2, hg10, hnf⟩ ((Ext.rfl' w1).al (.cells #[.slice A g.length c] 25)))
  have R1 := Lib.hid (hr1.ext ((Ext.rfl' w1).al (.cells #[.slice A g.length c] 25)))
  have hw1 := M0.out.tr' hm1 |>.size
  have hb1 := (B0.out.mod hm1 (by omega)).lt
  obtain ⟨b, rfl, hb⟩ := ho.out.at_ (by simp; omega)
  have hbg : b < w1.heap.size := (ho.out.lt (g := b) rfl).2
  have q1 : World.cell? (World.alloc w1 (.cells #[.slice (some ⟨b, 0, none⟩) g.length c] 25)) ⟨w1.heap.size, 0, none⟩ = some (.slice (some ⟨b, 0, none⟩) g.length c) := by simp [go_sem]
  have Q1 := Lib.hid q1
  clear ho hnf hr1 hm1 q1 M0 B0 H0 hb
  go_wp2_with fail
  refine (s_pick R (m + 1200) (g.length : Int) _ R1.out (by omega) (by omega) (by omega)).mono ?_
  rintro e w2 ⟨x, rfl, hx0, hx1, hr2, hm2⟩
  obtain ⟨k, rfl⟩ := Int.eq_ofNat_of_zero_le hx0
  have hk : k < g.length := by omega
  have M2 := Lib.hid (M1.out.tr' hm2)
  have B2 := Lib.hid (B1.out.mod hm2 (by omega))
  have K2 := Lib.hid (K1.out.mod hm2 (fun b e => by omega))
  have Q2 := Lib.hid (hm2.cellE Q1.out (by omega))
  have R2 := Lib.hid hr2
  clear hx0 hx1 hr2 hm2 M1 B1 K1 Q1 R1
  go_wp2_with fail
  refine (s_pick R (m + 1200 + 1) 24 _ R2.out (by omega) (by omega) (by omega)).mono ?_
  rintro e w3 ⟨x, rfl, hx0, hx1, hr3, hm3⟩
  have M3 := Lib.hid (M2.out.tr' hm3)
  have B3 := Lib.hid (B2.out.mod hm3 (by omega))
  have K3 := Lib.hid (K2.out.mod hm3 (fun b e => by omega))
  have q3 := hm3.cellE Q2.out (by omega)
  have R3 := Lib.hid hr3
  have b3 := blt q3
  clear hx0 hx1 hr3 hm3 M2 B2 K2 Q2 R2
  obtain ⟨n, hn⟩ : ∃ n, g[k]? = some n := ⟨_, List.getElem?_eq_getElem hk⟩
  have HN := Lib.hid hn
  clear hn
  by_cases h0 : x = 0
  · have z1 : (x == 0) = true := by simp [h0]
    clear h0
    go_upto_if 14 with fail
    go_wp2_with fail
    refine wp_region_held_drew (S := (fun W => W.cell? ⟨w1.heap.size, 0, none⟩ = some (.slice (some ⟨b, 0, none⟩) g.length c))) (by kernel_rfl) ?_ (fun hHeld => ?_)
    · exact ((Ext.rfl' _).dr).cellE q3
    refine wpAnyH_take (i := 0) (v := ?_) (by simp only [List.getElem?_toArray, List.getElem?_cons_zero]; rfl) (by kernel_rfl) (by kernel_rfl) (by kernel_rfl) (by exact fun _ _ _ h => h) (Or.inl ⟨by kernel_rfl, ?_⟩) (by assumption) ?_
    rotate_left
    · intro w hSw; (try dsimp only at hSw); go_simp; try with_reducible rfl
    try simp only [Act.put, List.setIfInBounds_toArray, List.set_cons_zero, List.set_cons_succ]
    refine wpAnyH_take (i := 1) (v := ?_) (by simp only [List.getElem?_toArray, List.getElem?_cons_succ, List.getElem?_cons_zero]; rfl) (by kernel_rfl) (by kernel_rfl) (by kernel_rfl) (by exact fun _ _ _ h => h) (Or.inl ⟨by kernel_rfl, ?_⟩) (by assumption) ?_
    rotate_left
    · intro w hSw; (try dsimp only at hSw); go_simp; try with_reducible rfl
    try simp only [Act.put, List.setIfInBounds_toArray, List.set_cons_zero, List.set_cons_succ]
    refine wpAnyH_take (i := 2) (v := ?_) (by simp only [List.getElem?_toArray, List.getElem?_cons_succ, List.getElem?_cons_zero]; rfl) (by kernel_rfl) (by kernel_rfl) (by kernel_rfl) (by exact fun _ _ _ h => h) (Or.inl ⟨by kernel_rfl, ?_⟩) (by assumption) ?_
    rotate_left
    · intro w hSw; (try dsimp only at hSw); go_simp; try with_reducible rfl
    try simp only [Act.put, List.setIfInBounds_toArray, List.set_cons_zero, List.set_cons_succ]
    refine wpAnyH_take (i := 3) (v := ?_) (by simp only [List.getElem?_toArray, List.getElem?_cons_succ, List.getElem?_cons_zero]; rfl) (by kernel_rfl) (by kernel_rfl) (by kernel_rfl) (by exact fun _ _ _ h => h) (Or.inl ⟨by kernel_rfl, ?_⟩) (by assumption) ?_
    rotate_left
    · intro w hSw; (try dsimp only at hSw); go_simp; try with_reducible rfl
    try simp only [Act.put, List.setIfInBounds_toArray, List.set_cons_zero, List.set_cons_succ]
    refine wpAnyH_ready (rs := [4]) (by kernel_rfl) (by simp) ?_
    refine AllReadyH.cons rfl (fun K hK => ?_) AllReadyH.nil
    go_simp
    refine hK.out _ _ ?_ (fun hHeld2 => ?_)
    · exact (((Ext.rfl' _).dr).al _).cellE q3
    clear hK K hHeld
    have hHeld := hHeld2
    clear hHeld2
    try simp only [Act.put, List.setIfInBounds_toArray, List.set_cons_zero, List.set_cons_succ]
    refine wpAnyH_ready (rs := [5]) (by kernel_rfl) (by simp) ?_
    refine AllReadyH.cons rfl (fun K hK => ?_) AllReadyH.nil
    go_simp
    have RL := (Own.new (World.drew w3) (B := 0) 3 1 #[.int .i64 (-1), .int .i64 3, .int .i64 0, .int .i64 2] 4 (Nat.zero_le _) (by unfold maxLen; omega) rfl).rd
    refine (s_one R (m + 1200 + 1 + 1) _ 4 [-1, 3, 0, 2] _ (R3.out.ext (((Ext.rfl' w3).dr).al (.cells #[.int .i64 (-1), .int .i64 3, .int .i64 0, .int .i64 2] 3))) RL (by simp) (by simp) (by intro y hy; simp [blk] at hy; have := R3.out.lt; omega) (by omega)).mono ?_
    rintro e w4 ⟨v, rfl, hv, hr4, hm4⟩
    have q4 := hm4.cellE ((((Ext.rfl' w3).dr).al (.cells #[.int .i64 (-1), .int .i64 3, .int .i64 0, .int .i64 2] 3)).cellE q3) (by omega)
    have b4 := blt q4
    have K4 := Lib.hid ((K3.out.ext (((Ext.rfl' w3).dr).al (.cells #[.int .i64 (-1), .int .i64 3, .int .i64 0, .int .i64 2] 3))).mod hm4 (fun b e => by omega))
    have B4 := Lib.hid ((B3.out.ext (((Ext.rfl' w3).dr).al (.cells #[.int .i64 (-1), .int .i64 3, .int .i64 0, .int .i64 2] 3))).mod hm4 (by omega))
    have R4 := Lib.hid hr4
    have M4 := Lib.hid ((M3.out.tr' (Mod.of (((Ext.rfl' w3).dr).al (.cells #[.int .i64 (-1), .int .i64 3, .int .i64 0, .int .i64 2] 3)))).tr' hm4)
    have hbB := (K4.out.own.out.lt (g := b) rfl).1
    have hb4 := (K4.out.own.out.lt (g := b) rfl).2
    have hS := Lib.hid (Mod.set (F := fun y => y = b) (Mod.rfl' (fun y => y = b) w4) (p := ⟨b, k * 2, none⟩) (.inl rfl) (.int .i64 v))
    have B5 := Lib.hid (B4.out.mod hS.out (by omega))
    have R5 := Lib.hid (R4.out.mod hS.out (fun y e => by omega))
    have M5 := Lib.hid (M4.out.set (p := ⟨b, k * 2, none⟩) (.inr (by show w.heap.size ≤ b; omega)) (.int .i64 v))
    have q5 := hS.out.cellE q4 (by omega)
    have hF4 := K4.out.own.out.free (k * 2)
    obtain ⟨b0, o0, Ap, cp, hA0, hck, hcf, _, _⟩ := K4.out.rd.2 k n HN.out
    simp only [Option.some.injEq, Addr.mk.injEq, and_true] at hA0
    obtain ⟨rfl, rfl⟩ := hA0
    simp only [Nat.zero_add] at hck hcf
    have bck := blt hck
    have K5 := Lib.hid (show GOK (w.heap.size + 1) R (some ⟨b, 0, none⟩) c (g.set k ⟨v, n.f⟩) hs (World.setCell w4 ⟨b, k * 2, none⟩ (.int .i64 v)) from ⟨OwnN.setKind K4.out.own HN.out v, by simpa using K4.out.lo, by simpa using K4.out.hi, fun y hy => by rcases List.mem_or_eq_of_mem_set hy with hy | rfl; exact K4.out.nf y hy; exact K4.out.nf n (List.mem_of_getElem? HN.out)⟩)
    clear hr4 hm4 hv RL
    try go_wp2_with fail
    refine hK.out _ _ ?_ (fun hHeld2 => ?_)
    · exact q4
    clear hK K hHeld
    have hHeld := hHeld2
    clear hHeld2
    try simp only [Act.put, List.setIfInBounds_toArray, List.set_cons_zero, List.set_cons_succ]
    refine wpAnyH_take (i := 6) (v := ?_) (by simp only [List.getElem?_toArray, List.getElem?_cons_succ, List.getElem?_cons_zero]; rfl) (by kernel_rfl) (by kernel_rfl) (by kernel_rfl) (by exact fun _ _ _ h => h) (Or.inl ⟨by kernel_rfl, ?_⟩) (by assumption) ?_
    rotate_left
    · intro w hSw; (try dsimp only at hSw); go_simp; try with_reducible rfl
    try simp only [Act.put, List.setIfInBounds_toArray, List.set_cons_zero, List.set_cons_succ]
    refine wpAnyH_take (i := 7) (v := ?_) (by simp only [List.getElem?_toArray, List.getElem?_cons_succ, List.getElem?_cons_zero]; rfl) (by kernel_rfl) (by kernel_rfl) (by kernel_rfl) (by exact fun _ _ _ h => h) (Or.inl ⟨by kernel_rfl, ?_⟩) (by assumption) ?_
    rotate_left
    · intro w hSw; (try dsimp only at hSw); go_simp; try with_reducible rfl
    try simp only [Act.put, List.setIfInBounds_toArray, List.set_cons_zero, List.set_cons_succ]
    refine wpAnyH_ready (rs := [8]) (by kernel_rfl) (by simp) ?_
    refine AllReadyH.cons rfl (fun K hK => ?_) AllReadyH.nil
    go_simp
    refine hK.out _ _ ?_ (fun hHeld2 => ?_)
    · exact q5
    clear hK K hHeld
    have hHeld := hHeld2
    clear hHeld2
    try simp only [Act.put]
    refine wpAnyH_done (by kernel_rfl) ?_ _
    generalize World.setCell w4 ⟨b, k * 2, none⟩ (Value.int IntKind.i64 v) = w5 at *
    have f0 := B5.out.free 0
    have qr := B5.out.cell (j := 0) rfl
    have bl := B5.out.lt
    have bq := blt q5
    go_wp2
    have s0 : ∀ u : Value, World.cell? (World.setCell w5 ⟨w.heap.size, 0, none⟩ u) ⟨w.heap.size, 0, none⟩ = some u := fun u => (B5.out.set 0 u).cell (j := 0) rfl
    refine bodyPost_ret (v := .agg #[.slice (some ⟨b, 0, none⟩) (g.set k ⟨v, n.f⟩).length c]) (by simp [results, Tryz.results184, go_sem, s0]; try rfl) rfl ?_
    refine ⟨_, _, _, _, rfl, (GOK.mod (F := fun b => b = w.heap.size) K5.out (Mod.set (F := fun b => b = w.heap.size) (Mod.rfl' (fun b => b = w.heap.size) _) (p := ⟨w.heap.size, 0, none⟩) (.inl rfl) _) (fun b e => by omega)).mono (by omega), ?_, ?_⟩
    · exact (R5.out.mod (F := fun b => b = w.heap.size) (Mod.set (F := fun b => b = w.heap.size) (Mod.rfl' (fun b => b = w.heap.size) _) (p := ⟨w.heap.size, 0, none⟩) (.inl rfl) _) (fun b e => by omega)).more (by omega)
    · exact M5.out.set (p := ⟨w.heap.size, 0, none⟩) (.inr (Nat.le_refl _)) _
  · have z1 : (x == 0) = false := by rw [beq_eq_false_iff_ne]; exact h0
    clear h0
    by_cases h1 : x = 1
    · have z2 : (x == 1) = true := by simp [h1]
      clear h1
      have i1 : IntKind.i64.wrap ((g.length : Int) - 1) = (g.length : Int) - 1 := IntWalk.i64_in _ (by omega)
      go_upto_if 24 with fail
      go_wp2_with fail
      refine wp_region_held_drew (S := (fun W => W.cell? ⟨w1.heap.size, 0, none⟩ = some (.slice (some ⟨b, 0, none⟩) g.length c))) (by kernel_rfl) ?_ (fun hHeld => ?_)
      · exact ((Ext.rfl' _).dr).cellE q3
      refine wpAnyH_take (i := 0) (v := ?_) (by simp only [List.getElem?_toArray, List.getElem?_cons_zero]; rfl) (by kernel_rfl) (by kernel_rfl) (by kernel_rfl) (by exact fun _ _ _ h => h) (Or.inl ⟨by kernel_rfl, ?_⟩) (by assumption) ?_
      rotate_left
      · intro w hSw; (try dsimp only at hSw); go_simp; try with_reducible rfl
      try simp only [Act.put, List.setIfInBounds_toArray, List.set_cons_zero, List.set_cons_succ]
      refine wpAnyH_take (i := 1) (v := ?_) (by simp only [List.getElem?_toArray, List.getElem?_cons_succ, List.getElem?_cons_zero]; rfl) (by kernel_rfl) (by kernel_rfl) (by kernel_rfl) (by exact fun _ _ _ h => h) (Or.inl ⟨by kernel_rfl, ?_⟩) (by assumption) ?_
      rotate_left
      · intro w hSw; (try dsimp only at hSw); go_simp; try with_reducible rfl
      try simp only [Act.put, List.setIfInBounds_toArray, List.set_cons_zero, List.set_cons_succ]
      refine wpAnyH_take (i := 2) (v := ?_) (by simp only [List.getElem?_toArray, List.getElem?_cons_succ, List.getElem?_cons_zero]; rfl) (by kernel_rfl) (by kernel_rfl) (by kernel_rfl) (by exact fun _ _ _ h => h) (Or.inl ⟨by kernel_rfl, ?_⟩) (by assumption) ?_
      rotate_left
      · intro w hSw; (try dsimp only at hSw); go_simp; try with_reducible rfl
      try simp only [Act.put, List.setIfInBounds_toArray, List.set_cons_zero, List.set_cons_succ]
      refine wpAnyH_take (i := 3) (v := ?_) (by simp only [List.getElem?_toArray, List.getElem?_cons_succ, List.getElem?_cons_zero]; rfl) (by kernel_rfl) (by kernel_rfl) (by kernel_rfl) (by exact fun _ _ _ h => h) (Or.inl ⟨by kernel_rfl, ?_⟩) (by assumption) ?_
      rotate_left
      · intro w hSw; (try dsimp only at hSw); go_simp; try with_reducible rfl
      try simp only [Act.put, List.setIfInBounds_toArray, List.set_cons_zero, List.set_cons_succ]
      refine wpAnyH_take (i := 4) (v := ?_) (by simp only [List.getElem?_toArray, List.getElem?_cons_succ, List.getElem?_cons_zero]; rfl) (by kernel_rfl) (by kernel_rfl) (by kernel_rfl) (by exact fun _ _ _ h => h) (Or.inl ⟨by kernel_rfl, ?_⟩) (by assumption) ?_
      rotate_left
      · intro w hSw; (try dsimp only at hSw); go_simp; try with_reducible rfl
      try simp only [Act.put, List.setIfInBounds_toArray, List.set_cons_zero, List.set_cons_succ]
      refine wpAnyH_take (i := 5) (v := ?_) (by simp only [List.getElem?_toArray, List.getElem?_cons_succ, List.getElem?_cons_zero]; rfl) (by kernel_rfl) (by kernel_rfl) (by kernel_rfl) (by exact fun _ _ _ h => h) (Or.inl ⟨by kernel_rfl, ?_⟩) (by assumption) ?_
      rotate_left
      · intro w hSw; (try dsimp only at hSw); go_simp; try with_reducible rfl
      try simp only [Act.put, List.setIfInBounds_toArray, List.set_cons_zero, List.set_cons_succ]
      refine wpAnyH_take (i := 6) (v := ?_) (by simp only [List.getElem?_toArray, List.getElem?_cons_succ, List.getElem?_cons_zero]; rfl) (by kernel_rfl) (by kernel_rfl) (by kernel_rfl) (by exact fun _ _ _ h => h) (Or.inl ⟨by kernel_rfl, ?_⟩) (by assumption) ?_
      rotate_left
      · intro w hSw; (try dsimp only at hSw); go_simp; try with_reducible rfl
      try simp only [Act.put, List.setIfInBounds_toArray, List.set_cons_zero, List.set_cons_succ]
      refine wpAnyH_take (i := 7) (v := ?_) (by simp only [List.getElem?_toArray, List.getElem?_cons_succ, List.getElem?_cons_zero]; rfl) (by kernel_rfl) (by kernel_rfl) (by kernel_rfl) (by exact fun _ _ _ h => h) (Or.inl ⟨by kernel_rfl, ?_⟩) (by assumption) ?_
      rotate_left
      · intro w hSw; (try dsimp only at hSw); go_simp; try with_reducible rfl
      try simp only [Act.put, List.setIfInBounds_toArray, List.set_cons_zero, List.set_cons_succ]
      refine wpAnyH_take (i := 8) (v := ?_) (by simp only [List.getElem?_toArray, List.getElem?_cons_succ, List.getElem?_cons_zero]; rfl) (by kernel_rfl) (by kernel_rfl) (by kernel_rfl) (by exact fun _ _ _ h => h) (Or.inl ⟨by kernel_rfl, ?_⟩) (by assumption) ?_
      rotate_left
      · intro w hSw; (try dsimp only at hSw); go_simp; try with_reducible rfl
      try simp only [Act.put, List.setIfInBounds_toArray, List.set_cons_zero, List.set_cons_succ]
      refine wpAnyH_ready (rs := [9]) (by kernel_rfl) (by simp) ?_
      refine AllReadyH.cons rfl (fun K hK => ?_) AllReadyH.nil
      go_simp
      refine hK.out _ _ ?_ (fun hHeld2 => ?_)
      · exact (((Ext.rfl' _).dr).al _).cellE q3
      clear hK K hHeld
      have hHeld := hHeld2
      clear hHeld2
      try simp only [Act.put, List.setIfInBounds_toArray, List.set_cons_zero, List.set_cons_succ]
      refine wpAnyH_ready (rs := [10]) (by kernel_rfl) (by simp) ?_
      refine AllReadyH.cons rfl (fun K hK => ?_) AllReadyH.nil
      go_simp
      have RL := (Own.new (World.drew w3) (B := 0) 3 1 #[.int .i64 (k : Int), .int .i64 ((g.length : Int) - 1)] 2 (Nat.zero_le _) (by unfold maxLen; omega) rfl).rd
      refine (s_goodFormula R (m + 1200 + 1 + 1) _ 2 [(k : Int), (g.length : Int) - 1] _ (R3.out.ext (((Ext.rfl' w3).dr).al (.cells #[.int .i64 (k : Int), .int .i64 ((g.length : Int) - 1)] 3))) RL (by simp) (by intro y hy; simp [blk] at hy; have := R3.out.lt; omega) (by omega)).mono ?_
      rintro e w4 ⟨f, Af, cf, rfl, hof, hf1, hf30, hr4, hm4⟩
      have q4 := hm4.cellE ((((Ext.rfl' w3).dr).al (.cells #[.int .i64 (k : Int), .int .i64 ((g.length : Int) - 1)] 3)).cellE q3) (by omega)
      have b4 := blt q4
      have K4 := Lib.hid ((K3.out.ext (((Ext.rfl' w3).dr).al (.cells #[.int .i64 (k : Int), .int .i64 ((g.length : Int) - 1)] 3))).mod hm4 (fun b e => by omega))
      have B4 := Lib.hid ((B3.out.ext (((Ext.rfl' w3).dr).al (.cells #[.int .i64 (k : Int), .int .i64 ((g.length : Int) - 1)] 3))).mod hm4 (by omega))
      have R4 := Lib.hid hr4
      have M4 := Lib.hid ((M3.out.tr' (Mod.of (((Ext.rfl' w3).dr).al (.cells #[.int .i64 (k : Int), .int .i64 ((g.length : Int) - 1)] 3)))).tr' hm4)
      have hbB := (K4.out.own.out.lt (g := b) rfl).1
      have hb4 := (K4.out.own.out.lt (g := b) rfl).2
      have hS := Lib.hid (Mod.set (F := fun y => y = b) (Mod.rfl' (fun y => y = b) w4) (p := ⟨b, k * 2 + 1, none⟩) (.inl rfl) (.slice Af f.length cf))
      have B5 := Lib.hid (B4.out.mod hS.out (by omega))
      have R5 := Lib.hid (R4.out.mod hS.out (fun y e => by omega))
      have M5 := Lib.hid (M4.out.set (p := ⟨b, k * 2 + 1, none⟩) (.inr (by show w.heap.size ≤ b; omega)) (.slice Af f.length cf))
      have q5 := hS.out.cellE q4 (by omega)
      have hF4 := K4.out.own.out.free (k * 2 + 1)
      obtain ⟨b0, o0, Ap, cp, hA0, hck, hcf, _, _⟩ := K4.out.rd.2 k n HN.out
      simp only [Option.some.injEq, Addr.mk.injEq, and_true] at hA0
      obtain ⟨rfl, rfl⟩ := hA0
      simp only [Nat.zero_add] at hck hcf
      have bck := blt hck
      have K5 := Lib.hid (show GOK (w.heap.size + 1) R (some ⟨b, 0, none⟩) c (g.set k ⟨n.kind, f⟩) (hs.set k (Af, cf)) (World.setCell w4 ⟨b, k * 2 + 1, none⟩ (.slice Af f.length cf)) from ⟨OwnN.setForm K4.out.own (S := w3.heap.size + 1) (fun y hy => by have := (K3.out.own.lt hy).2; omega) (by omega) HN.out (hof.mono (by simp)), by simpa using K4.out.lo, by simpa using K4.out.hi, fun y hy => by rcases List.mem_or_eq_of_mem_set hy with hy | rfl; exact K4.out.nf y hy; exact hf30⟩)
      clear hr4 hm4 hof RL
      try go_wp2_with fail
      refine hK.out _ _ ?_ (fun hHeld2 => ?_)
      · exact q4
      clear hK K hHeld
      have hHeld := hHeld2
      clear hHeld2
      try simp only [Act.put, List.setIfInBounds_toArray, List.set_cons_zero, List.set_cons_succ]
      refine wpAnyH_take (i := 11) (v := ?_) (by simp only [List.getElem?_toArray, List.getElem?_cons_succ, List.getElem?_cons_zero]; rfl) (by kernel_rfl) (by kernel_rfl) (by kernel_rfl) (by exact fun _ _ _ h => h) (Or.inl ⟨by kernel_rfl, ?_⟩) (by assumption) ?_
      rotate_left
      · intro w hSw; (try dsimp only at hSw); go_simp; try with_reducible rfl
      try simp only [Act.put, List.setIfInBounds_toArray, List.set_cons_zero, List.set_cons_succ]
      refine wpAnyH_take (i := 12) (v := ?_) (by simp only [List.getElem?_toArray, List.getElem?_cons_succ, List.getElem?_cons_zero]; rfl) (by kernel_rfl) (by kernel_rfl) (by kernel_rfl) (by exact fun _ _ _ h => h) (Or.inl ⟨by kernel_rfl, ?_⟩) (by assumption) ?_
      rotate_left
      · intro w hSw; (try dsimp only at hSw); go_simp; try with_reducible rfl
      try simp only [Act.put, List.setIfInBounds_toArray, List.set_cons_zero, List.set_cons_succ]
      refine wpAnyH_ready (rs := [13]) (by kernel_rfl) (by simp) ?_
      refine AllReadyH.cons rfl (fun K hK => ?_) AllReadyH.nil
      go_simp
      refine hK.out _ _ ?_ (fun hHeld2 => ?_)
      · exact q5
      clear hK K hHeld
      have hHeld := hHeld2
      clear hHeld2
      try simp only [Act.put]
      refine wpAnyH_done (by kernel_rfl) ?_ _
      generalize World.setCell w4 ⟨b, k * 2 + 1, none⟩ (Value.slice Af f.length cf) = w5 at *
      have f0 := B5.out.free 0
      have qr := B5.out.cell (j := 0) rfl
      have bl := B5.out.lt
      have bq := blt q5
      go_wp2
      have s0 : ∀ u : Value, World.cell? (World.setCell w5 ⟨w.heap.size, 0, none⟩ u) ⟨w.heap.size, 0, none⟩ = some u := fun u => (B5.out.set 0 u).cell (j := 0) rfl
      refine bodyPost_ret (v := .agg #[.slice (some ⟨b, 0, none⟩) (g.set k ⟨n.kind, f⟩).length c]) (by simp [results, Tryz.results184, go_sem, s0]; try rfl) rfl ?_
      refine ⟨_, _, _, _, rfl, (GOK.mod (F := fun b => b = w.heap.size) K5.out (Mod.set (F := fun b => b = w.heap.size) (Mod.rfl' (fun b => b = w.heap.size) _) (p := ⟨w.heap.size, 0, none⟩) (.inl rfl) _) (fun b e => by omega)).mono (by omega), ?_, ?_⟩
      · exact (R5.out.mod (F := fun b => b = w.heap.size) (Mod.set (F := fun b => b = w.heap.size) (Mod.rfl' (fun b => b = w.heap.size) _) (p := ⟨w.heap.size, 0, none⟩) (.inl rfl) _) (fun b e => by omega)).more (by omega)
      · exact M5.out.set (p := ⟨w.heap.size, 0, none⟩) (.inr (Nat.le_refl _)) _
    · have z2 : (x == 1) = false := by rw [beq_eq_false_iff_ne]; exact h1
      clear h1
      have f0 := B3.out.free 0
      have qr := B3.out.cell (j := 0) rfl
      have bl := B3.out.lt
      have bq := blt q3
      go_wp2
      have s0 : ∀ u : Value, World.cell? (World.setCell w3 ⟨w.heap.size, 0, none⟩ u) ⟨w.heap.size, 0, none⟩ = some u := fun u => (B3.out.set 0 u).cell (j := 0) rfl
      refine bodyPost_ret (v := .agg #[.slice (some ⟨b, 0, none⟩) g.length c]) (by simp [results, Tryz.results184, go_sem, s0]; try rfl) rfl ?_
      refine ⟨_, _, _, _, rfl, (GOK.mod (F := fun b => b = w.heap.size) K3.out (Mod.set (F := fun b => b = w.heap.size) (Mod.rfl' (fun b => b = w.heap.size) _) (p := ⟨w.heap.size, 0, none⟩) (.inl rfl) _) (fun b e => by omega)).mono (by omega), ?_, ?_⟩
      · exact (R3.out.mod (F := fun b => b = w.heap.size) (Mod.set (F := fun b => b = w.heap.size) (Mod.rfl' (fun b => b = w.heap.size) _) (p := ⟨w.heap.size, 0, none⟩) (.inl rfl) _) (fun b e => by omega)).more (by omega)
      · exact M3.out.set (p := ⟨w.heap.size, 0, none⟩) (.inr (Nat.le_refl _)) _

def GraphCells (R m : Nat) (w : World) (e : Ending) (w' : World) : Prop := ∃ (g : Sg.Graph) (A : Option Addr) (c : Nat) (hs : List (Option Addr × Nat)) (l : List Int) (A2 : Option Addr) (c2 : Nat), e = .returned (.tuple #[.agg #[.slice A g.length c], .slice A2 l.length c2]) ∧
  GOK w.heap.size R A c g hs w' ∧ Own w' w.heap.size 3 1 A2 l.length c2 (ints l) ∧ 1 ≤ l.length ∧ l.length ≤ 11 ∧ (∀ b, fpD A hs b → blk A2 ≠ some b) ∧ Rdr w' R (m + 1500) ∧ Mod (fun b => b = R) w w'
set_option maxRecDepth 100000 in
set_option maxHeartbeats 8000000 in
theorem s_graphOf (R m : Nat) (w : World) (h : Rdr w R m) (hm : m ≤ 600000) :
    Calls Tryz.prog 143 #[.pointer (some ⟨R, 0, none⟩)] w (GraphCells R m w) := by
  have hRl := h.lt
  have H0 := Lib.hid (h.ext (show Ext w (World.alloc w (.cells #[.slice none 0 0] 25)) from (Ext.rfl' w).al _))
  have M0 := Lib.hid (Mod.of (F := fun b => b = R) (show Ext w (World.alloc w (.cells #[.slice none 0 0] 25)) from (Ext.rfl' w).al _))
  have B0 := Lib.hid (Bx.new w #[.slice none 0 0] 25)
  clear h
  go_enter Tryz.func143, Tryz.ntmps143
  go_wp2_with fail
  refine (s_someGraph R m _ H0.out (by omega)).mono ?_
  rintro e w1 ⟨g, A, c, hs, rfl, hk1, hr1, hm1⟩
  have M1 := Lib.hid ((M0.out.tr' hm1).al (.cells #[.slice A g.length c] 25))
  have B1 := Lib.hid ((B0.out.mod hm1 (by omega)).al (.cells #[.slice A g.length c] 25))
  have K1 := Lib.hid ((hk1.mono (B' := w.heap.size + 1) (by simp)).ext ((Ext.rfl' w1).al (.cells #[.slice A g.length c] 25)))
  have R1 := Lib.hid (hr1.ext ((Ext.rfl' w1).al (.cells #[.slice A g.length c] 25)))
  have hlo := hk1.lo
  have hhi := hk1.hi
  have hb1 := (B0.out.mod hm1 (by omega)).lt
  have q1 : World.cell? (World.alloc w1 (.cells #[.slice A g.length c] 25)) ⟨w1.heap.size, 0, none⟩ = some (.slice A g.length c) := by simp [go_sem]
  have bq := blt q1
  clear hk1 hr1 hm1 M0 B0 H0
  go_upto_region 2 with fail
  refine wp_region_held_drew (S := (fun W => W.cell? ⟨w1.heap.size, 0, none⟩ = some (.slice A g.length c))) (by kernel_rfl) ?_ (fun hHeld => ?_)
  · exact ((Ext.rfl' _).dr).cellE q1
  refine wpAnyH_take (i := 0) (v := ?_) (by simp only [List.getElem?_toArray, List.getElem?_cons_zero]; rfl) (by kernel_rfl) (by kernel_rfl) (by kernel_rfl) (by exact fun _ _ _ h => h) (Or.inl ⟨by kernel_rfl, ?_⟩) (by assumption) ?_
  rotate_left
  · intro w hSw; (try dsimp only at hSw); go_simp; try with_reducible rfl
  try simp only [Act.put, List.setIfInBounds_toArray, List.set_cons_zero, List.set_cons_succ]
  refine wpAnyH_take (i := 1) (v := ?_) (by simp only [List.getElem?_toArray, List.getElem?_cons_succ, List.getElem?_cons_zero]; rfl) (by kernel_rfl) (by kernel_rfl) (by kernel_rfl) (by exact fun _ _ _ h => h) (Or.inl ⟨by kernel_rfl, ?_⟩) (by assumption) ?_
  rotate_left
  · intro w hSw; (try dsimp only at hSw); go_simp; try with_reducible rfl
  try simp only [Act.put, List.setIfInBounds_toArray, List.set_cons_zero, List.set_cons_succ]
  refine wpAnyH_take (i := 2) (v := ?_) (by simp only [List.getElem?_toArray, List.getElem?_cons_succ, List.getElem?_cons_zero]; rfl) (by kernel_rfl) (by kernel_rfl) (by kernel_rfl) (by exact fun _ _ _ h => h) (Or.inl ⟨by kernel_rfl, ?_⟩) (by assumption) ?_
  rotate_left
  · intro w hSw; (try dsimp only at hSw); go_simp; try with_reducible rfl
  try simp only [Act.put, List.setIfInBounds_toArray, List.set_cons_zero, List.set_cons_succ]
  refine wpAnyH_ready (rs := [3]) (by kernel_rfl) (by simp) ?_
  refine AllReadyH.cons rfl (fun K hK => ?_) AllReadyH.nil
  go_simp
  refine (s_someCells R (m + 1400) A c g _ (R1.out.ext ((Ext.rfl' _).dr)) (fun W hW => ((K1.out.ext ((Ext.rfl' _).dr)).mod hW (fun b e => by omega)).rd) (by omega) (by omega) (by omega)).mono ?_
  rintro e w3 ⟨l, A2, c2, rfl, hol, hl1, hl2, hr3, hm3⟩
  have K3 := Lib.hid ((K1.out.ext ((Ext.rfl' _).dr)).mod hm3 (fun b e => by omega))
  have B3 := Lib.hid ((B1.out.ext ((Ext.rfl' _).dr)).mod hm3 (by omega))
  have R3 := Lib.hid hr3
  have M3 := Lib.hid (M1.out.dr.tr' hm3)
  have q3 := hm3.cellE (((Ext.rfl' _).dr).cellE q1) (by omega)
  have Ol := Lib.hid hol
  have HDJ := Lib.hid (show ∀ y, fpD A hs y → blk A2 ≠ some y from fun y hy e => by have h1 := (K1.out.own.lt hy).2; have h2 := (hol.lt e).1; simp at h1 h2; omega)
  have f3 := B3.out.free 0
  have qr := B3.out.cell (j := 0) rfl
  have b3 := B3.out.lt
  clear hol hr3 hm3
  try go_wp2_with fail
  refine hK.out _ _ ?_ (fun hHeld2 => ?_)
  · exact q3
  clear hK K hHeld
  have hHeld := hHeld2
  clear hHeld2
  try simp only [Act.put, List.setIfInBounds_toArray, List.set_cons_zero, List.set_cons_succ]
  refine wpAnyH_ready (rs := [4]) (by kernel_rfl) (by simp) ?_
  refine AllReadyH.cons rfl (fun K hK => ?_) AllReadyH.nil
  go_simp
  refine hK.out _ _ ?_ (fun hHeld2 => ?_)
  · exact (World.cell?_setCell_other _ _ _ _ (by intro e; injection e; omega)).trans q3
  clear hK K hHeld
  have hHeld := hHeld2
  clear hHeld2
  try simp only [Act.put]
  refine wpAnyH_take (i := 5) (v := ?_) (by simp only [List.getElem?_toArray, List.getElem?_cons_succ, List.getElem?_cons_zero]; rfl) (by kernel_rfl) (by kernel_rfl) (by kernel_rfl) (by exact fun _ _ _ h => h) (Or.inl ⟨by kernel_rfl, ?_⟩) (by assumption) ?_
  rotate_left
  · intro w hSw; (try dsimp only at hSw); go_simp; try with_reducible rfl
  try simp only [Act.put, List.setIfInBounds_toArray, List.set_cons_zero, List.set_cons_succ]
  refine wpAnyH_done (by kernel_rfl) ?_ _
  go_wp2
  have s0 : ∀ u : Value, World.cell? (World.setCell w3 ⟨w.heap.size, 0, none⟩ u) ⟨w.heap.size, 0, none⟩ = some u := fun u => (B3.out.set 0 u).cell (j := 0) rfl
  refine bodyPost_ret (v := .tuple #[.agg #[.slice A g.length c], .slice A2 l.length c2]) (by simp [results, Tryz.results143, go_sem, s0]; try rfl) rfl ?_
  have hS := Mod.set (F := fun b => b = w.heap.size) (Mod.rfl' (fun b => b = w.heap.size) w3) (p := ⟨w.heap.size, 0, none⟩) (.inl rfl) (.slice A g.length c)
  refine ⟨g, A, c, hs, l, A2, c2, rfl, (GOK.mod K3.out hS (fun b e => by omega)).mono (by omega), (Ol.out.mod hS (fun b hb e => by have := (Ol.out.lt hb).1; simp at this; omega)).mono (by simp; omega), hl1, hl2, HDJ.out, ?_, ?_⟩
  · exact (R3.out.mod hS (fun b e => by omega)).more (by omega)
  · exact M3.out.set (p := ⟨w.heap.size, 0, none⟩) (.inr (Nat.le_refl _)) _
end Go.Proofs.YtmelggoagbhieaaGreat
