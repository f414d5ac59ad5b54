/- The draw of a formula that may be invalid: its contract. Conditions: bounds on the number of draws. -/
import Derived.Test.YtdnlpklmihoapaaDoorTy
import Derived.Test.YtdnlpklmihoapaaDoorDrawD
import Derived.Test.YtdnlpklmihoapaaDoorDrawN
import Derived.Test.YtdnlpklmihoapaaDoorCore
import Derived.Test.YtdnlpklmihoapaaDoorSepAll
import Derived.Test.YtdnlpklmihoapaaDoorReg
namespace Go.Proofs.YtdnlpklmihoapaaDoor
open Go.RowKit
theorem parts_st (f : List Sg.Part) (k j : Nat) (x : Int) (hk : k < f.length) (hj : j < 5) : ∃ f' : List Sg.Part, f'.length = f.length ∧ parts f' = (parts f).set (k * 5 + j) (.int .i64 x) := by
 induction f generalizing k with
 | nil => simp at hk
 | cons p r ih =>
  cases k with
  | zero =>
   have e : parts (p :: r) = pcs p ++ parts r := by simp [parts]
   have hl : (pcs p).length = 5 := rfl
   have : j = 0 ∨ j = 1 ∨ j = 2 ∨ j = 3 ∨ j = 4 := by omega
   rcases this with rfl | rfl | rfl | rfl | rfl
   ·exact ⟨⟨x, p.a, p.b, p.c, p.n⟩ :: r, by simp, by rw [e]; simp [parts, pcs]⟩
   ·exact ⟨⟨p.kind, x, p.b, p.c, p.n⟩ :: r, by simp, by rw [e]; simp [parts, pcs]⟩
   ·exact ⟨⟨p.kind, p.a, x, p.c, p.n⟩ :: r, by simp, by rw [e]; simp [parts, pcs]⟩
   ·exact ⟨⟨p.kind, p.a, p.b, x, p.n⟩ :: r, by simp, by rw [e]; simp [parts, pcs]⟩
   ·exact ⟨⟨p.kind, p.a, p.b, p.c, x⟩ :: r, by simp, by rw [e]; simp [parts, pcs]⟩
  | succ k =>
   obtain ⟨f', h1, h2⟩ := ih k (by simpa using hk)
   refine ⟨p :: f', by simp [h1], ?_⟩
   have e : parts (p :: r) = pcs p ++ parts r := by simp [parts]
   have e' : parts (p :: f') = pcs p ++ parts f' := by simp [parts]
   have hl : (pcs p).length = 5 := rfl
   rw [e, e', h2, List.set_append_right _ _ (by rw [hl]; omega), hl]
   congr 2
   omega
theorem Sep.addM {B : Nat} {ts : List (Th B)} {W W' : World} {F : Nat → Prop} (h : Sep ts W) (m : Mod F W W') (hF : ∀ b, F b → b < B) (t : Th B) (ht : t.ok W') (hn : ∀ b, t.fp b → W.heap.size ≤ b) : Sep (t :: ts) W' :=
 ⟨ht, fun _ hs b hb hb' => by have := hn b hb; have := (h.lt hs hb').2; omega, h.mod m hF⟩
def SFormed (R m : Nat) (w : World) (e : Ending) (w' : World) : Prop := ∃ (f : List Sg.Part) (A : Option Addr) (c : Nat), e = .returned (.agg #[.slice A f.length c]) ∧ Own w' w.heap.size 73 5 A f.length c (parts f) ∧ 1 ≤ f.length ∧ f.length ≤ 31 ∧ Rdr w' R m ∧ Mod (fun b => b = R) w w'
set_option maxRecDepth 100000 in
set_option maxHeartbeats 8000000 in
theorem s_someFormula (R m : Nat) (w : World) (h : Rdr w R m) (hm : m ≤ 700000) :
  Calls Tryd.prog 39 #[.pointer (some ⟨R, 0, none⟩)] w (SFormed R (m + 110) w) := by
 have hRl := h.lt
 have S0 := Sep.add (B := w.heap.size) (ts := []) (W := w) trivial ((Ext.rfl' _).al (.cells #[.slice none 0 0] 39)) (Th.box w.heap.size w.heap.size [.slice none 0 0]) ⟨Bx.new w #[.slice none 0 0] 39, Nat.le_refl _⟩ (fun b e => by have e2 : b = w.heap.size := e; omega)
 have X0 := (((Ext.rfl' w).al (.cells #[.slice none 0 0] 39)).al (.cells #[.int .i64 0, .int .i64 1, .int .i64 2, .int .i64 3] 3))
 have S1 := lh (Sep.ext S0 ((Ext.rfl' _).al (.cells #[.int .i64 0, .int .i64 1, .int .i64 2, .int .i64 3] 3)))
 have M0 := lh (Mod.of (F := fun b => b = R) X0)
 have HGF := lh (s_goodFormula R m (some ⟨w.heap.size + 1, 0, none⟩) 4 [0, 1, 2, 3] _ (h.ext X0) (by have := (Own.new (World.alloc w (.cells #[.slice none 0 0] 39)) (B := 0) 3 1 #[.int .i64 0, .int .i64 1, .int .i64 2, .int .i64 3] 4 (Nat.zero_le _) (by unfold maxLen; omega) rfl).rd; simpa [go_sem, ints] using this) (by simp) (by intro y hy; simp [blk] at hy; omega) (by omega))
 have hbase : w.heap.size ≤ (World.alloc (World.alloc w (.cells #[.slice none 0 0] 39)) (.cells #[.int .i64 0, .int .i64 1, .int .i64 2, .int .i64 3] 3)).heap.size := by simp; omega
 clear h X0 S0
 go_enter Tryd.func39, Tryd.ntmps39
 go_wp2_with fail
 refine HGF.out.mono ?_
 rintro e w2 ⟨f, A, c, rfl, ho2, hf1, hf2, hr2, hm2⟩
 obtain ⟨ga, rfl, hga⟩ := ho2.at_ (by omega)
 have S2 := lh (Sep.addM S1.out hm2 (fun b e => by omega) (Th.own w.heap.size 73 5 (some ⟨ga, 0, none⟩) f.length c (parts f)) (ho2.mono hbase) (fun b hb => (ho2.lt hb).1))
 have M2 := lh ((M0.out.tr' hm2).al (.cells #[.slice (some ⟨ga, 0, none⟩) f.length c] 39))
 have hw2 := (M0.out.tr' hm2).size
 have S3 := lh (Sep.add S2.out ((Ext.rfl' w2).al (.cells #[.slice (some ⟨ga, 0, none⟩) f.length c] 39)) (Th.box w.heap.size w2.heap.size [.slice (some ⟨ga, 0, none⟩) f.length c]) ⟨Bx.new w2 _ _, hw2⟩ (fun b e => by have e2 : b = w2.heap.size := e; omega))
 have R3 := lh (hr2.ext ((Ext.rfl' w2).al (.cells #[.slice (some ⟨ga, 0, none⟩) f.length c] 39)))
 clear ho2 hr2 hm2 S1 S2 M0 HGF hga hbase
 go_upto_region 2 with fail
 generalize World.alloc w2 (.cells #[.slice (some ⟨ga, 0, none⟩) f.length c] 39) = v3 at *
 have hb3 : w.heap.size ≤ w2.heap.size := hw2
 generalize w2.heap.size = b3 at *
 clear hw2
 have y3 : Bx v3 b3 [.slice (some ⟨ga, 0, none⟩) f.length c] := (Sep.get S3.out 0 rfl : Bx _ _ _ ∧ _).1
 have q3 := y3.cell (j := 0) rfl
 have l3 := y3.lt
 clear y3
 go_wp2_with fail
 refine (s_pick R (m + 100) (f.length : Int) _ R3.out (by omega) (by omega) (by omega)).mono ?_
 rintro e v4 ⟨k0, rfl, k1, k2, hr4, hm4⟩
 obtain ⟨k, rfl⟩ := Int.eq_ofNat_of_zero_le k1
 have hk : k < f.length := by omega
 have S4 := lh (Sep.mod S3.out hm4 (fun b e => by omega))
 have M4 := lh (M2.out.tr' hm4)
 have R4 := lh hr4
 clear k1 k2 hr4 hm4 q3 l3 S3 M2 R3
 go_wp2_with fail
 refine (s_pick R (m + 101) 24 _ R4.out (by omega) (by omega) (by omega)).mono ?_
 rintro e v5 ⟨y, rfl, y1, y2, hr5, hm5⟩
 have S5 := lh (Sep.mod S4.out hm5 (fun b e => by omega))
 have M5 := lh (M4.out.tr' hm5)
 have R5 := lh hr5
 have hkx : (k : Int) < (f.length : Int) := by omega
 have hk0 : (0 : Int) ≤ (k : Int) := by omega
 have yb : Bx v5 b3 [.slice (some ⟨ga, 0, none⟩) f.length c] := (Sep.get S5.out 0 rfl : Bx _ _ _ ∧ _).1
 have Q5 := lh (yb.cell (j := 0) rfl)
 have hbR : b3 ≠ R := by omega
 have hRv := hr5.lt
 clear yb y1 y2 hr5 hm5 S4 M4 R4

 by_cases h0 : y = 0
 ·have e0' : (y == 0) = true := by simp [h0]
  clear h0
  go_upto_region 5 with fail
  refine wp_region_held_drew (S := (fun W => W.cell? ⟨b3, 0, none⟩ = some (.slice (some ⟨ga, 0, none⟩) f.length c))) (by kernel_rfl) ?_ (fun hHeld => ?_)
  ·exact ((Ext.rfl' v5).dr).cellE Q5.out
  refine ty 0 ?_
  refine ty 1 ?_
  refine ty 2 ?_
  refine ty 3 ?_
  refine rd1 4 rfl fun K hK => ?_
  go_simp
  try simp only [pg]
  refine hK.out _ _ (by exact ((Ext.rfl' v5).dr.al (.cells #[.int .i64 (-1), .int .i64 9, .int .i64 8] 3)).cellE Q5.out) fun hh2 => ?_; clear hK K hHeld; have hHeld := hh2; clear hh2
  try simp only [Act.put, pu]
  refine rd1 5 rfl fun K hK => ?_
  go_simp
  have RL := (Own.new v5.drew (B := 0) 3 1 #[.int .i64 (-1), .int .i64 9, .int .i64 8] 3 (Nat.zero_le _) (by unfold maxLen; omega) rfl).rd
  refine (s_one R (m + 102) (some ⟨v5.heap.size, 0, none⟩) 3 [(-1), 9, 8] _ ((R5.out.ext ((Ext.rfl' v5).dr)).ext ((Ext.rfl' v5.drew).al (.cells #[.int .i64 (-1), .int .i64 9, .int .i64 8] 3))) RL (by simp) (by simp) (by intro z hz; simp [blk] at hz; omega) (by omega)).mono ?_
  rintro e v6 ⟨x, rfl, hx, hr6, hm6⟩
  have R6 := lh hr6
  have D6 := lh ((Mod.of (F := fun b => b = R) (((Ext.rfl' v5).dr).al (.cells #[.int .i64 (-1), .int .i64 9, .int .i64 8] 3))).tr' hm6)
  have S6 := lh (Sep.mod S5.out D6.out (fun b e => by omega))
  have M6 := lh (M5.out.tr' D6.out)
  clear hx hr6 hm6 RL
  try go_wp2_with fail
  refine hK.out _ _ (by exact D6.out.cellE Q5.out hbR) fun hh2 => ?_; clear hK K hHeld; have hHeld := hh2; clear hh2
  try simp only [Act.put, pu]
  refine ty 6 ?_
  refine ty 7 ?_
  refine rd1 8 rfl fun K hK => ?_
  have O6 := lh (show Own v6 w.heap.size 73 5 (some ⟨ga, 0, none⟩) f.length c (parts f) from Sep.get S6.out 1 rfl)
  obtain ⟨u9, hu9⟩ : ∃ u, (parts f)[k * 5]? = some u := ⟨_, List.getElem?_eq_getElem (by simp; omega)⟩
  have r9 := O6.out.cell hu9
  have f9 := O6.out.free (k * 5)
  have l9 := (O6.out.lt (g := ga) rfl).2
  obtain ⟨f', hfl, hfs⟩ := parts_st f k 0 x hk (by omega)
  rw [Nat.add_zero] at hfs
  have HO9 := lh (show Own (World.setCell v6 ⟨ga, k * 5, none⟩ (.int .i64 x)) w.heap.size 73 5 (some ⟨ga, 0, none⟩) f.length c (parts f') by rw [hfs]; exact O6.out.st (k * 5) _)
  have hgaw := (O6.out.lt (g := ga) rfl).1
  have S9 := lh (Sep.st S6.out 1 rfl ⟨ga, k * 5, none⟩ (.int .i64 x) rfl (Th.own w.heap.size 73 5 (some ⟨ga, 0, none⟩) f.length c (parts f')) HO9.out (fun _ e => e))
  have M9 := lh (M6.out.set (p := ⟨ga, k * 5, none⟩) (.inr hgaw) (.int .i64 x))
  have R9 := lh (R6.out.mod (Mod.set (F := fun b => b = ga) (Mod.rfl' _ _) (p := ⟨ga, k * 5, none⟩) (.inl rfl) (.int .i64 x)) (fun b e => by omega))
  have HFL := lh hfl
  clear hu9 hfs hfl O6 HO9
  go_simp
  clear r9 f9 l9
  try simp only [pg]
  refine hK.out _ _ (by exact (Sep.get S9.out 0 rfl : Bx _ _ _ ∧ _).1.cell (j := 0) rfl) fun hh2 => ?_; clear hK K hHeld; have hHeld := hh2; clear hh2
  try simp only [Act.put]
  refine dn ?_
  generalize World.setCell v6 ⟨ga, k * 5, none⟩ (.int .i64 x) = v9 at *
  skip
  have yb : Bx v9 b3 [.slice (some ⟨ga, 0, none⟩) f.length c] := (Sep.get S9.out 0 rfl : Bx _ _ _ ∧ _).1
  have q9 := yb.cell (j := 0) rfl
  have l9 := yb.lt
  clear yb
  have y2 : Bx v9 w.heap.size [.slice none 0 0] := (Sep.get S9.out 2 rfl : Bx _ _ _ ∧ _).1
  have x2 := y2.cell (j := 0) rfl
  have g2 := y2.free 0
  have l2 := y2.lt
  have Y2 := lh y2
  clear y2
  go_wp2
  have s0 := (Y2.out.set 0 (.slice (some ⟨ga, 0, none⟩) f.length c)).cell (j := 0) rfl
  refine bodyPost_ret (v := .agg #[.slice (some ⟨ga, 0, none⟩) f.length c]) (by simp [results, Tryd.results39, go_sem, s0]; try rfl) rfl ?_
  have SF := Sep.st S9.out 2 rfl ⟨w.heap.size, 0, none⟩ (.slice (some ⟨ga, 0, none⟩) f.length c) rfl (Th.box w.heap.size w.heap.size [.slice (some ⟨ga, 0, none⟩) f.length c]) ⟨Y2.out.set 0 _, Nat.le_refl _⟩ (fun _ e => e)
  exact ⟨f', (some ⟨ga, 0, none⟩), c, by rw [HFL.out], (by rw [HFL.out]; exact Sep.get SF 1 rfl), by have := HFL.out; omega, by have := HFL.out; omega, (R9.out.mod (Mod.set (F := fun b => b = w.heap.size) (Mod.rfl' _ _) (p := ⟨w.heap.size, 0, none⟩) (.inl rfl) _) (fun b e => by omega)).more (by omega), M9.out.set (p := ⟨w.heap.size, 0, none⟩) (.inr (Nat.le_refl _)) _⟩
 by_cases h1 : y = 1
 ·have e1' : (y == 1) = true := by simp [h1]
  have e0 : (y == 0) = false := by rw [beq_eq_false_iff_ne]; exact h0
  clear h0 h1
  go_upto_region 7 with fail
  refine wp_region_held_drew (S := (fun W => W.cell? ⟨b3, 0, none⟩ = some (.slice (some ⟨ga, 0, none⟩) f.length c))) (by kernel_rfl) ?_ (fun hHeld => ?_)
  ·exact ((Ext.rfl' v5).dr).cellE Q5.out
  refine ty 0 ?_
  refine ty 1 ?_
  refine ty 2 ?_
  refine ty 3 ?_
  refine ty 4 ?_
  refine rd1 5 rfl fun K hK => ?_
  go_simp
  try simp only [pg]
  refine hK.out _ _ (by exact ((Ext.rfl' v5).dr.al (.cells #[.int .i64 (k : Int), .int .i64 (-1), .int .i64 5] 3)).cellE Q5.out) fun hh2 => ?_; clear hK K hHeld; have hHeld := hh2; clear hh2
  try simp only [Act.put, pu]
  refine rd1 6 rfl fun K hK => ?_
  go_simp
  have RL := (Own.new v5.drew (B := 0) 3 1 #[.int .i64 (k : Int), .int .i64 (-1), .int .i64 5] 3 (Nat.zero_le _) (by unfold maxLen; omega) rfl).rd
  refine (s_one R (m + 102) (some ⟨v5.heap.size, 0, none⟩) 3 [(k : Int), (-1), 5] _ ((R5.out.ext ((Ext.rfl' v5).dr)).ext ((Ext.rfl' v5.drew).al (.cells #[.int .i64 (k : Int), .int .i64 (-1), .int .i64 5] 3))) RL (by simp) (by simp) (by intro z hz; simp [blk] at hz; omega) (by omega)).mono ?_
  rintro e v6 ⟨x, rfl, hx, hr6, hm6⟩
  have R6 := lh hr6
  have D6 := lh ((Mod.of (F := fun b => b = R) (((Ext.rfl' v5).dr).al (.cells #[.int .i64 (k : Int), .int .i64 (-1), .int .i64 5] 3))).tr' hm6)
  have S6 := lh (Sep.mod S5.out D6.out (fun b e => by omega))
  have M6 := lh (M5.out.tr' D6.out)
  clear hx hr6 hm6 RL
  try go_wp2_with fail
  refine hK.out _ _ (by exact D6.out.cellE Q5.out hbR) fun hh2 => ?_; clear hK K hHeld; have hHeld := hh2; clear hh2
  try simp only [Act.put, pu]
  refine ty 7 ?_
  refine ty 8 ?_
  refine rd1 9 rfl fun K hK => ?_
  have O6 := lh (show Own v6 w.heap.size 73 5 (some ⟨ga, 0, none⟩) f.length c (parts f) from Sep.get S6.out 1 rfl)
  obtain ⟨u9, hu9⟩ : ∃ u, (parts f)[k * 5 + 1]? = some u := ⟨_, List.getElem?_eq_getElem (by simp; omega)⟩
  have r9 := O6.out.cell hu9
  have f9 := O6.out.free (k * 5 + 1)
  have l9 := (O6.out.lt (g := ga) rfl).2
  obtain ⟨f', hfl, hfs⟩ := parts_st f k 1 x hk (by omega)
  have HO9 := lh (show Own (World.setCell v6 ⟨ga, k * 5 + 1, none⟩ (.int .i64 x)) w.heap.size 73 5 (some ⟨ga, 0, none⟩) f.length c (parts f') by rw [hfs]; exact O6.out.st (k * 5 + 1) _)
  have hgaw := (O6.out.lt (g := ga) rfl).1
  have S9 := lh (Sep.st S6.out 1 rfl ⟨ga, k * 5 + 1, none⟩ (.int .i64 x) rfl (Th.own w.heap.size 73 5 (some ⟨ga, 0, none⟩) f.length c (parts f')) HO9.out (fun _ e => e))
  have M9 := lh (M6.out.set (p := ⟨ga, k * 5 + 1, none⟩) (.inr hgaw) (.int .i64 x))
  have R9 := lh (R6.out.mod (Mod.set (F := fun b => b = ga) (Mod.rfl' _ _) (p := ⟨ga, k * 5 + 1, none⟩) (.inl rfl) (.int .i64 x)) (fun b e => by omega))
  have HFL := lh hfl
  clear hu9 hfs hfl O6 HO9
  go_simp
  clear r9 f9 l9
  try simp only [pg]
  refine hK.out _ _ (by exact (Sep.get S9.out 0 rfl : Bx _ _ _ ∧ _).1.cell (j := 0) rfl) fun hh2 => ?_; clear hK K hHeld; have hHeld := hh2; clear hh2
  try simp only [Act.put]
  refine dn ?_
  generalize World.setCell v6 ⟨ga, k * 5 + 1, none⟩ (.int .i64 x) = v9 at *
  skip
  have yb : Bx v9 b3 [.slice (some ⟨ga, 0, none⟩) f.length c] := (Sep.get S9.out 0 rfl : Bx _ _ _ ∧ _).1
  have q9 := yb.cell (j := 0) rfl
  have l9 := yb.lt
  clear yb
  have y2 : Bx v9 w.heap.size [.slice none 0 0] := (Sep.get S9.out 2 rfl : Bx _ _ _ ∧ _).1
  have x2 := y2.cell (j := 0) rfl
  have g2 := y2.free 0
  have l2 := y2.lt
  have Y2 := lh y2
  clear y2
  go_wp2
  have s0 := (Y2.out.set 0 (.slice (some ⟨ga, 0, none⟩) f.length c)).cell (j := 0) rfl
  refine bodyPost_ret (v := .agg #[.slice (some ⟨ga, 0, none⟩) f.length c]) (by simp [results, Tryd.results39, go_sem, s0]; try rfl) rfl ?_
  have SF := Sep.st S9.out 2 rfl ⟨w.heap.size, 0, none⟩ (.slice (some ⟨ga, 0, none⟩) f.length c) rfl (Th.box w.heap.size w.heap.size [.slice (some ⟨ga, 0, none⟩) f.length c]) ⟨Y2.out.set 0 _, Nat.le_refl _⟩ (fun _ e => e)
  exact ⟨f', (some ⟨ga, 0, none⟩), c, by rw [HFL.out], (by rw [HFL.out]; exact Sep.get SF 1 rfl), by have := HFL.out; omega, by have := HFL.out; omega, (R9.out.mod (Mod.set (F := fun b => b = w.heap.size) (Mod.rfl' _ _) (p := ⟨w.heap.size, 0, none⟩) (.inl rfl) _) (fun b e => by omega)).more (by omega), M9.out.set (p := ⟨w.heap.size, 0, none⟩) (.inr (Nat.le_refl _)) _⟩
 by_cases h2 : y = 2
 ·have e2' : (y == 2) = true := by simp [h2]
  have e0 : (y == 0) = false := by rw [beq_eq_false_iff_ne]; exact h0
  have e1 : (y == 1) = false := by rw [beq_eq_false_iff_ne]; exact h1
  clear h0 h1 h2
  go_upto_region 9 with fail
  refine wp_region_held_drew (S := (fun W => W.cell? ⟨b3, 0, none⟩ = some (.slice (some ⟨ga, 0, none⟩) f.length c))) (by kernel_rfl) ?_ (fun hHeld => ?_)
  ·exact ((Ext.rfl' v5).dr).cellE Q5.out
  refine ty 0 ?_
  refine ty 1 ?_
  refine ty 2 ?_
  refine ty 3 ?_
  refine rd1 4 rfl fun K hK => ?_
  go_simp
  try simp only [pg]
  refine hK.out _ _ (by exact ((Ext.rfl' v5).dr.al (.cells #[.int .i64 (-1), .int .i64 100, .int .i64 1] 3)).cellE Q5.out) fun hh2 => ?_; clear hK K hHeld; have hHeld := hh2; clear hh2
  try simp only [Act.put, pu]
  refine rd1 5 rfl fun K hK => ?_
  go_simp
  have RL := (Own.new v5.drew (B := 0) 3 1 #[.int .i64 (-1), .int .i64 100, .int .i64 1] 3 (Nat.zero_le _) (by unfold maxLen; omega) rfl).rd
  refine (s_one R (m + 102) (some ⟨v5.heap.size, 0, none⟩) 3 [(-1), 100, 1] _ ((R5.out.ext ((Ext.rfl' v5).dr)).ext ((Ext.rfl' v5.drew).al (.cells #[.int .i64 (-1), .int .i64 100, .int .i64 1] 3))) RL (by simp) (by simp) (by intro z hz; simp [blk] at hz; omega) (by omega)).mono ?_
  rintro e v6 ⟨x, rfl, hx, hr6, hm6⟩
  have R6 := lh hr6
  have D6 := lh ((Mod.of (F := fun b => b = R) (((Ext.rfl' v5).dr).al (.cells #[.int .i64 (-1), .int .i64 100, .int .i64 1] 3))).tr' hm6)
  have S6 := lh (Sep.mod S5.out D6.out (fun b e => by omega))
  have M6 := lh (M5.out.tr' D6.out)
  clear hx hr6 hm6 RL
  try go_wp2_with fail
  refine hK.out _ _ (by exact D6.out.cellE Q5.out hbR) fun hh2 => ?_; clear hK K hHeld; have hHeld := hh2; clear hh2
  try simp only [Act.put, pu]
  refine ty 6 ?_
  refine ty 7 ?_
  refine rd1 8 rfl fun K hK => ?_
  have O6 := lh (show Own v6 w.heap.size 73 5 (some ⟨ga, 0, none⟩) f.length c (parts f) from Sep.get S6.out 1 rfl)
  obtain ⟨u9, hu9⟩ : ∃ u, (parts f)[k * 5 + 4]? = some u := ⟨_, List.getElem?_eq_getElem (by simp; omega)⟩
  have r9 := O6.out.cell hu9
  have f9 := O6.out.free (k * 5 + 4)
  have l9 := (O6.out.lt (g := ga) rfl).2
  obtain ⟨f', hfl, hfs⟩ := parts_st f k 4 x hk (by omega)
  have HO9 := lh (show Own (World.setCell v6 ⟨ga, k * 5 + 4, none⟩ (.int .i64 x)) w.heap.size 73 5 (some ⟨ga, 0, none⟩) f.length c (parts f') by rw [hfs]; exact O6.out.st (k * 5 + 4) _)
  have hgaw := (O6.out.lt (g := ga) rfl).1
  have S9 := lh (Sep.st S6.out 1 rfl ⟨ga, k * 5 + 4, none⟩ (.int .i64 x) rfl (Th.own w.heap.size 73 5 (some ⟨ga, 0, none⟩) f.length c (parts f')) HO9.out (fun _ e => e))
  have M9 := lh (M6.out.set (p := ⟨ga, k * 5 + 4, none⟩) (.inr hgaw) (.int .i64 x))
  have R9 := lh (R6.out.mod (Mod.set (F := fun b => b = ga) (Mod.rfl' _ _) (p := ⟨ga, k * 5 + 4, none⟩) (.inl rfl) (.int .i64 x)) (fun b e => by omega))
  have HFL := lh hfl
  clear hu9 hfs hfl O6 HO9
  go_simp
  clear r9 f9 l9
  try simp only [pg]
  refine hK.out _ _ (by exact (Sep.get S9.out 0 rfl : Bx _ _ _ ∧ _).1.cell (j := 0) rfl) fun hh2 => ?_; clear hK K hHeld; have hHeld := hh2; clear hh2
  try simp only [Act.put]
  refine dn ?_
  generalize World.setCell v6 ⟨ga, k * 5 + 4, none⟩ (.int .i64 x) = v9 at *
  skip
  have yb : Bx v9 b3 [.slice (some ⟨ga, 0, none⟩) f.length c] := (Sep.get S9.out 0 rfl : Bx _ _ _ ∧ _).1
  have q9 := yb.cell (j := 0) rfl
  have l9 := yb.lt
  clear yb
  have y2 : Bx v9 w.heap.size [.slice none 0 0] := (Sep.get S9.out 2 rfl : Bx _ _ _ ∧ _).1
  have x2 := y2.cell (j := 0) rfl
  have g2 := y2.free 0
  have l2 := y2.lt
  have Y2 := lh y2
  clear y2
  go_wp2
  have s0 := (Y2.out.set 0 (.slice (some ⟨ga, 0, none⟩) f.length c)).cell (j := 0) rfl
  refine bodyPost_ret (v := .agg #[.slice (some ⟨ga, 0, none⟩) f.length c]) (by simp [results, Tryd.results39, go_sem, s0]; try rfl) rfl ?_
  have SF := Sep.st S9.out 2 rfl ⟨w.heap.size, 0, none⟩ (.slice (some ⟨ga, 0, none⟩) f.length c) rfl (Th.box w.heap.size w.heap.size [.slice (some ⟨ga, 0, none⟩) f.length c]) ⟨Y2.out.set 0 _, Nat.le_refl _⟩ (fun _ e => e)
  exact ⟨f', (some ⟨ga, 0, none⟩), c, by rw [HFL.out], (by rw [HFL.out]; exact Sep.get SF 1 rfl), by have := HFL.out; omega, by have := HFL.out; omega, (R9.out.mod (Mod.set (F := fun b => b = w.heap.size) (Mod.rfl' _ _) (p := ⟨w.heap.size, 0, none⟩) (.inl rfl) _) (fun b e => by omega)).more (by omega), M9.out.set (p := ⟨w.heap.size, 0, none⟩) (.inr (Nat.le_refl _)) _⟩
 by_cases h3 : y = 3
 ·have e3' : (y == 3) = true := by simp [h3]
  have e0 : (y == 0) = false := by rw [beq_eq_false_iff_ne]; exact h0
  have e1 : (y == 1) = false := by rw [beq_eq_false_iff_ne]; exact h1
  have e2 : (y == 2) = false := by rw [beq_eq_false_iff_ne]; exact h2
  clear h0 h1 h2 h3
  have HNB := lh (show blk (some ⟨ga, 0, none⟩) ≠ some b3 from fun e => S5.out.2.1 (Th.own w.heap.size 73 5 (some ⟨ga, 0, none⟩) f.length c (parts f)) (by simp) b3 rfl e)
  go_upto_region 11 with fail
  refine zb 6 (fun W => W.cell? ⟨b3, 0, none⟩ = some (.slice (some ⟨ga, 0, none⟩) f.length c)) ?_ (fun hHeld => ?_)
  ·exact ((Ext.rfl' v5).dr).cellE Q5.out
  refine zy 0 ?_
  refine zy 1 ?_
  refine zr 2 rfl fun K hK => ?_
  go_simp
  refine (s_numberPart 1 _).mono ?_
  rintro e v6 ⟨rfl, he6⟩
  have X6 := lh (((Ext.rfl' v5).dr).tr he6)
  have S6 := lh (Sep.ext S5.out X6.out)
  have M6 := lh (M5.out.tr' (Mod.of X6.out))
  have R6 := lh (R5.out.ext X6.out)
  clear he6
  try go_wp2_with fail
  refine hK.out _ _ (fun _ => X6.out.cellE Q5.out) (fun hh => ?_)
  have hHeld := hh (by decide)
  clear hK K hh
  try simp only [Act.put, pu]
  refine zr 3 rfl fun K hK => ?_
  go_simp
  try simp only [pg]
  refine hK.out _ _ (fun _ => (X6.out.al (.cells (pcs ⟨0, -1, -1, -1, 1⟩).toArray 73)).cellE Q5.out) (fun hh => ?_)
  have hHeld := hh (by decide)
  clear hK K hh
  try simp only [Act.put, pu]
  refine zr 4 rfl fun K hK => ?_
  have O6 := lh (show Own v6 w.heap.size 73 5 (some ⟨ga, 0, none⟩) f.length c (parts f) from Sep.get S6.out 1 rfl)
  have eW := lh M6.out.size
  refine held_app1 (w := v6) (cs := pcs ⟨0, -1, -1, -1, 1⟩) rfl rfl eiPart rfl O6.out rfl rfl (one_pcs _) (by omega) (by omega) eW.out ?_
  intro A7 c7 v7 hown7 hg7 hat7
  have CF7 := grown_cell hg7 (X6.out.cellE Q5.out) (fun e => HNB.out e)
  have S7 := lh (Sep.app S6.out 1 rfl hown7 hg7 hat7)
  have M7 := lh (M6.out.gr hg7 fun b hb => .inr (O6.out.lt hb).1)
  have R7 := lh (R6.out.gr hg7 fun b hb => by have := (O6.out.lt hb).1; omega)
  clear hown7 hg7 hat7
  try simp only [pg]
  refine hK.out _ _ (fun _ => CF7) (fun hh => ?_)
  have hHeld := hh (by decide)
  clear hK K hh
  try simp only [Act.put, pu]
  refine zy 5 ?_
  refine zr 6 rfl fun K hK => ?_
  have yb : Bx v7 b3 [.slice (some ⟨ga, 0, none⟩) f.length c] := (Sep.get S7.out 0 rfl : Bx _ _ _ ∧ _).1
  have r9 := yb.cell (j := 0) rfl
  have f9 := yb.free 0
  have l9 := yb.lt
  have YB := lh yb
  clear yb
  have S9 := lh (Sep.st S7.out 0 rfl ⟨b3, 0, none⟩ (.slice A7 (f.length + 1) c7) rfl (Th.box w.heap.size b3 [.slice A7 (f.length + 1) c7]) ⟨YB.out.set 0 _, hb3⟩ (fun _ e => e))
  have M9 := lh (M7.out.set (p := ⟨b3, 0, none⟩) (.inr hb3) (.slice A7 (f.length + 1) c7))
  have R9 := lh (R7.out.mod (Mod.set (F := fun b => b = b3) (Mod.rfl' _ _) (p := ⟨b3, 0, none⟩) (.inl rfl) (.slice A7 (f.length + 1) c7)) (fun b e => by omega))
  go_simp
  clear r9 f9 l9
  refine hK.out _ _ (fun e => absurd rfl e) (fun hh => ?_)
  clear hK K hHeld hh
  try simp only [Act.put]
  refine zn ?_
  generalize World.setCell v7 ⟨b3, 0, none⟩ (.slice A7 (f.length + 1) c7) = v9 at *
  have el : f.length + 1 = (f ++ [(⟨0, -1, -1, -1, 1⟩ : Sg.Part)]).length := by simp
  have eo : parts f ++ pcs ⟨0, -1, -1, -1, 1⟩ = parts (f ++ [⟨0, -1, -1, -1, 1⟩]) := by simp [parts]
  rw [eo, el] at S9
  obtain ⟨f', hf'⟩ : ∃ f', f' = f ++ [(⟨0, -1, -1, -1, 1⟩ : Sg.Part)] := ⟨_, rfl⟩
  rw [← hf'] at S9 el
  clear hf' eo
  have yb : Bx v9 b3 [.slice A7 f'.length c7] := (Sep.get S9.out 0 rfl : Bx _ _ _ ∧ _).1
  have q9 := yb.cell (j := 0) rfl
  have l9 := yb.lt
  clear yb
  have y2 : Bx v9 w.heap.size [.slice none 0 0] := (Sep.get S9.out 2 rfl : Bx _ _ _ ∧ _).1
  have x2 := y2.cell (j := 0) rfl
  have g2 := y2.free 0
  have l2 := y2.lt
  have Y2 := lh y2
  clear y2
  go_wp2
  have s0 := (Y2.out.set 0 (.slice A7 f'.length c7)).cell (j := 0) rfl
  refine bodyPost_ret (v := .agg #[.slice A7 f'.length c7]) (by simp [results, Tryd.results39, go_sem, s0]; try rfl) rfl ?_
  have SF := Sep.st S9.out 2 rfl ⟨w.heap.size, 0, none⟩ (.slice A7 f'.length c7) rfl (Th.box w.heap.size w.heap.size [.slice A7 f'.length c7]) ⟨Y2.out.set 0 _, Nat.le_refl _⟩ (fun _ e => e)
  exact ⟨f', A7, c7, rfl, Sep.get SF 1 rfl, by omega, by omega, (R9.out.mod (Mod.set (F := fun b => b = w.heap.size) (Mod.rfl' _ _) (p := ⟨w.heap.size, 0, none⟩) (.inl rfl) _) (fun b e => by omega)).more (by omega), M9.out.set (p := ⟨w.heap.size, 0, none⟩) (.inr (Nat.le_refl _)) _⟩
 ·have e0 : (y == 0) = false := by rw [beq_eq_false_iff_ne]; exact h0
  have e1 : (y == 1) = false := by rw [beq_eq_false_iff_ne]; exact h1
  have e2 : (y == 2) = false := by rw [beq_eq_false_iff_ne]; exact h2
  have e3 : (y == 3) = false := by rw [beq_eq_false_iff_ne]; exact h3
  clear h0 h1 h2 h3
  go_upto_region 12 with fail
  obtain ⟨v9, rfl⟩ : ∃ W : World, W = v5 := ⟨_, rfl⟩
  have yb : Bx v9 b3 [.slice (some ⟨ga, 0, none⟩) f.length c] := (Sep.get S5.out 0 rfl : Bx _ _ _ ∧ _).1
  have q9 := yb.cell (j := 0) rfl
  have l9 := yb.lt
  clear yb
  have y2 : Bx v9 w.heap.size [.slice none 0 0] := (Sep.get S5.out 2 rfl : Bx _ _ _ ∧ _).1
  have x2 := y2.cell (j := 0) rfl
  have g2 := y2.free 0
  have l2 := y2.lt
  have Y2 := lh y2
  clear y2
  go_wp2
  have s0 := (Y2.out.set 0 (.slice (some ⟨ga, 0, none⟩) f.length c)).cell (j := 0) rfl
  refine bodyPost_ret (v := .agg #[.slice (some ⟨ga, 0, none⟩) f.length c]) (by simp [results, Tryd.results39, go_sem, s0]; try rfl) rfl ?_
  have SF := Sep.st S5.out 2 rfl ⟨w.heap.size, 0, none⟩ (.slice (some ⟨ga, 0, none⟩) f.length c) rfl (Th.box w.heap.size w.heap.size [.slice (some ⟨ga, 0, none⟩) f.length c]) ⟨Y2.out.set 0 _, Nat.le_refl _⟩ (fun _ e => e)
  exact ⟨f, (some ⟨ga, 0, none⟩), c, rfl, Sep.get SF 1 rfl, by omega, by omega, (R5.out.mod (Mod.set (F := fun b => b = w.heap.size) (Mod.rfl' _ _) (p := ⟨w.heap.size, 0, none⟩) (.inl rfl) _) (fun b e => by omega)).more (by omega), M5.out.set (p := ⟨w.heap.size, 0, none⟩) (.inr (Nat.le_refl _)) _⟩
end Go.Proofs.YtdnlpklmihoapaaDoor
