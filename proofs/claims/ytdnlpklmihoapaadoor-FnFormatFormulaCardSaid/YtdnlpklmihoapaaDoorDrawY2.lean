/- The draw of FormatFormula's argument: its contract. Conditions: the code can be read. -/
import Derived.Test.YtdnlpklmihoapaaDoorTy
import Derived.Test.YtdnlpklmihoapaaDoorDrawU
import Derived.Test.YtdnlpklmihoapaaDoorCore
import Derived.StillTailTactics
import Derived.Deep.DeepCutAuto
namespace Go.Proofs.YtdnlpklmihoapaaDoor
open Go.RowKit
theorem s_traded (n : Int) (k : Nat) (w : World) (hk : k ≤ 100) : Calls Tryd.prog 72 #[.int .i64 n, .int .i64 (k : Int)] w fun e w' => ∃ x : Int, e = .returned (.int .i64 x) ∧ w = w' := by
 have ik : IntKind.i64.wrap ((k : Int) + 1) = (k : Int) + 1 := IntWalk.i64_in _ (by omega)
 by_cases h : n = (k : Int)
 ·have e0 : (n == (k : Int)) = true := by simp [h]
  clear h
  go_enter Tryd.func72, Tryd.ntmps72
  go_wp2
  go_ret
  exact ⟨_, rfl, rfl⟩
 ·have e0 : (n == (k : Int)) = false := by simp [h]
  by_cases h2 : n = (k : Int) + 1
  ·have e1 : (n == (k : Int) + 1) = true := by simp [h2]
   clear h h2
   go_enter Tryd.func72, Tryd.ntmps72
   go_wp2
   go_ret
   exact ⟨_, rfl, rfl⟩
  ·have e1 : (n == (k : Int) + 1) = false := by simp [h2]
   clear h h2
   go_enter Tryd.func72, Tryd.ntmps72
   go_wp2
   go_ret
   exact ⟨_, rfl, rfl⟩
theorem one_partsU (f : List Sg.Part) : ∀ u ∈ parts f, u.oneCell' = true := by
 intro u hu
 simp only [parts, List.mem_flatMap] at hu
 obtain ⟨p, _, hp⟩ := hu
 exact one_pcs p u hp
theorem parts_5 (f : List Sg.Part) (k : Nat) (p : Sg.Part) (hk : k < f.length) : ∃ f' : List Sg.Part, f'.length = f.length ∧ parts f' = (((((parts f).set (k * 5) (.int .i64 p.kind)).set (k * 5 + 1) (.int .i64 p.a)).set (k * 5 + 2) (.int .i64 p.b)).set (k * 5 + 3) (.int .i64 p.c)).set (k * 5 + 4) (.int .i64 p.n) := by
 obtain ⟨f1, l1, e1⟩ := parts_st f k 0 p.kind hk (by omega)
 obtain ⟨f2, l2, e2⟩ := parts_st f1 k 1 p.a (by omega) (by omega)
 obtain ⟨f3, l3, e3⟩ := parts_st f2 k 2 p.b (by omega) (by omega)
 obtain ⟨f4, l4, e4⟩ := parts_st f3 k 3 p.c (by omega) (by omega)
 obtain ⟨f5, l5, e5⟩ := parts_st f4 k 4 p.n (by omega) (by omega)
 exact ⟨f5, by omega, by rw [e5, e4, e3, e2, e1, Nat.add_zero]⟩
theorem parts_cell {f : List Sg.Part} {i : Nat} {p : Sg.Part} (h : f[i]? = some p) (j : Nat) (hj : j < 5) : ∃ x : Int, (parts f)[i * 5 + j]? = some (.int .i64 x) := by
 induction f generalizing i with
 | nil => simp at h
 | cons q r ih =>
  have e : parts (q :: r) = pcs q ++ parts r := by simp [parts]
  have hl : (pcs q).length = 5 := rfl
  cases i with
  | zero =>
   rw [e, List.getElem?_append_left (by rw [hl]; omega)]
   have : j = 0 ∨ j = 1 ∨ j = 2 ∨ j = 3 ∨ j = 4 := by omega
   rcases this with rfl | rfl | rfl | rfl | rfl <;> exact ⟨_, rfl⟩
  | succ i =>
   obtain ⟨x, hx⟩ := ih (i := i) (by simpa using h)
   refine ⟨x, ?_⟩
   rw [e, List.getElem?_append_right (by rw [hl]; omega), hl, ← hx]
   congr 1
   omega
def Shuf (R : Nat) (A0 : Option Addr) (w : World) (e : Ending) (w' : World) : Prop := ∃ (f : List Sg.Part) (A : Option Addr) (c : Nat), e = .returned (.agg #[.slice A f.length c]) ∧ f.length ≤ 31 ∧ Rd w' 5 A f.length (parts f) ∧ Mod (fun b => b = R) w w' ∧ (∀ b, blk A = some b → blk A0 = some b ∨ w.heap.size ≤ b)
theorem Rd.mod0p {w w' : World} {F : Nat → Prop} {A : Option Addr} {n : Nat} {l : List Sg.Part} (h : Rd w 5 A n (parts l)) (hm : Mod F w w') (hF : ∀ b, blk A = some b → ¬ F b) : Rd w' 5 A n (parts l) := by
 obtain ⟨h1, h0, h2⟩ := h
 refine ⟨h1, h0, fun hp => ?_⟩
 obtain ⟨b, o, rfl, h3⟩ := h2 hp
 exact ⟨b, o, rfl, fun k u hu => hm.cellE (h3 k u hu) (hF b rfl)⟩
set_option maxRecDepth 100000 in
set_option maxHeartbeats 8000000 in
theorem s_shuffled (R m : Nat) (A : Option Addr) (c : Nat) (f : List Sg.Part) (w : World) (h : Rdr w R m) (hf : Rd w 5 A f.length (parts f)) (hoff : ∀ b, blk A = some b → b ≠ R) (hl1 : 1 ≤ f.length) (hl : f.length ≤ 31) (hm : m ≤ 700000) :
  Calls Tryd.prog 38 #[.pointer (some ⟨R, 0, none⟩), .agg #[.slice A f.length c]] w (Shuf R A w) := by
 have hRl := h.lt
 have S0 := Sep.add (B := w.heap.size) (ts := []) (W := w) trivial ((Ext.rfl' _).al (.cells #[.slice A f.length c] 39)) (Th.box w.heap.size w.heap.size [.slice A f.length c]) ⟨Bx.new w #[.slice A f.length c] 39, Nat.le_refl _⟩ (fun b e => by have e2 : b = w.heap.size := e; omega)
 have S1 := lh (Sep.add S0 ((Ext.rfl' _).al (.cells #[.slice none 0 0] 39)) (Th.box w.heap.size (w.heap.size + 1) [.slice none 0 0]) ⟨by have := Bx.new (World.alloc w (.cells #[.slice A f.length c] 39)) #[.slice none 0 0] 39; simpa [go_sem] using this, by omega⟩ (fun b e => by have e2 : b = w.heap.size + 1 := e; simp [go_sem]; omega))
 have X1 := (((Ext.rfl' w).al (.cells #[.slice A f.length c] 39)).al (.cells #[.slice none 0 0] 39))
 have M1 := lh (Mod.of (F := fun b => b = R) X1)
 have R1 := lh (h.ext X1)
 have HF := lh (fun (W : World) (hW : Mod (fun b => b = R) w W) => hf.mod0p hW (fun b hb e => hoff b hb e))
 clear h hf hoff S0 X1
 go_enter Tryd.func38, Tryd.ntmps38
 go_upto_region 1 with fail
 generalize World.alloc (World.alloc w (.cells #[.slice A f.length c] 39)) (.cells #[.slice none 0 0] 39) = v1 at *
 have y1 : Bx v1 w.heap.size [.slice A f.length c] := (Sep.get S1.out 1 rfl : Bx _ _ _ ∧ _).1
 have q1 := y1.cell (j := 0) rfl
 have l1 := y1.lt
 clear y1
 go_wp2_with fail
 refine (s_pick R m (f.length : Int) _ R1.out (by omega) (by omega) (by omega)).mono ?_
 rintro e v2 ⟨k0, rfl, k1, k2, hr2, hm2⟩
 obtain ⟨k, rfl⟩ := Int.eq_ofNat_of_zero_le k1
 have hk : k < f.length := by omega
 have S2 := lh (Sep.mod S1.out hm2 (fun b e => by omega))
 have M2 := lh (M1.out.tr' hm2)
 clear k1 k2 hr2 hm2 q1 l1 S1 M1 R1
 have y2 : Bx v2 w.heap.size [.slice A f.length c] := (Sep.get S2.out 1 rfl : Bx _ _ _ ∧ _).1
 have q2 := y2.cell (j := 0) rfl
 have l2 := y2.lt
 have Q2 := lh q2
 clear y2
 have i1 : IntKind.i64.wrap ((k : Int) + 1) = (k : Int) + 1 := IntWalk.i64_in _ (by omega)
 have i2 : IntKind.i64.wrap ((f.length : Int) - 1) = (f.length : Int) - 1 := IntWalk.i64_in _ (by omega)
 have kx : (k : Int) < (f.length : Int) := by omega
 have k0' : (0 : Int) ≤ (k : Int) := by omega

 by_cases hge : (k : Int) + 1 ≥ (f.length : Int) - 1
 ·have hgx : (f.length : Int) - 1 ≤ (k : Int) + 1 := hge
  have yr : Bx v2 (w.heap.size + 1) [.slice none 0 0] := (Sep.get S2.out 0 rfl : Bx _ _ _ ∧ _).1
  have x2 := yr.cell (j := 0) rfl
  have g2 := yr.free 0
  have lr := yr.lt
  have YR := lh yr
  clear yr
  go_wp2
  have s0 := (YR.out.set 0 (.slice A f.length c)).cell (j := 0) rfl
  refine bodyPost_ret (v := .agg #[.slice A f.length c]) (by simp [results, Tryd.results38, go_sem, s0]; try rfl) rfl ?_
  have MF := M2.out.set (p := ⟨w.heap.size + 1, 0, none⟩) (.inr (by simp)) (.slice A f.length c)
  exact ⟨f, A, c, rfl, hl, HF.out _ MF, MF, fun b hb => .inl hb⟩
 have hgx : ¬ (k : Int) + 1 ≥ (f.length : Int) - 1 := hge
 have hk1 : k + 1 < f.length := by omega
 have kx1 : (k : Int) + 1 < (f.length : Int) := by omega
 have k01 : (0 : Int) ≤ (k : Int) + 1 := by omega
 obtain ⟨bp, op, p, hA, hp, p0, p1, p2, p3, p4⟩ := (HF.out _ M2.out).atP hk1
 subst hA
 have kt : ((k : Int) + 1).toNat = k + 1 := by omega
 have bl0 := blt p1
 clear hge hp p0 p4
 by_cases ha : p.a = (k : Int)
 ·have ea : (p.a == (k : Int)) = true := by simp [ha]
  have yr : Bx v2 (w.heap.size + 1) [.slice none 0 0] := (Sep.get S2.out 0 rfl : Bx _ _ _ ∧ _).1
  have x2 := yr.cell (j := 0) rfl
  have g2 := yr.free 0
  have lr := yr.lt
  have YR := lh yr
  clear yr
  go_wp2
  have s0 := (YR.out.set 0 (.slice (some ⟨bp, op, none⟩) f.length c)).cell (j := 0) rfl
  refine bodyPost_ret (v := .agg #[.slice (some ⟨bp, op, none⟩) f.length c]) (by simp [results, Tryd.results38, go_sem, s0]; try rfl) rfl ?_
  have MF := M2.out.set (p := ⟨w.heap.size + 1, 0, none⟩) (.inr (by simp)) (.slice (some ⟨bp, op, none⟩) f.length c)
  exact ⟨f, (some ⟨bp, op, none⟩), c, rfl, hl, HF.out _ MF, MF, fun b hb => .inl hb⟩
 by_cases hb : p.b = (k : Int)
 ·have eb : (p.b == (k : Int)) = true := by simp [hb]
  have ea : (p.a == (k : Int)) = false := by simp [ha]
  have yr : Bx v2 (w.heap.size + 1) [.slice none 0 0] := (Sep.get S2.out 0 rfl : Bx _ _ _ ∧ _).1
  have x2 := yr.cell (j := 0) rfl
  have g2 := yr.free 0
  have lr := yr.lt
  have YR := lh yr
  clear yr
  go_wp2
  have s0 := (YR.out.set 0 (.slice (some ⟨bp, op, none⟩) f.length c)).cell (j := 0) rfl
  refine bodyPost_ret (v := .agg #[.slice (some ⟨bp, op, none⟩) f.length c]) (by simp [results, Tryd.results38, go_sem, s0]; try rfl) rfl ?_
  have MF := M2.out.set (p := ⟨w.heap.size + 1, 0, none⟩) (.inr (by simp)) (.slice (some ⟨bp, op, none⟩) f.length c)
  exact ⟨f, (some ⟨bp, op, none⟩), c, rfl, hl, HF.out _ MF, MF, fun b hb => .inl hb⟩
 by_cases hc : p.c = (k : Int)
 ·have ec : (p.c == (k : Int)) = true := by simp [hc]
  have ea : (p.a == (k : Int)) = false := by simp [ha]
  have eb : (p.b == (k : Int)) = false := by simp [hb]
  have yr : Bx v2 (w.heap.size + 1) [.slice none 0 0] := (Sep.get S2.out 0 rfl : Bx _ _ _ ∧ _).1
  have x2 := yr.cell (j := 0) rfl
  have g2 := yr.free 0
  have lr := yr.lt
  have YR := lh yr
  clear yr
  go_wp2
  have s0 := (YR.out.set 0 (.slice (some ⟨bp, op, none⟩) f.length c)).cell (j := 0) rfl
  refine bodyPost_ret (v := .agg #[.slice (some ⟨bp, op, none⟩) f.length c]) (by simp [results, Tryd.results38, go_sem, s0]; try rfl) rfl ?_
  have MF := M2.out.set (p := ⟨w.heap.size + 1, 0, none⟩) (.inr (by simp)) (.slice (some ⟨bp, op, none⟩) f.length c)
  exact ⟨f, (some ⟨bp, op, none⟩), c, rfl, hl, HF.out _ MF, MF, fun b hb => .inl hb⟩
 have ea : (p.a == (k : Int)) = false := by simp [ha]
 have eb : (p.b == (k : Int)) = false := by simp [hb]
 have ec : (p.c == (k : Int)) = false := by simp [hc]
 clear ha hb hc
 have HRF := lh ((HF.out _ M2.out).ext ((Ext.rfl' v2).al (.cells #[] 73)))
 have ON := lh (Own.new v2 (B := v2.heap.size) 73 5 #[] 0 (Nat.le_refl _) (by unfold maxLen; omega) rfl)
 have HFL := lh hl
 have eA := lh (show 0 + f.length ≤ maxLen by unfold maxLen; omega)
 have eB := lh (show (0 + f.length) * 40 ≤ 140737488355328 by omega)
 have HPL := lh hl1
 go_upto_region 5 with (at_builtin; refine wpList_appR rfl rfl eiPart rfl ON.out rfl HRF.out (one_partsU f) eA.out eB.out (by simp) ?_; intro A6 c6 v3 hown3 hg3 hat3)
 have HO3 := lh (show Own v3 v2.heap.size 73 5 A6 (0 + f.length) c6 (parts f) from by simpa using hown3)
 have X3 := lh (((Ext.rfl' v2).al (.cells #[] 73)).gr hg3 fun b hb => (ON.out.lt hb).1)
 clear hown3 hg3 hat3 ON HRF eA eB p1 p2 p3 bl0 q2 l2 ea eb ec
 rw [Nat.zero_add] at HO3
 try rw [Nat.zero_add]
 obtain ⟨ga, hga0, hgv⟩ := HO3.out.at_ (by have := HPL.out; omega)
 subst hga0
 have hsv2 := M2.out.size
 have S3 := Sep.add S2.out X3.out (Th.own w.heap.size 73 5 (some ⟨ga, 0, none⟩) f.length c6 (parts f)) (HO3.out.mono hsv2) (fun b hb => (HO3.out.lt hb).1)
 have hs3 : w.heap.size ≤ v3.heap.size := Nat.le_trans hsv2 X3.out.size
 have S4 := lh (Sep.add S3 ((Ext.rfl' v3).al (.cells #[.slice (some ⟨ga, 0, none⟩) f.length c6] 39)) (Th.box w.heap.size v3.heap.size [.slice (some ⟨ga, 0, none⟩) f.length c6]) ⟨Bx.new v3 _ _, hs3⟩ (fun b e => by have e2 : b = v3.heap.size := e; omega))
 have M4 := lh ((M2.out.tr' (Mod.of X3.out)).al (.cells #[.slice (some ⟨ga, 0, none⟩) f.length c6] 39))
 clear S3 HO3 X3 S2 Q2
 generalize World.alloc v3 (.cells #[.slice (some ⟨ga, 0, none⟩) f.length c6] 39) = v4 at *
 generalize v3.heap.size = b6 at *
 clear hgv
 have y6 : Bx v4 b6 [.slice (some ⟨ga, 0, none⟩) f.length c6] := (Sep.get S4.out 0 rfl : Bx _ _ _ ∧ _).1
 have q6 := y6.cell (j := 0) rfl
 have l6 := y6.lt
 clear y6
 have O4 := lh (show Own v4 w.heap.size 73 5 (some ⟨ga, 0, none⟩) f.length c6 (parts f) from Sep.get S4.out 1 rfl)
 obtain ⟨bq, oq, pk, hA, -, a0, a1, a2, a3, a4⟩ := O4.out.rd.atP hk
 injection hA with hA
 injection hA with hA1 hA2
 subst hA1 hA2
 have ba0 := blt a0
 try simp only [Nat.zero_add] at a0 a1 a2 a3 a4
 have S5 := lh (Sep.add S4.out ((Ext.rfl' v4).al (.cells (pcs pk).toArray 73)) (Th.box w.heap.size v4.heap.size (pcs pk)) ⟨Bx.new v4 _ _, M4.out.size⟩ (fun b e => by have e2 : b = v4.heap.size := e; omega))
 have M5 := lh (M4.out.al (.cells (pcs pk).toArray 73))
 go_upto_region 6 with fail
 try change Code.wp _ _ _ _ (World.alloc v4 (.cells (pcs pk).toArray 73))
 have hs4 := M4.out.size
 clear q6 l6 a0 a1 a2 a3 a4 ba0 S4 M4 O4
 generalize World.alloc v4 (.cells (pcs pk).toArray 73) = v5 at *
 generalize v4.heap.size = b7 at *
 have y6 : Bx v5 b6 [.slice (some ⟨ga, 0, none⟩) f.length c6] := (Sep.get S5.out 1 rfl : Bx _ _ _ ∧ _).1
 have Q6 := lh (y6.cell (j := 0) rfl)
 have q6 := Q6.out
 have l6 := y6.lt
 clear y6
 have O5 := lh (show Own v5 w.heap.size 73 5 (some ⟨ga, 0, none⟩) f.length c6 (parts f) from Sep.get S5.out 2 rfl)
 obtain ⟨bq, oq, p1, hA, -, a0, a1, a2, a3, a4⟩ := O5.out.rd.atP hk1
 injection hA with hA
 injection hA with hA1 hA2
 subst hA1 hA2
 have ba0 := blt a0
 try simp only [Nat.zero_add] at a0 a1 a2 a3 a4
 go_still_tail 10, (by kernel_rfl)
 change wpList _ _ _ _ _ (World.drew v5)
 have S6 := lh (Sep.ext S5.out ((Ext.rfl' v5).dr))
 have M6 := lh (M5.out.dr)
 clear q6 l6 a0 a1 a2 a3 a4 ba0 S5 M5 O5 Q6
 generalize World.drew v5 = v6 at *
 have OX := lh (show Own v6 w.heap.size 73 5 (some ⟨ga, 0, none⟩) f.length c6 (parts f) from Sep.get S6.out 2 rfl)
 have hxs : ∀ z, z < 5 → ∃ u, (parts f)[k * 5 + z]? = some u := fun z hz => ⟨_, List.getElem?_eq_getElem (by simp; omega)⟩
 obtain ⟨u0, hu0⟩ := hxs 0 (by omega)
 have r0 := OX.out.cell hu0
 have fr0 := OX.out.free (k * 5)
 obtain ⟨u1, hu1⟩ := hxs 1 (by omega)
 have r1 := OX.out.cell hu1
 have fr1 := OX.out.free (k * 5 + 1)
 obtain ⟨u2, hu2⟩ := hxs 2 (by omega)
 have r2 := OX.out.cell hu2
 have fr2 := OX.out.free (k * 5 + 2)
 obtain ⟨u3, hu3⟩ := hxs 3 (by omega)
 have r3 := OX.out.cell hu3
 have fr3 := OX.out.free (k * 5 + 3)
 obtain ⟨u4, hu4⟩ := hxs 4 (by omega)
 have r4 := OX.out.cell hu4
 have fr4 := OX.out.free (k * 5 + 4)
 rw [Nat.add_zero] at r0
 have lg := (OX.out.lt (g := ga) rfl).2
 have lgw := (OX.out.lt (g := ga) rfl).1
 clear hxs hu0 hu1 hu2 hu3 hu4
 obtain ⟨f1, hfl7, hfs7⟩ := parts_5 f k p1 hk
 have HO7 := lh (show Own (World.setCell (World.setCell (World.setCell (World.setCell (World.setCell v6 ⟨ga, k * 5, none⟩ (.int .i64 p1.kind)) ⟨ga, k * 5 + 1, none⟩ (.int .i64 p1.a)) ⟨ga, k * 5 + 2, none⟩ (.int .i64 p1.b)) ⟨ga, k * 5 + 3, none⟩ (.int .i64 p1.c)) ⟨ga, k * 5 + 4, none⟩ (.int .i64 p1.n)) w.heap.size 73 5 (some ⟨ga, 0, none⟩) f.length c6 (parts f1) by rw [hfs7]; exact (((((OX.out.st (k * 5) (.int .i64 p1.kind)).st (k * 5 + 1) (.int .i64 p1.a)).st (k * 5 + 2) (.int .i64 p1.b)).st (k * 5 + 3) (.int .i64 p1.c)).st (k * 5 + 4) (.int .i64 p1.n)))
 have S7 := lh (Sep.set (F := fun b => b = ga) S6.out 2 rfl ((((((Mod.rfl' (fun b => b = ga) v6).set (p := ⟨ga, k * 5, none⟩) (.inl rfl) (.int .i64 p1.kind)).set (p := ⟨ga, k * 5 + 1, none⟩) (.inl rfl) (.int .i64 p1.a)).set (p := ⟨ga, k * 5 + 2, none⟩) (.inl rfl) (.int .i64 p1.b)).set (p := ⟨ga, k * 5 + 3, none⟩) (.inl rfl) (.int .i64 p1.c)).set (p := ⟨ga, k * 5 + 4, none⟩) (.inl rfl) (.int .i64 p1.n)) (Th.own w.heap.size 73 5 (some ⟨ga, 0, none⟩) f.length c6 (parts f1)) (fun b e => .inl (by rw [e]; rfl)) HO7.out (fun b e => .inl e))
 have M7 := lh (((((M6.out.set (p := ⟨ga, k * 5, none⟩) (.inr lgw) (.int .i64 p1.kind)).set (p := ⟨ga, k * 5 + 1, none⟩) (.inr lgw) (.int .i64 p1.a)).set (p := ⟨ga, k * 5 + 2, none⟩) (.inr lgw) (.int .i64 p1.b)).set (p := ⟨ga, k * 5 + 3, none⟩) (.inr lgw) (.int .i64 p1.c)).set (p := ⟨ga, k * 5 + 4, none⟩) (.inr lgw) (.int .i64 p1.n))
 have HL7 := lh hfl7
 clear hfl7 hfs7 HO7 OX lgw
 go_upto_region 7 with fail
 clear r0 r1 r2 r3 r4 fr0 fr1 fr2 fr3 fr4 lg
 generalize (World.setCell (World.setCell (World.setCell (World.setCell (World.setCell v6 ⟨ga, k * 5, none⟩ (.int .i64 p1.kind)) ⟨ga, k * 5 + 1, none⟩ (.int .i64 p1.a)) ⟨ga, k * 5 + 2, none⟩ (.int .i64 p1.b)) ⟨ga, k * 5 + 3, none⟩ (.int .i64 p1.c)) ⟨ga, k * 5 + 4, none⟩ (.int .i64 p1.n)) = v7 at *
 have y6 : Bx v7 b6 [.slice (some ⟨ga, 0, none⟩) f.length c6] := (Sep.get S7.out 1 rfl : Bx _ _ _ ∧ _).1
 have q6 := y6.cell (j := 0) rfl
 have l6 := y6.lt
 have y7 : Bx v7 b7 (pcs pk) := (Sep.get S7.out 0 rfl : Bx _ _ _ ∧ _).1
 have z0 := y7.cell (j := 0) rfl
 have z1 := y7.cell (j := 1) rfl
 have z2 := y7.cell (j := 2) rfl
 have z3 := y7.cell (j := 3) rfl
 have z4 := y7.cell (j := 4) rfl
 have l7 := y7.lt
 clear y6 y7
 have hlx1 : f1.length = f.length := HL7.out
 have HLX := lh hlx1
 have hk1f : k + 1 < f1.length := by omega
 have HK1 := lh hk1f
 clear hlx1 hk1f
 have OX := lh (show Own v7 w.heap.size 73 5 (some ⟨ga, 0, none⟩) f.length c6 (parts f1) from Sep.get S7.out 2 rfl)
 have hxs : ∀ z, z < 5 → ∃ u, (parts f1)[(k + 1) * 5 + z]? = some u := fun z hz => ⟨_, List.getElem?_eq_getElem (by have := HK1.out; simp; omega)⟩
 obtain ⟨u0, hu0⟩ := hxs 0 (by omega)
 have r0 := OX.out.cell hu0
 have fr0 := OX.out.free ((k + 1) * 5)
 obtain ⟨u1, hu1⟩ := hxs 1 (by omega)
 have r1 := OX.out.cell hu1
 have fr1 := OX.out.free ((k + 1) * 5 + 1)
 obtain ⟨u2, hu2⟩ := hxs 2 (by omega)
 have r2 := OX.out.cell hu2
 have fr2 := OX.out.free ((k + 1) * 5 + 2)
 obtain ⟨u3, hu3⟩ := hxs 3 (by omega)
 have r3 := OX.out.cell hu3
 have fr3 := OX.out.free ((k + 1) * 5 + 3)
 obtain ⟨u4, hu4⟩ := hxs 4 (by omega)
 have r4 := OX.out.cell hu4
 have fr4 := OX.out.free ((k + 1) * 5 + 4)
 rw [Nat.add_zero] at r0
 have lg := (OX.out.lt (g := ga) rfl).2
 have lgw := (OX.out.lt (g := ga) rfl).1
 clear hxs hu0 hu1 hu2 hu3 hu4
 obtain ⟨f2, hfl8, hfs8⟩ := parts_5 f1 ((k + 1)) pk HK1.out
 have HO8 := lh (show Own (World.setCell (World.setCell (World.setCell (World.setCell (World.setCell v7 ⟨ga, (k + 1) * 5, none⟩ (.int .i64 pk.kind)) ⟨ga, (k + 1) * 5 + 1, none⟩ (.int .i64 pk.a)) ⟨ga, (k + 1) * 5 + 2, none⟩ (.int .i64 pk.b)) ⟨ga, (k + 1) * 5 + 3, none⟩ (.int .i64 pk.c)) ⟨ga, (k + 1) * 5 + 4, none⟩ (.int .i64 pk.n)) w.heap.size 73 5 (some ⟨ga, 0, none⟩) f.length c6 (parts f2) by rw [hfs8]; exact (((((OX.out.st ((k + 1) * 5) (.int .i64 pk.kind)).st ((k + 1) * 5 + 1) (.int .i64 pk.a)).st ((k + 1) * 5 + 2) (.int .i64 pk.b)).st ((k + 1) * 5 + 3) (.int .i64 pk.c)).st ((k + 1) * 5 + 4) (.int .i64 pk.n)))
 have S8 := lh (Sep.set (F := fun b => b = ga) S7.out 2 rfl ((((((Mod.rfl' (fun b => b = ga) v7).set (p := ⟨ga, (k + 1) * 5, none⟩) (.inl rfl) (.int .i64 pk.kind)).set (p := ⟨ga, (k + 1) * 5 + 1, none⟩) (.inl rfl) (.int .i64 pk.a)).set (p := ⟨ga, (k + 1) * 5 + 2, none⟩) (.inl rfl) (.int .i64 pk.b)).set (p := ⟨ga, (k + 1) * 5 + 3, none⟩) (.inl rfl) (.int .i64 pk.c)).set (p := ⟨ga, (k + 1) * 5 + 4, none⟩) (.inl rfl) (.int .i64 pk.n)) (Th.own w.heap.size 73 5 (some ⟨ga, 0, none⟩) f.length c6 (parts f2)) (fun b e => .inl (by rw [e]; rfl)) HO8.out (fun b e => .inl e))
 have M8 := lh (((((M7.out.set (p := ⟨ga, (k + 1) * 5, none⟩) (.inr lgw) (.int .i64 pk.kind)).set (p := ⟨ga, (k + 1) * 5 + 1, none⟩) (.inr lgw) (.int .i64 pk.a)).set (p := ⟨ga, (k + 1) * 5 + 2, none⟩) (.inr lgw) (.int .i64 pk.b)).set (p := ⟨ga, (k + 1) * 5 + 3, none⟩) (.inr lgw) (.int .i64 pk.c)).set (p := ⟨ga, (k + 1) * 5 + 4, none⟩) (.inr lgw) (.int .i64 pk.n))
 have HL8 := lh hfl8
 clear hfl8 hfs8 HO8 OX lgw
 go_upto_region 8 with fail
 clear r0 r1 r2 r3 r4 fr0 fr1 fr2 fr3 fr4 lg q6 l6 z0 z1 z2 z3 z4 l7
 generalize (World.setCell (World.setCell (World.setCell (World.setCell (World.setCell v7 ⟨ga, (k + 1) * 5, none⟩ (.int .i64 pk.kind)) ⟨ga, (k + 1) * 5 + 1, none⟩ (.int .i64 pk.a)) ⟨ga, (k + 1) * 5 + 2, none⟩ (.int .i64 pk.b)) ⟨ga, (k + 1) * 5 + 3, none⟩ (.int .i64 pk.c)) ⟨ga, (k + 1) * 5 + 4, none⟩ (.int .i64 pk.n)) = v8 at *
 have HL2 := lh (show f2.length = f.length from by have := HL8.out; have := HLX.out; omega)
 have S9 := lh (Sep.tail S8.out)
 clear S6 S7 S8 M6 M7 HL7 HL8 HLX HK1
 go_wp2_with fail
 go_loopw [8] (fun s8 wr => ∃ (i : Nat) (f3 : List Sg.Part), i ≤ f.length ∧ s8 = .int .i64 i ∧ Hid (f3.length = f.length) ∧ Hid (Mod (fun b => b = R) w wr) ∧ Hid (Sep [Th.box w.heap.size b6 [.slice (some ⟨ga, 0, none⟩) f.length c6], Th.own w.heap.size 73 5 (some ⟨ga, 0, none⟩) f.length c6 (parts f3), Th.box w.heap.size (w.heap.size + 1) [.slice none 0 0], Th.box w.heap.size w.heap.size [.slice (some ⟨bp, op, none⟩) f.length c]] wr)) (fun s8 _ => f.length - (intOf s8).toNat)
 case atStart => exact ⟨0, f2, Nat.zero_le _, rfl, HL2, M8, S9⟩
 case round =>
  clear S9 M8 HL2
  obtain ⟨i, f3, hi, rfl, HL3, MR, SR⟩ := hrel
  have yb : Bx wr b6 [.slice (some ⟨ga, 0, none⟩) f.length c6] := (Sep.get SR.out 0 rfl : Bx _ _ _ ∧ _).1
  have q6 := yb.cell (j := 0) rfl
  have l6 := yb.lt
  clear yb
  by_cases hlt : i < f.length
  ·have hix : (i : Int) < (f.length : Int) := by omega
   have hi0 : (0 : Int) ≤ (i : Int) := by omega
   obtain ⟨W0, rfl⟩ : ∃ W : World, W = wr := ⟨_, rfl⟩
   have OX := lh (show Own W0 w.heap.size 73 5 (some ⟨ga, 0, none⟩) f.length c6 (parts f3) from Sep.get SR.out 1 rfl)
   obtain ⟨x1, hx1⟩ : ∃ x : Int, (parts f3)[i * 5 + 1]? = some (.int .i64 x) := by
    obtain ⟨bq, oq, pp, hA, hpp, -⟩ := (show Own W0 w.heap.size 73 5 (some ⟨ga, 0, none⟩) f.length c6 (parts f3) from OX.out).rd.atP hlt
    exact parts_cell hpp 1 (by omega)
   have r9 := OX.out.cell hx1
   have f9 := OX.out.free (i * 5 + 1)
   have l9 := (OX.out.lt (g := ga) rfl).2
   have lgw := (OX.out.lt (g := ga) rfl).1
   go_upto_region 11 with fail
   have R9 := lh r9
   have Q9 := lh q6
   have rd9 := ((Ext.rfl' W0).dr).cellE r9
   have fd9 : World.frozen? (World.drew W0) ⟨ga, i * 5 + 1, none⟩ = false := f9
   refine wp_region_held_drew (S := (fun W => W.cell? ⟨b6, 0, none⟩ = some (.slice (some ⟨ga, 0, none⟩) f.length c6))) (by kernel_rfl) ?_ (fun hHeld => ?_)
   ·exact ((Ext.rfl' W0).dr).cellE q6
   refine ty 0 ?_
   refine ty 1 ?_
   refine ty 2 ?_
   refine ty 3 ?_
   refine ty 4 ?_
   refine ty 5 ?_
   refine ty 6 ?_
   refine ty 7 ?_
   refine ty 9 ?_
   refine rd1 8 rfl fun K hK => ?_
   go_simp
   refine hK.out _ _ (by exact ((Ext.rfl' W0).dr).cellE Q9.out) fun hh2 => ?_; clear hK K hHeld; have hHeld := hh2; clear hh2
   try simp only [Act.put, pu]
   refine rd1 10 rfl fun K hK => ?_
   go_simp
   refine (s_traded _ k _ (by omega)).mono ?_
   rintro e D1x ⟨y1, rfl, rfl⟩
   try go_wp2_with fail
   refine hK.out _ _ (by exact ((Ext.rfl' W0).dr).cellE Q9.out) fun hh2 => ?_; clear hK K hHeld; have hHeld := hh2; clear hh2
   try simp only [Act.put, pu]
   refine ty 11 ?_
   refine ty 12 ?_
   refine rd1 13 rfl fun K hK => ?_
   obtain ⟨g1, hgl, hgs⟩ := parts_st f3 i 1 y1 (by have := HL3.out; omega) (by omega)
   have SD1 := lh (Sep.ext SR.out ((Ext.rfl' W0).dr))
   have MD1 := lh (MR.out.dr)
   have OD := lh (OX.out.ext ((Ext.rfl' W0).dr))
   have HO := lh (show Own (World.setCell (World.drew W0) ⟨ga, i * 5 + 1, none⟩ (.int .i64 y1)) w.heap.size 73 5 (some ⟨ga, 0, none⟩) f.length c6 (parts g1) by rw [hgs]; exact OD.out.st (i * 5 + 1) _)
   have SE1 := lh (Sep.st SD1.out 1 rfl ⟨ga, i * 5 + 1, none⟩ (.int .i64 y1) rfl (Th.own w.heap.size 73 5 (some ⟨ga, 0, none⟩) f.length c6 (parts g1)) HO.out (fun _ e => e))
   have ME1 := lh (MD1.out.set (p := ⟨ga, i * 5 + 1, none⟩) (.inr lgw) (.int .i64 y1))
   have HG1 := lh hgl
   clear hgl hgs HO
   go_simp
   try simp only [pg]
   refine hK.out _ _ (by exact (Sep.get SE1.out 0 rfl : Bx _ _ _ ∧ _).1.cell (j := 0) rfl) fun hh2 => ?_; clear hK K hHeld; have hHeld := hh2; clear hh2
   try simp only [Act.put]
   refine dn ?_
   clear r9 f9 l9 lgw rd9 fd9 R9 Q9 q6 l6 OX OD SD1 MD1 hx1 SR MR hHeld
   have SE1 : Hid (Sep [Th.box w.heap.size b6 [.slice (some ⟨ga, 0, none⟩) f.length c6], Th.own w.heap.size 73 5 (some ⟨ga, 0, none⟩) f.length c6 (parts g1), Th.box w.heap.size (w.heap.size + 1) [.slice none 0 0], Th.box w.heap.size w.heap.size [.slice (some ⟨bp, op, none⟩) f.length c]] (World.drew (World.setCell W0 ⟨ga, i * 5 + 1, none⟩ (.int .i64 y1)))) := SE1
   have ME1 : Hid (Mod (fun b => b = R) w (World.drew (World.setCell W0 ⟨ga, i * 5 + 1, none⟩ (.int .i64 y1)))) := ME1
   generalize (World.drew (World.setCell W0 ⟨ga, i * 5 + 1, none⟩ (.int .i64 y1))) = W1 at *
   have yb : Bx W1 b6 [.slice (some ⟨ga, 0, none⟩) f.length c6] := (Sep.get SE1.out 0 rfl : Bx _ _ _ ∧ _).1
   have q6 := yb.cell (j := 0) rfl
   have l6 := yb.lt
   clear yb
   have OX := lh (show Own W1 w.heap.size 73 5 (some ⟨ga, 0, none⟩) f.length c6 (parts g1) from Sep.get SE1.out 1 rfl)
   obtain ⟨x2, hx2⟩ : ∃ x : Int, (parts g1)[i * 5 + 2]? = some (.int .i64 x) := by
    obtain ⟨bq, oq, pp, hA, hpp, -⟩ := (show Own W1 w.heap.size 73 5 (some ⟨ga, 0, none⟩) f.length c6 (parts g1) from OX.out).rd.atP hlt
    exact parts_cell hpp 2 (by omega)
   have r9 := OX.out.cell hx2
   have f9 := OX.out.free (i * 5 + 2)
   have l9 := (OX.out.lt (g := ga) rfl).2
   have lgw := (OX.out.lt (g := ga) rfl).1
   go_upto_region 12 with fail
   have R9 := lh r9
   have Q9 := lh q6
   have rd9 := ((Ext.rfl' W1).dr).cellE r9
   have fd9 : World.frozen? (World.drew W1) ⟨ga, i * 5 + 2, none⟩ = false := f9
   refine wp_region_held_drew (S := (fun W => W.cell? ⟨b6, 0, none⟩ = some (.slice (some ⟨ga, 0, none⟩) f.length c6))) (by kernel_rfl) ?_ (fun hHeld => ?_)
   ·exact ((Ext.rfl' W1).dr).cellE q6
   refine ty 0 ?_
   refine ty 1 ?_
   refine ty 2 ?_
   refine ty 3 ?_
   refine ty 4 ?_
   refine ty 5 ?_
   refine ty 6 ?_
   refine ty 7 ?_
   refine ty 9 ?_
   refine rd1 8 rfl fun K hK => ?_
   go_simp
   refine hK.out _ _ (by exact ((Ext.rfl' W1).dr).cellE Q9.out) fun hh2 => ?_; clear hK K hHeld; have hHeld := hh2; clear hh2
   try simp only [Act.put, pu]
   refine rd1 10 rfl fun K hK => ?_
   go_simp
   refine (s_traded _ k _ (by omega)).mono ?_
   rintro e D2x ⟨y2, rfl, rfl⟩
   try go_wp2_with fail
   refine hK.out _ _ (by exact ((Ext.rfl' W1).dr).cellE Q9.out) fun hh2 => ?_; clear hK K hHeld; have hHeld := hh2; clear hh2
   try simp only [Act.put, pu]
   refine ty 11 ?_
   refine ty 12 ?_
   refine rd1 13 rfl fun K hK => ?_
   obtain ⟨g2, hgl, hgs⟩ := parts_st g1 i 2 y2 (by have := HL3.out; have := HG1.out; omega) (by omega)
   have SD2 := lh (Sep.ext SE1.out ((Ext.rfl' W1).dr))
   have MD2 := lh (ME1.out.dr)
   have OD := lh (OX.out.ext ((Ext.rfl' W1).dr))
   have HO := lh (show Own (World.setCell (World.drew W1) ⟨ga, i * 5 + 2, none⟩ (.int .i64 y2)) w.heap.size 73 5 (some ⟨ga, 0, none⟩) f.length c6 (parts g2) by rw [hgs]; exact OD.out.st (i * 5 + 2) _)
   have SE2 := lh (Sep.st SD2.out 1 rfl ⟨ga, i * 5 + 2, none⟩ (.int .i64 y2) rfl (Th.own w.heap.size 73 5 (some ⟨ga, 0, none⟩) f.length c6 (parts g2)) HO.out (fun _ e => e))
   have ME2 := lh (MD2.out.set (p := ⟨ga, i * 5 + 2, none⟩) (.inr lgw) (.int .i64 y2))
   have HG2 := lh hgl
   clear hgl hgs HO
   go_simp
   try simp only [pg]
   refine hK.out _ _ (by exact (Sep.get SE2.out 0 rfl : Bx _ _ _ ∧ _).1.cell (j := 0) rfl) fun hh2 => ?_; clear hK K hHeld; have hHeld := hh2; clear hh2
   try simp only [Act.put]
   refine dn ?_
   clear r9 f9 l9 lgw rd9 fd9 R9 Q9 q6 l6 OX OD SD2 MD2 hx2 SE1 ME1 hHeld
   have SE2 : Hid (Sep [Th.box w.heap.size b6 [.slice (some ⟨ga, 0, none⟩) f.length c6], Th.own w.heap.size 73 5 (some ⟨ga, 0, none⟩) f.length c6 (parts g2), Th.box w.heap.size (w.heap.size + 1) [.slice none 0 0], Th.box w.heap.size w.heap.size [.slice (some ⟨bp, op, none⟩) f.length c]] (World.drew (World.setCell W1 ⟨ga, i * 5 + 2, none⟩ (.int .i64 y2)))) := SE2
   have ME2 : Hid (Mod (fun b => b = R) w (World.drew (World.setCell W1 ⟨ga, i * 5 + 2, none⟩ (.int .i64 y2)))) := ME2
   generalize (World.drew (World.setCell W1 ⟨ga, i * 5 + 2, none⟩ (.int .i64 y2))) = W2 at *
   have yb : Bx W2 b6 [.slice (some ⟨ga, 0, none⟩) f.length c6] := (Sep.get SE2.out 0 rfl : Bx _ _ _ ∧ _).1
   have q6 := yb.cell (j := 0) rfl
   have l6 := yb.lt
   clear yb
   have OX := lh (show Own W2 w.heap.size 73 5 (some ⟨ga, 0, none⟩) f.length c6 (parts g2) from Sep.get SE2.out 1 rfl)
   obtain ⟨x3, hx3⟩ : ∃ x : Int, (parts g2)[i * 5 + 3]? = some (.int .i64 x) := by
    obtain ⟨bq, oq, pp, hA, hpp, -⟩ := (show Own W2 w.heap.size 73 5 (some ⟨ga, 0, none⟩) f.length c6 (parts g2) from OX.out).rd.atP hlt
    exact parts_cell hpp 3 (by omega)
   have r9 := OX.out.cell hx3
   have f9 := OX.out.free (i * 5 + 3)
   have l9 := (OX.out.lt (g := ga) rfl).2
   have lgw := (OX.out.lt (g := ga) rfl).1
   go_upto_region 13 with fail
   have R9 := lh r9
   have Q9 := lh q6
   have rd9 := ((Ext.rfl' W2).dr).cellE r9
   have fd9 : World.frozen? (World.drew W2) ⟨ga, i * 5 + 3, none⟩ = false := f9
   refine wp_region_held_drew (S := (fun W => W.cell? ⟨b6, 0, none⟩ = some (.slice (some ⟨ga, 0, none⟩) f.length c6))) (by kernel_rfl) ?_ (fun hHeld => ?_)
   ·exact ((Ext.rfl' W2).dr).cellE q6
   refine ty 0 ?_
   refine ty 1 ?_
   refine ty 2 ?_
   refine ty 3 ?_
   refine ty 4 ?_
   refine ty 5 ?_
   refine ty 6 ?_
   refine ty 7 ?_
   refine ty 9 ?_
   refine rd1 8 rfl fun K hK => ?_
   go_simp
   refine hK.out _ _ (by exact ((Ext.rfl' W2).dr).cellE Q9.out) fun hh2 => ?_; clear hK K hHeld; have hHeld := hh2; clear hh2
   try simp only [Act.put, pu]
   refine rd1 10 rfl fun K hK => ?_
   go_simp
   refine (s_traded _ k _ (by omega)).mono ?_
   rintro e D3x ⟨y3, rfl, rfl⟩
   try go_wp2_with fail
   refine hK.out _ _ (by exact ((Ext.rfl' W2).dr).cellE Q9.out) fun hh2 => ?_; clear hK K hHeld; have hHeld := hh2; clear hh2
   try simp only [Act.put, pu]
   refine ty 11 ?_
   refine ty 12 ?_
   refine rd1 13 rfl fun K hK => ?_
   obtain ⟨g3, hgl, hgs⟩ := parts_st g2 i 3 y3 (by have := HL3.out; have := HG1.out; have := HG2.out; omega) (by omega)
   have SD3 := lh (Sep.ext SE2.out ((Ext.rfl' W2).dr))
   have MD3 := lh (ME2.out.dr)
   have OD := lh (OX.out.ext ((Ext.rfl' W2).dr))
   have HO := lh (show Own (World.setCell (World.drew W2) ⟨ga, i * 5 + 3, none⟩ (.int .i64 y3)) w.heap.size 73 5 (some ⟨ga, 0, none⟩) f.length c6 (parts g3) by rw [hgs]; exact OD.out.st (i * 5 + 3) _)
   have SE3 := lh (Sep.st SD3.out 1 rfl ⟨ga, i * 5 + 3, none⟩ (.int .i64 y3) rfl (Th.own w.heap.size 73 5 (some ⟨ga, 0, none⟩) f.length c6 (parts g3)) HO.out (fun _ e => e))
   have ME3 := lh (MD3.out.set (p := ⟨ga, i * 5 + 3, none⟩) (.inr lgw) (.int .i64 y3))
   have HG3 := lh hgl
   clear hgl hgs HO
   go_simp
   try simp only [pg]
   refine hK.out _ _ (by exact (Sep.get SE3.out 0 rfl : Bx _ _ _ ∧ _).1.cell (j := 0) rfl) fun hh2 => ?_; clear hK K hHeld; have hHeld := hh2; clear hh2
   try simp only [Act.put]
   refine dn ?_
   clear r9 f9 l9 lgw rd9 fd9 R9 Q9 q6 l6 OX OD SD3 MD3 hx3 SE2 ME2 hHeld
   go_wp2_with fail
   go_roundw
   case rel => exact ⟨i + 1, g3, by omega, by go_num, lh (by have := HL3.out; have := HG1.out; have := HG2.out; have := HG3.out; omega), ME3, SE3⟩
   case measure => simp [intOf]; omega
  ·obtain rfl : i = f.length := by omega
   have yr : Bx wr (w.heap.size + 1) [.slice none 0 0] := (Sep.get SR.out 2 rfl : Bx _ _ _ ∧ _).1
   have x2 := yr.cell (j := 0) rfl
   have g2 := yr.free 0
   have lr := yr.lt
   have YR := lh yr
   clear yr
   go_wp2
   have s0 := (YR.out.set 0 (.slice (some ⟨ga, 0, none⟩) f.length c6)).cell (j := 0) rfl
   refine bodyPost_ret (v := .agg #[.slice (some ⟨ga, 0, none⟩) f.length c6]) (by simp [results, Tryd.results38, go_sem, s0]; try rfl) rfl ?_
   have SF := Sep.st SR.out 2 rfl ⟨w.heap.size + 1, 0, none⟩ (.slice (some ⟨ga, 0, none⟩) f.length c6) rfl (Th.box w.heap.size (w.heap.size + 1) [.slice (some ⟨ga, 0, none⟩) f.length c6]) ⟨YR.out.set 0 _, by omega⟩ (fun _ e => e)
   exact ⟨f3, some ⟨ga, 0, none⟩, c6, by rw [HL3.out], by rw [HL3.out]; exact hl, by rw [HL3.out]; exact (show Own _ w.heap.size 73 5 (some ⟨ga, 0, none⟩) f.length c6 (parts f3) from Sep.get SF 1 rfl).rd, MR.out.set (p := ⟨w.heap.size + 1, 0, none⟩) (.inr (by simp)) _, fun b hb => .inr ((show Own _ w.heap.size 73 5 (some ⟨ga, 0, none⟩) f.length c6 (parts f3) from Sep.get SF 1 rfl).lt hb).1⟩
end Go.Proofs.YtdnlpklmihoapaaDoor
