/- The reference's texts of numbers and parts: contracts. Conditions: small numbers. -/
import Derived.Test.YtdnlpklmihoapaaDoorTy
import Derived.Test.YtdnlpklmihoapaaDoorTxA
import Derived.Test.YtdnlpklmihoapaaDoorReg
import Derived.IntWalk
import Derived.Deep.DeepCutAuto
namespace Go.Proofs.YtdnlpklmihoapaaDoor
open Go.RowKit

theorem dig_cut {n : Nat} (h : n < 10) : ByteArray.extract ⟨#[48, 49, 50, 51, 52, 53, 54, 55, 56, 57]⟩ n (n + 1) = ts (Sg.numT n) := by
 rw [Sg.numT_small h]
 have : n = 0 ∨ n = 1 ∨ n = 2 ∨ n = 3 ∨ n = 4 ∨ n = 5 ∨ n = 6 ∨ n = 7 ∨ n = 8 ∨ n = 9 := by omega
 rcases this with rfl | rfl | rfl | rfl | rfl | rfl | rfl | rfl | rfl | rfl <;> rfl
theorem num_len {n : Nat} (h : n < 10000) : (Sg.numT n).length ≤ 4 := by
 by_cases h1 : n < 10
 ·rw [Sg.numT_small h1]; simp
 ·rw [Sg.numT_big h1]
  by_cases h2 : n / 10 < 10
  ·rw [Sg.numT_small h2]; simp
  ·rw [Sg.numT_big h2]
   by_cases h3 : n / 10 / 10 < 10
   ·rw [Sg.numT_small h3]; simp
   ·rw [Sg.numT_big h3, Sg.numT_small (by omega)]; simp
set_option maxRecDepth 100000 in
set_option maxHeartbeats 1000000 in
theorem s_number (n : Nat) (hn : n < 10000) (w : World) : Calls Tryd.prog 29 #[.int .i64 (n : Int)] w fun e w' => e = .returned (.string (ts (Sg.numT n))) ∧ w = w' := by
 induction n using Nat.strongRecOn generalizing w with
 | ind n ih =>
  have iw : IntKind.i64.wrap ((n : Int) + 1) = (n : Int) + 1 := IntWalk.i64_in _ (by omega)
  by_cases h : n < 10
  ·have hx : (n : Int) < 10 := by omega
   have hx2 : (n : Int) + 1 ≤ 10 := by omega
   have hc := dig_cut h
   have HC := lh hc
   have hsl := fun w => cutS ⟨#[48, 49, 50, 51, 52, 53, 54, 55, 56, 57]⟩ (n : Int) ((n : Int) + 1) (by omega) (by omega) (by show (n : Int) + 1 ≤ 10; omega) w
   rw [show ((n : Int) + 1).toNat = n + 1 by omega, Int.toNat_natCast, hc] at hsl
   clear ih hc
   go_enter Tryd.func29, Tryd.ntmps29
   go_wp2
   go_ret
   exact ⟨rfl, rfl⟩
  ·have hx : ¬ (n : Int) < 10 := by omega
   have hq : Int.tdiv (n : Int) 10 = ((n / 10 : Nat) : Int) := by rw [Int.tdiv_eq_ediv_of_nonneg (by omega)]; omega
   have hm : Int.tmod (n : Int) 10 = ((n % 10 : Nat) : Int) := by rw [Int.tmod_eq_emod_of_nonneg (by omega)]; omega
   have iq : IntKind.i64.wrap ((n / 10 : Nat) : Int) = ((n / 10 : Nat) : Int) := IntWalk.i64_in _ (by omega)
   have im : IntKind.i64.wrap ((n % 10 : Nat) : Int) = ((n % 10 : Nat) : Int) := IntWalk.i64_in _ (by omega)
   have hl1 := num_len (show n / 10 < 10000 by omega)
   have hl2 := num_len (show n % 10 < 10000 by omega)
   have I1 := lh (fun w => ih (n / 10) (by omega) (by omega) w)
   have I2 := lh (fun w => ih (n % 10) (by omega) (by omega) w)
   have HE : Hid (Sg.numT n = Sg.numT (n / 10) ++ Sg.numT (n % 10)) := lh (by rw [Sg.numT_big h, Sg.numT_small (n := n % 10) (by omega)])
   clear ih
   generalize n / 10 = p at *
   generalize n % 10 = q at *
   go_enter Tryd.func29, Tryd.ntmps29
   go_wp2_with fail
   refine (I1.out _).mono ?_
   rintro e w1 ⟨rfl, rfl⟩
   go_wp2_with fail
   refine (I2.out _).mono ?_
   rintro e w2 ⟨rfl, rfl⟩
   have hsz : ¬ ((ts (Sg.numT p)).size + (ts (Sg.numT q)).size > 9223372036854775807) := by rw [ts_size, ts_size]; omega
   go_wp2
   go_ret
   exact ⟨by rw [HE.out, ← ts_app]; rfl, rfl⟩

set_option maxRecDepth 100000 in
set_option maxHeartbeats 1000000 in
theorem s_partWords (w : World) : Calls Tryd.prog 90 #[] w fun e w' => ∃ b, e = .returned (.slice (some ⟨b, 0, none⟩) 9 9) ∧ (∀ k : Nat, 2 ≤ k → k ≤ 8 → w'.cell? ⟨b, k, none⟩ = some (.string (ts (Sg.wordK k)))) ∧ Ext w w' := by
 go_enter Tryd.func90, Tryd.ntmps90
 go_wp2
 go_ret
 refine ⟨_, rfl, fun k h2 h8 => ?_, (Ext.rfl' w).al _⟩
 have : k = 2 ∨ k = 3 ∨ k = 4 ∨ k = 5 ∨ k = 6 ∨ k = 7 ∨ k = 8 := by omega
 rcases this with rfl | rfl | rfl | rfl | rfl | rfl | rfl <;> simp [go_sem] <;> rfl
set_option maxRecDepth 100000 in
set_option maxHeartbeats 1000000 in
theorem s_showWord (k : Nat) (hk2 : 2 ≤ k) (hk8 : k ≤ 8) (a b c n : Int) (w : World) :
  Calls Tryd.prog 64 #[pv ⟨k, a, b, c, n⟩] w fun e w' => e = .returned (.string (ts (Sg.partT ⟨k, a, b, c, n⟩))) ∧ Ext w w' := by
 have HP := lh (Sg.partT_word (k := (k : Int)) (by omega) a b c n)
 have q0 : World.cell? (World.alloc w (.cells #[.int .i64 (k : Int), .int .i64 a, .int .i64 b, .int .i64 c, .int .i64 n] 73)) ⟨w.heap.size, 0, none⟩ = some (.int .i64 (k : Int)) := by simp [go_sem]
 have EB := lh ((Ext.rfl' w).al (.cells #[.int .i64 (k : Int), .int .i64 a, .int .i64 b, .int .i64 c, .int .i64 n] 73))
 have k0 : ((k : Int) == 0) = false := by simp; omega
 have k1 : ((k : Int) == 1) = false := by simp; omega
 have hk9 : (k : Int) < 9 := by omega
 go_enter Tryd.func64, Tryd.ntmps64
 go_upto_region 1 with fail
 generalize World.alloc w (.cells #[.int .i64 (k : Int), .int .i64 a, .int .i64 b, .int .i64 c, .int .i64 n] 73) = w0 at *
 have E0 := lh ((Ext.rfl' w0).dr)
 have bq0 := blt q0
 go_wp2_with fail
 refine zb 5 (fun W => W.cell? ⟨w.heap.size, 0, none⟩ = some (.int .i64 (k : Int))) ?_ (fun hHeld => ?_)
 ·exact E0.out.cellE q0
 refine zy 1 ?_
 refine zy 2 ?_
 refine zr 0 rfl fun K hK => ?_
 go_simp
 refine (s_partWords _).mono ?_
 rintro e v1 ⟨bw, rfl, hbw, he1⟩
 have E1 := lh (E0.out.tr he1)
 have c1 := hbw k hk2 hk8
 have bc1 := blt c1
 clear he1 hbw
 try go_wp2_with fail
 refine hK.out _ _ (fun _ => E1.out.cellE q0) (fun hh => ?_)
 have hHeld := hh (by decide)
 clear hK K hh
 try simp only [Act.put, pu]
 refine zy 3 ?_
 refine zr 4 rfl fun K hK => ?_
 go_simp
 try simp only [pg]
 refine hK.out _ _ (fun _ => E1.out.cellE q0) (fun hh => ?_)
 have hHeld := hh (by decide)
 clear hK K hh
 try simp only [Act.put, pu]
 refine zr 5 rfl fun K hK => ?_
 go_simp
 refine hK.out _ _ (fun e => absurd rfl e) (fun hh => ?_)
 clear hK K hHeld hh
 try simp only [Act.put, pu]
 refine zn ?_
 skip
 go_wp2
 go_ret
 exact ⟨by rw [HP.out]; rfl, EB.out.tr E1.out⟩
set_option maxRecDepth 100000 in
set_option maxHeartbeats 1000000 in
theorem s_showNum (k : Int) (hk : k = 0 ∨ k = 1) (a b c : Int) (n : Nat) (hn : n < 10000) (w : World) :
  Calls Tryd.prog 64 #[pv ⟨k, a, b, c, n⟩] w fun e w' => e = .returned (.string (ts (Sg.partT ⟨k, a, b, c, n⟩))) ∧ Ext w w' := by
 have hl := num_len hn
 have HN := lh (fun w => s_number n hn w)
 have EB := lh ((Ext.rfl' w).al (.cells #[.int .i64 k, .int .i64 a, .int .i64 b, .int .i64 c, .int .i64 (n : Int)] 73))
 have q0 : World.cell? (World.alloc w (.cells #[.int .i64 k, .int .i64 a, .int .i64 b, .int .i64 c, .int .i64 (n : Int)] 73)) ⟨w.heap.size, 0, none⟩ = some (.int .i64 k) := by simp [go_sem]
 have q4 : World.cell? (World.alloc w (.cells #[.int .i64 k, .int .i64 a, .int .i64 b, .int .i64 c, .int .i64 (n : Int)] 73)) ⟨w.heap.size, 4, none⟩ = some (.int .i64 (n : Int)) := by simp [go_sem]
 rcases hk with rfl | rfl
 ·have HP := lh (Sg.partT_num a b c n)
  go_enter Tryd.func64, Tryd.ntmps64
  go_upto_region 1 with fail
  generalize World.alloc w (.cells #[.int .i64 0, .int .i64 a, .int .i64 b, .int .i64 c, .int .i64 (n : Int)] 73) = w0 at *
  have bq0 := blt q0
  go_wp2_with fail
  refine (HN.out _).mono ?_
  rintro e w1 ⟨rfl, rfl⟩
  go_wp2
  go_ret
  exact ⟨by rw [HP.out]; rfl, EB.out⟩
 ·have HP := lh (Sg.partT_read a b c n)
  have hsz : ¬ (ByteArray.size ⟨#[114]⟩ + (ts (Sg.numT n)).size > 9223372036854775807) := by have e1 : ByteArray.size ⟨#[114]⟩ = 1 := rfl; have e2 := ts_size (Sg.numT n); omega
  go_enter Tryd.func64, Tryd.ntmps64
  go_upto_region 1 with fail
  generalize World.alloc w (.cells #[.int .i64 1, .int .i64 a, .int .i64 b, .int .i64 c, .int .i64 (n : Int)] 73) = w0 at *
  have bq0 := blt q0
  go_wp2_with fail
  refine (HN.out _).mono ?_
  rintro e w1 ⟨rfl, rfl⟩
  go_wp2
  go_ret
  exact ⟨by rw [HP.out]; rfl, EB.out⟩
/-- a part of a tree -/
theorem s_showPart (p : Sg.Part) (hk : (p.kind = 0 ∨ p.kind = 1) ∧ 0 ≤ p.n ∧ p.n ≤ 999 ∨ 2 ≤ p.kind ∧ p.kind ≤ 8) (w : World) :
  Calls Tryd.prog 64 #[pv p] w fun e w' => e = .returned (.string (ts (Sg.partT p))) ∧ Ext w w' := by
 obtain ⟨k, a, b, c, n⟩ := p
 rcases hk with ⟨hk, h0, h9⟩ | ⟨h2, h8⟩
 ·simp only at hk h0 h9
  obtain ⟨m, rfl⟩ := Int.eq_ofNat_of_zero_le h0
  exact s_showNum k hk a b c m (by omega) w
 ·simp only at h2 h8
  obtain ⟨m, rfl⟩ := Int.eq_ofNat_of_zero_le (show 0 ≤ k by omega)
  exact s_showWord m (by omega) (by omega) a b c n w
end Go.Proofs.YtdnlpklmihoapaaDoor
