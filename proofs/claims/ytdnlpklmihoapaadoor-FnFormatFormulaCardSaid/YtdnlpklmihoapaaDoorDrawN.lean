/- The draws' of and mutate: contracts. Conditions: bounds on the number of draws and on lengths. -/
import Derived.Test.YtdnlpklmihoapaaDoorTy
import Derived.Test.YtdnlpklmihoapaaDoorDrawOne
import Derived.Test.YtdnlpklmihoapaaDoorTxA
import Derived.Test.YtdnlpklmihoapaaDoorReg
namespace Go.Proofs.YtdnlpklmihoapaaDoor
open Go.RowKit
def Ofed (R m : Nat) (l : List ByteArray) (w : World) (e : Ending) (w' : World) : Prop := ∃ x : ByteArray, e = .returned (.string x) ∧ x ∈ l ∧ Rdr w' R (m + 1) ∧ Mod (fun b => b = R) w w'
def Mutd (R m N : Nat) (w : World) (e : Ending) (w' : World) : Prop := ∃ x : ByteArray, e = .returned (.string x) ∧ x.size ≤ N ∧ Rdr w' R m ∧ Mod (fun b => b = R) w w'
theorem Rd.mod0s {w w' : World} {F : Nat → Prop} {A : Option Addr} {n : Nat} {l : List ByteArray} (h : Rd w 1 A n (strs l)) (hm : Mod F w w') (hF : ∀ b, blk A = some b → ¬ F b) : Rd w' 1 A n (strs l) := by
 obtain ⟨h1, h0, h2⟩ := h
 refine ⟨h1, h0, fun hp => ?_⟩
 obtain ⟨b, o, rfl, h3⟩ := h2 hp
 exact ⟨b, o, rfl, fun k u hu => hm.cellE (h3 k u hu) (hF b rfl)⟩
set_option maxHeartbeats 1000000 in
theorem s_of (R m : Nat) (A : Option Addr) (n c : Nat) (l : List ByteArray) (w : World) (h : Rdr w R m) (hl : Rd w 1 A n (strs l)) (hn : 0 < n) (hn2 : n ≤ 1000) (hoff : ∀ b, blk A = some b → b ≠ R) (hm : m ≤ 1000000) :
  Calls Tryd.prog 86 #[.pointer (some ⟨R, 0, none⟩), .slice A n c] w (Ofed R m l w) := by
 have HP := lh (s_pick R m (n : Int) w h hm (by omega) (by omega))
 have HL := lh hl
 have HO := lh hoff
 clear hl hoff
 go_enter Tryd.func86, Tryd.ntmps86
 go_wp2_with fail
 refine HP.out.mono ?_
 rintro e w1 ⟨x, rfl, h0, h1, hr, hm1⟩
 obtain ⟨j, rfl⟩ := Int.eq_ofNat_of_zero_le h0
 have hj : j < n := by omega
 have HL1 := lh (HL.out.mod0s hm1 (fun b hb e => HO.out b hb e))
 obtain ⟨b, o, y, rfl, hy, hc⟩ := HL1.out.atT hj
 have hb := blt hc
 have Hy := lh hy
 have Hr := lh hr
 have Hm := lh hm1
 clear hy hr hm1 h1 h0
 go_wp2
 go_ret
 exact ⟨y, rfl, List.mem_of_getElem? Hy.out, Hr.out, Hm.out⟩
theorem one_byte {l : List ByteArray} (h : l.all (fun b => b.size == 1) = true) {y : ByteArray} (hy : y ∈ l) : y.size = 1 := by
 have := List.all_eq_true.1 h y hy
 simpa using this
theorem rd_lit (w : World) (l : List ByteArray) (t : Nat) (h : l.length ≤ 1000) : Rd (World.alloc w (.cells (strs l).toArray t)) 1 (some ⟨w.heap.size, 0, none⟩) l.length (strs l) := by
 refine ⟨by simp, by unfold maxLen; omega, fun _ => ⟨_, _, rfl, fun k u hu => ?_⟩⟩
 simp [go_sem, hu]
set_option maxRecDepth 100000 in
set_option maxHeartbeats 4000000 in
theorem s_mutate (R m : Nat) (s : ByteArray) (w : World) (h : Rdr w R m) (hs : s.size ≤ 2000) (hm : m ≤ 900000) :
  Calls Tryd.prog 59 #[.pointer (some ⟨R, 0, none⟩), .string s] w (Mutd R (m + 3) (s.size + 1) w) := by
 have hRl := h.lt
 have HP := lh (s_pick R m ((s.size : Int) + 1) w h (by omega) (by omega) (by omega))
 have wsz : IntKind.i64.wrap ((s.size : Int) + 1) = (s.size : Int) + 1 := IntWalk.i64_in _ (by omega)
 clear h
 go_enter Tryd.func59, Tryd.ntmps59
 go_wp2_with fail
 refine HP.out.mono ?_
 rintro e w1 ⟨x, rfl, h0, h1, hr1, hm1⟩
 obtain ⟨k, rfl⟩ := Int.eq_ofNat_of_zero_le h0
 have hk : k ≤ s.size := by omega
 have HP2 := lh (s_pick R (m + 1) 5 w1 hr1 (by omega) (by omega) (by omega))
 have M1 := lh hm1
 have hRl1 := hr1.lt
 clear h0 h1 hr1 hm1 HP
 go_wp2_with fail
 refine HP2.out.mono ?_
 rintro e w2 ⟨y, rfl, y0, y1, hr2, hm2⟩
 have R2 := lh hr2
 have M2 := lh (M1.out.tr' hm2)
 have hRl2 := hr2.lt
 have hkx : (k : Int) ≤ (s.size : Int) := by omega
 have hk0 : (0 : Int) ≤ (k : Int) := by omega
 clear hr2 hm2 M1 HP2
 have HW := lh (show Calls Tryd.prog 59 #[.pointer (some ⟨R, 0, none⟩), .string s] w2 (fun _ _ => True) → True from fun _ => trivial)
 clear HW
 by_cases ha : y = 0 ∨ y = 1
 ·have ey : ((y == 0) = true) ∨ ((y == 0) = false ∧ (y == 1) = true) := by
   rcases ha with rfl | rfl
   ·exact .inl rfl
   ·exact .inr ⟨rfl, rfl⟩
  by_cases hlt : k < s.size
  ·have hkl : (k : Int) < (s.size : Int) := by omega
   have wk : IntKind.i64.wrap ((k : Int) + 1) = (k : Int) + 1 := IntWalk.i64_in _ (by omega)
   have hk1 : (k : Int) + 1 ≤ (s.size : Int) := by omega
   have hk10 : (0 : Int) ≤ (k : Int) + 1 := by omega
   clear ha
   rcases ey with ey | ⟨ey, ey2⟩
   ·go_upto_region 6 with fail
    refine zb 12 (fun W => True) ?_ (fun hHeld => ?_)
    ·exact trivial
    refine zy 0 ?_
    refine zy 1 ?_
    refine zy 2 ?_
    refine zy 3 ?_
    refine zy 7 ?_
    refine zy 8 ?_
    refine zy 9 ?_
    refine zy 10 ?_
    refine zr 4 rfl fun K hK => ?_
    go_simp
    try simp only [pg]
    refine hK.out _ _ (fun _ => trivial) (fun hh => ?_)
    have hHeld := hh (by decide)
    clear hK K hh
    try simp only [Act.put, pu]
    refine zr 5 rfl fun K hK => ?_
    go_simp
    refine (s_of R (m + 2) (some ⟨w2.heap.size, 0, none⟩) 7 7 [⟨#[48]⟩, ⟨#[49]⟩, ⟨#[32]⟩, ⟨#[114]⟩, ⟨#[100]⟩, ⟨#[10]⟩, ⟨#[57]⟩] _ ((R2.out.ext ((Ext.rfl' w2).dr)).ext ((Ext.rfl' w2.drew).al (.cells (strs [⟨#[48]⟩, ⟨#[49]⟩, ⟨#[32]⟩, ⟨#[114]⟩, ⟨#[100]⟩, ⟨#[10]⟩, ⟨#[57]⟩]).toArray 9))) (rd_lit w2.drew [⟨#[48]⟩, ⟨#[49]⟩, ⟨#[32]⟩, ⟨#[114]⟩, ⟨#[100]⟩, ⟨#[10]⟩, ⟨#[57]⟩] 9 (by simp)) (by omega) (by omega) (by intro b hb; simp [blk] at hb; omega) (by omega)).mono ?_
    rintro e w3 ⟨z, rfl, hz, hr3, hm3⟩
    have hz1 := one_byte rfl hz
    have R3 := lh hr3
    have M3 := lh ((M2.out.tr' (Mod.of (((Ext.rfl' w2).dr).al (.cells (strs [⟨#[48]⟩, ⟨#[49]⟩, ⟨#[32]⟩, ⟨#[114]⟩, ⟨#[100]⟩, ⟨#[10]⟩, ⟨#[57]⟩]).toArray 9)))).tr' hm3)
    have fs : ¬ (9223372036854775807 < k + 1) := by omega
    have fs2 : ¬ (9223372036854775807 < k + 1 + (s.size - (k + 1))) := by omega
    clear hz hr3 hm3
    try go_wp2_with fail
    refine hK.out _ _ (fun _ => trivial) (fun hh => ?_)
    have hHeld := hh (by decide)
    clear hK K hh
    try simp only [Act.put, pu]
    refine zy 6 ?_
    refine zy 11 ?_
    refine zr 12 rfl fun K hK => ?_
    go_simp
    refine hK.out _ _ (fun e => absurd rfl e) (fun hh => ?_)
    clear hK K hHeld hh
    try simp only [Act.put, pu]
    refine zn ?_
    go_wp2
    go_ret
    exact ⟨s.extract 0 k ++ z ++ s.extract (k + 1) s.size, rfl, by rw [ByteArray.size_append, ByteArray.size_append, ByteArray.size_extract, ByteArray.size_extract]; omega, R3.out, M3.out⟩
   ·go_upto_region 6 with fail
    refine zb 12 (fun W => True) ?_ (fun hHeld => ?_)
    ·exact trivial
    refine zy 0 ?_
    refine zy 1 ?_
    refine zy 2 ?_
    refine zy 3 ?_
    refine zy 7 ?_
    refine zy 8 ?_
    refine zy 9 ?_
    refine zy 10 ?_
    refine zr 4 rfl fun K hK => ?_
    go_simp
    try simp only [pg]
    refine hK.out _ _ (fun _ => trivial) (fun hh => ?_)
    have hHeld := hh (by decide)
    clear hK K hh
    try simp only [Act.put, pu]
    refine zr 5 rfl fun K hK => ?_
    go_simp
    refine (s_of R (m + 2) (some ⟨w2.heap.size, 0, none⟩) 7 7 [⟨#[48]⟩, ⟨#[49]⟩, ⟨#[32]⟩, ⟨#[114]⟩, ⟨#[100]⟩, ⟨#[10]⟩, ⟨#[57]⟩] _ ((R2.out.ext ((Ext.rfl' w2).dr)).ext ((Ext.rfl' w2.drew).al (.cells (strs [⟨#[48]⟩, ⟨#[49]⟩, ⟨#[32]⟩, ⟨#[114]⟩, ⟨#[100]⟩, ⟨#[10]⟩, ⟨#[57]⟩]).toArray 9))) (rd_lit w2.drew [⟨#[48]⟩, ⟨#[49]⟩, ⟨#[32]⟩, ⟨#[114]⟩, ⟨#[100]⟩, ⟨#[10]⟩, ⟨#[57]⟩] 9 (by simp)) (by omega) (by omega) (by intro b hb; simp [blk] at hb; omega) (by omega)).mono ?_
    rintro e w3 ⟨z, rfl, hz, hr3, hm3⟩
    have hz1 := one_byte rfl hz
    have R3 := lh hr3
    have M3 := lh ((M2.out.tr' (Mod.of (((Ext.rfl' w2).dr).al (.cells (strs [⟨#[48]⟩, ⟨#[49]⟩, ⟨#[32]⟩, ⟨#[114]⟩, ⟨#[100]⟩, ⟨#[10]⟩, ⟨#[57]⟩]).toArray 9)))).tr' hm3)
    have fs : ¬ (9223372036854775807 < k + 1) := by omega
    have fs2 : ¬ (9223372036854775807 < k + 1 + (s.size - (k + 1))) := by omega
    clear hz hr3 hm3
    try go_wp2_with fail
    refine hK.out _ _ (fun _ => trivial) (fun hh => ?_)
    have hHeld := hh (by decide)
    clear hK K hh
    try simp only [Act.put, pu]
    refine zy 6 ?_
    refine zy 11 ?_
    refine zr 12 rfl fun K hK => ?_
    go_simp
    refine hK.out _ _ (fun e => absurd rfl e) (fun hh => ?_)
    clear hK K hHeld hh
    try simp only [Act.put, pu]
    refine zn ?_
    go_wp2
    go_ret
    exact ⟨s.extract 0 k ++ z ++ s.extract (k + 1) s.size, rfl, by rw [ByteArray.size_append, ByteArray.size_append, ByteArray.size_extract, ByteArray.size_extract]; omega, R3.out, M3.out⟩
  ·have hkl : ¬ (k : Int) < (s.size : Int) := by omega
   clear ha
   rcases ey with ey | ⟨ey, ey2⟩
   all_goals
    go_wp2
    go_ret
    exact ⟨s, rfl, by omega, R2.out.more (by omega), M2.out⟩
 ·have e0 : (y == 0) = false := by rw [beq_eq_false_iff_ne]; omega
  have e1 : (y == 1) = false := by rw [beq_eq_false_iff_ne]; omega
  clear ha
  by_cases h2 : y = 2
  ·have e2 : (y == 2) = true := by simp [h2]
   clear h2
   go_wp2
   go_ret
   exact ⟨s.extract 0 k, rfl, by rw [ByteArray.size_extract]; omega, R2.out.more (by omega), M2.out⟩
  ·have e2 : (y == 2) = false := by rw [beq_eq_false_iff_ne]; exact h2
   by_cases h3 : y = 3
   ·have e3 : (y == 3) = true := by simp [h3]
    clear h2 h3
    have HOF := lh (s_of R (m + 2) (some ⟨w2.heap.size, 0, none⟩) 4 4 [⟨#[48]⟩, ⟨#[32]⟩, ⟨#[10]⟩, ⟨#[120]⟩] _ (R2.out.ext ((Ext.rfl' w2).al (.cells (strs [⟨#[48]⟩, ⟨#[32]⟩, ⟨#[10]⟩, ⟨#[120]⟩]).toArray 9))) (rd_lit w2 [⟨#[48]⟩, ⟨#[32]⟩, ⟨#[10]⟩, ⟨#[120]⟩] 9 (by simp)) (by omega) (by omega) (by intro b hb; simp [blk] at hb; omega) (by omega))
    go_wp2_with fail
    refine HOF.out.mono ?_
    rintro e w3 ⟨z, rfl, hz, hr3, hm3⟩
    have hz1 := one_byte rfl hz
    have R3 := lh hr3
    have M3 := lh ((M2.out.tr' (Mod.of ((Ext.rfl' w2).al (.cells (strs [⟨#[48]⟩, ⟨#[32]⟩, ⟨#[10]⟩, ⟨#[120]⟩]).toArray 9)))).tr' hm3)
    have fs : ¬ (s.size + z.size > 9223372036854775807) := by omega
    clear hz hr3 hm3 HOF
    go_wp2
    go_ret
    exact ⟨s ++ z, rfl, by rw [ByteArray.size_append]; omega, R3.out, M3.out⟩
   ·have e3 : (y == 3) = false := by rw [beq_eq_false_iff_ne]; exact h3
    clear h2 h3
    go_wp2
    go_ret
    exact ⟨s, rfl, by omega, R2.out.more (by omega), M2.out⟩
end Go.Proofs.YtdnlpklmihoapaaDoor
