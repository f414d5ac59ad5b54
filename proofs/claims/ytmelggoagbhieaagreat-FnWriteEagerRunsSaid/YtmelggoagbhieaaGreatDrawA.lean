/- The draws' reader: newReader, pick, one: contracts. Conditions: bounds on the number of draws. -/
import Derived.Test.YtmelggoagbhieaaGreatSepAll
import Derived.Test.YtmelggoagbhieaaGreatImplThree
import Derived.Deep.QuietTactic
import Derived.BigQuiet
import Derived.IntWalk
import Derived.Laws.BitsLemmas
namespace Go.Proofs.YtmelggoagbhieaaGreat
open Go.RowKit

def u8s (l : List Int) : List Value := l.map (Value.int .u8)
@[simp] theorem length_u8s (l : List Int) : (u8s l).length = l.length := by simp [u8s]
theorem u8s_at (l : List Int) (k : Nat) : (u8s l)[k]? = (l[k]?).map (Value.int .u8) := by simp [u8s]
/-- the reader in block R, which has drawn at most m times -/
def Rdr (w : World) (R m : Nat) : Prop :=
  ∃ (A : Option Addr) (c : Nat) (l : List Int) (p : Nat), Bx w R [.slice A l.length c, .int .i64 (p : Int)] ∧ p ≤ m ∧ Rd w 1 A l.length (u8s l) ∧ l.length ≤ 2000 ∧ (∀ x ∈ l, 0 ≤ x ∧ x ≤ 255) ∧ (0 < l.length → ∀ b, blk A = some b → b < R)
theorem Rdr.more {w : World} {R m m' : Nat} (h : Rdr w R m) (hm : m ≤ m') : Rdr w R m' := by
  obtain ⟨A, c, l, p, h1, h2, h3⟩ := h
  exact ⟨A, c, l, p, h1, by omega, h3⟩
theorem Rdr.lt {w : World} {R m : Nat} (h : Rdr w R m) : R < w.heap.size := by
  obtain ⟨A, c, l, p, h1, h2, h3⟩ := h
  exact h1.lt
theorem Rdr.mod {F : Nat → Prop} {w w' : World} {R m : Nat} (h : Rdr w R m) (k : Mod F w w') (hF : ∀ b, F b → R < b) : Rdr w' R m := by
  obtain ⟨A, c, l, p, h1, h2, h3, h4, h5, h6⟩ := h
  exact ⟨A, c, l, p, h1.mod k (fun e => by have := hF _ e; omega), h2, h3.mod0 k (fun h0 b hb e => by have := hF b e; have := h6 (by omega) b hb; omega), h4, h5, h6⟩
theorem Rdr.ext {w w' : World} {R m : Nat} (h : Rdr w R m) (e : Ext w w') : Rdr w' R m := h.mod (Mod.of (F := fun _ => False) e) (fun _ => False.elim)

def Picked (R m : Nat) (n : Int) (w : World) (e : Ending) (w' : World) : Prop := ∃ x : Int, e = .returned (.int .i64 x) ∧ 0 ≤ x ∧ (x = 0 ∨ x < n) ∧ Rdr w' R (m + 1) ∧ Mod (fun b => b = R) w w'
theorem mod_small (a n : Int) (h0 : 0 ≤ a) (hn : 1 ≤ n) : 0 ≤ a.tmod n ∧ a.tmod n < n := by
  rw [Int.tmod_eq_emod_of_nonneg h0]
  exact ⟨Int.emod_nonneg _ (by omega), Int.emod_lt_of_pos _ (by omega)⟩

theorem xor_nn (a b : Int) (h0 : 0 ≤ a) (h1 : a < 4611686018427387904) (k0 : 0 ≤ b) (k1 : b < 4611686018427387904) : 0 ≤ bits .xor .i64 a b := by
  obtain ⟨a, rfl⟩ := Int.eq_ofNat_of_zero_le h0
  obtain ⟨b, rfl⟩ := Int.eq_ofNat_of_zero_le k0
  have ha : a < 2 ^ 62 := by omega
  have hb : b < 2 ^ 62 := by omega
  have ha' : a % 2 ^ IntKind.i64.bits = a := Nat.mod_eq_of_lt (by simp [IntKind.bits]; omega)
  have hb' : b % 2 ^ IntKind.i64.bits = b := Nat.mod_eq_of_lt (by simp [IntKind.bits]; omega)
  have hx : a ^^^ b < 2 ^ 62 := Nat.xor_lt_two_pow ha hb
  simp only [bits, BitVec.ofInt_natCast, BitVec.toNat_xor, BitVec.toNat_ofNat, ha', hb']
  rw [IntWalk.i64_in _ (by omega)]
  omega

set_option maxRecDepth 100000 in
set_option maxHeartbeats 4000000 in
theorem s_pick (R m : Nat) (n : Int) (w : World) (h : Rdr w R m) (hm : m ≤ 1000000) (hn : n ≤ 1000000) (hn0 : -1000000 ≤ n) :
    Calls Tryz.prog 138 #[.pointer (some ⟨R, 0, none⟩), .int .i64 n] w (Picked R m n w) := by
  obtain ⟨A, c, l, p, hB, hp, hl, hlen, hran, hlt⟩ := h
  have c0 := hB.cell (j := 0) rfl
  have c1 := hB.cell (j := 1) rfl
  have f1 := hB.free 1
  have bl := hB.lt
  have HB := Lib.hid hB
  have HL := Lib.hid hl
  have HR := Lib.hid hran
  have HLT := Lib.hid hlt
  have HRD := Lib.hid (show Rdr (w.setCell ⟨R, 1, none⟩ (.int .i64 ((p : Int) + 1))) R (m + 1) from ⟨A, c, l, p + 1, by have := hB.set 1 (.int .i64 ((p : Int) + 1)); simpa using this, by omega,
    hl.mod0 ((Mod.rfl' (fun b => b = R) w).set (p := ⟨R, 1, none⟩) (.inl rfl) (.int .i64 ((p : Int) + 1))) (fun h0 b hb e => by have h1 := hlt (by omega) b hb; have h2 : b = R := e; omega), hlen, hran, hlt⟩)
  have HMO := Lib.hid ((Mod.rfl' (fun b => b = R) w).set (p := ⟨R, 1, none⟩) (.inl rfl) (.int .i64 ((p : Int) + 1)))
  by_cases h1 : n < 1
  · clear hB hl hran hlt
    go_enter Tryz.func138, Tryz.ntmps138
    go_wp2
    go_ret
    exact ⟨0, rfl, by omega, .inl rfl, HRD.out, HMO.out⟩
  by_cases h2 : l.length = 0
  · have b2 : ((l.length : Int) == 0) = true := by simp [h2]
    have n1 : decide (n < 1) = false := by simp; omega
    clear hB hl hran hlt h2
    go_enter Tryz.func138, Tryz.ntmps138
    go_wp2
    go_ret
    exact ⟨0, rfl, by omega, .inl rfl, HRD.out, HMO.out⟩
  have b2 : ((l.length : Int) == 0) = false := by rw [beq_eq_false_iff_ne]; omega
  have n1 : decide (n < 1) = false := by simp; omega
  obtain ⟨b, o, rfl, hcl⟩ := hl.2.2 (by omega)
  have hbR : b < R := hlt (by omega) b rfl
  by_cases h3 : p < l.length
  · obtain ⟨x, hx⟩ : ∃ x, l[p]? = some x := ⟨_, List.getElem?_eq_getElem h3⟩
    have hxc := hcl p (.int .u8 x) (by rw [u8s_at, hx]; rfl)
    have hxr := hran x (List.mem_of_getElem? hx)
    have hxb := blt hxc
    have hmod := mod_small x n hxr.1 (by omega)
    have hne : n ≠ 0 := by omega
    have hne2 : (n == 0) = false := by rw [beq_eq_false_iff_ne]; omega
    clear hB hl hran hlt hx hcl h2
    go_enter Tryz.func138, Tryz.ntmps138
    go_wp2
    go_ret
    refine ⟨_, rfl, ?_, ?_, HRD.out, HMO.out⟩
    · exact Int.emod_nonneg _ hne
    · exact .inr (Int.emod_lt_of_pos _ (by omega))
  · have hq0 : 0 < l.length := by omega
    have hj1 : p % l.length < l.length := Nat.mod_lt _ hq0
    have hj2 : (p * 7 + 3) % l.length < l.length := Nat.mod_lt _ hq0
    obtain ⟨x, hx⟩ : ∃ x, l[p % l.length]? = some x := ⟨_, List.getElem?_eq_getElem hj1⟩
    obtain ⟨y, hy⟩ : ∃ y, l[(p * 7 + 3) % l.length]? = some y := ⟨_, List.getElem?_eq_getElem hj2⟩
    have hxc := hcl _ (.int .u8 x) (by rw [u8s_at, hx]; rfl)
    have hyc := hcl _ (.int .u8 y) (by rw [u8s_at, hy]; rfl)
    have hxr := hran x (List.mem_of_getElem? hx)
    have hyr := hran y (List.mem_of_getElem? hy)
    have hxb := blt hxc
    have t1 : (p : Int).tmod (l.length : Int) = ((p % l.length : Nat) : Int) := by rw [Int.tmod_eq_emod_of_nonneg (by omega)]; rfl
    have t2 : ((p : Int) * 7 + 3).tmod (l.length : Int) = (((p * 7 + 3) % l.length : Nat) : Int) := by rw [Int.tmod_eq_emod_of_nonneg (by omega)]; rfl
    generalize p % l.length = j1 at *
    generalize (p * 7 + 3) % l.length = j2 at *
    have w0 := IntWalk.i64_in ((p : Int) * 7) (by omega)
    have w1 := IntWalk.i64_in ((p : Int) * 7 + 3) (by omega)
    have w2 := IntWalk.i64_in (x * 131) (by omega)
    have w3 := IntWalk.i64_in (y * 1117) (by omega)
    have w4 := IntWalk.i64_in (x * 131 + y * 1117) (by omega)
    have w5 := IntWalk.i64_in ((p : Int) * 29) (by omega)
    have w6 := IntWalk.i64_in (x * 131 + y * 1117 + (p : Int) * 29) (by omega)
    have hne : n ≠ 0 := by omega
    have hne2 : (n == 0) = false := by rw [beq_eq_false_iff_ne]; omega
    have hlne : ((l.length : Int) == 0) = false := b2
    have hlt3 : ¬ (p : Int) < (l.length : Int) := by omega
    clear hB hl hran hlt hx hy hcl h2
    go_enter Tryz.func138, Tryz.ntmps138
    go_wp2
    go_quiet (fail)
    go_wp2
    go_ret
    have hdv : 0 ≤ (p : Int) / (l.length : Int) ∧ (p : Int) / (l.length : Int) ≤ p := ⟨Int.ediv_nonneg (by omega) (by omega), Int.ediv_le_self _ (by omega)⟩
    have q1 : wrap64 ((p : Int) / (l.length : Int)) = (p : Int) / (l.length : Int) := IntWalk.wrap64_in _ (by omega)
    rw [q1]
    generalize (p : Int) / (l.length : Int) = d at *
    have q2 : wrap64 (d * 53) = d * 53 := IntWalk.wrap64_in _ (by omega)
    rw [q2]
    have q3 : wrap64 (x * 131 + y * 1117 + (p : Int) * 29 + d * 53) = x * 131 + y * 1117 + (p : Int) * 29 + d * 53 := IntWalk.wrap64_in _ (by omega)
    rw [q3]
    generalize hY : x * 131 + y * 1117 + (p : Int) * 29 + d * 53 = Y at *
    have hY0 : 0 ≤ Y ∧ Y ≤ 1000000000 := by omega
    have q4 : Y.tdiv 64 = Y / 64 := Int.tdiv_eq_ediv_of_nonneg hY0.1
    rw [q4, IntWalk.wrap64_in (Y / 64) (by omega)]
    have hX := xor_nn Y (Y / 64) (by omega) (by omega) (by omega) (by omega)
    have hM := mod_small _ n hX (by omega)
    refine ⟨_, rfl, hM.1, .inr hM.2, HRD.out.ext ((Ext.rfl' _).drN _), HMO.out.tr' (Mod.of ((Ext.rfl' _).drN _))⟩
end Go.Proofs.YtmelggoagbhieaaGreat
