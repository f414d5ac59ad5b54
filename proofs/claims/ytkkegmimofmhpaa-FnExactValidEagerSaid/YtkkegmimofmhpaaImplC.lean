/- The program's join, last, and Contains, Clip of lists: contracts. Conditions: values in 0..999 for join. -/
import Derived.Test.YtkkegmimofmhpaaImplA
import Derived.Test.YtkkegmimofmhpaaSpecA
import Derived.Test.YtkkegmimofmhpaaMod
namespace Go.Proofs.Ytkkegmimofmhpaa
open Go.RowKit

set_option maxHeartbeats 800000 in
theorem i_join (k x y : Int) (w : World) (hx : 0 ≤ x) (hx' : x ≤ 999) (hy : 0 ≤ y) (hy' : y ≤ 999) :
    Calls Try.prog 189 #[.int .i64 k, .int .i64 x, .int .i64 y] w fun e w' => e = .returned (.int .i64 (Sg.joined k x y)) ∧ w = w' := by
  have hxy : 0 ≤ x * y := Int.mul_nonneg hx hy
  have hxy' : x * y ≤ 999 * 999 := Int.mul_le_mul hx' hy' hy (by omega)
  have cases : k = 2 ∨ k = 3 ∨ k = 4 ∨ k = 5 ∨ k = 6 ∨ (k < 2 ∨ 6 < k) := by omega
  rcases cases with rfl | rfl | rfl | rfl | rfl | h
  all_goals
    go_enter Try.func189, Try.ntmps189
    go_wp2
    all_goals (go_ret; exact ⟨ret_int (by simp [Sg.joined] <;> omega), rfl⟩)

theorem i_last (A : Option Addr) (n c : Nat) (w : World) (h1 : 0 < n) (h2 : n ≤ 1048576) : Calls Try.prog 168 #[.agg #[.slice A n c]] w fun e w' => e = .returned (.int .i64 ((n : Int) - 1)) ∧ Ext w w' := by
  go_enter Try.func168, Try.ntmps168
  go_wp2
  go_ret
  exact ⟨rfl, (Ext.rfl' w).al _⟩

theorem i_Clip (A : Option Addr) (n c : Nat) (w : World) (h : n ≤ c) (_hm : c ≤ maxLen) : Calls Try.prog 128 #[.slice A n c] w fun e w' => e = .returned (.slice A n n) ∧ w = w' := by
  unfold maxLen at _hm
  go_enter Try.func128, Try.ntmps128
  go_wp2
  go_ret
  exact ⟨rfl, rfl⟩

theorem i_Index (A : Option Addr) (len c : Nat) (l : List Int) (n : Int) (w : World) (h : Rd w 1 A len (ints l)) :
    Calls Try.prog 164 #[.slice A len c, .int .i64 n] w fun e w' => e = .returned (.int .i64 (placeIn l n)) ∧ Ext w w' := by
  have hm := h.big
  obtain rfl := h.len
  go_enter Try.func164, Try.ntmps164
  go_wp2
  go_loop [8] (fun i => ∃ k : Nat, k ≤ l.length ∧ i = .int .i64 k ∧ placeFrom n k (l.drop k) = placeIn l n) (fun i => l.length - (intOf i).toNat)
  case atStart => exact ⟨0, Nat.zero_le _, rfl, rfl⟩
  case round =>
    obtain ⟨k, hk, rfl, hpl⟩ := hrel
    by_cases hlt : k < l.length
    · obtain ⟨b, o, x, rfl, hx, hc⟩ := h.at1 hlt
      rw [drop_cons l k hx, placeFrom] at hpl
      have H := Lib.hid hpl
      clear hpl hx
      by_cases hn : x = n
      · have b1 : (n == x) = true := by simp [hn]
        have Hn := Lib.hid hn
        clear hn
        go_wp2
        go_ret
        exact ⟨ret_int (by rw [← H.out, if_pos Hn.out]), Ext.rfl' _⟩
      · have b1 : (n == x) = false := by simp; exact fun e => hn e.symm
        have Hn := Lib.hid hn
        clear hn
        go_wp2
        go_round
        case rel => exact ⟨k + 1, by omega, by go_num, by rw [← H.out, if_neg Hn.out]⟩
        case measure => simp [intOf]; omega
    · have H := Lib.hid hpl
      clear hpl
      go_wp2
      go_ret
      exact ⟨ret_int (by rw [← H.out, List.drop_eq_nil_of_le (by omega)]; rfl), Ext.rfl' _⟩

theorem i_Contains (A : Option Addr) (len c : Nat) (l : List Int) (n : Int) (w : World) (h : Rd w 1 A len (ints l)) :
    Calls Try.prog 125 #[.slice A len c, .int .i64 n] w fun e w' => e = .returned (.bool (decide (n ∈ l))) ∧ Ext w w' := by
  have Hc := Lib.hid (i_Index A len c l n w h)
  have Hn := Lib.hid (placeIn_neg l n)
  go_enter Try.func125, Try.ntmps125
  go_wp2_with (go_at_call 164; refine Hc.out.mono ?_; rintro e w1 ⟨rfl, he1⟩)
  go_ret
  refine ⟨ret_bool ?_, he1⟩
  have := Hn.out
  rw [Bool.eq_iff_iff]
  simp only [decide_eq_true_eq]
  constructor
  · intro h0; exact Classical.byContradiction fun hn => by have := this.2 hn; omega
  · intro h0; exact Int.not_lt.1 fun hn => this.1 hn h0
end Go.Proofs.Ytkkegmimofmhpaa
