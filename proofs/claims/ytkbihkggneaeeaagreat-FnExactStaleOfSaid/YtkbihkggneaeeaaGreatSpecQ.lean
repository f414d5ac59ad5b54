/- The reference's missing: its contract. Conditions: bounds on lengths. -/
import Derived.Test.YtkbihkggneaeeaaGreatSpecO
import Derived.Test.YtkbihkggneaeeaaGreatModelL
namespace Go.Proofs.YtkbihkggneaeeaaGreat
open Go.RowKit

def MS (a b : List Int) (k : Nat) : List Int := Sg.missing (a.take k) b
theorem MS_succ (a b : List Int) (k : Nat) {x : Int} (h : a[k]? = some x) : MS a b (k + 1) = if x ∈ b then MS a b k else MS a b k ++ [x] := by
  unfold MS Sg.missing
  rw [take_snoc a k h, List.filter_append]
  by_cases hx : x ∈ b
  · rw [if_pos hx]; simp [hx]
  · rw [if_neg hx]; simp [hx]
theorem MS_len (a b : List Int) (k : Nat) : (MS a b k).length ≤ k := by
  unfold MS Sg.missing
  have h1 := List.length_filter_le (fun x => decide (x ∉ b)) (a.take k)
  have h2 : (a.take k).length ≤ k := by simp; omega
  omega

set_option maxHeartbeats 1000000 in
theorem s_missing (A B : Option Addr) (ca cb nb : Nat) (a b : List Int) (w : World) (h : Rd w 1 A a.length (ints a)) (k : Rd w 1 B nb (ints b)) (hb : a.length ≤ 4194304) :
    Calls Tryz.prog 157 #[.slice A a.length ca, .slice B nb cb] w fun e w' => ∃ A' c', e = .returned (.slice A' (Sg.missing a b).length c') ∧ Own w' w.heap.size 3 1 A' (Sg.missing a b).length c' (ints (Sg.missing a b)) ∧ Ext w w' := by
  have HN := Lib.hid (fun n => placeIn_neg b n)
  go_enter Tryz.func157, Tryz.ntmps157
  go_wp2
  go_loopw [5, 6] (fun v i wr => ∃ (n : Nat) (A' : Option Addr) (c' : Nat), n ≤ a.length ∧ i = .int .i64 n ∧ v = .slice A' (MS a b n).length c' ∧ Own wr w.heap.size 3 1 A' (MS a b n).length c' (ints (MS a b n)) ∧ Ext w wr) (fun _ i _ => a.length - (intOf i).toNat)
  case atStart => exact ⟨0, _, _, Nat.zero_le _, rfl, rfl, Own.new w 3 1 #[] 0 (Nat.le_refl _) (by unfold maxLen; omega) rfl, (Ext.rfl' w).al _⟩
  case round =>
    obtain ⟨n, A', c', hn, rfl, rfl, hown, hext⟩ := hrel
    have hdl := MS_len a b n
    by_cases hlt : n < a.length
    · obtain ⟨ba, oa, x, rfl, hx, hcx⟩ := (h.ext hext).at1 hlt
      have H := Lib.hid (MS_succ a b n hx)
      have HP := Lib.hid (s_placeIn B nb cb b x wr (k.ext hext))
      clear hx
      by_cases hxy : x ∈ b
      · have e1 := H.out
        rw [if_pos hxy] at e1
        have E1 := Lib.hid e1
        have hp : decide (placeIn b x < 0) = false := by have := (HN.out x).1; simp only [decide_eq_false_iff_not]; intro h0; exact this h0 hxy
        clear e1 H hxy
        go_wp2_with (go_at_call 106; refine HP.out.mono ?_; rintro e w' ⟨rfl, rfl⟩)
        go_roundw
        case rel => exact ⟨n + 1, A', c', by omega, by go_num, by rw [E1.out], by rw [E1.out]; exact hown, hext⟩
        case measure => simp [intOf]; omega
      · have e1 := H.out
        rw [if_neg hxy] at e1
        have E1 := Lib.hid e1
        have hp : decide (placeIn b x < 0) = true := by have := (HN.out x).2 hxy; simpa using this
        clear e1 H hxy
        go_wp2_with (first
          | (go_at_call 106; refine HP.out.mono ?_; rintro e w' ⟨rfl, rfl⟩)
          | (at_builtin; refine wpList_app1 rfl rfl eiInt rfl hown rfl rfl (one_int _ _) (by omega) (by omega) hext.size ?_; intro A2 c2 w2 hown2 hg2 hat2))
        go_roundw
        case rel => exact ⟨n + 1, A2, c2, by omega, by go_num, by rw [E1.out]; simp, by rw [E1.out]; simpa using hown2, hext.gr hg2 fun g hg => (hown.lt hg).1⟩
        case measure => simp [intOf]; omega
    · obtain rfl : n = a.length := by omega
      have e1 : MS a b a.length = Sg.missing a b := by unfold MS; rw [List.take_length]
      rw [e1] at hown ⊢
      go_wp2
      go_ret
      exact ⟨A', c', rfl, hown, hext⟩
end Go.Proofs.YtkbihkggneaeeaaGreat
