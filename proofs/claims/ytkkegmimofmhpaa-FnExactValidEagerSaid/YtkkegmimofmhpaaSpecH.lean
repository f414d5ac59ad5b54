/- The reference's differing and sameInts: contracts. Conditions: bounds on lengths. -/
import Derived.Test.YtkkegmimofmhpaaSpecA
import Derived.Test.YtkkegmimofmhpaaGraph
import Derived.Deep.QuietTactic
import Derived.BigQuiet
namespace Go.Proofs.Ytkkegmimofmhpaa
open Go.RowKit

def DF (a b : List Int) (k : Nat) : List Int := ((List.range k).filter fun i => a.getD i 0 != b.getD i 0).map Int.ofNat
theorem DF_succ (a b : List Int) (k : Nat) {x y : Int} (hx : a[k]? = some x) (hy : b[k]? = some y) : DF a b (k + 1) = if x = y then DF a b k else DF a b k ++ [(k : Int)] := by
  unfold DF
  rw [List.range_succ, List.filter_append, List.map_append]
  by_cases h : x = y
  · rw [if_pos h]; simp [hx, hy, h]
  · rw [if_neg h]; simp [hx, hy, h]
theorem DF_len (a b : List Int) (k : Nat) : (DF a b k).length ≤ k := by
  unfold DF
  have := List.length_filter_le (fun i => a.getD i 0 != b.getD i 0) (List.range k)
  simpa using this

set_option maxHeartbeats 1000000 in
theorem s_differing (A B : Option Addr) (ca cb nb : Nat) (a b : List Int) (w : World) (h : Rd w 1 A a.length (ints a)) (k : Rd w 1 B nb (ints b)) (hab : a.length ≤ nb) (hb : a.length ≤ 4194304) :
    Calls Try.prog 98 #[.slice A a.length ca, .slice B nb cb] w fun e w' => ∃ A' c', e = .returned (.slice A' (DF a b a.length).length c') ∧ Own w' w.heap.size 3 1 A' (DF a b a.length).length c' (ints (DF a b a.length)) ∧ Ext w w' := by
  go_enter Try.func98, Try.ntmps98
  go_wp2
  go_loopw [5, 6] (fun v i wr => ∃ (n : Nat) (A' : Option Addr) (c' : Nat), n ≤ a.length ∧ i = .int .i64 n ∧ v = .slice A' (DF a b n).length c' ∧ Own wr w.heap.size 3 1 A' (DF a b n).length c' (ints (DF a b n)) ∧ Ext w wr) (fun _ i _ => a.length - (intOf i).toNat)
  case atStart => exact ⟨0, _, _, Nat.zero_le _, rfl, rfl, Own.new w 3 1 #[] 0 (Nat.le_refl _) (by unfold maxLen; omega) rfl, (Ext.rfl' w).al _⟩
  case round =>
    obtain ⟨n, A', c', hn, rfl, rfl, hown, hext⟩ := hrel
    have hdl := DF_len a b n
    by_cases hlt : n < a.length
    · obtain ⟨ba, oa, x, rfl, hx, hcx⟩ := (h.ext hext).at1 hlt
      obtain ⟨bb, ob, y, rfl, hy, hcy⟩ := (k.ext hext).at1 (Nat.lt_of_lt_of_le hlt hab)
      have hlt2 : n < nb := Nat.lt_of_lt_of_le hlt hab
      have H := Lib.hid (DF_succ a b n hx hy)
      clear hx hy
      by_cases hxy : x = y
      · have e1 := H.out
        rw [if_pos hxy] at e1
        have E1 := Lib.hid e1
        have hb1 : (x != y) = false := by simp [hxy]
        clear e1 H hxy
        go_wp2
        go_quiet (fail)
        go_wp2
        go_roundw
        case rel => exact ⟨n + 1, A', c', by omega, by go_num, by rw [E1.out], by rw [E1.out]; exact hown.ext ((Ext.rfl' _).drN _), hext.drN _⟩
        case measure => simp [intOf]; omega
      · have e1 := H.out
        rw [if_neg hxy] at e1
        have E1 := Lib.hid e1
        have hb1 : (x != y) = true := by simp [hxy]
        clear e1 H hxy
        go_wp2
        go_quiet (fail)
        have hownD := hown.ext ((Ext.rfl' wr).drN nq)
        have hextD := hext.drN nq
        go_wp2_with (at_builtin; refine wpList_app1 rfl rfl eiInt rfl hownD rfl rfl (one_int _ _) (by omega) (by omega) hextD.size ?_; intro A2 c2 w2 hown2 hg2 hat2)
        go_roundw
        case rel => exact ⟨n + 1, A2, c2, by omega, by go_num, by rw [E1.out]; simp, by rw [E1.out]; simpa using hown2, hextD.gr hg2 fun g hg => (hown.lt hg).1⟩
        case measure => simp [intOf]; omega
    · obtain rfl : n = a.length := by omega
      go_wp2
      go_ret
      exact ⟨A', c', rfl, hown, hext⟩

theorem DF_nil (a b : List Int) (h : a.length = b.length) : (DF a b a.length).length = 0 ↔ a = b := by
  rw [List.length_eq_zero_iff]
  unfold DF
  rw [List.map_eq_nil_iff, List.filter_eq_nil_iff]
  constructor
  · intro hh
    refine List.ext_getElem h fun i h1 h2 => ?_
    have := hh i (by rw [List.mem_range]; exact h1)
    simpa [h1, h2] using this
  · rintro rfl i _
    simp

set_option maxHeartbeats 400000 in
theorem s_sameInts (A B : Option Addr) (ca cb : Nat) (a b : List Int) (w : World) (h : Rd w 1 A a.length (ints a)) (k : Rd w 1 B b.length (ints b)) (hb : a.length ≤ 4194304) :
    Calls Try.prog 145 #[.slice A a.length ca, .slice B b.length cb] w fun e w' => e = .returned (.bool (decide (a = b))) ∧ Ext w w' := by
  have hk := k.big
  by_cases hab : a.length = b.length
  · have h1 : ((a.length : Int) != (b.length : Int)) = false := by simp [hab]
    have HN := Lib.hid (DF_nil a b hab)
    have Hc := Lib.hid (s_differing A B ca cb b.length a b w h k (by omega) hb)
    have Hab := Lib.hid hab
    clear hab
    go_enter Try.func145, Try.ntmps145
    go_wp2_with (go_at_call 98; refine Hc.out.mono ?_; rintro e w1 ⟨A1, c1, rfl, ho1, he1⟩)
    go_ret
    refine ⟨ret_bool ?_, he1⟩
    have := HN.out
    rw [Bool.eq_iff_iff]
    simp [this]
  · have h1 : ((a.length : Int) != (b.length : Int)) = true := by simp; omega
    have hne : ¬ a = b := fun e => hab (by rw [e])
    have Hne := Lib.hid hne
    clear hab hne
    go_enter Try.func145, Try.ntmps145
    go_wp2
    go_ret
    exact ⟨ret_bool (by have := Hne.out; simp [this]), Ext.rfl' w⟩
end Go.Proofs.Ytkkegmimofmhpaa
