/- The reference's small functions: contracts. Conditions: bounds on lengths. -/
import Derived.Test.YtkkegmimofmhpaaBase
namespace Go.Proofs.Ytkkegmimofmhpaa
open Go.RowKit

theorem s_inRange (n lo hi : Int) (w : World) : Calls Try.prog 92 #[.int .i64 n, .int .i64 lo, .int .i64 hi] w fun e w' => e = .returned (.bool (Sg.inR n lo hi)) ∧ w = w' := by
  by_cases h1 : lo ≤ n
  · by_cases h2 : n ≤ hi
    · go_enter Try.func92, Try.ntmps92
      go_wp2
      go_ret
      exact ⟨ret_bool (by simp [Sg.inR, h1, h2]), rfl⟩
    · go_enter Try.func92, Try.ntmps92
      go_wp2
      go_ret
      exact ⟨ret_bool (by simp [Sg.inR, h2]), rfl⟩
  · go_enter Try.func92, Try.ntmps92
    go_wp2
    go_ret
    exact ⟨ret_bool (by simp [Sg.inR]; omega), rfl⟩

def placeFrom (n : Int) : Nat → List Int → Int
  | _, [] => -1
  | k, x :: l => if x = n then k else placeFrom n (k + 1) l
def placeIn (l : List Int) (n : Int) : Int := placeFrom n 0 l
theorem placeFrom_neg (n : Int) (l : List Int) (k : Nat) : placeFrom n k l < 0 ↔ n ∉ l := by
  induction l generalizing k with
  | nil => simp [placeFrom]
  | cons x l ih =>
    simp only [placeFrom]
    by_cases h : x = n
    · simp [h]
    · rw [if_neg h, ih]; simp; exact fun _ => fun e => h e.symm
theorem placeIn_neg (l : List Int) (n : Int) : placeIn l n < 0 ↔ n ∉ l := placeFrom_neg n l 0

theorem s_placeIn (A : Option Addr) (len c : Nat) (l : List Int) (n : Int) (w : World) (h : Rd w 1 A len (ints l)) :
    Calls Try.prog 129 #[.slice A len c, .int .i64 n] w fun e w' => e = .returned (.int .i64 (placeIn l n)) ∧ w = w' := by
  have hm := h.big
  obtain rfl := h.len
  go_enter Try.func129, Try.ntmps129
  go_wp2
  go_loop [5] (fun i => ∃ k : Nat, k ≤ l.length ∧ i = .int .i64 k ∧ placeFrom n k (l.drop k) = placeIn l n) (fun i => l.length - (intOf i).toNat)
  case atStart => exact ⟨0, Nat.zero_le _, rfl, rfl⟩
  case round =>
    obtain ⟨k, hk, rfl, hpl⟩ := hrel
    by_cases hlt : k < l.length
    · obtain ⟨b, o, x, rfl, hx, hc⟩ := h.at1 hlt
      rw [drop_cons l k hx, placeFrom] at hpl
      have H := Lib.hid hpl
      clear hpl hx
      go_wp2
      · have hn : x = n := by simpa using ‹(x == n) = true›
        go_ret
        exact ⟨ret_int (by rw [← H.out, if_pos hn]), rfl⟩
      · have hn : ¬ x = n := by simpa using ‹(x == n) = false›
        go_round
        case rel => exact ⟨k + 1, by omega, by go_num, by rw [← H.out, if_neg hn]⟩
        case measure => simp [intOf]; omega
    · have H := Lib.hid hpl
      clear hpl
      go_wp2
      go_ret
      exact ⟨ret_int (by rw [← H.out, List.drop_eq_nil_of_le (by omega)]; rfl), rfl⟩

theorem s_copyInts (A : Option Addr) (len c : Nat) (l : List Int) (w : World) (h : Rd w 1 A len (ints l)) (hb : len ≤ 4194304) :
    Calls Try.prog 161 #[.slice A len c] w fun e w' => ∃ A' c', e = .returned (.slice A' len c') ∧ Own w' w.heap.size 3 1 A' len c' (ints l) ∧ Ext w w' := by
  have hs := (h.ext ((Ext.rfl' w).al (.cells #[] 3)))
  go_enter Try.func161, Try.ntmps161
  go_wp2_with (at_builtin; refine wpList_appR rfl rfl eiInt rfl (Own.new w 3 1 #[] 0 (Nat.le_refl _) (by unfold maxLen; omega) rfl) rfl hs (one_ints l) (by unfold maxLen; omega) (by omega) (by simp) ?_; intro A2 c2 w2 hown2 hg2 hat2)
  go_ret
  exact ⟨A2, c2, by simp, by simpa using hown2, ((Ext.rfl' w).al _).gr hg2 (by simp [blk])⟩

theorem s_allIn (A : Option Addr) (len c : Nat) (l : List Int) (lo hi : Int) (w : World) (h : Rd w 1 A len (ints l)) :
    Calls Try.prog 143 #[.slice A len c, .int .i64 lo, .int .i64 hi] w fun e w' => e = .returned (.bool (l.all fun x => Sg.inR x lo hi)) ∧ w = w' := by
  have hm := h.big
  obtain rfl := h.len
  go_enter Try.func143, Try.ntmps143
  go_wp2
  go_loop [7] (fun i => ∃ k : Nat, k ≤ l.length ∧ i = .int .i64 k ∧ ((l.drop k).all fun x => Sg.inR x lo hi) = (l.all fun x => Sg.inR x lo hi)) (fun i => l.length - (intOf i).toNat)
  case atStart => exact ⟨0, Nat.zero_le _, rfl, rfl⟩
  case round =>
    obtain ⟨k, hk, rfl, hpl⟩ := hrel
    by_cases hlt : k < l.length
    · obtain ⟨b, o, x, rfl, hx, hc⟩ := h.at1 hlt
      rw [drop_cons l k hx, List.all_cons] at hpl
      have H := Lib.hid hpl
      clear hpl hx
      cases hr : Sg.inR x lo hi
      · have Hr := Lib.hid hr
        clear hr
        go_wp2_with (go_at_call 92; refine (s_inRange _ _ _ _).mono ?_; rintro e w' ⟨rfl, rfl⟩; rw [Hr.out])
        go_ret
        exact ⟨ret_bool (by rw [← H.out, Hr.out]; rfl), rfl⟩
      · have Hr := Lib.hid hr
        clear hr
        go_wp2_with (go_at_call 92; refine (s_inRange _ _ _ _).mono ?_; rintro e w' ⟨rfl, rfl⟩; rw [Hr.out])
        go_round
        case rel => exact ⟨k + 1, by omega, by go_num, by rw [← H.out, Hr.out, Bool.true_and]⟩
        case measure => simp [intOf]; omega
    · have H := Lib.hid hpl
      clear hpl
      go_wp2
      go_ret
      exact ⟨ret_bool (by rw [← H.out, List.drop_eq_nil_of_le (by omega)]; rfl), rfl⟩

def FO (l : List Int) (k : Nat) : List Int := Sg.firstOnly (l.take k)
theorem FO_succ (l : List Int) (k : Nat) {x : Int} (h : l[k]? = some x) : FO l (k + 1) = if placeIn (FO l k) x < 0 then FO l k ++ [x] else FO l k := by
  unfold FO Sg.firstOnly
  rw [take_snoc l k h, List.foldl_append]
  simp only [List.foldl_cons, List.foldl_nil, Sg.once, placeIn_neg]
  split <;> rename_i h1 <;> simp_all
theorem once_len (out : List Int) (x : Int) : (Sg.once out x).length ≤ out.length + 1 := by
  unfold Sg.once; split <;> simp
theorem foldl_once_len (l out : List Int) : (l.foldl Sg.once out).length ≤ out.length + l.length := by
  induction l generalizing out with
  | nil => simp
  | cons x l ih => have := ih (Sg.once out x); have := once_len out x; simp; omega
theorem firstOnly_len (l : List Int) : (Sg.firstOnly l).length ≤ l.length := by have := foldl_once_len l []; unfold Sg.firstOnly; simpa using this
theorem FO_len (l : List Int) (k : Nat) : (FO l k).length ≤ k := by
  have := firstOnly_len (l.take k); simp at this; unfold FO; omega
theorem FO_all (l : List Int) (k : Nat) (h : l.length ≤ k) : FO l k = Sg.firstOnly l := by unfold FO; rw [List.take_of_length_le h]

set_option maxHeartbeats 400000 in
theorem s_firstOnly (A : Option Addr) (len c : Nat) (l : List Int) (w : World) (h : Rd w 1 A len (ints l)) (hb : len ≤ 4194304) :
    Calls Try.prog 179 #[.slice A len c] w fun e w' => ∃ A' c', e = .returned (.slice A' (Sg.firstOnly l).length c') ∧ Own w' w.heap.size 3 1 A' (Sg.firstOnly l).length c' (ints (Sg.firstOnly l)) ∧ Ext w w' := by
  obtain rfl := h.len
  go_enter Try.func179, Try.ntmps179
  go_wp2
  go_loopw [3, 4] (fun v i wr => ∃ (k : Nat) (A' : Option Addr) (c' : Nat), k ≤ l.length ∧ i = .int .i64 k ∧ v = .slice A' (FO l k).length c' ∧ Own wr w.heap.size 3 1 A' (FO l k).length c' (ints (FO l k)) ∧ Ext w wr) (fun _ i _ => l.length - (intOf i).toNat)
  case atStart => exact ⟨0, _, _, Nat.zero_le _, rfl, rfl, Own.new w 3 1 #[] 0 (Nat.le_refl _) (by unfold maxLen; omega) rfl, (Ext.rfl' w).al _⟩
  case round =>
    obtain ⟨k, A', c', hk, rfl, rfl, hown, hext⟩ := hrel
    by_cases hlt : k < l.length
    · obtain ⟨b, o, x, rfl, hx, hc⟩ := (h.ext hext).at1 hlt
      have hfl := FO_len l k
      have H := Lib.hid (FO_succ l k hx)
      clear hx
      go_wp2_with (first
        | (go_at_call 129; refine (s_placeIn _ _ _ _ _ _ hown.rd).mono ?_; rintro e w' ⟨rfl, rfl⟩)
        | (at_builtin; refine wpList_app1 rfl rfl eiInt rfl hown rfl rfl (one_int _ _) (by omega) (by omega) hext.size ?_; intro A2 c2 w2 hown2 hg2 hat2))
      · have h1 : placeIn (FO l k) x < 0 := by assumption
        have e1 := H.out
        rw [if_pos h1] at e1
        go_roundw
        case rel => exact ⟨k + 1, A2, c2, by omega, by go_num, by rw [e1]; simp, by rw [e1]; simpa using hown2, hext.gr hg2 fun g hg => (hown.lt hg).1⟩
        case measure => simp [intOf]; omega
      · have h1 : ¬ placeIn (FO l k) x < 0 := by
          have : 0 ≤ placeIn (FO l k) x := by assumption
          omega
        have e1 := H.out
        rw [if_neg h1] at e1
        go_roundw
        case rel => exact ⟨k + 1, _, c', by omega, by go_num, by rw [e1], by rw [e1]; exact hown, hext⟩
        case measure => simp [intOf]; omega
    · have H := Lib.hid (FO_all l k (by omega))
      go_wp2
      go_ret
      exact ⟨A', c', ret_slice (by rw [H.out]), by rw [← H.out]; exact hown, hext⟩
end Go.Proofs.Ytkkegmimofmhpaa
