/- The reference's functions on one part: contracts. Conditions: none. -/
import Derived.Test.YtkkegmimofmhpaaSpecB
namespace Go.Proofs.Ytkkegmimofmhpaa
open Go.RowKit

theorem arity_cases (k : Int) : (arity k = 0 ∧ (k = 0 ∨ k = 1)) ∨ (arity k = 2 ∧ 2 ≤ k ∧ k ≤ 7) ∨ (arity k = 3 ∧ k = 8) ∨ (arity k = -1 ∧ (k < 0 ∨ 8 < k)) := by
  unfold arity; split
  · left; omega
  · split
    · right; left; omega
    · split
      · right; right; left; omega
      · right; right; right; omega

set_option maxHeartbeats 800000 in
theorem s_below (p : Sg.Part) (w : World) : Calls Try.prog 171 #[pv p] w fun e w' => ∃ A' c', e = .returned (.slice A' (Sg.below p).length c') ∧ Own w' w.heap.size 3 1 A' (Sg.below p).length c' (ints (Sg.below p)) ∧ Ext w w' := by
  have finish : ∀ (l : List Int) (cs : List Value) (o : Obj), Sg.below p = l → cs = ints l → l.length ≤ 3 →
      Own ((w.alloc o).alloc (.cells cs.toArray 3)) w.heap.size 3 1 (some ⟨w.heap.size + 1, 0, none⟩) l.length l.length (ints l) ∧ Ext w ((w.alloc o).alloc (.cells cs.toArray 3)) := by
    rintro l cs o _ rfl hl
    refine ⟨?_, ((Ext.rfl' w).al _).al _⟩
    have := Own.new (w.alloc o) (B := w.heap.size) 3 1 (ints l).toArray l.length (by simp) (by unfold maxLen; omega) (by simp)
    simpa using this
  rcases arity_cases p.kind with ⟨h, hk⟩ | ⟨h, hk⟩ | ⟨h, hk⟩ | ⟨h, hk⟩
  all_goals
    have H := Lib.hid h
    have Hk := Lib.hid hk
    clear h hk
    go_enter Try.func171, Try.ntmps171
    go_wp2_with (go_at_call 190; refine (s_arity _ _).mono ?_; rintro e w' ⟨rfl, rfl⟩; rw [H.out])
    go_ret
    have hk := Hk.out
  · have hb : Sg.below p = [] := by unfold Sg.below; rw [if_neg (by omega), if_neg (by omega)]
    rw [hb]; exact ⟨_, _, rfl, finish [] [] _ hb rfl (by simp)⟩
  · have hb : Sg.below p = [p.a, p.b] := by unfold Sg.below; rw [if_neg (by omega), if_pos (by omega)]
    rw [hb]; exact ⟨_, _, rfl, finish [p.a, p.b] _ _ hb rfl (by simp)⟩
  · have hb : Sg.below p = [p.a, p.b, p.c] := by unfold Sg.below; rw [if_pos (by omega)]
    rw [hb]; exact ⟨_, _, rfl, finish [p.a, p.b, p.c] _ _ hb rfl (by simp)⟩
  · have hb : Sg.below p = [] := by unfold Sg.below; rw [if_neg (by omega), if_neg (by omega)]
    rw [hb]; exact ⟨_, _, rfl, finish [] [] _ hb rfl (by simp)⟩

theorem below0 {p : Sg.Part} (h : p.kind = 0 ∨ p.kind = 1) : Sg.below p = [] := by unfold Sg.below; rw [if_neg (by omega), if_neg (by omega)]
theorem below2 {p : Sg.Part} (h : 2 ≤ p.kind ∧ p.kind ≤ 7) : Sg.below p = [p.a, p.b] := by unfold Sg.below; rw [if_neg (by omega), if_pos (by omega)]
theorem below3 {p : Sg.Part} (h : p.kind = 8) : Sg.below p = [p.a, p.b, p.c] := by unfold Sg.below; rw [if_pos (by omega)]
theorem belowN {p : Sg.Part} (h : p.kind < 0 ∨ 8 < p.kind) : Sg.below p = [] := by unfold Sg.below; rw [if_neg (by omega), if_neg (by omega)]
theorem good0 {p : Sg.Part} (i : Nat) (h : p.kind = 0) : Sg.goodPart p i = (p.a == -1 && p.b == -1 && p.c == -1 && Sg.inR p.n 0 99) := by
  unfold Sg.goodPart Sg.alone; rw [below0 (.inl h), if_pos h]; simp only [List.all_nil, Bool.and_true]
  cases Sg.inR p.n 0 99 <;> simp
theorem good1 {p : Sg.Part} (i : Nat) (h : p.kind = 1) : Sg.goodPart p i = (p.a == -1 && p.b == -1 && p.c == -1 && Sg.inR p.n 0 9) := by
  unfold Sg.goodPart Sg.alone; rw [below0 (.inr h), if_neg (by omega), if_pos h]; simp only [List.all_nil, Bool.and_true]
  cases Sg.inR p.n 0 9 <;> simp
theorem good2 {p : Sg.Part} (i : Nat) (h : 2 ≤ p.kind ∧ p.kind ≤ 7) : Sg.goodPart p i = (Sg.inR p.a 0 ((i : Int) - 1) && Sg.inR p.b 0 ((i : Int) - 1) && p.c == -1 && p.n == 0) := by
  unfold Sg.goodPart Sg.alone; rw [below2 h, if_neg (by omega), if_neg (by omega), if_neg (by omega), if_pos h]; simp only [List.all_nil, List.all_cons, Bool.and_true]
  cases Sg.inR p.a 0 ((i : Int) - 1) <;> cases Sg.inR p.b 0 ((i : Int) - 1) <;> simp [Bool.and_comm]
theorem good3 {p : Sg.Part} (i : Nat) (h : p.kind = 8) : Sg.goodPart p i = (Sg.inR p.a 0 ((i : Int) - 1) && Sg.inR p.b 0 ((i : Int) - 1) && Sg.inR p.c 0 ((i : Int) - 1) && p.n == 0) := by
  unfold Sg.goodPart Sg.alone; rw [below3 h, if_neg (by omega), if_neg (by omega), if_pos h]; simp only [List.all_nil, List.all_cons, Bool.and_true]
  cases Sg.inR p.a 0 ((i : Int) - 1) <;> cases Sg.inR p.b 0 ((i : Int) - 1) <;> cases Sg.inR p.c 0 ((i : Int) - 1) <;> simp
theorem goodN {p : Sg.Part} (i : Nat) (h : p.kind < 0 ∨ 8 < p.kind) : Sg.goodPart p i = false := by
  unfold Sg.goodPart Sg.alone; rw [if_neg (by omega), if_neg (by omega), if_neg (by omega), if_neg (by omega)]; rfl

set_option maxHeartbeats 1000000 in
theorem s_goodPart (p : Sg.Part) (i : Nat) (w : World) (hi : i ≤ 4194304) : Calls Try.prog 170 #[pv p, .int .i64 i] w fun e w' => e = .returned (.bool (Sg.goodPart p i)) ∧ Ext w w' := by
  obtain ⟨k, a, b, c, n⟩ := p
  have cases : k = 0 ∨ k = 1 ∨ (2 ≤ k ∧ k ≤ 7) ∨ k = 8 ∨ (k < 0 ∨ 8 < k) := by omega
  rcases cases with h | h | h | h | h
  · have hg := Lib.hid (good0 (p := ⟨k, a, b, c, n⟩) i h)
    have H := Lib.hid (show arity k = 0 by subst h; rfl)
    have h0 : (k == 1) = false := by simp [h]
    clear h
    go_enter Try.func170, Try.ntmps170
    go_wp2_with (first
      | (go_at_call 190; refine (s_arity _ _).mono ?_; rintro e w' ⟨rfl, rfl⟩; rw [H.out])
      | (go_at_call 92; refine (s_inRange _ _ _ _).mono ?_; rintro e w' ⟨rfl, rfl⟩))
    all_goals (go_ret; exact ⟨ret_bool (by rw [hg.out]; simp_all), (Ext.rfl' w).al _⟩)
  · have hg := Lib.hid (good1 (p := ⟨k, a, b, c, n⟩) i h)
    have H := Lib.hid (show arity k = 0 by subst h; rfl)
    have h0 : (k == 1) = true := by simp [h]
    clear h
    go_enter Try.func170, Try.ntmps170
    go_wp2_with (first
      | (go_at_call 190; refine (s_arity _ _).mono ?_; rintro e w' ⟨rfl, rfl⟩; rw [H.out])
      | (go_at_call 92; refine (s_inRange _ _ _ _).mono ?_; rintro e w' ⟨rfl, rfl⟩))
    all_goals (go_ret; exact ⟨ret_bool (by rw [hg.out]; simp_all), (Ext.rfl' w).al _⟩)
  · have hg := Lib.hid (good2 (p := ⟨k, a, b, c, n⟩) i h)
    have H := Lib.hid (show arity k = 2 by unfold arity; rw [if_neg (by omega), if_pos h])
    clear h
    go_enter Try.func170, Try.ntmps170
    go_wp2_with (first
      | (go_at_call 190; refine (s_arity _ _).mono ?_; rintro e w' ⟨rfl, rfl⟩; rw [H.out])
      | (go_at_call 92; refine (s_inRange _ _ _ _).mono ?_; rintro e w' ⟨rfl, rfl⟩))
    all_goals (go_ret; exact ⟨ret_bool (by rw [hg.out]; simp_all), (Ext.rfl' w).al _⟩)
  · have hg := Lib.hid (good3 (p := ⟨k, a, b, c, n⟩) i h)
    have H := Lib.hid (show arity k = 3 by subst h; rfl)
    clear h
    go_enter Try.func170, Try.ntmps170
    go_wp2_with (first
      | (go_at_call 190; refine (s_arity _ _).mono ?_; rintro e w' ⟨rfl, rfl⟩; rw [H.out])
      | (go_at_call 92; refine (s_inRange _ _ _ _).mono ?_; rintro e w' ⟨rfl, rfl⟩))
    all_goals (go_ret; exact ⟨ret_bool (by rw [hg.out]; simp_all), (Ext.rfl' w).al _⟩)
  · have hg := Lib.hid (goodN (p := ⟨k, a, b, c, n⟩) i h)
    have H := Lib.hid (show arity k = -1 by unfold arity; rw [if_neg (by omega), if_neg (by omega), if_neg (by omega)])
    clear h
    go_enter Try.func170, Try.ntmps170
    go_wp2_with (first
      | (go_at_call 190; refine (s_arity _ _).mono ?_; rintro e w' ⟨rfl, rfl⟩; rw [H.out])
      | (go_at_call 92; refine (s_inRange _ _ _ _).mono ?_; rintro e w' ⟨rfl, rfl⟩))
    all_goals (go_ret; exact ⟨ret_bool (by rw [hg.out]), (Ext.rfl' w).al _⟩)
end Go.Proofs.Ytkkegmimofmhpaa
