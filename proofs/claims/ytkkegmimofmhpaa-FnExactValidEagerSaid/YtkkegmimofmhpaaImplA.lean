/- The program's functions on one part: contracts. Conditions: none. -/
import Derived.Test.YtkkegmimofmhpaaSpecC
import Derived.Test.YtkkegmimofmhpaaGraph
namespace Go.Proofs.Ytkkegmimofmhpaa
open Go.RowKit

theorem i_in (n lo hi : Int) (w : World) : Calls Try.prog 74 #[.int .i64 n, .int .i64 lo, .int .i64 hi] w fun e w' => e = .returned (.bool (Sg.inR n lo hi)) ∧ w = w' := by
  by_cases h1 : lo ≤ n
  · by_cases h2 : n ≤ hi
    · go_enter Try.func74, Try.ntmps74
      go_wp2
      go_ret
      exact ⟨ret_bool (by simp [Sg.inR, h1, h2]), rfl⟩
    · go_enter Try.func74, Try.ntmps74
      go_wp2
      go_ret
      exact ⟨ret_bool (by simp [Sg.inR, h2]), rfl⟩
  · go_enter Try.func74, Try.ntmps74
    go_wp2
    go_ret
    exact ⟨ret_bool (by simp [Sg.inR]; omega), rfl⟩

theorem Ext.al2 (w : World) (o : Obj) (cs : Array Value) (e : TypeId) : Ext w ((w.alloc o).alloc (.cells cs e)) := ((Ext.rfl' w).al _).al _
theorem own_new2 (w : World) (o : Obj) (l : List Int) (cs : Array Value) (hc : cs.toList = ints l) (hl : l.length ≤ 4194304) :
    Own ((w.alloc o).alloc (.cells cs 3)) w.heap.size 3 1 (some ⟨w.heap.size + 1, 0, none⟩) l.length l.length (ints l) := by
  rw [← hc]
  have : cs.size = l.length := by rw [← Array.length_toList, hc]; simp
  have := Own.new (w.alloc o) (B := w.heap.size) 3 1 cs l.length (by simp) (by unfold maxLen; omega) (by omega)
  simpa using this

set_option maxHeartbeats 800000 in
theorem i_below (p : Sg.Part) (w : World) : Calls Try.prog 174 #[pv p] w fun e w' => ∃ A' c', e = .returned (.slice A' (Sg.below p).length c') ∧ Own w' w.heap.size 3 1 A' (Sg.below p).length c' (ints (Sg.below p)) ∧ Ext w w' := by
  by_cases h8 : p.kind = 8
  · have hb := Lib.hid (below3 h8)
    have b8 : (p.kind == 8) = true := by simp [h8]
    clear h8
    go_enter Try.func174, Try.ntmps174
    go_wp2
    go_ret
    rw [hb.out]
    exact ⟨_, _, rfl, own_new2 w _ [p.a, p.b, p.c] _ rfl (by simp), Ext.al2 _ _ _ _⟩
  · have b8 : (p.kind == 8) = false := by simp [h8]
    by_cases h2 : 2 ≤ p.kind ∧ p.kind ≤ 7
    · have hb := Lib.hid (below2 h2)
      have hr : Sg.inR p.kind 2 7 = true := by simp [Sg.inR, h2]
      have Hr := Lib.hid hr
      clear h2 hr h8
      go_enter Try.func174, Try.ntmps174
      go_wp2_with (go_at_call 74; refine (i_in _ _ _ _).mono ?_; rintro e w' ⟨rfl, rfl⟩; rw [Hr.out])
      go_ret
      rw [hb.out]
      exact ⟨_, _, rfl, own_new2 w _ [p.a, p.b] _ rfl (by simp), Ext.al2 _ _ _ _⟩
    · have hb : Sg.below p = [] := by unfold Sg.below; rw [if_neg h8, if_neg h2]
      have Hb := Lib.hid hb
      have hr : Sg.inR p.kind 2 7 = false := by simp [Sg.inR]; omega
      have Hr := Lib.hid hr
      clear h2 hr h8 hb
      go_enter Try.func174, Try.ntmps174
      go_wp2_with (go_at_call 74; refine (i_in _ _ _ _).mono ?_; rintro e w' ⟨rfl, rfl⟩; rw [Hr.out])
      go_ret
      rw [Hb.out]
      exact ⟨none, 0, rfl, Own.nil _ _ _ _, (Ext.rfl' w).al _⟩

theorem alone0 {p : Sg.Part} (h : p.kind = 0) : Sg.alone p = (Sg.inR p.n 0 99 && p.a == -1 && p.b == -1 && p.c == -1) := by unfold Sg.alone; rw [if_pos h]
theorem alone1 {p : Sg.Part} (h : p.kind = 1) : Sg.alone p = (Sg.inR p.n 0 9 && p.a == -1 && p.b == -1 && p.c == -1) := by unfold Sg.alone; rw [if_neg (by omega), if_pos h]
theorem alone8 {p : Sg.Part} (h : p.kind = 8) : Sg.alone p = (p.n == 0) := by unfold Sg.alone; rw [if_neg (by omega), if_neg (by omega), if_pos h]
theorem alone2 {p : Sg.Part} (h : 2 ≤ p.kind ∧ p.kind ≤ 7) : Sg.alone p = (p.n == 0 && p.c == -1) := by unfold Sg.alone; rw [if_neg (by omega), if_neg (by omega), if_neg (by omega), if_pos h]
theorem aloneN {p : Sg.Part} (h : p.kind < 0 ∨ 8 < p.kind) : Sg.alone p = false := by unfold Sg.alone; rw [if_neg (by omega), if_neg (by omega), if_neg (by omega), if_neg (by omega)]

set_option maxRecDepth 100000 in
set_option maxHeartbeats 1000000 in
theorem i_alone (p : Sg.Part) (w : World) : Calls Try.prog 173 #[pv p] w fun e w' => e = .returned (.bool (Sg.alone p)) ∧ Ext w w' := by
  obtain ⟨k, a, b, c, n⟩ := p
  have cases : k = 0 ∨ k = 1 ∨ k = 8 ∨ (2 ≤ k ∧ k ≤ 7) ∨ (k < 0 ∨ 8 < k) := by omega
  rcases cases with h | h | h | h | h
  · have hg := Lib.hid (alone0 (p := ⟨k, a, b, c, n⟩) h)
    subst h
    cases hr : Sg.inR n 0 99
    all_goals
      have Hr := Lib.hid hr
      clear hr
      go_enter Try.func173, Try.ntmps173
      go_wp2_with (go_at_call 74; refine (i_in _ _ _ _).mono ?_; rintro e w' ⟨rfl, rfl⟩; rw [Hr.out])
      all_goals (go_ret; exact ⟨ret_bool (by rw [hg.out, Hr.out]; simp_all), (Ext.rfl' w).al _⟩)
  · have hg := Lib.hid (alone1 (p := ⟨k, a, b, c, n⟩) h)
    subst h
    cases hr : Sg.inR n 0 9
    all_goals
      have Hr := Lib.hid hr
      clear hr
      go_enter Try.func173, Try.ntmps173
      go_wp2_with (go_at_call 74; refine (i_in _ _ _ _).mono ?_; rintro e w' ⟨rfl, rfl⟩; rw [Hr.out])
      all_goals (go_ret; exact ⟨ret_bool (by rw [hg.out, Hr.out]; simp_all), (Ext.rfl' w).al _⟩)
  · have hg := Lib.hid (alone8 (p := ⟨k, a, b, c, n⟩) h)
    subst h
    go_enter Try.func173, Try.ntmps173
    go_wp2
    go_ret
    exact ⟨ret_bool (by rw [hg.out]), (Ext.rfl' w).al _⟩
  · have hg := Lib.hid (alone2 (p := ⟨k, a, b, c, n⟩) h)
    have hr : Sg.inR k 2 7 = true := by simp [Sg.inR, h]
    have Hr := Lib.hid hr
    have k0 : (k == 0) = false := by rw [beq_eq_false_iff_ne]; omega
    have k1 : (k == 1) = false := by rw [beq_eq_false_iff_ne]; omega
    have k8 : (k == 8) = false := by rw [beq_eq_false_iff_ne]; omega
    clear hr h
    go_enter Try.func173, Try.ntmps173
    go_wp2_with (go_at_call 74; refine (i_in _ _ _ _).mono ?_; rintro e w' ⟨rfl, rfl⟩; rw [Hr.out])
    all_goals (go_ret; exact ⟨ret_bool (by rw [hg.out]; simp_all), (Ext.rfl' w).al _⟩)
  · have hg := Lib.hid (aloneN (p := ⟨k, a, b, c, n⟩) h)
    have hr : Sg.inR k 2 7 = false := by simp [Sg.inR]; omega
    have Hr := Lib.hid hr
    have k0 : (k == 0) = false := by rw [beq_eq_false_iff_ne]; omega
    have k1 : (k == 1) = false := by rw [beq_eq_false_iff_ne]; omega
    have k8 : (k == 8) = false := by rw [beq_eq_false_iff_ne]; omega
    clear hr h
    go_enter Try.func173, Try.ntmps173
    go_wp2_with (go_at_call 74; refine (i_in _ _ _ _).mono ?_; rintro e w' ⟨rfl, rfl⟩; rw [Hr.out])
    go_ret
    exact ⟨ret_bool (by rw [hg.out]), (Ext.rfl' w).al _⟩
end Go.Proofs.Ytkkegmimofmhpaa
