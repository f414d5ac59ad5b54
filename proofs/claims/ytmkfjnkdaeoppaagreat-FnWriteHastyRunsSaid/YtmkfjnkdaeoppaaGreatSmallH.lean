/- What the hasty machine returns is small; the program's RunsOf: its contract. Conditions: none; bounds on lengths. -/
import Derived.Test.YtmkfjnkdaeoppaaGreatHasE
import Derived.Test.YtmkfjnkdaeoppaaGreatEqAll
import Derived.IntWalk
namespace Go.Proofs.YtmkfjnkdaeoppaaGreat
open Go.RowKit
theorem hastyO_smallQ (g : Sg.Graph) (v : List Int) (r : List (List Int)) (n x : Int) : SmallE (Sg.hastyO g ⟨v, r⟩ n x).1 ∧ (Sg.hastyO g ⟨v, r⟩ n x).2.length ≤ 1048576 := by
 unfold Sg.hastyO
 split
 ·rename_i h
  unfold Sg.mayHasty at h
  simp only [Bool.and_eq_true] at h
  have hx : 0 ≤ x ∧ x ≤ 999 := by
   have := h.2
   unfold Sg.inR at this
   simp only [Bool.and_eq_true, decide_eq_true_eq] at this
   exact this
  have hI := Sg.hastyR_in h.1.1 (n := n.toNat) hx
  have h10 := validG_len (Sg.validE_parts h.1.1).1
  have hs : ∀ l ∈ (Sg.hastyR g ⟨v, r⟩ n.toNat x).reads, l.length ≤ 4096 := hI.i.le
  have ht := totL_small _ 4096 hs
  have hr := hI.r
  have hv := hI.v
  have hm := hI.m
  generalize Sg.hastyR g ⟨v, r⟩ n.toNat x = u at *
  exact ⟨⟨by show u.vals.length ≤ _; omega, by show u.reads.length ≤ _; omega, fun l hl => Nat.le_trans (hs l hl) (by omega), by show totL u.reads ≤ _; have h9 : u.reads.length * 4096 ≤ 10 * 4096 := Nat.mul_le_mul_right _ (by omega); omega⟩, by show u.ran.length ≤ _; omega⟩
 ·exact ⟨⟨by simp, by simp, by simp, by simp [totL]⟩, by simp⟩
theorem cnt_take (l : List Int) (n x : Int) (k : Nat) (hx : l[k]? = some x) : (l.take (k + 1)).count n = (l.take k).count n + (if x = n then 1 else 0) := by
 rw [List.take_add_one, hx, List.count_append]
 simp [List.count_cons, List.count_nil]
set_option maxHeartbeats 1000000 in
theorem i_RunsOf (A : Option Addr) (c : Nat) (l : List Int) (n : Int) (w : World) (h : Rd w 1 A l.length (ints l)) (hl : l.length ≤ 1048576) :
  Calls Tryz.prog 59 #[.slice A l.length c, .int .i64 n] w fun e w' => e = .returned (.int .i64 (l.count n)) ∧ Ext w w' := by
 go_enter Tryz.func59, Tryz.ntmps59
 go_wp2
 go_loopw [5, 7, 10] (fun s5 s7 s10 wr => ∃ k : Nat, k ≤ l.length ∧ s10 = .int .i64 k ∧ s5 = .int .i64 ((l.take k).count n) ∧ Hid (Ext w wr)) (fun _ _ s10 _ => l.length - (intOf s10).toNat)
 case atStart => exact ⟨0, Nat.zero_le _, rfl, by simp, lh (Ext.rfl' w)⟩
 case round =>
  obtain ⟨k, hk, rfl, rfl, hext⟩ := hrel
  by_cases hlt : k < l.length
  ·obtain ⟨b, o, x, rfl, hx, hc⟩ := (h.ext hext.out).at1 hlt
   have hcb : (l.take k).count n ≤ l.length := Nat.le_trans List.count_le_length (by simp; omega)
   have HC := lh (cnt_take l n x k hx)
   clear hx
   generalize hcc : (l.take k).count n = cc at *
   clear hcc
   by_cases hn : x = n
   ·have z1 : (x == n) = true := by simp [hn]
    have HD := lh (show (l.take (k + 1)).count n = cc + 1 by rw [HC.out, if_pos hn])
    clear hn
    go_wp2
    go_roundw
    case rel => exact ⟨k + 1, by omega, by go_num, by rw [HD.out]; go_num, by first | exact hext | exact lh (hext.out.drN _)⟩
    case measure => simp [intOf]; omega
   ·have z1 : (x == n) = false := by rw [beq_eq_false_iff_ne]; exact hn
    have HD := lh (show (l.take (k + 1)).count n = cc by rw [HC.out, if_neg hn]; omega)
    clear hn
    go_wp2
    go_roundw
    case rel => exact ⟨k + 1, by omega, by go_num, by rw [HD.out], by first | exact hext | exact lh (hext.out.drN _)⟩
    case measure => simp [intOf]; omega
  ·obtain rfl : k = l.length := by omega
   rw [List.take_length]
   go_wp2
   go_ret
   exact ⟨rfl, hext.out⟩
end Go.Proofs.YtmkfjnkdaeoppaaGreat
