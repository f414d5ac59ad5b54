/- The laws' copies of lists of lists: contract. Conditions: at most 2^20 elements. -/
import Derived.Test.YtkkegmimofmhpaaLawF
import Derived.Test.YtkkegmimofmhpaaDeep
namespace Go.Proofs.Ytkkegmimofmhpaa
open Go.RowKit

theorem fill1 (hs : List Value) (k n : Nat) (h : hs.length = k) (hk : k < n) (z x : Value) : (hs ++ List.replicate (n - k) z).set k x = (hs ++ [x]) ++ List.replicate (n - (k + 1)) z := by
  rw [List.set_append_right _ _ (by omega), h, Nat.sub_self, show n - k = (n - (k + 1)) + 1 from by omega, List.replicate_succ, List.set_cons_zero, List.append_assoc]
  rfl

set_option maxHeartbeats 1000000 in
theorem l_toIntSS (A : Option Addr) (c : Nat) (ll : List (List Int)) (w : World) (h : RdL w A ll) :
    Calls Try.prog 84 #[.slice A ll.length c] w fun e w' => ∃ A' hs, e = .returned (.slice A' ll.length ll.length) ∧ OwnL w' w.heap.size A' ll.length ll hs ∧ Ext w w' := by
  have hb := h.1
  go_enter Try.func84, Try.ntmps84
  go_wp2_with (at_make; refine wpList_mk rfl rfl eiInts (B := w.heap.size) rfl rfl (by omega) (by omega) (by simp) ?_; intro w1 hown hext)
  rw [made_one _ _ rfl] at hown
  go_loopw [4] (fun i wr => ∃ (k : Nat) (hs : List (Option Addr × Nat)), k ≤ ll.length ∧ i = .int .i64 k ∧ hs.length = k ∧ Ext w wr ∧ InnD wr w.heap.size 3 1 w.heap.size (listIts ll) hs ∧ Own wr w.heap.size 26 1 (some ⟨w.heap.size, 0, none⟩) ll.length ll.length (dcells (listIts ll) hs ++ List.replicate (ll.length - k) (.slice none 0 0))) (fun i _ => ll.length - (intOf i).toNat)
  case atStart => exact ⟨0, [], Nat.zero_le _, rfl, rfl, hext, InnD.nil _ _ _ _ _ _, by rw [dcells_nil]; exact hown⟩
  case round =>
    clear hown hext
    obtain ⟨k, hs, hk, rfl, hlen, he, hinn, hown⟩ := hrel
    have hwr : w.heap.size < wr.heap.size := (hown.lt (g := w.heap.size) rfl).2
    have hdl : (dcells (listIts ll) hs).length = k := by rw [length_dcells (listIts_pre ll) (by simp; omega), hlen, Nat.mul_one]
    by_cases hlt : k < ll.length
    · obtain ⟨l, b, o, Al, cl, hl, rfl, hc, hr, hll⟩ := (h.ext he).at_ hlt
      have hbw := blt hc
      have HC := Lib.hid (fun w h => l_toIntS Al cl l w h hll)
      obtain ⟨y, hy⟩ : ∃ y, (dcells (listIts ll) hs ++ List.replicate (ll.length - k) (.slice none 0 0))[k]? = some y := ⟨_, List.getElem?_eq_getElem (by simp [hdl]; omega)⟩
      have Hy := Lib.hid hy
      have Ho := Lib.hid hown
      have Hl := Lib.hid hl
      have Hinn := Lib.hid hinn
      have Hlen := Lib.hid hlen
      have Hdl := Lib.hid hdl
      clear hy hown hl hinn hlen hdl
      go_wp2_with (go_at_call 38; refine (HC.out _ hr).mono ?_; rintro e w2 ⟨A2, rfl, ho2, he2⟩; have hor := Ho.out.ext he2; have q0 := hor.cell Hy.out; have q1 := hor.free k)
      go_roundw
      case rel =>
        have hat : (listIts ll)[hs.length]? = some ⟨[], l.length, ints l⟩ := by rw [Hlen.out]; exact listIts_at Hl.out
        refine ⟨k + 1, hs ++ [(A2, l.length)], by omega, by go_num, by simp [Hlen.out], (he.tr he2).set (by simp) _, (Hinn.out.snoc he2 (by omega) hwr hat ho2).st _ _, ?_⟩
        rw [dcells_snoc _ hat, show itc ⟨[], l.length, ints l⟩ (A2, l.length) = [.slice A2 l.length l.length] from rfl, ← fill1 _ k ll.length Hdl.out hlt]
        exact hor.st k _
      case measure => simp [intOf]; omega
    · obtain rfl : k = ll.length := by omega
      rw [Nat.sub_self, List.replicate_zero, List.append_nil] at hown
      have Hfin := Lib.hid (hinn.own (eo := 26) (so := 1) (c := ll.length) (by simp [hlen]) (by simpa using hown))
      clear hown hinn hlen hdl
      go_wp2
      go_ret
      exact ⟨_, hs, rfl, Hfin.out, he⟩
end Go.Proofs.Ytkkegmimofmhpaa
