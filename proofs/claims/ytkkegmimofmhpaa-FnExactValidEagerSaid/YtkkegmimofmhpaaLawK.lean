/- The laws' copies of lists of nodes: contract. -/
import Derived.Test.YtkkegmimofmhpaaLawJ
namespace Go.Proofs.Ytkkegmimofmhpaa
open Go.RowKit

set_option maxHeartbeats 1000000 in
theorem l_toNodeS (A : Option Addr) (c : Nat) (g : Sg.Graph) (w : World) (h : RdN w A g) :
    Calls Try.prog 83 #[.slice A g.length c] w fun e w' => ∃ A' hs, e = .returned (.slice A' g.length g.length) ∧ OwnN w' w.heap.size A' g.length g hs ∧ Ext w w' := by
  have hb := h.1
  go_enter Try.func83, Try.ntmps83
  go_wp2_with (at_make; refine wpList_mk rfl rfl eiNode (B := w.heap.size) rfl rfl (by omega) (by omega) (by simp) ?_; intro w1 hown hext)
  rw [made_nodes] at hown
  go_loopw [4] (fun i wr => ∃ (k : Nat) (hs : List (Option Addr × Nat)), k ≤ g.length ∧ i = .int .i64 k ∧ hs.length = k ∧ Ext w wr ∧ InnD wr w.heap.size 168 5 w.heap.size (nodeIts g) hs ∧ Own wr w.heap.size 94 2 (some ⟨w.heap.size, 0, none⟩) g.length g.length (dcells (nodeIts g) hs ++ zs (g.length - k))) (fun i _ => g.length - (intOf i).toNat)
  case atStart => exact ⟨0, [], Nat.zero_le _, rfl, rfl, hext, InnD.nil _ _ _ _ _ _, by rw [dcells_nil]; exact hown⟩
  case round =>
    clear hown hext
    obtain ⟨k, hs, hk, rfl, hlen, he, hinn, hown⟩ := hrel
    have hwr : w.heap.size < wr.heap.size := (hown.lt (g := w.heap.size) rfl).2
    have hdl : (dcells (nodeIts g) hs).length = k * 2 := by rw [length_dcells (nodeIts_pre g) (by simp; omega), hlen]
    by_cases hlt : k < g.length
    · obtain ⟨⟨nk, nf⟩, b, o, Al, cl, hl, rfl, h0, h1, hr, hll⟩ := (h.ext he).at_ hlt
      dsimp only at *
      have hbw := blt h0
      have HC := Lib.hid (fun w h => l_toNode nk Al cl nf w h hll)
      have hz : zs (g.length - k) = .int .i64 0 :: .slice none 0 0 :: zs (g.length - (k + 1)) := by rw [show g.length - k = (g.length - (k + 1)) + 1 from by omega, zs_succ]
      rw [hz] at hown
      have hy0 : (dcells (nodeIts g) hs ++ (.int .i64 0 :: .slice none 0 0 :: zs (g.length - (k + 1))))[k * 2]? = some (.int .i64 0) := by rw [List.getElem?_append_right (by omega), hdl]; simp
      have hy1 : (dcells (nodeIts g) hs ++ (.int .i64 0 :: .slice none 0 0 :: zs (g.length - (k + 1))))[k * 2 + 1]? = some (.slice none 0 0) := by rw [List.getElem?_append_right (by omega), hdl]; simp
      have Hy0 := Lib.hid hy0
      have Hy1 := Lib.hid hy1
      have Ho := Lib.hid hown
      have Hl := Lib.hid hl
      have Hinn := Lib.hid hinn
      have Hlen := Lib.hid hlen
      have Hdl := Lib.hid hdl
      clear hown hl hinn hz hlen hdl hy0 hy1
      go_wp2_with (go_at_call 146; refine (HC.out _ hr).mono ?_; rintro e w2 ⟨A2, rfl, ho2, he2⟩; have hor := Ho.out.ext he2; have q0 := hor.cell Hy0.out; have q1 := hor.cell Hy1.out; have f0 := hor.free (k * 2); have f1 := hor.free (k * 2 + 1))
      go_roundw
      case rel =>
        have hat : (nodeIts g)[hs.length]? = some ⟨[.int .i64 nk], nf.length, parts nf⟩ := by rw [Hlen.out]; exact nodeIts_at Hl.out
        refine ⟨k + 1, hs ++ [(A2, nf.length)], by omega, by go_num, by simp [Hlen.out], ((he.tr he2).set (by simp) _).set (by simp) _, ((Hinn.out.snoc he2 (by omega) hwr hat ho2).st _ _).st _ _, ?_⟩
        have := (hor.st (k * 2) (.int .i64 nk)).st (k * 2 + 1) (.slice A2 nf.length nf.length)
        rw [fill2 _ _ k Hdl.out] at this
        rw [dcells_snoc _ hat]
        exact this
      case measure => simp [intOf]; omega
    · obtain rfl : k = g.length := by omega
      rw [Nat.sub_self, show zs 0 = [] from rfl, List.append_nil] at hown
      have Hfin := Lib.hid (hinn.own (eo := 94) (so := 2) (c := g.length) (by simp [hlen]) (by simpa using hown))
      clear hown hinn hlen hdl
      go_wp2
      go_ret
      exact ⟨_, hs, rfl, Hfin.out, he⟩
end Go.Proofs.Ytkkegmimofmhpaa
