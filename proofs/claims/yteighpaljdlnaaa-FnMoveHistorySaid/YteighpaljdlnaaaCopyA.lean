/- Copies of states: contracts. Conditions: bounds on lengths. -/
import Derived.Test.YteighpaljdlnaaaTy
import Derived.Test.YteighpaljdlnaaaSepAll
import Derived.Test.YteighpaljdlnaaaLawAll
import Derived.Test.YteighpaljdlnaaaImplPX
import Derived.Test.YteighpaljdlnaaaFactsAll
import Derived.Test.YteighpaljdlnaaaSpecTO
namespace Go.Proofs.Yteighpaljdlnaaa
open Go.RowKit

set_option maxHeartbeats 1000000 in
theorem i_copyReads (A : Option Addr) (c : Nat) (ll : List (List Int)) (w : World) (h : RdL w A ll) :
  Calls Try.prog 46 #[.slice A ll.length c] w fun e w' => ∃ A' hs, e = .returned (.slice A' ll.length ll.length) ∧ OwnL w' w.heap.size A' ll.length ll hs ∧ Ext w w' := by
 have hb := h.1
 go_enter Try.func46, Try.ntmps46
 go_wp2_with (at_make; refine wpList_mk rfl rfl eiInts (B := w.heap.size) rfl rfl (by omega) (by omega) (by simp) ?_; intro w1 hown hext)
 rw [made_one _ _ rfl] at hown
 go_loopw [11] (fun i wr => ∃ (k : Nat) (hs : List (Option Addr × Nat)), k ≤ ll.length ∧ i = .int .i64 k ∧ hs.length = k ∧ Ext w wr ∧ InnD wr w.heap.size 3 1 w.heap.size (listIts ll) hs ∧ Own wr w.heap.size 26 1 (some ⟨w.heap.size, 0, none⟩) ll.length ll.length (dcells (listIts ll) hs ++ List.replicate (ll.length - k) (.slice none 0 0))) (fun i _ => ll.length - (intOf i).toNat)
 case atStart => exact ⟨0, [], Nat.zero_le _, rfl, rfl, hext, InnD.nil _ _ _ _ _ _, by rw [dcells_nil]; exact hown⟩
 case round =>
  clear hown hext
  obtain ⟨k, hs, hk, rfl, hlen, he, hinn, hown⟩ := hrel
  have hwr : w.heap.size < wr.heap.size := (hown.lt (g := w.heap.size) rfl).2
  have hdl : (dcells (listIts ll) hs).length = k := by rw [length_dcells (listIts_pre ll) (by simp; omega), hlen, Nat.mul_one]
  by_cases hlt : k < ll.length
  ·obtain ⟨l, b, o, Al, cl, hl, rfl, hc, hr, hll⟩ := (h.ext he).at_ hlt
   have hbw := blt hc
   have HC := lh (fun w h => i_clone Al l.length cl l w h (by omega))
   obtain ⟨y, hy⟩ : ∃ y, (dcells (listIts ll) hs ++ List.replicate (ll.length - k) (.slice none 0 0))[k]? = some y := ⟨_, List.getElem?_eq_getElem (by simp [hdl]; omega)⟩
   have Hy := lh hy
   have Ho := lh hown
   have Hl := lh hl
   have Hinn := lh hinn
   have Hlen := lh hlen
   have Hdl := lh hdl
   clear hy hown hl hinn hlen hdl
   go_wp2_with (go_at_call 70; refine (HC.out _ hr).mono ?_; rintro e w2 ⟨A2, rfl, ho2, he2⟩; have hor := Ho.out.ext he2; have q0 := hor.cell Hy.out; have q1 := hor.free k)
   go_roundw
   case rel =>
    have hat : (listIts ll)[hs.length]? = some ⟨[], l.length, ints l⟩ := by rw [Hlen.out]; exact listIts_at Hl.out
    refine ⟨k + 1, hs ++ [(A2, l.length)], by omega, by go_num, by simp [Hlen.out], (he.tr he2).set (by simp) _, (Hinn.out.snoc he2 (by omega) hwr hat ho2).st _ _, ?_⟩
    rw [dcells_snoc _ hat, show itc ⟨[], l.length, ints l⟩ (A2, l.length) = [.slice A2 l.length l.length] from rfl, ← fill1 _ k ll.length Hdl.out hlt]
    exact hor.st k _
   case measure => simp [intOf]; omega
  ·obtain rfl : k = ll.length := by omega
   rw [Nat.sub_self, List.replicate_zero, List.append_nil] at hown
   have Hfin := lh (hinn.own (eo := 26) (so := 1) (c := ll.length) (by simp [hlen]) (by simpa using hown))
   clear hown hinn hlen hdl
   go_wp2
   go_ret
   exact ⟨_, hs, rfl, Hfin.out, he⟩

set_option maxHeartbeats 1000000 in
theorem s_copyLists (A : Option Addr) (c : Nat) (ll : List (List Int)) (w : World) (h : RdL w A ll) :
  Calls Try.prog 71 #[.slice A ll.length c] w fun e w' => ∃ A' c' hs, e = .returned (.slice A' ll.length c') ∧ OwnL w' w.heap.size A' c' ll hs ∧ Ext w w' := by
 have hb := h.1
 have H := lh h
 have O0 := lh (show OwnL (World.alloc w (.cells #[] 26)) w.heap.size (some ⟨w.heap.size, 0, none⟩) 0 (ll.take 0) [] from ⟨by simp, by have := Own.new w 26 1 #[] 0 (Nat.le_refl _) (by unfold maxLen; omega) rfl; simpa [dcells, listIts] using this, by simp [listIts], by simp, by simp⟩)
 have E0 := lh ((Ext.rfl' w).al (.cells #[] 26))
 clear h
 go_enter Try.func71, Try.ntmps71
 go_wp2_with fail
 go_loopw [3, 4] (fun s i wr => ∃ (k : Nat) (A' : Option Addr) (c' : Nat) (hs : List (Option Addr × Nat)), k ≤ ll.length ∧ s = .slice A' k c' ∧ i = .int .i64 k ∧ Hid (OwnL wr w.heap.size A' c' (ll.take k) hs) ∧ Hid (Ext w wr)) (fun _ i _ => ll.length - (intOf i).toNat)
 case atStart => exact ⟨0, _, _, [], Nat.zero_le _, rfl, rfl, O0, E0⟩
 case round =>
  clear O0 E0
  obtain ⟨k, A', c', hs, hk, rfl, rfl, hO, hE⟩ := hrel
  by_cases hlt : k < ll.length
  ·obtain ⟨l, b, o, Al, cl, hl, rfl, hc, hr, hll⟩ := (H.out.ext hE.out).at_ hlt
   have hbw := blt hc
   have HC := lh (fun w h => s_copyInts Al l.length cl l w h (by omega))
   have Hl := lh hl
   have Hr := lh hr
   have hws := hE.out.size
   clear hl hr
   go_wp2_with fail
   refine (HC.out _ Hr.out).mono ?_
   rintro e w2 ⟨A2, c2, rfl, ho2, he2⟩
   have Ho2 := lh ho2
   have He2 := lh he2
   have hw2 := he2.size
   have hout := lh (show Own w2 w.heap.size 26 1 A' k c' (dcells (listIts (ll.take k)) hs) from by have := hO.out.out.ext he2; simpa [Nat.min_eq_left hk] using this)
   clear ho2 he2 hbw hc
   go_wp2_with (at_builtin; refine wpList_app1 rfl rfl eiInts rfl hout.out rfl rfl (one_slice _ _ _) (by omega) (by omega) (by omega) ?_; intro A9 c9 w9 ho9 hg9 hat9; have Ho9 := lh ho9; have Hg9 := lh hg9; have Ha9 := lh hat9; clear ho9 hg9 hat9)
   go_roundw
   case rel =>
    have hits : listIts (ll.take (k + 1)) = listIts (ll.take k) ++ [⟨[], l.length, ints l⟩] := by
     have := List.take_succ_eq_append_getElem hlt
     obtain ⟨h1, h2⟩ := List.getElem?_eq_some_iff.1 Hl.out
     rw [this, h2]
     simp [listIts]
    refine ⟨k + 1, A9, c9, hs ++ [(A2, c2)], by omega, by simp, by go_num, lh ?_, lh ((hE.out.tr He2.out).gr Hg9.out (fun b hb => by have := (hout.out.lt hb).1; omega))⟩
    unfold OwnL
    rw [hits]
    exact hO.out.snoc He2.out hws (it := ⟨[], l.length, ints l⟩) Ho2.out (by have := Ho9.out; simpa [Nat.min_eq_left hk, itc] using this) Hg9.out Ha9.out
   case measure => simp [intOf]; omega
  ·obtain rfl : k = ll.length := by omega
   have hfin := hO.out
   rw [List.take_length] at hfin
   have Hfin := lh hfin
   clear hfin
   go_wp2
   go_ret
   exact ⟨A', c', hs, rfl, Hfin.out, hE.out⟩


end Go.Proofs.Yteighpaljdlnaaa
