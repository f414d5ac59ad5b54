/- The reference's cutting of texts and reading of numbers, in memory: contracts. Conditions: texts of at most 2^20 bytes. -/
import Derived.Test.YtdnlpklmihoapaaDoorTxD
namespace Sg
theorem split_hit {l : Txt} {c : UInt8} {f j : Nat} (hf : f ≤ j) (hn : c ∉ (l.drop f).take (j - f)) (hj : l[j]? = some c) : splitC c (l.drop f) = (l.drop f).take (j - f) :: splitC c (l.drop (j + 1)) := by
 have e : l.drop f = (l.drop f).take (j - f) ++ c :: l.drop (j + 1) := by
  have h1 : l.drop j = c :: l.drop (j + 1) := by
   obtain ⟨hl, he⟩ := List.getElem?_eq_some_iff.1 hj
   rw [List.drop_eq_getElem_cons hl, he]
  have h2 : (l.drop f).drop (j - f) = l.drop j := by rw [List.drop_drop]; congr 1; omega
  rw [← h1, ← h2, List.take_append_drop]
 conv => lhs; rw [e]
 exact splitC_app _ _ hn
theorem split_miss {l : Txt} {c b : UInt8} {f j : Nat} (hf : f ≤ j) (hn : c ∉ (l.drop f).take (j - f)) (hj : l[j]? = some b) (hb : b ≠ c) : c ∉ (l.drop f).take (j + 1 - f) := by
 have e : (l.drop f).take (j + 1 - f) = (l.drop f).take (j - f) ++ [b] := by
  rw [show j + 1 - f = (j - f) + 1 by omega, List.take_add_one, List.getElem?_drop, show f + (j - f) = j by omega, hj]
  rfl
 rw [e, List.mem_append, List.mem_singleton]
 exact fun h => h.elim hn (fun e => hb e.symm)
theorem split_end {l : Txt} {c : UInt8} {f : Nat} (hn : c ∉ (l.drop f).take (l.length - f)) : splitC c (l.drop f) = [l.drop f] := by
 rw [List.take_of_length_le (by simp)] at hn
 exact splitC_none _ hn
end Sg
namespace Go.Proofs.YtdnlpklmihoapaaDoor
open Go.RowKit
set_option maxRecDepth 100000 in
set_option maxHeartbeats 2000000 in
theorem s_splitAt (s : ByteArray) (c : UInt8) (w : World) (hs : s.size ≤ 2000000) :
  Calls Tryd.prog 53 #[.string s, .int .u8 (c.toNat : Int)] w fun e w' => ∃ A n, e = .returned (.slice A (Sg.splitC c (tx s)).length n) ∧ Ext w w' ∧
   Own w' w.heap.size 9 1 A (Sg.splitC c (tx s)).length n (strs ((Sg.splitC c (tx s)).map ts)) := by
 go_enter Tryd.func53, Tryd.ntmps53
 have hon : Own (w.alloc (.cells #[] 9)) w.heap.size 9 1 (some ⟨w.heap.size, 0, none⟩) 0 0 (strs (([] : List Sg.Txt).map ts)) := by
  have := Own.new w (B := w.heap.size) 9 1 #[] 0 (Nat.le_refl _) (by decide) rfl
  show Own _ _ _ _ _ 0 0 []
  simpa using this
 have HON := lh hon
 have E0 := lh ((Ext.rfl' w).al (.cells #[] 9))
 clear hon
 go_wp2_with fail
 go_loopw [5, 6, 7] (fun s5 s6 s7 wr => ∃ (j f : Nat) (O : List Sg.Txt) (A : Option Addr) (n : Nat), j ≤ s.size ∧ f ≤ j ∧ s5 = .slice A O.length n ∧ s6 = .int .i64 f ∧ s7 = .int .i64 j ∧ O.length ≤ f ∧ Hid (Sg.splitC c (tx s) = O ++ Sg.splitC c ((tx s).drop f)) ∧ Hid (c ∉ ((tx s).drop f).take (j - f)) ∧ Hid (Ext w wr) ∧ Hid (Own wr w.heap.size 9 1 A O.length n (strs (O.map ts)))) (fun _ _ s7 _ => s.size - (intOf s7).toNat)
 case atStart => exact ⟨0, 0, [], _, _, Nat.zero_le _, Nat.le_refl _, rfl, rfl, rfl, Nat.le_refl _, lh (by simp), lh (by simp), E0, HON⟩
 case round =>
  clear HON E0
  obtain ⟨j, f, O, A, n, hj, hf, rfl, rfl, rfl, hOf, HS, HN, E, HO⟩ := hrel
  by_cases hlt : j < s.size
  ·have hb : (tx s)[j]? = some (s[j]'hlt) := by rw [← tx_at]; exact getElem?_pos s j hlt
   have hjx : (j : Int) < (s.size : Int) := by omega
   have hfx : (f : Int) ≤ (j : Int) := by omega
   have hsz := E.out.size
   by_cases hbc : s[j]'hlt = c
   ·have bq : (((s[j]'hlt).toNat : Int) == (c.toNat : Int)) = true := by rw [hbc]; simp
    have HH := lh (Sg.split_hit hf HN.out (hb.trans (congrArg some hbc)))
    have HX := lh (show s.extract f j = ts (((tx s).drop f).take (j - f)) from tx_inj (tx_cut s f j))
    clear hb hbc
    go_wp2_with (at_builtin; refine wpList_app1 (cs := [.string (s.extract f j)]) rfl rfl eiStr rfl HO.out rfl rfl (one_str _) (by omega) (by omega) (by omega) ?_; intro A2 c2 w9 hown2 hg2 hat2)
    go_roundw
    case rel => exact ⟨j + 1, j + 1, O ++ [((tx s).drop f).take (j - f)], A2, c2, by omega, Nat.le_refl _, by simp, by go_num, by go_num, by simp; omega, lh (by rw [HS.out, HH.out]; simp), lh (by simp), lh (E.out.gr hg2 fun x hx => (HO.out.lt hx).1), lh (by rw [List.length_append, List.map_append, List.map_cons, List.map_nil, ← strs_snoc, ← HX.out]; exact hown2)⟩
    case measure => simp [intOf]; omega
   ·have bq : (((s[j]'hlt).toNat : Int) == (c.toNat : Int)) = false := by
     rw [beq_eq_false_iff_ne]
     intro e
     exact hbc (UInt8.toNat_inj.1 (by omega))
    have HH := lh (Sg.split_miss hf HN.out hb hbc)
    clear hb hbc
    go_wp2
    go_roundw
    case rel => exact ⟨j + 1, f, O, A, n, by omega, by omega, rfl, rfl, by go_num, hOf, HS, HH, E, HO⟩
    case measure => simp [intOf]; omega
  ·obtain rfl : j = s.size := by omega
   have hfx : (f : Int) ≤ (s.size : Int) := by omega
   have hsz := E.out.size
   have HE : Hid (Sg.splitC c (tx s) = O ++ [(tx s).drop f]) := lh (by rw [HS.out, Sg.split_end (by rw [← tx_size]; exact HN.out)])
   have HX := lh (show s.extract f s.size = ts ((tx s).drop f) from tx_inj (by rw [tx_cut]; exact List.take_of_length_le (by rw [List.length_drop, ← tx_size]; omega)))
   go_wp2_with (at_builtin; refine wpList_app1 (cs := [.string (s.extract f s.size)]) rfl rfl eiStr rfl HO.out rfl rfl (one_str _) (by omega) (by omega) (by omega) ?_; intro A2 c2 w9 hown2 hg2 hat2)
   go_ret
   refine ⟨A2, c2, by rw [HE.out, List.length_append]; rfl, E.out.gr hg2 fun x hx => (HO.out.lt hx).1, ?_⟩
   rw [HE.out, List.length_append, List.map_append, List.map_cons, List.map_nil, ← strs_snoc, ← HX.out]
   exact hown2
theorem beq_tl (a : ByteArray) (l : Sg.Txt) : (a.toList == l) = decide (tx a = l) := by
 rw [tl_tx, Bool.eq_iff_iff, beq_iff_eq, decide_eq_true_eq]
set_option maxRecDepth 100000 in
set_option maxHeartbeats 2000000 in
theorem s_readNumber (s : ByteArray) (w : World) (hs : s.size ≤ 2000000) :
  Calls Tryd.prog 103 #[.string s] w fun e w' => e = .returned (.int .i64 (Sg.readN (tx s))) ∧ w = w' := by
 go_enter Tryd.func103, Tryd.ntmps103
 go_wp2_with fail
 go_loopw [3, 4] (fun s3 s4 wr => ∃ (j n : Nat), j ≤ s.size ∧ n ≤ 999 ∧ s3 = .int .i64 n ∧ s4 = .int .i64 j ∧ Hid (Sg.rnGo 0 (tx s) = Sg.rnGo n ((tx s).drop j)) ∧ wr = w) (fun _ s4 _ => s.size - (intOf s4).toNat)
 case atStart => exact ⟨0, 0, Nat.zero_le _, by omega, rfl, rfl, lh rfl, rfl⟩
 case round =>
  obtain ⟨j, n, hj, hn, rfl, rfl, HR, rfl⟩ := hrel
  by_cases hlt : j < s.size
  ·have hb : (tx s)[j]? = some (s[j]'hlt) := by rw [← tx_at]; exact getElem?_pos s j hlt
   have hjx : (j : Int) < (s.size : Int) := by omega
   have HD := lh (show (tx s).drop j = (s[j]'hlt) :: (tx s).drop (j + 1) by
    obtain ⟨hl, he⟩ := List.getElem?_eq_some_iff.1 hb
    rw [List.drop_eq_getElem_cons hl, he])
   clear hb
   by_cases hc : (s[j]'hlt).toNat < 48 ∨ (s[j]'hlt).toNat > 57 ∨ n > 99
   ·have HF : Hid (Sg.readN (tx s) = -1) := lh (by unfold Sg.readN; rw [HR.out, HD.out, Sg.rnGo, if_pos hc])
    by_cases h1 : (s[j]'hlt).toNat < 48
    ·have h1x : ((s[j]'hlt).toNat : Int) < 48 := by omega
     clear hc
     go_wp2
     go_ret
     exact ⟨by rw [HF.out]; rfl, rfl⟩
    ·have h1x : ¬ ((s[j]'hlt).toNat : Int) < 48 := by omega
     by_cases h2 : (s[j]'hlt).toNat > 57
     ·have h2x : ((s[j]'hlt).toNat : Int) > 57 := by omega
      clear hc
      go_wp2
      go_ret
      exact ⟨by rw [HF.out]; rfl, rfl⟩
     ·have h2x : ¬ ((s[j]'hlt).toNat : Int) > 57 := by omega
      have h3x : (n : Int) > 99 := by omega
      clear hc
      go_wp2
      go_ret
      exact ⟨by rw [HF.out]; rfl, rfl⟩
   ·have h1x : ¬ ((s[j]'hlt).toNat : Int) < 48 := by omega
    have h2x : ¬ ((s[j]'hlt).toNat : Int) > 57 := by omega
    have h3x : ¬ (n : Int) > 99 := by omega
    have HN : Hid (Sg.rnGo 0 (tx s) = Sg.rnGo (10 * n + ((s[j]'hlt).toNat - 48)) ((tx s).drop (j + 1))) := lh (by rw [HR.out, HD.out, Sg.rnGo, if_neg hc])
    have i1 : IntKind.u8.wrap (((s[j]'hlt).toNat : Int) - 48) = ((s[j]'hlt).toNat : Int) - 48 := IntWalk.u8_in _ (by omega)
    have i2 : IntKind.i64.wrap (((s[j]'hlt).toNat : Int) - 48) = ((s[j]'hlt).toNat : Int) - 48 := IntWalk.i64_in _ (by omega)
    have i3 : IntKind.i64.wrap (10 * (n : Int)) = 10 * (n : Int) := IntWalk.i64_in _ (by omega)
    have i4 : IntKind.i64.wrap (10 * (n : Int) + (((s[j]'hlt).toNat : Int) - 48)) = 10 * (n : Int) + (((s[j]'hlt).toNat : Int) - 48) := IntWalk.i64_in _ (by omega)
    clear hc
    go_wp2
    go_roundw
    case rel => exact ⟨j + 1, 10 * n + ((s[j]'hlt).toNat - 48), by omega, by omega, by simp only [Value.int.injEq, true_and]; omega, by go_num, HN, trivial⟩
    case measure => simp [intOf]; omega
  ·obtain rfl : j = s.size := by omega
   have HN : Hid (Sg.rnGo 0 (tx s) = some n) := lh (by rw [HR.out, List.drop_eq_nil_of_le (by rw [← tx_size]; exact Nat.le_refl _)]; rfl)
   by_cases h0 : tx s = []
   ·have b0 : (s.toList == []) = true := by rw [beq_tl]; simp [h0]
    have HF : Hid (Sg.readN (tx s) = -1) := lh (by unfold Sg.readN; rw [HN.out]; simp [h0])
    clear h0
    go_wp2
    go_ret
    exact ⟨by rw [HF.out]; rfl, rfl⟩
   ·have b0 : (s.toList == []) = false := by rw [beq_tl]; simp [h0]
    by_cases h1 : tx s = Sg.numT n
    ·have b1 : (s.toList == Sg.numT n) = true := by rw [beq_tl]; simp [h1]
     have HF : Hid (Sg.readN (tx s) = n) := lh (by unfold Sg.readN; rw [HN.out]; simp only; rw [if_neg (by rintro (h | h); exact h0 h; exact h h1)])
     clear h0 h1
     go_wp2_with fail
     refine (s_number n (by omega) _).mono ?_
     rintro e w4 ⟨rfl, rfl⟩
     go_wp2
     go_ret
     exact ⟨by rw [HF.out]; rfl, rfl⟩
    ·have b1 : (s.toList == Sg.numT n) = false := by rw [beq_tl]; simp [h1]
     have HF : Hid (Sg.readN (tx s) = -1) := lh (by unfold Sg.readN; rw [HN.out]; simp only; rw [if_pos (.inr h1)])
     clear h0 h1
     go_wp2_with fail
     refine (s_number n (by omega) _).mono ?_
     rintro e w4 ⟨rfl, rfl⟩
     go_wp2
     go_ret
     exact ⟨by rw [HF.out]; rfl, rfl⟩
end Go.Proofs.YtdnlpklmihoapaaDoor
