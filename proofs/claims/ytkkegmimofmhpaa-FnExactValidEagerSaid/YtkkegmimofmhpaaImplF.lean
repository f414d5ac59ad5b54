/- The program's mayRead: its contract. Conditions: reads of nodes 0..9, at most 2^20 parts. -/
import Derived.Test.YtkkegmimofmhpaaImplE
import Derived.Test.YtkkegmimofmhpaaAppG
namespace Go.Proofs.Ytkkegmimofmhpaa
open Go.RowKit

theorem Ext.md {a w w' : World} {F : Nat → Prop} (h : Ext a w) (k : Mod F w w') (hF : ∀ b, F b → a.heap.size ≤ b) : Ext a w' :=
  ⟨k.os.trans h.os, k.tape.trans h.tape, k.output.trans h.output, Nat.le_trans h.size k.size, fun b hb =>
    (k.block b (Nat.lt_of_lt_of_le hb h.size) (fun e => by have := hF b e; omega)).trans (h.block b hb)⟩

theorem Own.clip {w : World} {B e size : Nat} {A : Option Addr} {n c : Nat} {xs : List Value} (h : Own w B e size A n c xs) : Own w B e size A n n xs := by
  obtain ⟨h1, h2, h3, h4⟩ := h
  refine ⟨h1, Nat.le_refl _, by omega, ?_⟩
  rcases h4 with ⟨rfl, rfl⟩ | ⟨g, cur, rfl, hB, hh, hc, ht⟩
  · exact .inl ⟨rfl, by omega⟩
  · exact .inr ⟨g, cur, rfl, hB, hh, Nat.le_trans (Nat.mul_le_mul_right _ h2) hc, ht⟩

theorem readsIn_snoc (f : List Sg.Part) (k : Nat) {p : Sg.Part} (h : f[k]? = some p) : Sg.readsIn (f.take (k + 1)) = if p.kind = 1 then Sg.readsIn (f.take k) ++ [p.n] else Sg.readsIn (f.take k) := by
  rw [take_snoc f k h]
  unfold Sg.readsIn
  rw [List.filter_append, List.map_append]
  by_cases hk : p.kind = 1
  · rw [if_pos hk]; simp [hk]
  · rw [if_neg hk]; simp [hk]
theorem readsIn_len (f : List Sg.Part) (k : Nat) : (Sg.readsIn (f.take k)).length ≤ k := by
  unfold Sg.readsIn
  rw [List.length_map]
  exact Nat.le_trans (List.length_filter_le _ _) (List.length_take_le _ _)

set_option maxRecDepth 100000 in
set_option maxHeartbeats 2000000 in
theorem i_mayRead (A : Option Addr) (c : Nat) (f : List Sg.Part) (w : World) (h : Rd w 5 A f.length (parts f)) (hb : f.length ≤ 1048576) (hv : ∀ p ∈ f, p.kind = 1 → 0 ≤ p.n ∧ p.n ≤ 9) :
    Calls Try.prog 138 #[.agg #[.slice A f.length c]] w fun e w' => ∃ A' c', e = .returned (.slice A' (Sg.mayRead f).length c') ∧ Own w' w.heap.size 3 1 A' (Sg.mayRead f).length c' (ints (Sg.mayRead f)) ∧ Ext w w' := by
  have HC := Lib.hid (Sg.compact_sort f hv)
  clear hv
  go_enter Try.func138, Try.ntmps138
  go_wp2
  go_loopw [3, 9] (fun v i wr => ∃ (k : Nat) (A' : Option Addr) (c' : Nat), k ≤ f.length ∧ i = .int .i64 k ∧ v = .slice A' (Sg.readsIn (f.take k)).length c' ∧ Own wr w.heap.size 3 1 A' (Sg.readsIn (f.take k)).length c' (ints (Sg.readsIn (f.take k))) ∧ Ext w wr) (fun _ i _ => f.length - (intOf i).toNat)
  case atStart => exact ⟨0, none, 0, Nat.zero_le _, rfl, rfl, Own.nil _ _ _ _, (Ext.rfl' w).al _⟩
  case round =>
    obtain ⟨k, A', c', hk, rfl, rfl, hown, hext⟩ := hrel
    have hrl := readsIn_len f k
    by_cases hlt : k < f.length
    · obtain ⟨b, o, p, rfl, hp, hc0, hc1, hc2, hc3, hc4⟩ := (h.ext hext).atP hlt
      have hbw := blt hc0
      have H := Lib.hid (readsIn_snoc f k hp)
      clear hp
      by_cases hk1 : p.kind = 1
      · have e1 := H.out
        rw [if_pos hk1] at e1
        have E1 := Lib.hid e1
        have b1 : (p.kind == 1) = true := by simp [hk1]
        clear e1 H hk1
        have hownA := hown.al (.cells #[.int .i64 p.kind, .int .i64 p.a, .int .i64 p.b, .int .i64 p.c, .int .i64 p.n] 168)
        have hextA := hext.al (.cells #[.int .i64 p.kind, .int .i64 p.a, .int .i64 p.b, .int .i64 p.c, .int .i64 p.n] 168)
        go_wp2_with (at_builtin; refine wpList_app1g rfl rfl eiInt rfl hownA rfl (by simp) rfl (one_int _ _) (by omega) (by omega) hextA.size ?_; intro A2 c2 w2 hown2 hg2 hat2)
        go_roundw
        case rel => exact ⟨k + 1, A2, c2, by omega, by go_num, by rw [E1.out]; simp, by rw [E1.out]; simpa using hown2, hextA.gr hg2 fun g hg => (hown.lt hg).1⟩
        case measure => simp [intOf]; omega
      · have e1 := H.out
        rw [if_neg hk1] at e1
        have E1 := Lib.hid e1
        have b1 : (p.kind == 1) = false := by simp [hk1]
        clear e1 H hk1
        go_wp2
        go_roundw
        case rel => exact ⟨k + 1, A', c', by omega, by go_num, by rw [E1.out], by rw [E1.out]; exact hown.al _, hext.al _⟩
        case measure => simp [intOf]; omega
    · obtain rfl : k = f.length := by omega
      rw [List.take_of_length_le (Nat.le_refl _)] at hown hrl
      have hrl2 : (Sg.readsIn f).length ≤ 4194304 := by omega
      have HT := Lib.hid (List.take_of_length_le (Nat.le_refl f.length))
      have hms : ((Sg.readsIn f).mergeSort fun x y => decide (x ≤ y)).length = (Sg.readsIn f).length := List.length_mergeSort _
      have Hms := Lib.hid hms
      clear hms
      rw [List.take_of_length_le (Nat.le_refl _)]
      go_wp2_with fail
      refine (i_Sort _ _ _ _ hown hrl2).mono ?_
      rintro e w1 ⟨rfl, ho1, hm1⟩
      have he1 := hext.md hm1 (fun b hb => (hown.lt hb).1)
      rw [← Hms.out] at ho1
      go_wp2_with fail
      rw [← Hms.out]
      refine (i_Compact _ _ _ _ ho1 (by rw [Hms.out]; exact hrl2)).mono ?_
      rintro e w2 ⟨rfl, ho2, hm2⟩
      have he2 := he1.md hm2 (fun b hb => (ho1.lt hb).1)
      rw [HC.out] at ho2
      rw [HC.out]
      go_wp2_with (go_at_call 128; refine (i_Clip _ _ _ _ ho2.2.1 ho2.2.2.1).mono ?_; rintro e w3 ⟨rfl, rfl⟩)
      go_ret
      exact ⟨_, _, rfl, Own.clip ho2, he2⟩
end Go.Proofs.Ytkkegmimofmhpaa
