/- Parts of one proof, joined. The reference's small functions: contracts. Conditions: bounds on lengths. The reference's functions on parts: contracts. Conditions: values in 0..999 for joined. The reference's functions on one part: contracts. Conditions: none. The reference's validFormula: its contract. Conditions: at most 2^20 parts. -/
import Derived.Test.YtdnlpklmihoapaaDoorCore
/- The reference's small functions: contracts. Conditions: bounds on lengths. -/
namespace Go.Proofs.YtdnlpklmihoapaaDoor
open Go.RowKit

theorem s_inRange (n lo hi : Int) (w : World) : Calls Tryd.prog 62 #[.int .i64 n, .int .i64 lo, .int .i64 hi] w fun e w' => e = .returned (.bool (Sg.inR n lo hi)) ∧ w = w' := by
 by_cases h1 : lo ≤ n
 ·by_cases h2 : n ≤ hi
  ·go_enter Tryd.func62, Tryd.ntmps62
   go_wp2
   go_ret
   exact ⟨ret_bool (by simp [Sg.inR, h1, h2]), rfl⟩
  ·go_enter Tryd.func62, Tryd.ntmps62
   go_wp2
   go_ret
   exact ⟨ret_bool (by simp [Sg.inR, h2]), rfl⟩
 ·go_enter Tryd.func62, Tryd.ntmps62
  go_wp2
  go_ret
  exact ⟨ret_bool (by simp [Sg.inR]; omega), rfl⟩

def placeFrom (n : Int) : Nat → List Int → Int
 | _, [] => -1
 | k, x :: l => if x = n then k else placeFrom n (k + 1) l
def placeIn (l : List Int) (n : Int) : Int := placeFrom n 0 l
theorem placeFrom_neg (n : Int) (l : List Int) (k : Nat) : placeFrom n k l < 0 ↔ n ∉ l := by
 induction l generalizing k with
 | nil => simp [placeFrom]
 | cons x l ih =>
  simp only [placeFrom]
  by_cases h : x = n
  ·simp [h]
  ·rw [if_neg h, ih]; simp; exact fun _ => fun e => h e.symm
theorem placeIn_neg (l : List Int) (n : Int) : placeIn l n < 0 ↔ n ∉ l := placeFrom_neg n l 0

theorem s_copyInts (A : Option Addr) (len c : Nat) (l : List Int) (w : World) (h : Rd w 1 A len (ints l)) (hb : len ≤ 4194304) :
  Calls Tryd.prog 83 #[.slice A len c] w fun e w' => ∃ A' c', e = .returned (.slice A' len c') ∧ Own w' w.heap.size 3 1 A' len c' (ints l) ∧ Ext w w' := by
 have hs := (h.ext ((Ext.rfl' w).al (.cells #[] 3)))
 go_enter Tryd.func83, Tryd.ntmps83
 go_wp2_with (at_builtin; refine wpList_appR rfl rfl eiInt rfl (Own.new w 3 1 #[] 0 (Nat.le_refl _) (by unfold maxLen; omega) rfl) rfl hs (one_ints l) (by unfold maxLen; omega) (by omega) (by simp) ?_; intro A2 c2 w2 hown2 hg2 hat2)
 go_ret
 exact ⟨A2, c2, by simp, by simpa using hown2, ((Ext.rfl' w).al _).gr hg2 (by simp [blk])⟩

def FO (l : List Int) (k : Nat) : List Int := Sg.firstOnly (l.take k)
theorem FO_succ (l : List Int) (k : Nat) {x : Int} (h : l[k]? = some x) : FO l (k + 1) = if placeIn (FO l k) x < 0 then FO l k ++ [x] else FO l k := by
 unfold FO Sg.firstOnly
 rw [take_snoc l k h, List.foldl_append]
 simp only [List.foldl_cons, List.foldl_nil, Sg.once, placeIn_neg]
 split <;> rename_i h1 <;> simp_all
theorem once_len (out : List Int) (x : Int) : (Sg.once out x).length ≤ out.length + 1 := by
 unfold Sg.once; split <;> simp
theorem foldl_once_len (l out : List Int) : (l.foldl Sg.once out).length ≤ out.length + l.length := by
 induction l generalizing out with
 | nil => simp
 | cons x l ih => have := ih (Sg.once out x); have := once_len out x; simp; omega
theorem firstOnly_len (l : List Int) : (Sg.firstOnly l).length ≤ l.length := by have := foldl_once_len l []; unfold Sg.firstOnly; simpa using this
theorem FO_len (l : List Int) (k : Nat) : (FO l k).length ≤ k := by
 have := firstOnly_len (l.take k); simp at this; unfold FO; omega
theorem FO_all (l : List Int) (k : Nat) (h : l.length ≤ k) : FO l k = Sg.firstOnly l := by unfold FO; rw [List.take_of_length_le h]

end Go.Proofs.YtdnlpklmihoapaaDoor

/- The reference's functions on parts: contracts. Conditions: values in 0..999 for joined. -/
namespace Go.Proofs.YtdnlpklmihoapaaDoor
open Go.RowKit

def arity (k : Int) : Int := if k = 0 ∨ k = 1 then 0 else if 2 ≤ k ∧ k ≤ 7 then 2 else if k = 8 then 3 else -1

set_option maxHeartbeats 800000 in
theorem s_arity (k : Int) (w : World) : Calls Tryd.prog 82 #[.int .i64 k] w fun e w' => e = .returned (.int .i64 (arity k)) ∧ w = w' := by
 have cases : k = 0 ∨ k = 1 ∨ k = 2 ∨ k = 3 ∨ k = 4 ∨ k = 5 ∨ k = 6 ∨ k = 7 ∨ k = 8 ∨ (k < 0 ∨ 8 < k) := by omega
 rcases cases with rfl | rfl | rfl | rfl | rfl | rfl | rfl | rfl | rfl | h
 all_goals
  go_enter Tryd.func82, Tryd.ntmps82
  go_wp2
  go_ret
  exact ⟨ret_int (by unfold arity; first | rfl | (rw [if_neg (by omega), if_neg (by omega), if_neg (by omega)])), rfl⟩

end Go.Proofs.YtdnlpklmihoapaaDoor

/- The reference's functions on one part: contracts. Conditions: none. -/
namespace Go.Proofs.YtdnlpklmihoapaaDoor
open Go.RowKit

theorem arity_cases (k : Int) : (arity k = 0 ∧ (k = 0 ∨ k = 1)) ∨ (arity k = 2 ∧ 2 ≤ k ∧ k ≤ 7) ∨ (arity k = 3 ∧ k = 8) ∨ (arity k = -1 ∧ (k < 0 ∨ 8 < k)) := by
 unfold arity; split
 ·left; omega
 ·split
  ·right; left; omega
  ·split
   ·right; right; left; omega
   ·right; right; right; omega

set_option maxHeartbeats 800000 in
theorem s_below (p : Sg.Part) (w : World) : Calls Tryd.prog 77 #[pv p] w fun e w' => ∃ A' c', e = .returned (.slice A' (Sg.below p).length c') ∧ Own w' w.heap.size 3 1 A' (Sg.below p).length c' (ints (Sg.below p)) ∧ Ext w w' := by
 have finish : ∀ (l : List Int) (cs : List Value) (o : Obj), Sg.below p = l → cs = ints l → l.length ≤ 3 →
   Own ((w.alloc o).alloc (.cells cs.toArray 3)) w.heap.size 3 1 (some ⟨w.heap.size + 1, 0, none⟩) l.length l.length (ints l) ∧ Ext w ((w.alloc o).alloc (.cells cs.toArray 3)) := by
  rintro l cs o _ rfl hl
  refine ⟨?_, ((Ext.rfl' w).al _).al _⟩
  have := Own.new (w.alloc o) (B := w.heap.size) 3 1 (ints l).toArray l.length (by simp) (by unfold maxLen; omega) (by simp)
  simpa using this
 rcases arity_cases p.kind with ⟨h, hk⟩ | ⟨h, hk⟩ | ⟨h, hk⟩ | ⟨h, hk⟩
 all_goals
  have H := lh h
  have Hk := lh hk
  clear h hk
  go_enter Tryd.func77, Tryd.ntmps77
  go_wp2_with (go_at_call 82; refine (s_arity _ _).mono ?_; rintro e w' ⟨rfl, rfl⟩; rw [H.out])
  go_ret
  have hk := Hk.out
 ·have hb : Sg.below p = [] := by unfold Sg.below; rw [if_neg (by omega), if_neg (by omega)]
  rw [hb]; exact ⟨_, _, rfl, finish [] [] _ hb rfl (by simp)⟩
 ·have hb : Sg.below p = [p.a, p.b] := by unfold Sg.below; rw [if_neg (by omega), if_pos (by omega)]
  rw [hb]; exact ⟨_, _, rfl, finish [p.a, p.b] _ _ hb rfl (by simp)⟩
 ·have hb : Sg.below p = [p.a, p.b, p.c] := by unfold Sg.below; rw [if_pos (by omega)]
  rw [hb]; exact ⟨_, _, rfl, finish [p.a, p.b, p.c] _ _ hb rfl (by simp)⟩
 ·have hb : Sg.below p = [] := by unfold Sg.below; rw [if_neg (by omega), if_neg (by omega)]
  rw [hb]; exact ⟨_, _, rfl, finish [] [] _ hb rfl (by simp)⟩

theorem below0 {p : Sg.Part} (h : p.kind = 0 ∨ p.kind = 1) : Sg.below p = [] := by unfold Sg.below; rw [if_neg (by omega), if_neg (by omega)]
theorem below2 {p : Sg.Part} (h : 2 ≤ p.kind ∧ p.kind ≤ 7) : Sg.below p = [p.a, p.b] := by unfold Sg.below; rw [if_neg (by omega), if_pos (by omega)]
theorem below3 {p : Sg.Part} (h : p.kind = 8) : Sg.below p = [p.a, p.b, p.c] := by unfold Sg.below; rw [if_pos (by omega)]
theorem belowN {p : Sg.Part} (h : p.kind < 0 ∨ 8 < p.kind) : Sg.below p = [] := by unfold Sg.below; rw [if_neg (by omega), if_neg (by omega)]
theorem good0 {p : Sg.Part} (i : Nat) (h : p.kind = 0) : Sg.goodPart p i = (p.a == -1 && p.b == -1 && p.c == -1 && Sg.inR p.n 0 99) := by
 unfold Sg.goodPart Sg.alone; rw [below0 (.inl h), if_pos h]; simp only [List.all_nil, Bool.and_true]
 cases Sg.inR p.n 0 99 <;> simp
theorem good1 {p : Sg.Part} (i : Nat) (h : p.kind = 1) : Sg.goodPart p i = (p.a == -1 && p.b == -1 && p.c == -1 && Sg.inR p.n 0 9) := by
 unfold Sg.goodPart Sg.alone; rw [below0 (.inr h), if_neg (by omega), if_pos h]; simp only [List.all_nil, Bool.and_true]
 cases Sg.inR p.n 0 9 <;> simp
theorem good2 {p : Sg.Part} (i : Nat) (h : 2 ≤ p.kind ∧ p.kind ≤ 7) : Sg.goodPart p i = (Sg.inR p.a 0 ((i : Int) - 1) && Sg.inR p.b 0 ((i : Int) - 1) && p.c == -1 && p.n == 0) := by
 unfold Sg.goodPart Sg.alone; rw [below2 h, if_neg (by omega), if_neg (by omega), if_neg (by omega), if_pos h]; simp only [List.all_nil, List.all_cons, Bool.and_true]
 cases Sg.inR p.a 0 ((i : Int) - 1) <;> cases Sg.inR p.b 0 ((i : Int) - 1) <;> simp [Bool.and_comm]
theorem good3 {p : Sg.Part} (i : Nat) (h : p.kind = 8) : Sg.goodPart p i = (Sg.inR p.a 0 ((i : Int) - 1) && Sg.inR p.b 0 ((i : Int) - 1) && Sg.inR p.c 0 ((i : Int) - 1) && p.n == 0) := by
 unfold Sg.goodPart Sg.alone; rw [below3 h, if_neg (by omega), if_neg (by omega), if_pos h]; simp only [List.all_nil, List.all_cons, Bool.and_true]
 cases Sg.inR p.a 0 ((i : Int) - 1) <;> cases Sg.inR p.b 0 ((i : Int) - 1) <;> cases Sg.inR p.c 0 ((i : Int) - 1) <;> simp
theorem goodN {p : Sg.Part} (i : Nat) (h : p.kind < 0 ∨ 8 < p.kind) : Sg.goodPart p i = false := by
 unfold Sg.goodPart Sg.alone; rw [if_neg (by omega), if_neg (by omega), if_neg (by omega), if_neg (by omega)]; rfl

set_option maxHeartbeats 1000000 in
theorem s_goodPart (p : Sg.Part) (i : Nat) (w : World) (hi : i ≤ 4194304) : Calls Tryd.prog 76 #[pv p, .int .i64 i] w fun e w' => e = .returned (.bool (Sg.goodPart p i)) ∧ Ext w w' := by
 obtain ⟨k, a, b, c, n⟩ := p
 have cases : k = 0 ∨ k = 1 ∨ (2 ≤ k ∧ k ≤ 7) ∨ k = 8 ∨ (k < 0 ∨ 8 < k) := by omega
 rcases cases with h | h | h | h | h
 ·have hg := lh (good0 (p := ⟨k, a, b, c, n⟩) i h)
  have H := lh (show arity k = 0 by subst h; rfl)
  have h0 : (k == 1) = false := by simp [h]
  clear h
  go_enter Tryd.func76, Tryd.ntmps76
  go_wp2_with (first
   | (go_at_call 82; refine (s_arity _ _).mono ?_; rintro e w' ⟨rfl, rfl⟩; rw [H.out])
   | (go_at_call 62; refine (s_inRange _ _ _ _).mono ?_; rintro e w' ⟨rfl, rfl⟩))
  all_goals (go_ret; exact ⟨ret_bool (by rw [hg.out]; simp_all), (Ext.rfl' w).al _⟩)
 ·have hg := lh (good1 (p := ⟨k, a, b, c, n⟩) i h)
  have H := lh (show arity k = 0 by subst h; rfl)
  have h0 : (k == 1) = true := by simp [h]
  clear h
  go_enter Tryd.func76, Tryd.ntmps76
  go_wp2_with (first
   | (go_at_call 82; refine (s_arity _ _).mono ?_; rintro e w' ⟨rfl, rfl⟩; rw [H.out])
   | (go_at_call 62; refine (s_inRange _ _ _ _).mono ?_; rintro e w' ⟨rfl, rfl⟩))
  all_goals (go_ret; exact ⟨ret_bool (by rw [hg.out]; simp_all), (Ext.rfl' w).al _⟩)
 ·have hg := lh (good2 (p := ⟨k, a, b, c, n⟩) i h)
  have H := lh (show arity k = 2 by unfold arity; rw [if_neg (by omega), if_pos h])
  clear h
  go_enter Tryd.func76, Tryd.ntmps76
  go_wp2_with (first
   | (go_at_call 82; refine (s_arity _ _).mono ?_; rintro e w' ⟨rfl, rfl⟩; rw [H.out])
   | (go_at_call 62; refine (s_inRange _ _ _ _).mono ?_; rintro e w' ⟨rfl, rfl⟩))
  all_goals (go_ret; exact ⟨ret_bool (by rw [hg.out]; simp_all), (Ext.rfl' w).al _⟩)
 ·have hg := lh (good3 (p := ⟨k, a, b, c, n⟩) i h)
  have H := lh (show arity k = 3 by subst h; rfl)
  clear h
  go_enter Tryd.func76, Tryd.ntmps76
  go_wp2_with (first
   | (go_at_call 82; refine (s_arity _ _).mono ?_; rintro e w' ⟨rfl, rfl⟩; rw [H.out])
   | (go_at_call 62; refine (s_inRange _ _ _ _).mono ?_; rintro e w' ⟨rfl, rfl⟩))
  all_goals (go_ret; exact ⟨ret_bool (by rw [hg.out]; simp_all), (Ext.rfl' w).al _⟩)
 ·have hg := lh (goodN (p := ⟨k, a, b, c, n⟩) i h)
  have H := lh (show arity k = -1 by unfold arity; rw [if_neg (by omega), if_neg (by omega), if_neg (by omega)])
  clear h
  go_enter Tryd.func76, Tryd.ntmps76
  go_wp2_with (first
   | (go_at_call 82; refine (s_arity _ _).mono ?_; rintro e w' ⟨rfl, rfl⟩; rw [H.out])
   | (go_at_call 62; refine (s_inRange _ _ _ _).mono ?_; rintro e w' ⟨rfl, rfl⟩))
  all_goals (go_ret; exact ⟨ret_bool (by rw [hg.out]), (Ext.rfl' w).al _⟩)
end Go.Proofs.YtdnlpklmihoapaaDoor

/- The reference's validFormula: its contract. Conditions: at most 2^20 parts. -/
namespace Go.Proofs.YtdnlpklmihoapaaDoor
open Go.RowKit

theorem take_belows (f : List Sg.Part) (k : Nat) {p : Sg.Part} (h : f[k]? = some p) : Sg.belows (f.take (k + 1)) = Sg.belows (f.take k) ++ Sg.below p := by
 rw [take_snoc f k h]; simp [Sg.belows]
theorem take_good (f : List Sg.Part) (k : Nat) {p : Sg.Part} (h : f[k]? = some p) : Sg.goodFrom 0 (f.take (k + 1)) = (Sg.goodFrom 0 (f.take k) && Sg.goodPart p k) := by
 have hk : k < f.length := (List.getElem?_eq_some_iff.1 h).1
 rw [take_snoc f k h, Sg.goodFrom_snoc, List.length_take, Nat.zero_add, Nat.min_eq_left (by omega)]
theorem goodFrom_false (f : List Sg.Part) (k j : Nat) (h : Sg.goodFrom j (f.take k) = false) : Sg.goodFrom j f = false := by
 induction f generalizing k j with
 | nil => simpa using h
 | cons p f ih =>
  cases k with
  | zero => simp [Sg.goodFrom] at h
  | succ k =>
   simp only [List.take_succ_cons, Sg.goodFrom, Bool.and_eq_false_iff] at h ⊢
   rcases h with h | h
   ·exact .inl h
   ·exact .inr (ih k (j + 1) h)

def firsts (U : List Int) (i : Nat) : Prop := ∀ m, m < i → U.getD m 0 = 1
theorem firsts_zero (U : List Int) : firsts U 0 := fun m h => absurd h (by omega)
theorem firsts_succ {U : List Int} {i : Nat} (h : firsts U i) (hu : U.getD i 0 = 1) : firsts U (i + 1) := fun m hm => by
 rcases Nat.lt_or_ge m i with h1 | h1
 ·exact h m h1
 ·obtain rfl : m = i := by omega
  exact hu

set_option maxRecDepth 100000 in
set_option maxHeartbeats 2000000 in
theorem s_validFormula (A : Option Addr) (c : Nat) (f : List Sg.Part) (w : World) (h : Rd w 5 A f.length (parts f)) (hb : f.length ≤ 1048576) :
  Calls Tryd.prog 41 #[.agg #[.slice A f.length c]] w fun e w' => e = .returned (.bool (Sg.validF f)) ∧ Ext w w' := by
 go_enter Tryd.func41, Tryd.ntmps41
 go_wp2_with (at_make; refine wpList_mk rfl rfl eiInt (B := w.heap.size + 1) rfl rfl (by omega) (by omega) (by simp) ?_; intro w1 hown hext)
 obtain ⟨W0, hW0⟩ : ∃ W0, W0 = w.alloc (.cells #[.slice A f.length c] 39) := ⟨_, rfl⟩
 have hsz : W0.heap.size = w.heap.size + 1 := by rw [hW0]; simp
 have hW : Ext w W0 := by rw [hW0]; exact (Ext.rfl' w).al _
 have hbox : W0.cell? ⟨w.heap.size, 0, none⟩ = some (.slice A f.length c) := by rw [hW0]; simp [go_sem]
 rw [← hW0] at hext
 rw [made_one _ _ rfl, show w.heap.size + 1 = W0.heap.size from hsz.symm] at hown
 rw [show (w.alloc (Obj.cells #[Value.slice A f.length c] 39)).heap.size = w.heap.size + 1 from by simp] at hown
 have hu0 : List.replicate f.length (Value.int .i64 0) = ints (Sg.cnt f.length (Sg.belows (f.take 0))) := by simp [Sg.belows, Sg.cnt, ints]
 rw [hu0] at hown
 clear hu0 hW0
 go_loopw [4] (fun i wr => ∃ (k : Nat), k ≤ f.length ∧ i = .int .i64 k ∧ Ext W0 wr ∧ Own wr W0.heap.size 3 1 (some ⟨w.heap.size + 1, 0, none⟩) f.length f.length (ints (Sg.cnt f.length (Sg.belows (f.take k)))) ∧ Sg.goodFrom 0 (f.take k) = true) (fun i _ => f.length - (intOf i).toNat)
 case atStart => exact ⟨0, Nat.zero_le _, rfl, hext, hown, by simp [Sg.goodFrom]⟩
 case round =>
  clear hown hext
  obtain ⟨k, hk, rfl, he, hown, hgood⟩ := hrel
  have hbx := he.cellE hbox
  have Hsz := lh hsz
  clear hbox hsz
  have hwr : w.heap.size + 1 < wr.heap.size := by have := (hown.lt (g := w.heap.size + 1) rfl).2; omega
  by_cases hlt : k < f.length
  ·obtain ⟨b, o, p, rfl, hp, hc0, hc1, hc2, hc3, hc4⟩ := (h.ext (hW.tr he)).atP hlt
   cases hgp : Sg.goodPart p k
   ·have Hg := lh hgp
    have Hp := lh hp
    have Hgood := lh hgood
    clear hgp hp hgood
    go_wp2_with (go_at_call 76; refine (s_goodPart p k _ (by omega)).mono ?_; rintro e w2 ⟨rfl, he2⟩; rw [Hg.out])
    go_ret
    refine ⟨ret_bool ?_, (hW.tr he).tr he2⟩
    have := goodFrom_false f (k + 1) 0 (by rw [take_good f k Hp.out, Hg.out, Bool.and_false])
    simp [Sg.validF, this]
   ·have Hg := lh hgp
    have Hp := lh hp
    have Hgood := lh hgood
    clear hgp hp hgood
    go_wp2_with (first
     | (go_at_call 76; refine (s_goodPart p k _ (by omega)).mono ?_; rintro e w2 ⟨rfl, he2⟩; rw [Hg.out]; have hbx2 := he2.cellE hbx; have d0 := he2.cellE hc0; have d1 := he2.cellE hc1; have d2 := he2.cellE hc2; have d3 := he2.cellE hc3; have d4 := he2.cellE hc4)
     | (go_at_call 77; refine (s_below p _).mono ?_; rintro e w3 ⟨A3, c3, rfl, hown3, he3⟩))
    have he03 := (he.tr he2).tr he3
    have hown0 := (hown.ext he2).ext he3
    have hsz2 := he2.size
    have hsz3 := he3.size
    clear hbx2 d0 d1 d2 d3 d4 hbx hc0 hc1 hc2 hc3 hc4 hown he
    go_loopw [6] (fun j wi => ∃ (j' : Nat), j' ≤ (Sg.below p).length ∧ j = .int .i64 j' ∧ Ext W0 wi ∧ Own wi w2.heap.size 3 1 A3 (Sg.below p).length c3 (ints (Sg.below p)) ∧
     Own wi W0.heap.size 3 1 (some ⟨w.heap.size + 1, 0, none⟩) f.length f.length (ints (Sg.cnt f.length (Sg.belows (f.take k) ++ (Sg.below p).take j')))) (fun j _ => (Sg.below p).length - (intOf j).toNat)
    case atStart => exact ⟨0, Nat.zero_le _, rfl, he03, hown3, by simpa using hown0⟩
    case round =>
     clear hown3 hown0 he03 he2 he3
     obtain ⟨j, hj, rfl, hei, hl, hU⟩ := hrel
     have hb3 := Sg.below_len p
     by_cases hlj : j < (Sg.below p).length
     ·obtain ⟨bl, ol, x, rfl, hx, hcx⟩ := hl.rd.at1 hlj
      have hxr := Sg.goodPart_below Hg.out x (List.mem_of_getElem? hx)
      obtain ⟨X, rfl⟩ := Int.eq_ofNat_of_zero_le hxr.1
      have hXn : X < f.length := by omega
      obtain ⟨U, hUd⟩ : ∃ U, U = Sg.cnt f.length (Sg.belows (f.take k) ++ (Sg.below p).take j) := ⟨_, rfl⟩
      have hpos : ∀ y ∈ Sg.belows (f.take k) ++ (Sg.below p).take j, 0 ≤ y := by
       intro y hy
       rcases List.mem_append.1 hy with hy | hy
       ·exact Sg.goodFrom_take f k 0 Hgood.out y hy
       ·exact (Sg.goodPart_below Hg.out y (List.mem_of_mem_take hy)).1
      have hlenU : U.length = f.length := by rw [hUd, Sg.length_cnt]
      have hux : U[X]? = some (U.getD X 0) := by rw [List.getD_eq_getElem?_getD, List.getElem?_eq_getElem (by omega)]; rfl
      have hub := Sg.cnt_le f.length _ X hpos hXn
      rw [← hUd] at hub hU
      have hbl := Sg.belows_len (f.take k)
      have htl : ((Sg.below p).take j).length ≤ 3 := Nat.le_trans (List.length_take_le _ _) (by omega)
      have htk : (f.take k).length ≤ k := List.length_take_le _ _
      rw [List.length_append] at hub
      have hnext : Sg.cnt f.length (Sg.belows (f.take k) ++ (Sg.below p).take (j + 1)) = U.set X (U.getD X 0 + 1) := by
       rw [take_snoc _ _ hx, ← List.append_assoc, Sg.cnt_snoc, ← hUd]; rfl
      obtain ⟨u, hu⟩ : ∃ u, u = U.getD X 0 := ⟨_, rfl⟩
      rw [← hu] at hub hnext hux
      have hcu := hU.cell (j := X) (u := .int .i64 u) (by rw [ints_at, hux]; rfl)
      have hfu := hU.free X
      have hub1 : 0 ≤ u := hub.1
      have hub2 : u ≤ 4194304 := by have := hub.2; omega
      have H1 := lh hnext
      have H2 := lh hx
      clear hnext hx hu hux hUd hlenU hpos hub hbl htl htk
      go_wp2
      go_region
      go_wp2
      go_roundw
      case rel =>
       have hU' := (hU.st X (.int .i64 (u + 1))).dr
       rw [ints_set, ← H1.out] at hU'
       exact ⟨j + 1, by omega, by go_num, (hei.set (by have := Hsz.out; simp; omega) _).dr, (hl.set (by simp [blk]; have := (hl.lt (g := bl) rfl).1; omega) _).dr, hU'⟩
      case measure => simp [intOf]; omega
     ·obtain rfl : j = (Sg.below p).length := by omega
      go_wp2
      go_roundw
      case rel =>
       refine ⟨k + 1, by omega, by go_num, hei, ?_, ?_⟩
       ·rw [take_belows f k Hp.out]; simpa using hU
       ·rw [take_good f k Hp.out, Hg.out, Hgood.out]; rfl
      case measure => simp [intOf]; omega
  ·obtain rfl : k = f.length := by omega
   rw [List.take_of_length_le (Nat.le_refl _)] at hgood hown
   have hpos := Sg.goodFrom_take f f.length 0 (by rw [List.take_of_length_le (Nat.le_refl _)]; exact hgood)
   rw [List.take_of_length_le (Nat.le_refl _)] at hpos
   have Hgood := lh hgood
   have Hpos := lh hpos
   clear hgood hpos
   go_wp2
   go_loop [7] (fun i => ∃ k : Nat, k ≤ f.length ∧ i = .int .i64 k ∧ firsts (Sg.cnt f.length (Sg.belows f)) k) (fun i => f.length - (intOf i).toNat)
   case atStart => exact ⟨0, Nat.zero_le _, rfl, firsts_zero _⟩
   case round =>
    obtain ⟨k, hk, rfl, hfi⟩ := hrel
    by_cases hlk : k + 1 < f.length
    ·obtain ⟨U, hUd⟩ : ∃ U, U = Sg.cnt f.length (Sg.belows f) := ⟨_, rfl⟩
     rw [← hUd] at hown hfi
     have hlenU : U.length = f.length := by rw [hUd, Sg.length_cnt]
     obtain ⟨u, hu⟩ : ∃ u, u = U.getD k 0 := ⟨_, rfl⟩
     have hux : U[k]? = some u := by rw [hu, List.getD_eq_getElem?_getD, List.getElem?_eq_getElem (by omega)]; rfl
     have hcu := hown.cell (j := k) (u := .int .i64 u) (by rw [ints_at, hux]; rfl)
     have Hu := lh hu
     have HU := lh hUd
     clear hu hux hlenU hUd
     go_wp2
     ·have hne : ¬ u = 1 := by simpa using ‹(u != 1) = true›
      go_ret
      refine ⟨ret_bool ?_, hW.tr he⟩
      have := Sg.usesOk_not f Hpos.out k hlk (by rw [← HU.out, ← Hu.out]; exact hne)
      simp [Sg.validF, this]
     ·have heq : u = 1 := by simpa using ‹(u != 1) = false›
      go_round
      case rel => exact ⟨k + 1, by omega, by go_num, by rw [← HU.out]; exact firsts_succ hfi (by rw [← Hu.out, heq])⟩
      case measure => simp [intOf]; omega
    ·have Hfi := lh hfi
     clear hfi
     go_wp2_with (go_at_call 62; refine (s_inRange _ _ _ _).mono ?_; rintro e w4 ⟨rfl, rfl⟩)
     go_ret
     refine ⟨ret_bool ?_, hW.tr he⟩
     have := Sg.usesOk_of f Hpos.out (fun i hi => Hfi.out i (by omega))
     simp [Sg.validF, this, Hgood.out]
end Go.Proofs.YtdnlpklmihoapaaDoor
