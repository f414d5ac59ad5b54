/- Cells of graphs, and lists of cells that can be written: contracts. Conditions: bounds on lengths. -/
import Derived.Test.YtaklkcjlihdlkaaModelsA
import Derived.Test.YtaklkcjlihdlkaaImplPX
import Derived.Test.YtaklkcjlihdlkaaSpecThree
import Derived.Test.YtaklkcjlihdlkaaSpecTO
import Derived.Deep.DeepCutAuto
namespace Sg
theorem isCell_of {g : Graph} {k : Nat} {n : Node} (h : g[k]? = some n) : isCell g (k : Int) = decide (n.kind = 0) := by
 have hk := (List.getElem?_eq_some_iff.1 h).1
 unfold isCell inR kindAt
 rw [Int.toNat_natCast]
 simp only [List.getD_eq_getElem?_getD, h, Option.getD_some]
 have h1 : decide ((0 : Int) ≤ (k : Int)) = true := by simp
 have h2 : decide ((k : Int) ≤ (g.length : Int) - 1) = true := by simp; omega
 rw [h1, h2]
 rfl
theorem isCell_no {g : Graph} {k : Int} (h : k < 0 ∨ (g.length : Int) ≤ k) : isCell g k = false := by
 unfold isCell
 have : inR k 0 ((g.length : Int) - 1) = false := by simp [inR]; omega
 rw [this]; rfl
/-- the test of one place -/
def placeOk (g : Graph) (nodes : List Int) (k : Nat) : Bool := isCell g (nodes.getD k 0) && decide (nodes.getD k 0 ∉ nodes.take k)
theorem cellsDiffer_eq (g : Graph) (nodes : List Int) : cellsDiffer g nodes = (List.range nodes.length).all (placeOk g nodes) := rfl
theorem all_range_false {p : Nat → Bool} {n k : Nat} (hk : k < n) (h : p k = false) : (List.range n).all p = false := by
 rw [List.all_eq_false]
 exact ⟨k, List.mem_range.2 hk, by simp [h]⟩
theorem all_range_true {p : Nat → Bool} {n : Nat} (h : ∀ k, k < n → p k = true) : (List.range n).all p = true := by
 rw [List.all_eq_true]
 intro k hk
 exact h k (List.mem_range.1 hk)
theorem nodup_bound (n : Nat) : ∀ (l : List Int), l.Nodup → (∀ x ∈ l, 0 ≤ x ∧ x < (n : Int)) → l.length ≤ n := by
 induction n with
 | zero =>
  intro l _ h
  cases l with
  | nil => simp
  | cons x l => have := h x (by simp); omega
 | succ n ih =>
  intro l hn h
  by_cases hm : (n : Int) ∈ l
  ·have h1 := ih (l.erase (n : Int)) (hn.erase _) (fun x hx => by
    have hx2 := h x (List.mem_of_mem_erase hx)
    have hne : x ≠ (n : Int) := fun e => by
     subst e
     exact (List.Nodup.mem_erase_iff hn).1 hx |>.1 rfl
    omega)
   rw [List.length_erase_of_mem hm] at h1
   omega
  ·have := ih l hn (fun x hx => by
    have hx2 := h x hx
    have hne : x ≠ (n : Int) := fun e => hm (e ▸ hx)
    omega)
   omega
theorem cellsDiffer_len {g : Graph} {nodes : List Int} (h : cellsDiffer g nodes = true) : nodes.length ≤ g.length := by
 refine nodup_bound _ _ (cellsDiffer_nodup h) fun x hx => ?_
 obtain ⟨i, hi⟩ := List.getElem?_of_mem hx
 obtain ⟨k, n, rfl, hn, _⟩ := isCell_at (cellsDiffer_at h hi).1
 have := (List.getElem?_eq_some_iff.1 hn).1
 omega
end Sg
namespace Go.Proofs.Ytaklkcjlihdlkaa
open Go.RowKit

theorem i_cellB (A : Option Addr) (c : Nat) (g : Sg.Graph) (k : Int) (w : World) (h : RdN w A g) : Calls Try.prog 25 #[.agg #[.slice A g.length c], .int .i64 k] w fun e w' => e = .returned (.bool (Sg.isCell g k)) ∧ Ext w w' := by
 by_cases hk : k < 0 ∨ (g.length : Int) ≤ k
 ·rw [Sg.isCell_no hk]; exact i_cell_no A c g k w h hk
 ·obtain ⟨j, rfl⟩ := Int.eq_ofNat_of_zero_le (show 0 ≤ k by omega)
  obtain ⟨n, hn⟩ : ∃ n, g[j]? = some n := ⟨_, List.getElem?_eq_getElem (by omega)⟩
  rw [Sg.isCell_of hn]; exact i_cell A c g j n w h hn

set_option maxHeartbeats 1000000 in
theorem s_isCell (A : Option Addr) (c : Nat) (g : Sg.Graph) (k : Int) (w : World) (h : RdN w A g) : Calls Try.prog 30 #[.agg #[.slice A g.length c], .int .i64 k] w fun e w' => e = .returned (.bool (Sg.isCell g k)) ∧ Ext w w' := by
 have hgl := h.1
 have e0 := (Ext.rfl' w).al (.cells #[.slice A g.length c] 25)
 have HE := lh e0
 have q0 : (w.alloc (.cells #[.slice A g.length c] 25)).cell? ⟨w.heap.size, 0, none⟩ = some (.slice A g.length c) := by simp [go_sem]
 by_cases hk : k < 0 ∨ (g.length : Int) ≤ k
 ·have Hin := lh (show Sg.inR k 0 ((g.length : Int) - 1) = false by simp [Sg.inR]; omega)
  have HS := lh (Sg.isCell_no (g := g) hk)
  have HI := lh (fun w => s_inRange k 0 ((g.length : Int) - 1) w)
  have hw : IntKind.i64.wrap ((g.length : Int) - 1) = (g.length : Int) - 1 := IntWalk.i64_in _ (by omega)
  clear hk h e0
  go_enter Try.func30, Try.ntmps30
  go_wp2_with (go_at_call 31; refine (HI.out _).mono ?_; rintro e w1 ⟨rfl, rfl⟩; rw [Hin.out])
  go_ret
  exact ⟨ret_bool HS.out.symm, HE.out⟩
 ·obtain ⟨j, rfl⟩ := Int.eq_ofNat_of_zero_le (show 0 ≤ k by omega)
  have hj : j < g.length := by omega
  obtain ⟨n, b, o, Ap, cp, hn, rfl, hkc, hs, hf, hfl⟩ := (h.ext e0).at_ hj
  have Hin := lh (show Sg.inR (j : Int) 0 ((g.length : Int) - 1) = true by simp [Sg.inR]; omega)
  have HS := lh (Sg.isCell_of hn)
  have HI := lh (fun w => s_inRange (j : Int) 0 ((g.length : Int) - 1) w)
  have hw : IntKind.i64.wrap ((g.length : Int) - 1) = (g.length : Int) - 1 := IntWalk.i64_in _ (by omega)
  have bk := blt hkc
  clear hk h e0 hn hs hf hfl
  by_cases hz : n.kind = 0
  ·have z : (n.kind == 0) = true := by simp [hz]
   have Hz := lh hz
   clear hz
   go_enter Try.func30, Try.ntmps30
   go_wp2_with (go_at_call 31; refine (HI.out _).mono ?_; rintro e w1 ⟨rfl, rfl⟩; rw [Hin.out])
   go_ret
   exact ⟨ret_bool (by rw [HS.out]; simp [Hz.out]), HE.out⟩
  ·have z : (n.kind == 0) = false := by simp [hz]
   have Hz := lh hz
   clear hz
   go_enter Try.func30, Try.ntmps30
   go_wp2_with (go_at_call 31; refine (HI.out _).mono ?_; rintro e w1 ⟨rfl, rfl⟩; rw [Hin.out])
   go_ret
   exact ⟨ret_bool (by rw [HS.out]; simp [Hz.out]), HE.out⟩

theorem lt_more {p : Nat → Prop} {k : Nat} (h : ∀ j, j < k → p j) (hk : p k) : ∀ j, j < k + 1 → p j := by
 intro j hj
 by_cases e : j = k
 ·subst e; exact hk
 ·exact h j (by omega)
theorem Rd.front {w : World} {A : Option Addr} {n : Nat} {l : List Int} (h : Rd w 1 A n (ints l)) (i : Nat) (hi : i ≤ n) : Rd w 1 A i (ints (l.take i)) := by
 have hl := h.len
 refine ⟨by simp; omega, by have := h.2.1; omega, fun h0 => ?_⟩
 obtain ⟨b0, o0, ha, hc⟩ := h.2.2 (by omega)
 refine ⟨b0, o0, ha, fun j u hu => hc j u ?_⟩
 rw [ints_at] at hu ⊢
 rw [List.getElem?_take] at hu
 split at hu
 ·exact hu
 ·simp at hu

end Go.Proofs.Ytaklkcjlihdlkaa
