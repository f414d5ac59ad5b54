/- Parts of one proof, joined. The program's nodeValid, with its function value: contracts. Conditions: valid graphs, lists of one length. The program's ValidLazy: its contract. Conditions: bounds on lengths. -/
import Derived.Test.YtdnlpklmihoapaaDoorImplS
import Derived.Test.YtdnlpklmihoapaaDoorImplPX
import Derived.Test.YtdnlpklmihoapaaDoorImplThree
import Derived.Test.YtdnlpklmihoapaaDoorModelsA
import Derived.Test.YtdnlpklmihoapaaDoorSpecQRS
import Derived.Test.YtdnlpklmihoapaaDoorSepAll
/- The program's nodeValid, with its function value: contracts. Conditions: valid graphs, lists of one length. -/
namespace Go.Proofs.YtdnlpklmihoapaaDoor
open Go.RowKit

section
variable {g : Sg.Graph} {v q : List Int} {r : List (List Int)} {k : Nat} {nk x qk : Int} {nf : List Sg.Part} {l : List Int}
theorem colAt_cell (hn : g[k]? = some ⟨nk, nf⟩) (hl : r[k]? = some l) (hq : q[k]? = some qk) (h0 : nk = 0) : Sg.colAt g ⟨v, r, q⟩ k = (decide (qk = 0) && l.isEmpty) := by
 unfold Sg.colAt; simp [hn, hl, hq, h0]
theorem colAt_dirty (hn : g[k]? = some ⟨nk, nf⟩) (hl : r[k]? = some l) (hq : q[k]? = some qk) (h0 : nk ≠ 0) (h2 : qk = 2) : Sg.colAt g ⟨v, r, q⟩ k = (l.all (fun x => decide (x ∈ Sg.mayRead nf)) && Sg.distinct l) := by
 unfold Sg.colAt; simp [hn, hl, hq, h0, h2]
theorem colAt_right (hn : g[k]? = some ⟨nk, nf⟩) (hl : r[k]? = some l) (hx : v[k]? = some x) (h0 : nk ≠ 0) : Sg.rightAt g v r k = (decide ((Sg.runF nf v).1 = x) && decide ((Sg.runF nf v).2 = l)) := by
 unfold Sg.rightAt; simp [hn, hl, hx, h0]
theorem colAt_check (hn : g[k]? = some ⟨nk, nf⟩) (hl : r[k]? = some l) (hq : q[k]? = some qk) (hx : v[k]? = some x) (h0 : nk ≠ 0) (h1 : qk = 1) : Sg.colAt g ⟨v, r, q⟩ k = (decide ((Sg.runF nf v).1 = x) && decide ((Sg.runF nf v).2 = l)) := by
 rw [← colAt_right hn hl hx h0]
 unfold Sg.colAt; simp [hn, hq, h0, h1]
theorem colAt_clean (hn : g[k]? = some ⟨nk, nf⟩) (hl : r[k]? = some l) (hq : q[k]? = some qk) (hx : v[k]? = some x) (h0 : nk ≠ 0) (h1 : qk = 0) :
  Sg.colAt g ⟨v, r, q⟩ k = ((decide ((Sg.runF nf v).1 = x) && decide ((Sg.runF nf v).2 = l)) && l.all fun x => Sg.rd q x == 0) := by
 rw [← colAt_right hn hl hx h0]
 unfold Sg.colAt; simp [hn, hl, hq, h0, h1]
theorem colAt_bad (hn : g[k]? = some ⟨nk, nf⟩) (hq : q[k]? = some qk) (h0 : nk ≠ 0) (h2 : qk ≠ 2) (h1 : qk ≠ 1) (h3 : qk ≠ 0) : Sg.colAt g ⟨v, r, q⟩ k = false := by
 unfold Sg.colAt; simp [hn, hq, h0, h1, h2, h3]
end
/-- the first j numbers are in M, and none is there twice -/
def DQ (l M : List Int) (j : Nat) : Bool := (List.range j).all fun i => decide (l.getD i 0 ∈ M) && decide (l.getD i 0 ∉ l.take i)
theorem DQ_succ (l M : List Int) (j : Nat) {x : Int} (h : l[j]? = some x) : DQ l M (j + 1) = (DQ l M j && (decide (x ∈ M) && decide (x ∉ l.take j))) := by
 unfold DQ
 rw [List.range_succ, List.all_append]
 simp [h]
theorem DQ_bad (l M : List Int) (j : Nat) (hj : j < l.length) (h : DQ l M (j + 1) = false) : DQ l M l.length = false := by
 unfold DQ at *
 rw [List.all_eq_false] at *
 obtain ⟨i, hi, h⟩ := h
 exact ⟨i, List.mem_range.2 (by have := List.mem_range.1 hi; omega), h⟩
theorem DQ_all (l M : List Int) : (l.all (fun x => decide (x ∈ M)) && Sg.distinct l) = DQ l M l.length := by
 unfold DQ Sg.distinct
 rw [Bool.eq_iff_iff, Bool.and_eq_true, List.all_eq_true, List.all_eq_true, List.all_eq_true]
 constructor
 ·rintro ⟨h1, h2⟩ i hi
  rw [Bool.and_eq_true]
  refine ⟨?_, h2 i hi⟩
  have hi' := List.mem_range.1 hi
  have := h1 (l[i]) (List.getElem_mem hi')
  simpa [hi'] using this
 ·intro h
  refine ⟨fun x hx => ?_, fun i hi => ?_⟩
  ·obtain ⟨i, hi⟩ := List.getElem?_of_mem hx
   have := h i (List.mem_range.2 (List.getElem?_eq_some_iff.1 hi).1)
   rw [Bool.and_eq_true] at this
   have := this.1
   simpa [hi] using this
  ·have := h i hi
   rw [Bool.and_eq_true] at this
   exact this.2

theorem Rd.take {w : World} {A : Option Addr} {n : Nat} {l : List Int} (h : Rd w 1 A n (ints l)) (j : Nat) (hj : j ≤ n) : Rd w 1 A j (ints (l.take j)) := by
 have hl := h.len
 refine ⟨by simp; omega, Nat.le_trans hj h.2.1, fun hn => ?_⟩
 obtain ⟨b, o, ha, hc⟩ := h.2.2 (by omega)
 refine ⟨b, o, ha, fun i u hu => hc i u ?_⟩
 rw [← ints_take, List.getElem?_take] at hu
 split at hu
 ·exact hu
 ·cases hu
theorem vG_len {g : Sg.Graph} (h : Sg.validG g = true) : g.length ≤ 10 := by
 unfold Sg.validG at h
 simp only [Bool.and_eq_true, decide_eq_true_eq] at h
 exact h.2
theorem not_any_rd (q l : List Int) : (!(l.any fun k => Sg.rd q k != 0)) = l.all fun x => Sg.rd q x == 0 := by
 induction l with
 | nil => rfl
 | cons a l ih =>
  rw [List.any_cons, List.all_cons, ← ih, Bool.not_or]
  cases h : (Sg.rd q a == 0) <;> simp_all [bne]

end Go.Proofs.YtdnlpklmihoapaaDoor

/- The program's ValidLazy: its contract. Conditions: bounds on lengths. -/
namespace Go.Proofs.YtdnlpklmihoapaaDoor
open Go.RowKit

def CV (g : Sg.Graph) (st : Sg.Lazy) (k : Nat) : Bool := (List.range k).all (Sg.colAt g st)
theorem CV_succ (g : Sg.Graph) (st : Sg.Lazy) (k : Nat) : CV g st (k + 1) = (CV g st k && Sg.colAt g st k) := by unfold CV; rw [List.range_succ, List.all_append]; simp
theorem CV_bad (g : Sg.Graph) (st : Sg.Lazy) (k : Nat) (hk : k < g.length) (h : Sg.colAt g st k = false) : Sg.validL g st = false := by
 unfold Sg.validL
 have : (List.range g.length).all (Sg.colAt g st) = false := by
  rw [List.all_eq_false]
  exact ⟨k, List.mem_range.2 hk, by rw [h]; simp⟩
 rw [this, Bool.and_false]

end Go.Proofs.YtdnlpklmihoapaaDoor
