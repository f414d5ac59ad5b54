/- Parts of one proof, joined. The reference's missing: its contract. Conditions: bounds on lengths. The reference's goodColour: its contract. Conditions: valid graphs, lists of one length. The reference's validLazy and ValidLazy: contracts. Conditions: bounds on lengths. -/
import Derived.Test.YtdnlpklmihoapaaDoorSpecTO
import Derived.Test.YtdnlpklmihoapaaDoorModelsA
import Derived.Test.YtdnlpklmihoapaaDoorTy
/- The reference's missing: its contract. Conditions: bounds on lengths. -/
namespace Go.Proofs.YtdnlpklmihoapaaDoor
open Go.RowKit

def MS (a b : List Int) (k : Nat) : List Int := Sg.missing (a.take k) b
theorem MS_succ (a b : List Int) (k : Nat) {x : Int} (h : a[k]? = some x) : MS a b (k + 1) = if x ∈ b then MS a b k else MS a b k ++ [x] := by
 unfold MS Sg.missing
 rw [take_snoc a k h, List.filter_append]
 by_cases hx : x ∈ b
 ·rw [if_pos hx]; simp [hx]
 ·rw [if_neg hx]; simp [hx]
theorem MS_len (a b : List Int) (k : Nat) : (MS a b k).length ≤ k := by
 unfold MS Sg.missing
 have h1 := List.length_filter_le (fun x => decide (x ∉ b)) (a.take k)
 have h2 : (a.take k).length ≤ k := by simp; omega
 omega

end Go.Proofs.YtdnlpklmihoapaaDoor

/- The reference's goodColour: its contract. Conditions: valid graphs, lists of one length. -/
namespace Go.Proofs.YtdnlpklmihoapaaDoor
open Go.RowKit

theorem beq_int (a b : Nat) : ((a : Int) == (b : Int)) = decide (a = b) := by
 rw [Bool.eq_iff_iff, beq_iff_eq, decide_eq_true_eq]; omega
section
variable {g : Sg.Graph} {v q : List Int} {r : List (List Int)} {k : Nat} {nk x qk : Int} {nf : List Sg.Part} {l : List Int}
theorem colS_cell (hn : g[k]? = some ⟨nk, nf⟩) (hl : r[k]? = some l) (hq : q[k]? = some qk) (h0 : nk = 0) : Sg.colS g ⟨v, r, q⟩ k = (decide (qk = 0) && decide (l.length = 0)) := by
 unfold Sg.colS; simp [hn, hl, hq, h0]
theorem colS_dirty (hn : g[k]? = some ⟨nk, nf⟩) (hl : r[k]? = some l) (hq : q[k]? = some qk) (h0 : nk ≠ 0) (h2 : qk = 2) : Sg.colS g ⟨v, r, q⟩ k = (decide (l.length = (Sg.firstOnly l).length) && decide ((Sg.missing l (Sg.mayRead nf)).length = 0)) := by
 unfold Sg.colS; simp [hn, hl, hq, h0, h2]
theorem colS_else (hn : g[k]? = some ⟨nk, nf⟩) (hl : r[k]? = some l) (hq : q[k]? = some qk) (hx : v[k]? = some x) (h0 : nk ≠ 0) (h2 : qk ≠ 2) :
  Sg.colS g ⟨v, r, q⟩ k = ((if qk = 0 then (Sg.runF nf v).2.all fun x => Sg.rd q x == 0 else true) && decide ((Sg.runF nf v).1 = x) && decide ((Sg.runF nf v).2 = l)) := by
 unfold Sg.colS; simp [hn, hl, hq, hx, h0, h2]
end

end Go.Proofs.YtdnlpklmihoapaaDoor

/- The reference's validLazy and ValidLazy: contracts. Conditions: bounds on lengths. -/
namespace Go.Proofs.YtdnlpklmihoapaaDoor
open Go.RowKit

def CS (g : Sg.Graph) (st : Sg.Lazy) (k : Nat) : Bool := (List.range k).all (Sg.colS g st)
theorem CS_succ (g : Sg.Graph) (st : Sg.Lazy) (k : Nat) : CS g st (k + 1) = (CS g st k && Sg.colS g st k) := by unfold CS; rw [List.range_succ, List.all_append]; simp
theorem CS_bad (g : Sg.Graph) (st : Sg.Lazy) (k : Nat) (hk : k < g.length) (h : Sg.colS g st k = false) : Sg.validLS g st = false := by
 unfold Sg.validLS
 have : (List.range g.length).all (Sg.colS g st) = false := by
  rw [List.all_eq_false]
  exact ⟨k, List.mem_range.2 hk, by rw [h]; simp⟩
 rw [this, Bool.and_false]

end Go.Proofs.YtdnlpklmihoapaaDoor
