/- Parts of one proof, joined. The reference's validCells, meaning, deps: contracts. Conditions: bounds on lengths; valid graphs and cells for the meaning. The reference's startEager: its contract. Conditions: valid graphs and cells. -/
import Derived.Test.YtaklkcjlihdlkaaSpecTwo
import Derived.Test.YtaklkcjlihdlkaaCore
import Derived.Test.YtaklkcjlihdlkaaTy
import Derived.Handy
/- The reference's validCells, meaning, deps: contracts. Conditions: bounds on lengths; valid graphs and cells for the meaning. -/
namespace Go.Proofs.Ytaklkcjlihdlkaa
open Go.RowKit

def CO (g : Sg.Graph) (cells : List Int) (k : Nat) : Bool := (List.range k).all (Sg.cellOk g cells)
theorem CO_succ (g : Sg.Graph) (cells : List Int) (k : Nat) : CO g cells (k + 1) = (CO g cells k && Sg.cellOk g cells k) := by unfold CO; rw [List.range_succ, List.all_append]; simp
theorem CO_bad (g : Sg.Graph) (cells : List Int) (k : Nat) (hk : k < cells.length) (h : Sg.cellOk g cells k = false) : Sg.validC g cells = false := by
 have : (List.range cells.length).all (Sg.cellOk g cells) = false := by
  rw [List.all_eq_false]; exact ⟨k, by rw [List.mem_range]; exact hk, by rw [h]; simp⟩
 unfold Sg.validC; rw [this]; simp
theorem cellOk_at {g : Sg.Graph} {cells : List Int} {k : Nat} {n : Sg.Node} {x : Int} (hn : g[k]? = some n) (hx : cells[k]? = some x) : Sg.cellOk g cells k = (Sg.inR x 0 999 && (decide (n.kind = 0) || decide (x = 0))) := by
 unfold Sg.cellOk Sg.kindAt
 simp [hn, hx]

theorem valAt_cell {g : Sg.Graph} {cells out : List Int} {k : Nat} {n : Sg.Node} {x : Int} (hn : g[k]? = some n) (hx : cells[k]? = some x) (h : n.kind = 0) : Sg.valAt g cells out k = x := by simp [Sg.valAt, hn, hx, h]
theorem valAt_form {g : Sg.Graph} {cells out : List Int} {k : Nat} {n : Sg.Node} (hn : g[k]? = some n) (h : ¬ n.kind = 0) : Sg.valAt g cells out k = (Sg.runF n.f out).1 := by simp [Sg.valAt, hn, h]
theorem depAt_cell {g : Sg.Graph} {v : List Int} {k : Nat} {n : Sg.Node} (hn : g[k]? = some n) (h : n.kind = 0) : Sg.depAt g v k = [] := by simp [Sg.depAt, hn, h]
theorem depAt_form {g : Sg.Graph} {v : List Int} {k : Nat} {n : Sg.Node} (hn : g[k]? = some n) (h : ¬ n.kind = 0) : Sg.depAt g v k = (Sg.runF n.f v).2 := by simp [Sg.depAt, hn, h]

end Go.Proofs.Ytaklkcjlihdlkaa

/- The reference's startEager: its contract. Conditions: valid graphs and cells. -/
namespace Go.Proofs.Ytaklkcjlihdlkaa
open Go.RowKit

theorem depsTo_its (g : Sg.Graph) (v : List Int) (k : Nat) : listIts (Sg.depsTo g v (k + 1)) = listIts (Sg.depsTo g v k) ++ [⟨[], (Sg.depAt g v k).length, ints (Sg.depAt g v k)⟩] := by rw [Sg.depsTo_succ]; simp [listIts]

end Go.Proofs.Ytaklkcjlihdlkaa
