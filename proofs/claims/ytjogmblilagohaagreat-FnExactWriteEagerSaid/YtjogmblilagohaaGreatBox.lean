/- A block of the call's own that is known whole: laws. Conditions: none. -/
import Derived.Test.YtjogmblilagohaaGreatCore
namespace Go.Proofs.YtjogmblilagohaaGreat
open Go.RowKit

/-- block b holds just the cells cs, and can be written -/
def Bx (w : World) (b : Nat) (cs : List Value) : Prop := ∃ e, w.heap[b]? = some (.cells cs.toArray e (0, 0))
theorem Bx.new (w : World) (cs : Array Value) (e : Nat) : Bx (w.alloc (.cells cs e)) w.heap.size cs.toList := ⟨e, by simpa using heap_alloc_new w (.cells cs e)⟩
theorem Bx.lt {w : World} {b : Nat} {cs : List Value} (h : Bx w b cs) : b < w.heap.size := by obtain ⟨e, h⟩ := h; exact (Array.getElem?_eq_some_iff.1 h).1
theorem Bx.keep {w w' : World} {b : Nat} {cs : List Value} (h : Bx w b cs) (hk : w'.heap[b]? = w.heap[b]?) : Bx w' b cs := by obtain ⟨e, h⟩ := h; exact ⟨e, hk.trans h⟩
theorem Bx.ext {w w' : World} {b : Nat} {cs : List Value} (h : Bx w b cs) (e : Ext w w') : Bx w' b cs := h.keep (e.block b h.lt)
theorem Bx.al {w : World} {b : Nat} {cs : List Value} (h : Bx w b cs) (o : Obj) : Bx (w.alloc o) b cs := h.ext ((Ext.rfl' w).al o)
theorem Bx.mod {F : Nat → Prop} {w w' : World} {b : Nat} {cs : List Value} (h : Bx w b cs) (m : Mod F w w') (hF : ¬ F b) : Bx w' b cs := h.keep (m.block b h.lt hF)
theorem Bx.set {w : World} {b : Nat} {cs : List Value} (h : Bx w b cs) (j : Nat) (u : Value) : Bx (w.setCell ⟨b, j, none⟩ u) b (cs.set j u) := by
  obtain ⟨e, h⟩ := h
  refine ⟨e, ?_⟩
  simp [World.setCell, Array.getElem?_modify, h]
theorem Bx.oth {w : World} {b : Nat} {cs : List Value} (h : Bx w b cs) {p : Addr} (hne : p.block ≠ b) (u : Value) : Bx (w.setCell p u) b cs := h.keep (Below.heap_setCell w p u b (fun e => hne e.symm))
theorem Bx.cell {w : World} {b : Nat} {cs : List Value} (h : Bx w b cs) {j : Nat} {u : Value} (hj : cs[j]? = some u) : w.cell? ⟨b, j, none⟩ = some u := by
  obtain ⟨e, h⟩ := h
  rw [cell_of_row w b j _ e (0, 0) h]
  simpa using hj
theorem Bx.free {w : World} {b : Nat} {cs : List Value} (h : Bx w b cs) (j : Nat) : w.frozen? ⟨b, j, none⟩ = false := by
  obtain ⟨e, h⟩ := h
  simp [World.frozen?, h]
end Go.Proofs.YtjogmblilagohaaGreat
