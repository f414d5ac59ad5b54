/- append of one element, the new block's number given apart. Conditions: none. -/
import Derived.Test.YtkkegmimofmhpaaMem
namespace Go.Proofs.Ytkkegmimofmhpaa
open Go.RowKit
theorem wpList_app1g {P : Program} {ops : Array Oper} {rest : List Oper} {o : Oper} {a : Act} {Q : Exit → Act → World → Prop} {w : World} (hgd : o.guard = none) {s x : Operand} {t : TypeId}
    (ho : o.op = .call { callee := .builtin .append, args := #[s, x], argTypes := #[t, t] })
    {e size bytes : Nat} {z : Value} (E : EI P t e size bytes z) {B : Nat} {A : Option Addr} {n c : Nat} {xs : List Value} (hs : a.eval s = .slice A n c) (hown : Own w B e size A n c xs)
    {cs : List Value} {g : Nat} (hx : a.eval x = .slice (some ⟨g, 0, none⟩) 1 1) (hg : w.heap.size = g) (hl : cs.length = size) (h1 : ∀ u ∈ cs, u.oneCell' = true)
    (h63 : n + 1 ≤ 1099511627776) (hbytes : bytes ≤ 64) (hbase : B ≤ w.heap.size)
    (h : ∀ A' c'' w', Own w' B e size A' (n + 1) c'' (xs ++ cs) → w.grownBy w' (blk A) → (blk A' = blk A ∨ ∃ g, blk A' = some g ∧ w.heap.size ≤ g) → wpList P ops Q rest (a.put o.dst (.slice A' (n + 1) c'')) w') :
    wpList P ops Q (o :: rest) a (w.alloc (.cells cs.toArray e)) := by
  subst hg
  exact wpList_app1 hgd ho E hs hown hx hl h1 h63 hbytes hbase h
end Go.Proofs.Ytkkegmimofmhpaa
