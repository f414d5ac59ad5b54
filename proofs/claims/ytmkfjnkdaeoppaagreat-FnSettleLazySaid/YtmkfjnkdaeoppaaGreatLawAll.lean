/- Parts of one proof, joined. The laws' sizes: contracts. Conditions: the purse is a natural number of at most 2^20. The laws' sizes of formulas, nodes, graphs, lists: contracts. Conditions: the purse is a natural number of at most 2^20. The laws' sizes of graphs and states; the reference's ValidEager: contracts. The laws' comparisons of ints, parts, formulas at equal contents: contracts. The laws' comparisons of nodes, graphs, lists, states at equal contents: contracts. The laws' copies of ints and parts: contracts. Conditions: at most 2^20 elements. The laws' copies of formulas and nodes: contracts. Conditions: at most 2^20 elements. The laws' copies of nodes: contracts. Conditions: at most 2^20 elements. The laws' copies of lists of lists: contract. Conditions: at most 2^20 elements. Zero nodes in memory. Conditions: none. The laws' copies of lists of nodes: contract. The laws' copies of graphs and states: contracts. The laws' marks: every number of a value is written anew, one after the other; and held. Contracts. Conditions: bounds on lengths. The laws' marks of parts, nodes, graphs, states: contracts. Conditions: bounds on lengths. -/
import Derived.Test.YtmkfjnkdaeoppaaGreatCore
import Derived.Test.YtmkfjnkdaeoppaaGreatSpecTwo
import Derived.Deep.QuietTactic
import Derived.BigQuiet
import Derived.Deep.RegionHeld3
import Derived.Handy
import Derived.Test.YtmkfjnkdaeoppaaGreatTy
/- The laws' sizes: contracts. Conditions: the purse is a natural number of at most 2^20. -/
namespace Sg
def szFrom : List Nat → Nat → Int
 | [], L => L
 | n :: r, L => if L < n then -1 else szFrom r (L - n)
def szL (ns : List Nat) (L : Nat) : Int := if L < ns.length then -1 else szFrom ns (L - ns.length)
end Sg
namespace Go.Proofs.YtmkfjnkdaeoppaaGreat
open Go.RowKit

/-- nodes in memory, of any number -/
def RdN0 (w : World) (A : Option Addr) (g : Sg.Graph) : Prop :=
 g.length ≤ maxLen ∧ ∀ (i : Nat) (n : Sg.Node), g[i]? = some n → ∃ b o Ap cp, A = some ⟨b, o, none⟩ ∧ w.cell? ⟨b, o + i * 2, none⟩ = some (.int .i64 n.kind) ∧
  w.cell? ⟨b, o + i * 2 + 1, none⟩ = some (.slice Ap n.f.length cp) ∧ Rd w 5 Ap n.f.length (parts n.f)
theorem RdN0.ext {w w' : World} {A : Option Addr} {g : Sg.Graph} (h : RdN0 w A g) (e : Ext w w') : RdN0 w' A g :=
 ⟨h.1, fun i n hn => let ⟨b, o, Ap, cp, ha, h1, h2, h3⟩ := h.2 i n hn; ⟨b, o, Ap, cp, ha, e.cellE h1, e.cellE h2, h3.ext e⟩⟩
theorem RdN0.at_ {w : World} {A : Option Addr} {g : Sg.Graph} (h : RdN0 w A g) {i : Nat} (hi : i < g.length) : ∃ n b o Ap cp, g[i]? = some n ∧ A = some ⟨b, o, none⟩ ∧ w.cell? ⟨b, o + i * 2, none⟩ = some (.int .i64 n.kind) ∧
  w.cell? ⟨b, o + i * 2 + 1, none⟩ = some (.slice Ap n.f.length cp) ∧ Rd w 5 Ap n.f.length (parts n.f) := by
 have hx : g[i]? = some g[i] := List.getElem?_eq_getElem hi
 obtain ⟨b, o, Ap, cp, r⟩ := h.2 i _ hx
 exact ⟨_, b, o, Ap, cp, hx, r⟩
/-- lists of numbers in memory, of any number -/
def RdL0 (w : World) (A : Option Addr) (ll : List (List Int)) : Prop :=
 ll.length ≤ maxLen ∧ ∀ (i : Nat) (l : List Int), ll[i]? = some l → ∃ b o Al cl, A = some ⟨b, o, none⟩ ∧ w.cell? ⟨b, o + i, none⟩ = some (.slice Al l.length cl) ∧ Rd w 1 Al l.length (ints l)
theorem RdL0.ext {w w' : World} {A : Option Addr} {ll : List (List Int)} (h : RdL0 w A ll) (e : Ext w w') : RdL0 w' A ll :=
 ⟨h.1, fun i l hl => let ⟨b, o, Al, cl, ha, h1, h2⟩ := h.2 i l hl; ⟨b, o, Al, cl, ha, e.cellE h1, h2.ext e⟩⟩
theorem RdL0.at_ {w : World} {A : Option Addr} {ll : List (List Int)} (h : RdL0 w A ll) {i : Nat} (hi : i < ll.length) : ∃ l b o Al cl, ll[i]? = some l ∧ A = some ⟨b, o, none⟩ ∧ w.cell? ⟨b, o + i, none⟩ = some (.slice Al l.length cl) ∧ Rd w 1 Al l.length (ints l) := by
 have hx : ll[i]? = some ll[i] := List.getElem?_eq_getElem hi
 obtain ⟨b, o, Al, cl, r⟩ := h.2 i _ hx
 exact ⟨_, b, o, Al, cl, hx, r⟩

end Go.Proofs.YtmkfjnkdaeoppaaGreat

/- The laws' sizes of formulas, nodes, graphs, lists: contracts. Conditions: the purse is a natural number of at most 2^20. -/
namespace Go.Proofs.YtmkfjnkdaeoppaaGreat
open Go.RowKit

end Go.Proofs.YtmkfjnkdaeoppaaGreat


/- The laws' sizes of graphs and states; the reference's ValidEager: contracts. -/
namespace Sg
end Sg
namespace Go.Proofs.YtmkfjnkdaeoppaaGreat
open Go.RowKit

end Go.Proofs.YtmkfjnkdaeoppaaGreat

/- The laws' comparisons of ints, parts, formulas at equal contents: contracts. -/
namespace Go.Proofs.YtmkfjnkdaeoppaaGreat
open Go.RowKit

end Go.Proofs.YtmkfjnkdaeoppaaGreat

/- The laws' comparisons of nodes, graphs, lists, states at equal contents: contracts. -/
namespace Go.Proofs.YtmkfjnkdaeoppaaGreat
open Go.RowKit

end Go.Proofs.YtmkfjnkdaeoppaaGreat

/- The laws' copies of ints and parts: contracts. Conditions: at most 2^20 elements. -/
namespace Go.Proofs.YtmkfjnkdaeoppaaGreat
open Go.RowKit

end Go.Proofs.YtmkfjnkdaeoppaaGreat

/- The laws' copies of formulas and nodes: contracts. Conditions: at most 2^20 elements. -/
namespace Go.Proofs.YtmkfjnkdaeoppaaGreat
open Go.RowKit

end Go.Proofs.YtmkfjnkdaeoppaaGreat

/- The laws' copies of nodes: contracts. Conditions: at most 2^20 elements. -/
namespace Go.Proofs.YtmkfjnkdaeoppaaGreat
open Go.RowKit

end Go.Proofs.YtmkfjnkdaeoppaaGreat

/- The laws' copies of lists of lists: contract. Conditions: at most 2^20 elements. -/
namespace Go.Proofs.YtmkfjnkdaeoppaaGreat
open Go.RowKit

theorem fill1 (hs : List Value) (k n : Nat) (h : hs.length = k) (hk : k < n) (z x : Value) : (hs ++ List.replicate (n - k) z).set k x = (hs ++ [x]) ++ List.replicate (n - (k + 1)) z := by
 rw [List.set_append_right _ _ (by omega), h, Nat.sub_self, show n - k = (n - (k + 1)) + 1 from by omega, List.replicate_succ, List.set_cons_zero, List.append_assoc]
 rfl

end Go.Proofs.YtmkfjnkdaeoppaaGreat

/- Zero nodes in memory. Conditions: none. -/
namespace Go.Proofs.YtmkfjnkdaeoppaaGreat
open Go.RowKit
def zs (m : Nat) : List Value := (List.replicate m [Value.int .i64 0, .slice none 0 0]).flatten
end Go.Proofs.YtmkfjnkdaeoppaaGreat

/- The laws' copies of lists of nodes: contract. -/
namespace Go.Proofs.YtmkfjnkdaeoppaaGreat
open Go.RowKit

end Go.Proofs.YtmkfjnkdaeoppaaGreat

/- The laws' copies of graphs and states: contracts. -/
namespace Go.Proofs.YtmkfjnkdaeoppaaGreat
open Go.RowKit

end Go.Proofs.YtmkfjnkdaeoppaaGreat

/- The laws' marks: every number of a value is written anew, one after the other; and held. Contracts. Conditions: bounds on lengths. -/
namespace Go.Proofs.YtmkfjnkdaeoppaaGreat
open Go.RowKit

theorem OwnL.upd {w w' : World} {B c : Nat} {A : Option Addr} {ll : List (List Int)} {hs : List (Option Addr × Nat)} (k : OwnL w B A c ll hs) {j : Nat} {l l' : List Int} {h0 : Option Addr × Nat} (hl : ll[j]? = some l) (hh : hs[j]? = some h0) (hn : l'.length = l.length)
  (own' : Own w' B 3 1 h0.1 l'.length h0.2 (ints l')) (m : Mod (fun b => blk h0.1 = some b) w w') : OwnL w' B A c (ll.set j l') hs := by
 have e : (listIts ll).set j ⟨[], l'.length, ints l'⟩ = listIts (ll.set j l') := by simp [listIts, List.map_set]
 unfold OwnL
 rw [← e]
 refine OwnD.upd k hh ?_ own' fun b _ h1 _ => ?_
 ·rw [dcells_same (it' := ⟨[], l'.length, ints l'⟩) (listIts_at hl) rfl hn]
  exact k.out.keep fun g hg => m.block g (k.out.lt hg).2 (fun e => k.dio j h0 hh g hg e)
 ·by_cases hb : b < w.heap.size
  ·exact m.block b hb h1
  ·have := (k.lt ‹fpD A hs b›).2
   omega

end Go.Proofs.YtmkfjnkdaeoppaaGreat

/- The laws' marks of parts, nodes, graphs, states: contracts. Conditions: bounds on lengths. -/
namespace Go.Proofs.YtmkfjnkdaeoppaaGreat
open Go.RowKit

theorem OwnN.upd {w w1 w' : World} {B c o : Nat} {g : Sg.Graph} {hs : List (Option Addr × Nat)} (k : OwnN w B (some ⟨o, 0, none⟩) c g hs) {j : Nat} {n : Sg.Node} {kd : Int} {f' : List Sg.Part} {h0 : Option Addr × Nat} (hl : g[j]? = some n) (hh : hs[j]? = some h0) (hn : f'.length = n.f.length)
  (hw1 : w1 = w.setCell ⟨o, j * 2, none⟩ (.int .i64 kd)) (own' : Own w' B 131 5 h0.1 f'.length h0.2 (parts f')) (m : Mod (fun b => blk h0.1 = some b) w1 w') : OwnN w' B (some ⟨o, 0, none⟩) c (g.set j ⟨kd, f'⟩) hs := by
 have e : (nodeIts g).set j ⟨[.int .i64 kd], f'.length, parts f'⟩ = nodeIts (g.set j ⟨kd, f'⟩) := by simp [nodeIts, List.map_set]
 have hoo : blk h0.1 ≠ some o := k.dio j h0 hh o rfl
 have hz : w1.heap.size = w.heap.size := by rw [hw1]; simp [World.setCell]
 unfold OwnN
 rw [← e]
 refine OwnD.upd k hh ?_ own' fun b hb h1 h2 => ?_
 ·have h1 := k.out.st (j * 2) (.int .i64 kd)
  rw [← hw1, dcells_pre (it' := ⟨[.int .i64 kd], f'.length, parts f'⟩) (nodeIts_pre g) (List.getElem?_eq_some_iff.1 hh).1 (nodeIts_at hl) rfl rfl hn] at h1
  exact h1.keep fun b hb => by
   simp [blk] at hb
   subst hb
   exact m.block o (h1.lt rfl).2 hoo
 ·have hbw := (k.lt hb).2
  have : w1.heap[b]? = w.heap[b]? := by rw [hw1]; exact Below.heap_setCell _ _ _ _ (fun e => h2 (by simp [blk, e]))
  rw [← this]
  exact m.block b (by omega) h1

end Go.Proofs.YtmkfjnkdaeoppaaGreat
