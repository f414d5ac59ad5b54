/- Parts of one proof, joined. The laws' marks: every number of a value is written anew, one after the other; and held. Contracts. Conditions: bounds on lengths. The laws' marks of parts, nodes, graphs, states: contracts. Conditions: bounds on lengths. -/
import Derived.Test.YtmelggoagbhieaaGreatCore
/- The laws' marks: every number of a value is written anew, one after the other; and held. Contracts. Conditions: bounds on lengths. -/
namespace Go.Proofs.YtmelggoagbhieaaGreat
open Go.RowKit

theorem OwnL.upd {w w' : World} {B c : Nat} {A : Option Addr} {ll : List (List Int)} {hs : List (Option Addr × Nat)} (k : OwnL w B A c ll hs) {j : Nat} {l l' : List Int} {h0 : Option Addr × Nat} (hl : ll[j]? = some l) (hh : hs[j]? = some h0) (hn : l'.length = l.length)
    (own' : Own w' B 3 1 h0.1 l'.length h0.2 (ints l')) (m : Mod (fun b => blk h0.1 = some b) w w') : OwnL w' B A c (ll.set j l') hs := by
  have e : (listIts ll).set j ⟨[], l'.length, ints l'⟩ = listIts (ll.set j l') := by simp [listIts, List.map_set]
  unfold OwnL
  rw [← e]
  refine OwnD.upd k hh ?_ own' fun b _ h1 _ => ?_
  · rw [dcells_same (it' := ⟨[], l'.length, ints l'⟩) (listIts_at hl) rfl hn]
    exact k.out.keep fun g hg => m.block g (k.out.lt hg).2 (fun e => k.dio j h0 hh g hg e)
  · by_cases hb : b < w.heap.size
    · exact m.block b hb h1
    · have := (k.lt ‹fpD A hs b›).2
      omega

end Go.Proofs.YtmelggoagbhieaaGreat

/- The laws' marks of parts, nodes, graphs, states: contracts. Conditions: bounds on lengths. -/
namespace Go.Proofs.YtmelggoagbhieaaGreat
open Go.RowKit

theorem OwnN.upd {w w1 w' : World} {B c o : Nat} {g : Sg.Graph} {hs : List (Option Addr × Nat)} (k : OwnN w B (some ⟨o, 0, none⟩) c g hs) {j : Nat} {n : Sg.Node} {kd : Int} {f' : List Sg.Part} {h0 : Option Addr × Nat} (hl : g[j]? = some n) (hh : hs[j]? = some h0) (hn : f'.length = n.f.length)
    (hw1 : w1 = w.setCell ⟨o, j * 2, none⟩ (.int .i64 kd)) (own' : Own w' B 177 5 h0.1 f'.length h0.2 (parts f')) (m : Mod (fun b => blk h0.1 = some b) w1 w') : OwnN w' B (some ⟨o, 0, none⟩) c (g.set j ⟨kd, f'⟩) hs := by
  have e : (nodeIts g).set j ⟨[.int .i64 kd], f'.length, parts f'⟩ = nodeIts (g.set j ⟨kd, f'⟩) := by simp [nodeIts, List.map_set]
  have hoo : blk h0.1 ≠ some o := k.dio j h0 hh o rfl
  have hz : w1.heap.size = w.heap.size := by rw [hw1]; simp [World.setCell]
  unfold OwnN
  rw [← e]
  refine OwnD.upd k hh ?_ own' fun b hb h1 h2 => ?_
  · have h1 := k.out.st (j * 2) (.int .i64 kd)
    rw [← hw1, dcells_pre (it' := ⟨[.int .i64 kd], f'.length, parts f'⟩) (nodeIts_pre g) (List.getElem?_eq_some_iff.1 hh).1 (nodeIts_at hl) rfl rfl hn] at h1
    exact h1.keep fun b hb => by
      simp [blk] at hb
      subst hb
      exact m.block o (h1.lt rfl).2 hoo
  · have hbw := (k.lt hb).2
    have : w1.heap[b]? = w.heap[b]? := by rw [hw1]; exact Below.heap_setCell _ _ _ _ (fun e => h2 (by simp [blk, e]))
    rw [← this]
    exact m.block b (by omega) h1

end Go.Proofs.YtmelggoagbhieaaGreat
