/- Parts of one proof, joined. The laws' sizes: contracts. Conditions: the purse is a natural number of at most 2^20. The laws' sizes of formulas, nodes, graphs, lists: contracts. Conditions: the purse is a natural number of at most 2^20. The laws' sizes of graphs and states; the reference's ValidEager: contracts. The laws' comparisons of ints, parts, formulas at equal contents: contracts. The laws' comparisons of nodes, graphs, lists, states at equal contents: contracts. The laws' copies of ints and parts: contracts. Conditions: at most 2^20 elements. The laws' copies of formulas and nodes: contracts. Conditions: at most 2^20 elements. The laws' copies of nodes: contracts. Conditions: at most 2^20 elements. The laws' copies of lists of lists: contract. Conditions: at most 2^20 elements. Zero nodes in memory. Conditions: none. The laws' copies of lists of nodes: contract. The laws' copies of graphs and states: contracts. The laws' marks: every number of a value is written anew, one after the other; and held. Contracts. Conditions: bounds on lengths. The laws' marks of parts, nodes, graphs, states: contracts. Conditions: bounds on lengths. -/
import Derived.Test.YtaklkcjlihdlkaaCore
import Derived.Test.YtaklkcjlihdlkaaSpecTwo
import Derived.Deep.QuietTactic
import Derived.BigQuiet
import Derived.Deep.RegionHeld3
import Derived.Handy
import Derived.Test.YtaklkcjlihdlkaaTy
/- The laws' sizes: contracts. Conditions: the purse is a natural number of at most 2^20. -/
namespace Sg
def szI (n L : Nat) : Int := if L < n then -1 else ((L - n : Nat) : Int)
def szFrom : List Nat → Nat → Int
 | [], L => L
 | n :: r, L => if L < n then -1 else szFrom r (L - n)
def szL (ns : List Nat) (L : Nat) : Int := if L < ns.length then -1 else szFrom ns (L - ns.length)
theorem szFrom_ok : ∀ (ns : List Nat) (L : Nat), 0 ≤ szFrom ns L → (∀ n ∈ ns, n ≤ L) ∧ ∃ M : Nat, M ≤ L ∧ szFrom ns L = M
 | [], L, _ => ⟨fun n hn => (by cases hn), L, Nat.le_refl _, rfl⟩
 | n :: r, L, h => by
  unfold szFrom at h ⊢
  split at h
  ·omega
  ·rename_i hl
   rw [if_neg hl]
   obtain ⟨h1, M, h2, h3⟩ := szFrom_ok r (L - n) h
   refine ⟨fun m hm => ?_, M, by omega, h3⟩
   rcases List.mem_cons.1 hm with rfl | hm
   ·omega
   ·have := h1 m hm; omega
theorem szL_ok (ns : List Nat) (L : Nat) (h : 0 ≤ szL ns L) : ns.length ≤ L ∧ (∀ n ∈ ns, n ≤ L) ∧ ∃ M : Nat, M ≤ L ∧ szL ns L = M := by
 unfold szL at h ⊢
 split at h
 ·omega
 ·rename_i hl
  rw [if_neg hl]
  obtain ⟨h1, M, h2, h3⟩ := szFrom_ok ns _ h
  exact ⟨by omega, fun n hn => by have := h1 n hn; omega, M, by omega, h3⟩
end Sg
namespace Go.Proofs.Ytaklkcjlihdlkaa
open Go.RowKit

/-- nodes in memory, of any number -/
def RdN0 (w : World) (A : Option Addr) (g : Sg.Graph) : Prop :=
 g.length ≤ maxLen ∧ ∀ (i : Nat) (n : Sg.Node), g[i]? = some n → ∃ b o Ap cp, A = some ⟨b, o, none⟩ ∧ w.cell? ⟨b, o + i * 2, none⟩ = some (.int .i64 n.kind) ∧
  w.cell? ⟨b, o + i * 2 + 1, none⟩ = some (.slice Ap n.f.length cp) ∧ Rd w 5 Ap n.f.length (parts n.f)
theorem RdN0.ext {w w' : World} {A : Option Addr} {g : Sg.Graph} (h : RdN0 w A g) (e : Ext w w') : RdN0 w' A g :=
 ⟨h.1, fun i n hn => let ⟨b, o, Ap, cp, ha, h1, h2, h3⟩ := h.2 i n hn; ⟨b, o, Ap, cp, ha, e.cellE h1, e.cellE h2, h3.ext e⟩⟩
theorem RdN0.at_ {w : World} {A : Option Addr} {g : Sg.Graph} (h : RdN0 w A g) {i : Nat} (hi : i < g.length) : ∃ n b o Ap cp, g[i]? = some n ∧ A = some ⟨b, o, none⟩ ∧ w.cell? ⟨b, o + i * 2, none⟩ = some (.int .i64 n.kind) ∧
  w.cell? ⟨b, o + i * 2 + 1, none⟩ = some (.slice Ap n.f.length cp) ∧ Rd w 5 Ap n.f.length (parts n.f) := by
 have hx : g[i]? = some g[i] := List.getElem?_eq_getElem hi
 obtain ⟨b, o, Ap, cp, r⟩ := h.2 i _ hx
 exact ⟨_, b, o, Ap, cp, hx, r⟩
/-- lists of numbers in memory, of any number -/
def RdL0 (w : World) (A : Option Addr) (ll : List (List Int)) : Prop :=
 ll.length ≤ maxLen ∧ ∀ (i : Nat) (l : List Int), ll[i]? = some l → ∃ b o Al cl, A = some ⟨b, o, none⟩ ∧ w.cell? ⟨b, o + i, none⟩ = some (.slice Al l.length cl) ∧ Rd w 1 Al l.length (ints l)
theorem RdL0.ext {w w' : World} {A : Option Addr} {ll : List (List Int)} (h : RdL0 w A ll) (e : Ext w w') : RdL0 w' A ll :=
 ⟨h.1, fun i l hl => let ⟨b, o, Al, cl, ha, h1, h2⟩ := h.2 i l hl; ⟨b, o, Al, cl, ha, e.cellE h1, h2.ext e⟩⟩
theorem RdL0.at_ {w : World} {A : Option Addr} {ll : List (List Int)} (h : RdL0 w A ll) {i : Nat} (hi : i < ll.length) : ∃ l b o Al cl, ll[i]? = some l ∧ A = some ⟨b, o, none⟩ ∧ w.cell? ⟨b, o + i, none⟩ = some (.slice Al l.length cl) ∧ Rd w 1 Al l.length (ints l) := by
 have hx : ll[i]? = some ll[i] := List.getElem?_eq_getElem hi
 obtain ⟨b, o, Al, cl, r⟩ := h.2 i _ hx
 exact ⟨_, b, o, Al, cl, hx, r⟩

theorem RdN.to0 {w : World} {A : Option Addr} {g : Sg.Graph} (h : RdN w A g) : RdN0 w A g :=
 ⟨by have := h.1; unfold maxLen; omega, fun i n hn => let ⟨b, o, Ap, cp, ha, h1, h2, h3, _⟩ := h.2 i n hn; ⟨b, o, Ap, cp, ha, h1, h2, h3⟩⟩
theorem RdL.to0 {w : World} {A : Option Addr} {ll : List (List Int)} (h : RdL w A ll) : RdL0 w A ll :=
 ⟨by have := h.1; unfold maxLen; omega, fun i l hi => let ⟨b, o, Al, cl, ha, h1, h2, _⟩ := h.2 i l hi; ⟨b, o, Al, cl, ha, h1, h2⟩⟩

end Go.Proofs.Ytaklkcjlihdlkaa

/- The laws' sizes of formulas, nodes, graphs, lists: contracts. Conditions: the purse is a natural number of at most 2^20. -/
namespace Go.Proofs.Ytaklkcjlihdlkaa
open Go.RowKit

end Go.Proofs.Ytaklkcjlihdlkaa


/- The laws' sizes of graphs and states; the reference's ValidEager: contracts. -/
namespace Sg
theorem szFrom_neg : ∀ (ns : List Nat) (L : Nat), szFrom ns L = -1 ∨ 0 ≤ szFrom ns L
 | [], L => .inr (by simp [szFrom])
 | n :: r, L => by
  simp only [szFrom]
  split
  ·exact .inl rfl
  ·exact szFrom_neg r _
theorem szL_neg (ns : List Nat) (L : Nat) : szL ns L = -1 ∨ 0 ≤ szL ns L := by
 unfold szL
 split
 ·exact .inl rfl
 ·exact szFrom_neg _ _
def szE (v : List Int) (r : List (List Int)) (L : Nat) : Int := if L < v.length then -1 else szL (r.map List.length) (L - v.length)
end Sg
namespace Go.Proofs.Ytaklkcjlihdlkaa
open Go.RowKit

end Go.Proofs.Ytaklkcjlihdlkaa

/- The laws' comparisons of ints, parts, formulas at equal contents: contracts. -/
namespace Go.Proofs.Ytaklkcjlihdlkaa
open Go.RowKit

end Go.Proofs.Ytaklkcjlihdlkaa

/- The laws' comparisons of nodes, graphs, lists, states at equal contents: contracts. -/
namespace Go.Proofs.Ytaklkcjlihdlkaa
open Go.RowKit

end Go.Proofs.Ytaklkcjlihdlkaa

/- The laws' copies of ints and parts: contracts. Conditions: at most 2^20 elements. -/
namespace Go.Proofs.Ytaklkcjlihdlkaa
open Go.RowKit

theorem ints_fill (a : List Int) (k : Nat) {x : Int} (hx : a[k]? = some x) : (ints (a.take k ++ List.replicate (a.length - k) 0)).set k (.int .i64 x) = ints (a.take (k + 1) ++ List.replicate (a.length - (k + 1)) 0) := by
 obtain ⟨hk, rfl⟩ := List.getElem?_eq_some_iff.1 hx
 unfold ints
 rw [← List.map_set (f := Value.int .i64)]
 congr 1
 rw [List.set_append_right _ _ (by simp; omega), take_snoc a k (List.getElem?_eq_getElem hk)]
 have h1 : k - (a.take k).length = 0 := by simp; omega
 rw [h1, show a.length - k = (a.length - (k + 1)) + 1 from by omega, List.replicate_succ, List.set_cons_zero, List.append_assoc]
 rfl

/-- parts of value zero -/
def zpart : Sg.Part := ⟨0, 0, 0, 0, 0⟩
theorem parts_fill (f : List Sg.Part) (k : Nat) {p : Sg.Part} (hp : f[k]? = some p) :
  ((((((parts (f.take k ++ List.replicate (f.length - k) zpart)).set (k * 5) (.int .i64 p.kind)).set (k * 5 + 1) (.int .i64 p.a)).set (k * 5 + 2) (.int .i64 p.b)).set (k * 5 + 3) (.int .i64 p.c)).set (k * 5 + 4) (.int .i64 p.n)) = parts (f.take (k + 1) ++ List.replicate (f.length - (k + 1)) zpart) := by
 obtain ⟨hk, rfl⟩ := List.getElem?_eq_some_iff.1 hp
 have e1 : parts (f.take k ++ List.replicate (f.length - k) zpart) = parts (f.take k) ++ (pcs zpart ++ parts (List.replicate (f.length - (k + 1)) zpart)) := by
  rw [show f.length - k = (f.length - (k + 1)) + 1 from by omega, List.replicate_succ]; simp [parts]
 have e2 : parts (f.take (k + 1) ++ List.replicate (f.length - (k + 1)) zpart) = parts (f.take k) ++ (pcs f[k] ++ parts (List.replicate (f.length - (k + 1)) zpart)) := by
  rw [take_snoc f k (List.getElem?_eq_getElem hk), List.append_assoc]; simp [parts]
 have hl : (parts (f.take k)).length = k * 5 := by simp; omega
 rw [e1, e2]
 generalize parts (f.take k) = X at *
 generalize parts (List.replicate (f.length - (k + 1)) zpart) = Y
 subst_vars
 rw [← hl]
 simp [pcs, zpart]
theorem made_parts (f : List Sg.Part) : (madeCells (Value.agg #[.int .i64 0, .int .i64 0, .int .i64 0, .int .i64 0, .int .i64 0]).cells (f.length * 5)).toList = parts (f.take 0 ++ List.replicate (f.length - 0) zpart) := by
 have h1 : (madeCells (Value.agg #[.int .i64 0, .int .i64 0, .int .i64 0, .int .i64 0, .int .i64 0]).cells (f.length * 5)).toList = List.replicate (f.length * 5) (.int .i64 0) := by
  rw [List.eq_replicate_iff]
  refine ⟨by rw [Array.length_toList, size_madeCells], fun b hb => ?_⟩
  show b = _
  change b ∈ (madeCells #[.int .i64 0, .int .i64 0, .int .i64 0, .int .i64 0, .int .i64 0] (f.length * 5)).toList at hb
  simp only [madeCells, Array.toList_map, List.mem_map] at hb
  obtain ⟨j, _, rfl⟩ := hb
  have hj : j % 5 < 5 := Nat.mod_lt _ (by omega)
  show #[Value.int .i64 0, .int .i64 0, .int .i64 0, .int .i64 0, .int .i64 0][j % 5]! = _
  generalize j % 5 = m at hj
  match m, hj with
  | 0, _ => rfl
  | 1, _ => rfl
  | 2, _ => rfl
  | 3, _ => rfl
  | 4, _ => rfl
 have h2 : parts (f.take 0 ++ List.replicate (f.length - 0) zpart) = List.replicate (f.length * 5) (.int .i64 0) := by
  rw [List.eq_replicate_iff]
  refine ⟨by simp, fun b hb => ?_⟩
  unfold parts at hb
  rw [List.mem_flatMap] at hb
  obtain ⟨p, hp, hb⟩ := hb
  simp at hp
  rw [hp.2] at hb
  simpa [pcs, zpart] using hb
 rw [h1, h2]

end Go.Proofs.Ytaklkcjlihdlkaa

/- The laws' copies of formulas and nodes: contracts. Conditions: at most 2^20 elements. -/
namespace Go.Proofs.Ytaklkcjlihdlkaa
open Go.RowKit

end Go.Proofs.Ytaklkcjlihdlkaa

/- The laws' copies of nodes: contracts. Conditions: at most 2^20 elements. -/
namespace Go.Proofs.Ytaklkcjlihdlkaa
open Go.RowKit

end Go.Proofs.Ytaklkcjlihdlkaa

/- The laws' copies of lists of lists: contract. Conditions: at most 2^20 elements. -/
namespace Go.Proofs.Ytaklkcjlihdlkaa
open Go.RowKit

theorem fill1 (hs : List Value) (k n : Nat) (h : hs.length = k) (hk : k < n) (z x : Value) : (hs ++ List.replicate (n - k) z).set k x = (hs ++ [x]) ++ List.replicate (n - (k + 1)) z := by
 rw [List.set_append_right _ _ (by omega), h, Nat.sub_self, show n - k = (n - (k + 1)) + 1 from by omega, List.replicate_succ, List.set_cons_zero, List.append_assoc]
 rfl

end Go.Proofs.Ytaklkcjlihdlkaa

/- Zero nodes in memory. Conditions: none. -/
namespace Go.Proofs.Ytaklkcjlihdlkaa
open Go.RowKit
theorem fill2 (hs Z : List Value) (k : Nat) (h : hs.length = k * 2) (z0 z1 x y : Value) : ((hs ++ (z0 :: z1 :: Z)).set (k * 2) x).set (k * 2 + 1) y = (hs ++ [x, y]) ++ Z := by
 rw [← h]
 simp
def zs (m : Nat) : List Value := (List.replicate m [Value.int .i64 0, .slice none 0 0]).flatten
theorem zs_succ (m : Nat) : zs (m + 1) = .int .i64 0 :: .slice none 0 0 :: zs m := by simp [zs, List.replicate_succ]
theorem length_zs (m : Nat) : (zs m).length = m * 2 := by
 induction m with
 | zero => rfl
 | succ m ih => rw [zs_succ]; simp [ih]; omega
theorem zs_get (m j : Nat) (h : j < m * 2) : (zs m)[j]? = some (if j % 2 = 0 then .int .i64 0 else .slice none 0 0) := by
 induction m generalizing j with
 | zero => omega
 | succ m ih =>
  rw [zs_succ]
  match j, h with
  | 0, _ => rfl
  | 1, _ => rfl
  | j + 2, h =>
   simp only [List.getElem?_cons_succ]
   rw [ih j (by omega), show (j + 2) % 2 = j % 2 from by omega]
theorem made_nodes (n : Nat) : (madeCells (Value.agg #[.int .i64 0, .slice none 0 0]).cells (n * 2)).toList = zs n := by
 apply List.ext_getElem?
 intro j
 by_cases hj : j < n * 2
 ·rw [zs_get n j hj]
  change ((madeCells #[.int .i64 0, .slice none 0 0] (n * 2)).toList)[j]? = _
  have hm : j % 2 = 0 ∨ j % 2 = 1 := by omega
  rcases hm with hm | hm <;> simp [madeCells, hj, hm]
 ·rw [List.getElem?_eq_none (by rw [Array.length_toList, size_madeCells]; omega), List.getElem?_eq_none (by rw [length_zs]; omega)]
end Go.Proofs.Ytaklkcjlihdlkaa

/- The laws' copies of lists of nodes: contract. -/
namespace Go.Proofs.Ytaklkcjlihdlkaa
open Go.RowKit

end Go.Proofs.Ytaklkcjlihdlkaa

/- The laws' copies of graphs and states: contracts. -/
namespace Go.Proofs.Ytaklkcjlihdlkaa
open Go.RowKit

end Go.Proofs.Ytaklkcjlihdlkaa

/- The laws' marks: every number of a value is written anew, one after the other; and held. Contracts. Conditions: bounds on lengths. -/
namespace Go.Proofs.Ytaklkcjlihdlkaa
open Go.RowKit

theorem OwnL.upd {w w' : World} {B c : Nat} {A : Option Addr} {ll : List (List Int)} {hs : List (Option Addr × Nat)} (k : OwnL w B A c ll hs) {j : Nat} {l l' : List Int} {h0 : Option Addr × Nat} (hl : ll[j]? = some l) (hh : hs[j]? = some h0) (hn : l'.length = l.length)
  (own' : Own w' B 3 1 h0.1 l'.length h0.2 (ints l')) (m : Mod (fun b => blk h0.1 = some b) w w') : OwnL w' B A c (ll.set j l') hs := by
 have e : (listIts ll).set j ⟨[], l'.length, ints l'⟩ = listIts (ll.set j l') := by simp [listIts, List.map_set]
 unfold OwnL
 rw [← e]
 refine OwnD.upd k hh ?_ own' fun b _ h1 _ => ?_
 ·rw [dcells_same (it' := ⟨[], l'.length, ints l'⟩) (listIts_at hl) rfl hn]
  exact k.out.keep fun g hg => m.block g (k.out.lt hg).2 (fun e => k.dio j h0 hh g hg e)
 ·by_cases hb : b < w.heap.size
  ·exact m.block b hb h1
  ·have := (k.lt ‹fpD A hs b›).2
   omega

end Go.Proofs.Ytaklkcjlihdlkaa

/- The laws' marks of parts, nodes, graphs, states: contracts. Conditions: bounds on lengths. -/
namespace Go.Proofs.Ytaklkcjlihdlkaa
open Go.RowKit

theorem parts_mark (f : List Sg.Part) (k : Int) (j : Nat) (hj : j < f.length) :
  ((((((parts (numP k j ++ f.drop j)).set (j * 5) (.int .i64 (k + 5 * (j : Int)))).set (j * 5 + 1) (.int .i64 (k + 5 * (j : Int) + 1))).set (j * 5 + 2) (.int .i64 (k + 5 * (j : Int) + 2))).set (j * 5 + 3) (.int .i64 (k + 5 * (j : Int) + 3))).set (j * 5 + 4) (.int .i64 (k + 5 * (j : Int) + 4))) = parts (numP k (j + 1) ++ f.drop (j + 1)) := by
 have e1 : parts (numP k j ++ f.drop j) = parts (numP k j) ++ (pcs f[j] ++ parts (f.drop (j + 1))) := by
  rw [drop_cons f j (List.getElem?_eq_getElem hj)]; simp only [parts, List.flatMap_append, List.flatMap_cons]
 have e2 : parts (numP k (j + 1) ++ f.drop (j + 1)) = parts (numP k j) ++ (pcs ⟨k + 5 * (j : Int), k + 5 * (j : Int) + 1, k + 5 * (j : Int) + 2, k + 5 * (j : Int) + 3, k + 5 * (j : Int) + 4⟩ ++ parts (f.drop (j + 1))) := by
  rw [numP_succ]; simp [parts]
 have hl : (parts (numP k j)).length = j * 5 := by simp
 rw [e1, e2]
 generalize parts (numP k j) = X at *
 generalize parts (f.drop (j + 1)) = Y
 generalize f[j] = p
 rw [← hl]
 simp [pcs]

theorem OwnN.upd {w w1 w' : World} {B c o : Nat} {g : Sg.Graph} {hs : List (Option Addr × Nat)} (k : OwnN w B (some ⟨o, 0, none⟩) c g hs) {j : Nat} {n : Sg.Node} {kd : Int} {f' : List Sg.Part} {h0 : Option Addr × Nat} (hl : g[j]? = some n) (hh : hs[j]? = some h0) (hn : f'.length = n.f.length)
  (hw1 : w1 = w.setCell ⟨o, j * 2, none⟩ (.int .i64 kd)) (own' : Own w' B 88 5 h0.1 f'.length h0.2 (parts f')) (m : Mod (fun b => blk h0.1 = some b) w1 w') : OwnN w' B (some ⟨o, 0, none⟩) c (g.set j ⟨kd, f'⟩) hs := by
 have e : (nodeIts g).set j ⟨[.int .i64 kd], f'.length, parts f'⟩ = nodeIts (g.set j ⟨kd, f'⟩) := by simp [nodeIts, List.map_set]
 have hoo : blk h0.1 ≠ some o := k.dio j h0 hh o rfl
 have hz : w1.heap.size = w.heap.size := by rw [hw1]; simp [World.setCell]
 unfold OwnN
 rw [← e]
 refine OwnD.upd k hh ?_ own' fun b hb h1 h2 => ?_
 ·have h1 := k.out.st (j * 2) (.int .i64 kd)
  rw [← hw1, dcells_pre (it' := ⟨[.int .i64 kd], f'.length, parts f'⟩) (nodeIts_pre g) (List.getElem?_eq_some_iff.1 hh).1 (nodeIts_at hl) rfl rfl hn] at h1
  exact h1.keep fun b hb => by
   simp [blk] at hb
   subst hb
   exact m.block o (h1.lt rfl).2 hoo
 ·have hbw := (k.lt hb).2
  have : w1.heap[b]? = w.heap[b]? := by rw [hw1]; exact Below.heap_setCell _ _ _ _ (fun e => h2 (by simp [blk, e]))
  rw [← this]
  exact m.block b (by omega) h1

end Go.Proofs.Ytaklkcjlihdlkaa
