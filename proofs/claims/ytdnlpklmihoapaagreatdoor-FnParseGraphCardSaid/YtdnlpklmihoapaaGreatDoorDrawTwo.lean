/- Parts of one proof, joined. What goodGraph keeps in memory, and how its steps turn it. Conditions: bounds. The reference's goodGraph: its contract. Conditions: bounds on the number of draws. The draws of cells: goodCells, someCells; one node of an own graph turned. Conditions: bounds. The reference's someGraph and graphOf: contracts. Conditions: bounds on the number of draws. The draws of a graph and cells: contracts. Conditions: the code can be read. -/
import Derived.Test.YtdnlpklmihoapaaGreatDoorDrawOne
import Derived.Test.YtdnlpklmihoapaaGreatDoorDrawD
import Derived.Deep.DeepCutAuto
import Derived.Test.YtdnlpklmihoapaaGreatDoorTy
/- What goodGraph keeps in memory, and how its steps turn it. Conditions: bounds. -/
namespace Go.Proofs.YtdnlpklmihoapaaGreatDoor
open Go.RowKit

theorem OwnD.gr {w w' : World} {B eo so ei si c : Nat} {A : Option Addr} {its : List It} {hs : List (Option Addr × Nat)} {row : Option Nat} (k : OwnD w B eo so ei si A c its hs) (hg : w.grownBy w' row) (hr : ∀ b, row = some b → ¬ fpD A hs b) : OwnD w' B eo so ei si A c its hs :=
 k.fr fun b hb => hg.block b (k.lt hb).2 (fun e => hr b e.symm hb)
/-- one element more, whose own slice lies behind all others -/
theorem OwnD.snocM {w1 w2 : World} {B S eo so ei si c c' : Nat} {A A' : Option Addr} {its : List It} {hs : List (Option Addr × Nat)} (k : OwnD w1 B eo so ei si A c its hs) (hS : ∀ b, fpD A hs b → b < S) (hB : B ≤ S) {it : It} {A0 : Option Addr} {c0 : Nat}
  (own : Own w1 S ei si A0 it.n c0 it.xs) (out : Own w2 B eo so A' (its.length + 1) c' (dcells its hs ++ itc it (A0, c0))) (hg : w1.grownBy w2 (blk A)) (hat : blk A' = blk A ∨ ∃ g, blk A' = some g ∧ w1.heap.size ≤ g) :
  OwnD w2 B eo so ei si A' c' (its ++ [it]) (hs ++ [(A0, c0)]) := by
 have key : ∀ (i : Nat) (h : Option Addr × Nat), (hs ++ [(A0, c0)])[i]? = some h → (i < hs.length ∧ hs[i]? = some h) ∨ (i = hs.length ∧ h = (A0, c0)) := by
  intro i h hh
  by_cases hik : i < hs.length
  ·rw [List.getElem?_append_left hik] at hh
   exact .inl ⟨hik, hh⟩
  ·have h1 := (List.getElem?_eq_some_iff.1 hh).1
   simp at h1
   obtain rfl : i = hs.length := by omega
   rw [List.getElem?_append_right (Nat.le_refl _)] at hh
   simp at hh
   exact .inr ⟨rfl, hh.symm⟩
 have old : ∀ (i : Nat) (h : Option Addr × Nat), hs[i]? = some h → ∀ b, blk h.1 = some b → b < S := fun i h hh b hb => hS b (.inr ⟨h, List.mem_of_getElem? hh, hb⟩)
 refine ⟨by simp [k.len], by simpa [dcells_app _ _ k.len] using out, ?_, ?_, ?_⟩
 ·intro i it' h hi hh
  rcases key i h hh with ⟨hik, hh⟩ | ⟨rfl, rfl⟩
  ·rw [List.getElem?_append_left (by rw [← k.len]; exact hik)] at hi
   have o1 := k.inn i it' h hi hh
   exact o1.keep fun b hb => hg.block b (o1.lt hb).2 (fun e => k.dio i h hh b e.symm hb)
  ·rw [List.getElem?_append_right (by rw [k.len]; exact Nat.le_refl _), k.len, Nat.sub_self] at hi
   simp at hi
   subst hi
   refine (own.keep fun b hb => hg.block b (own.lt hb).2 (fun e => ?_)).mono hB
   have h1 := (own.lt hb).1
   have h2 := hS b (.inl e.symm)
   omega
 ·intro i j h h' hij hh hh' b hb hb'
  rcases key i h hh with ⟨_, hh⟩ | ⟨rfl, rfl⟩
  ·rcases key j h' hh' with ⟨_, hh'⟩ | ⟨rfl, rfl⟩
   ·exact k.dis i j h h' hij hh hh' b hb hb'
   ·have h1 := old i h hh b hb
    have h2 := (own.lt hb').1
    omega
  ·have := (List.getElem?_eq_some_iff.1 hh').1
   simp at this
   omega
 ·intro i h hh b hb hb'
  rcases hat with hat | ⟨g, hg', hle⟩
  ·rw [hat] at hb
   rcases key i h hh with ⟨_, hh⟩ | ⟨rfl, rfl⟩
   ·exact k.dio i h hh b hb hb'
   ·have h1 := hS b (.inl hb)
    have h2 := (own.lt hb').1
    omega
  ·rw [hg'] at hb
   injection hb with hb
   subst hb
   rcases key i h hh with ⟨_, hh⟩ | ⟨rfl, rfl⟩
   ·have h1 := (k.lt (.inr ⟨h, List.mem_of_getElem? hh, hb'⟩)).2
    omega
   ·have h1 := (own.lt hb').2
    omega

/-- the state of goodGraph: the result's block L, the graph's block L + 1, the list of free nodes -/
structure GS (L R m : Nat) (w : World) (g : Sg.Graph) (Ag : Option Addr) (cg : Nat) (hs : List (Option Addr × Nat)) (n4 : Nat) (A4 : Option Addr) (c4 : Nat) (W : World) : Prop where
 nf : ∀ n ∈ g, n.f.length ≤ 30
 base : L = w.heap.size
 rl : R < L
 res : Bx W L [.slice none 0 0]
 box : Bx W (L + 1) [.slice Ag g.length cg]
 own : OwnN W (L + 2) Ag cg g hs
 fr : ∃ l : List Int, l.length = n4 ∧ Own W (L + 2) 3 1 A4 n4 c4 (ints l)
 dis : ∀ b, blk A4 = some b → ¬ fpD Ag hs b
 rdr : Rdr W R m
 md : Mod (fun b => b = R) w W
section
variable {L R m n4 cg c4 : Nat} {w W W' : World} {g : Sg.Graph} {Ag A4 : Option Addr} {hs : List (Option Addr × Nat)}
theorem GS.size (h : GS L R m w g Ag cg hs n4 A4 c4 W) : L + 2 ≤ W.heap.size := h.box.lt
theorem GS.pick {m' : Nat} (h : GS L R m w g Ag cg hs n4 A4 c4 W) (hm : Mod (fun b => b = R) W W') (hr : Rdr W' R m') : GS L R m' w g Ag cg hs n4 A4 c4 W' := by
 have hrl := h.rl
 obtain ⟨l, h1, h2⟩ := h.fr
 exact ⟨h.nf, h.base, h.rl, h.res.mod hm (by omega), h.box.mod hm (by omega), h.own.mod hm (fun b hb e => by have := (h.own.lt hb).1; omega),
  ⟨l, h1, h2.mod hm (fun b hb e => by have := (h2.lt hb).1; omega)⟩, h.dis, hr, h.md.tr' hm⟩
theorem GS.ext (h : GS L R m w g Ag cg hs n4 A4 c4 W) (e : Ext W W') : GS L R m w g Ag cg hs n4 A4 c4 W' := h.pick (Mod.of e) (h.rdr.ext e)
theorem GS.more {m' : Nat} (h : GS L R m w g Ag cg hs n4 A4 c4 W) (hm : m ≤ m') : GS L R m' w g Ag cg hs n4 A4 c4 W := ⟨h.nf, h.base, h.rl, h.res, h.box, h.own, h.fr, h.dis, h.rdr.more hm, h.md⟩
/-- a step that turns a block that is no part of it -/
theorem GS.oth {F : Nat → Prop} (h : GS L R m w g Ag cg hs n4 A4 c4 W) (hm : Mod F W W') (h0 : ∀ b, F b → L + 2 ≤ b) (h4 : ∀ b, F b → blk A4 ≠ some b) (hf : ∀ b, F b → ¬ fpD Ag hs b) : GS L R m w g Ag cg hs n4 A4 c4 W' := by
 have hrl := h.rl
 have hba := h.base
 obtain ⟨l, h1, h2⟩ := h.fr
 exact ⟨h.nf, h.base, h.rl, h.res.mod hm (fun e => by have := h0 _ e; omega), h.box.mod hm (fun e => by have := h0 _ e; omega), h.own.mod hm (fun b hb e => hf b e hb),
  ⟨l, h1, h2.mod hm (fun b hb e => h4 b e hb)⟩, h.dis, h.rdr.mod hm (fun b e => by have := h0 b e; omega), h.md.tr hm (fun b e => .inr (by have := h0 b e; omega))⟩
theorem GS.lt4 (h : GS L R m w g Ag cg hs n4 A4 c4 W) {b : Nat} (hb : blk A4 = some b) : L + 2 ≤ b ∧ b < W.heap.size := by
 obtain ⟨l, h1, h2⟩ := h.fr
 exact h2.lt hb
theorem GS.room (h : GS L R m w g Ag cg hs n4 A4 c4 W) : n4 ≤ c4 ∧ c4 ≤ maxLen := by
 obtain ⟨l, h1, h2⟩ := h.fr
 exact ⟨h2.2.1, h2.2.2.1⟩
/-- a free node more -/
theorem GS.free {A' : Option Addr} {c' : Nat} {l : List Int} (h : GS L R m w g Ag cg hs n4 A4 c4 W) (x : Int) (ho : Own W' (L + 2) 3 1 A' (n4 + 1) c' (ints l ++ [.int .i64 x])) (hl : l.length = n4)
  (hg : W.grownBy W' (blk A4)) (hat : blk A' = blk A4 ∨ ∃ g, blk A' = some g ∧ W.heap.size ≤ g) : GS L R m w g Ag cg hs (n4 + 1) A' c' W' := by
 have hlt := fun b hb => h.lt4 (b := b) hb
 have hrl := h.rl
 have hba := h.base
 rw [ints_snoc] at ho
 refine ⟨h.nf, h.base, h.rl, h.res.gr hg (fun e => by have := (hlt _ e).1; omega), h.box.gr hg (fun e => by have := (hlt _ e).1; omega), h.own.gr hg (fun b e => h.dis b e), ⟨l ++ [x], by simp [hl], ho⟩, ?_,
  h.rdr.gr hg (fun b hb => by have := (hlt b hb).1; omega), h.md.gr hg (fun b hb => .inr (by have := (hlt b hb).1; omega))⟩
 intro b hb hb'
 rcases hat with hat | ⟨g, hg', hle⟩
 ·rw [hat] at hb; exact h.dis b hb hb'
 ·rw [hg'] at hb
  injection hb with hb
  subst hb
  have := (h.own.lt hb').2
  omega
/-- the node that is made in block N -/
structure GP (L N : Nat) (kd : Int) (f : List Sg.Part) (Af : Option Addr) (cf : Nat) (Ag : Option Addr) (hs : List (Option Addr × Nat)) (A4 : Option Addr) (W : World) : Prop where
 n1 : ∀ b, fpD Ag hs b → b < N
 n2 : ∀ b, blk A4 = some b → b < N
 n3 : L + 2 ≤ N
 bx : Bx W N [.int .i64 kd, .slice Af f.length cf]
 own : Own W (N + 1) 85 5 Af f.length cf (parts f)
 le : f.length ≤ 30
/-- a node more: the append, then the store -/
theorem GS.node {N c' cf : Nat} {A' Af : Option Addr} {kd : Int} {f : List Sg.Part} (h : GS L R m w g Ag cg hs n4 A4 c4 W) (hP : GP L N kd f Af cf Ag hs A4 W)
  (ho : Own W' (L + 2) 50 2 A' (g.length + 1) c' (dcells (nodeIts g) hs ++ [.int .i64 kd, .slice Af f.length cf])) (hg : W.grownBy W' (blk Ag)) (hat : blk A' = blk Ag ∨ ∃ g, blk A' = some g ∧ W.heap.size ≤ g) :
  GS L R m w (g ++ [⟨kd, f⟩]) A' c' (hs ++ [(Af, cf)]) n4 A4 c4 (W'.setCell ⟨L + 1, 0, none⟩ (.slice A' (g.length + 1) c')) ∧ Bx (W'.setCell ⟨L + 1, 0, none⟩ (.slice A' (g.length + 1) c')) N [.int .i64 kd, .slice Af f.length cf] := by
 have hlt := fun b hb => h.own.out.lt (g := b) hb
 have hn3 := hP.n3
 have hrl := h.rl
 have hba := h.base
 have hAg : ∀ b, blk Ag = some b → b < N := fun b hb => hP.n1 b (.inl hb)
 have g5 := h.res.gr hg (fun e => by have := (hlt _ e).1; omega)
 have g6 := h.box.gr hg (fun e => by have := (hlt _ e).1; omega)
 have gN := hP.bx.gr hg (fun e => by have := hAg _ e; omega)
 obtain ⟨l, h1, h2⟩ := h.fr
 have g8 := grown_own h2 hg (fun b hb e => h.dis b e (.inl hb))
 have g10 := h.rdr.gr hg (fun b hb => by have := (hlt b hb).1; omega)
 have g11 := h.md.gr hg (fun b hb => .inr (by have := (hlt b hb).1; omega))
 have hsn := h.own.snocM (S := N + 1) (it := ⟨[.int .i64 kd], f.length, parts f⟩) (fun b hb => by have := hP.n1 b hb; omega) (by omega) hP.own (by simpa [itc] using ho) hg hat
 have hits : nodeIts (g ++ [⟨kd, f⟩]) = nodeIts g ++ [⟨[.int .i64 kd], f.length, parts f⟩] := by simp [nodeIts]
 rw [← hits] at hsn
 have hbel : OwnN (W'.setCell ⟨L + 1, 0, none⟩ (.slice A' (g.length + 1) c')) (L + 2) A' c' (g ++ [⟨kd, f⟩]) (hs ++ [(Af, cf)]) := OwnD.below hsn (by show L + 1 < L + 2; omega) _
 refine ⟨⟨?_, h.base, h.rl, g5.oth (show L + 1 ≠ L by omega) _, ?_, hbel, ⟨l, h1, g8.set (fun e => by have := (g8.lt e).1; simp at this) _⟩, ?_, ?_, ?_⟩, gN.oth (show L + 1 ≠ N by omega) _⟩
 ·intro n hn
  rcases List.mem_append.1 hn with hn | hn
  ·exact h.nf n hn
  ·simp at hn; subst hn; exact hP.le
 ·have := g6.set 0 (.slice A' (g.length + 1) c')
  simpa using this
 ·intro b hb hb'
  have hbN := hP.n2 b hb
  have hbW := (h2.lt hb).2
  rcases hb' with hb' | ⟨x, hx, hb'⟩
  ·rcases hat with hat | ⟨q, hq, hle⟩
   ·rw [hat] at hb'; exact h.dis b hb (.inl hb')
   ·rw [hq] at hb'
    injection hb' with hb'
    omega
  ·rcases List.mem_append.1 hx with hx | hx
   ·exact h.dis b hb (.inr ⟨x, hx, hb'⟩)
   ·simp at hx
    subst hx
    have := (hP.own.lt hb').1
    omega
 ·exact g10.mod (F := fun b => b = L + 1) (Mod.set (F := fun b => b = L + 1) (Mod.rfl' (fun b => b = L + 1) W') (p := ⟨L + 1, 0, none⟩) (.inl rfl) _) (fun b e => by omega)
 ·exact g11.set (p := ⟨L + 1, 0, none⟩) (.inr (show w.heap.size ≤ L + 1 by omega)) _
end
/-- the loop's state; a node being made -/
def GG (L R m : Nat) (w : World) (k n4 : Nat) (A4 : Option Addr) (c4 : Nat) (W : World) : Prop := ∃ (g : Sg.Graph) (Ag : Option Addr) (cg : Nat) (hs : List (Option Addr × Nat)), g.length = k ∧ GS L R m w g Ag cg hs n4 A4 c4 W
def GN (L R m : Nat) (w : World) (N k n4 : Nat) (A4 : Option Addr) (c4 : Nat) (kd : Int) (fin : Bool) (W : World) : Prop :=
 ∃ (g : Sg.Graph) (Ag : Option Addr) (cg : Nat) (hs : List (Option Addr × Nat)) (f : List Sg.Part) (Af : Option Addr) (cf : Nat), g.length = k ∧ GS L R m w g Ag cg hs n4 A4 c4 W ∧ GP L N kd f Af cf Ag hs A4 W ∧ (fin = false → f = [] ∧ Af = none ∧ cf = 0)
section
variable {L R m N k n4 c4 : Nat} {w W W' : World} {A4 : Option Addr} {kd : Int} {fin : Bool}
theorem GG.size (h : GG L R m w k n4 A4 c4 W) : L + 2 ≤ W.heap.size := by obtain ⟨_, _, _, _, _, h⟩ := h; exact h.size
theorem GG.rl (h : GG L R m w k n4 A4 c4 W) : R < L := by obtain ⟨_, _, _, _, _, h⟩ := h; exact h.rl
theorem GG.more {m' : Nat} (h : GG L R m w k n4 A4 c4 W) (hm : m ≤ m') : GG L R m' w k n4 A4 c4 W := by obtain ⟨a, b, c, d, e, h⟩ := h; exact ⟨a, b, c, d, e, h.more hm⟩
theorem GN.start (h : GG L R m w k n4 A4 c4 W) (t : Nat) : GN L R m w W.heap.size k n4 A4 c4 0 false (W.alloc (.cells #[.int .i64 0, .slice none 0 0] t)) := by
 obtain ⟨g, Ag, cg, hs, h1, h⟩ := h
 exact ⟨g, Ag, cg, hs, [], none, 0, h1, h.ext ((Ext.rfl' _).al _), ⟨fun b hb => (h.own.lt hb).2, fun b hb => (h.lt4 hb).2, h.size, Bx.new W _ t, Own.nil _ _ _ _, by simp⟩, fun _ => ⟨rfl, rfl, rfl⟩⟩
theorem GN.pick {m' : Nat} (h : GN L R m w N k n4 A4 c4 kd fin W) (hm : Mod (fun b => b = R) W W') (hr : Rdr W' R m') : GN L R m' w N k n4 A4 c4 kd fin W' := by
 obtain ⟨g, Ag, cg, hs, f, Af, cf, h1, h, hP, hz⟩ := h
 have := h.rl
 have := hP.n3
 exact ⟨g, Ag, cg, hs, f, Af, cf, h1, h.pick hm hr, ⟨hP.n1, hP.n2, hP.n3, hP.bx.mod hm (by omega), hP.own.mod hm (fun b hb e => by have := (hP.own.lt hb).1; omega), hP.le⟩, hz⟩
theorem GN.ext (h : GN L R m w N k n4 A4 c4 kd fin W) (e : Ext W W') : GN L R m w N k n4 A4 c4 kd fin W' := h.pick (Mod.of e) (by obtain ⟨_, _, _, _, _, _, _, _, h, _⟩ := h; exact h.rdr.ext e)
theorem GN.rdr (h : GN L R m w N k n4 A4 c4 kd fin W) : Rdr W R m := by obtain ⟨_, _, _, _, _, _, _, _, h, _⟩ := h; exact h.rdr
theorem GN.md (h : GN L R m w N k n4 A4 c4 kd fin W) : Mod (fun b => b = R) w W := by obtain ⟨_, _, _, _, _, _, _, _, h, _⟩ := h; exact h.md
theorem GN.rl (h : GN L R m w N k n4 A4 c4 kd fin W) : R < L ∧ L + 2 ≤ N ∧ N < W.heap.size := by obtain ⟨_, _, _, _, _, _, _, _, h, hP, _⟩ := h; exact ⟨h.rl, hP.n3, hP.bx.lt⟩
theorem GN.whole (h : GN L R m w N k n4 A4 c4 kd fin W) : GN L R m w N k n4 A4 c4 kd true W := by
 obtain ⟨g, Ag, cg, hs, f, Af, cf, h1, h, hP, hz⟩ := h
 exact ⟨g, Ag, cg, hs, f, Af, cf, h1, h, hP, by simp⟩
theorem GN.more {m' : Nat} (h : GN L R m w N k n4 A4 c4 kd fin W) (hm : m ≤ m') : GN L R m' w N k n4 A4 c4 kd fin W := by
 obtain ⟨g, Ag, cg, hs, f, Af, cf, h1, h, hP, hz⟩ := h
 exact ⟨g, Ag, cg, hs, f, Af, cf, h1, h.more hm, hP, hz⟩
/-- the cells that the walk loads -/
theorem GN.c0 (h : GN L R m w N k n4 A4 c4 kd fin W) : W.cell? ⟨N, 0, none⟩ = some (.int .i64 kd) ∧ ∀ j, W.frozen? ⟨N, j, none⟩ = false := by
 obtain ⟨_, _, _, _, _, _, _, _, h, hP, _⟩ := h
 exact ⟨hP.bx.cell (j := 0) rfl, fun j => hP.bx.free j⟩
theorem GN.c1 (h : GN L R m w N k n4 A4 c4 kd false W) : W.cell? ⟨N, 1, none⟩ = some (.slice none 0 0) := by
 obtain ⟨_, _, _, _, f, Af, cf, _, h, hP, hz⟩ := h
 obtain ⟨rfl, rfl, rfl⟩ := hz rfl
 exact hP.bx.cell (j := 1) rfl
/-- the kind is set -/
theorem GN.kind (h : GN L R m w N k n4 A4 c4 kd false W) (x : Int) : GN L R m w N k n4 A4 c4 x false (W.setCell ⟨N, 0, none⟩ (.int .i64 x)) := by
 obtain ⟨g, Ag, cg, hs, f, Af, cf, h1, h, hP, hz⟩ := h
 have hn := hP.n3
 have hm : Mod (fun b => b = N) W (W.setCell ⟨N, 0, none⟩ (.int .i64 x)) := Mod.set (F := fun b => b = N) (Mod.rfl' (fun b => b = N) W) (p := ⟨N, 0, none⟩) (.inl rfl) _
 have hb := hP.bx.set 0 (.int .i64 x)
 simp only [List.set_cons_zero] at hb
 exact ⟨g, Ag, cg, hs, f, Af, cf, h1, h.oth hm (fun b e => by omega) (fun b e e' => by have := hP.n2 b e'; omega) (fun b e e' => by have := hP.n1 b e'; omega), ⟨hP.n1, hP.n2, hP.n3, hb, hP.own.set (fun e => absurd (hP.own.lt e).1 (show ¬ (N + 1 ≤ N) by omega)) _, hP.le⟩, hz⟩
/-- the formula is set -/
theorem GN.form {W1 : World} {m' : Nat} (h : GN L R m w N k n4 A4 c4 kd false W) (hm : Mod (fun b => b = R) W W1) (hr : Rdr W1 R m') {f : List Sg.Part} {Af : Option Addr} {cf : Nat} (ho : Own W1 W.heap.size 85 5 Af f.length cf (parts f)) (hf : f.length ≤ 30) :
  GN L R m' w N k n4 A4 c4 kd true (W1.setCell ⟨N, 1, none⟩ (.slice Af f.length cf)) := by
 have hN := h.rl.2.2
 obtain ⟨g, Ag, cg, hs, f0, Af0, cf0, h1, h, hP, hz⟩ := h.pick hm hr
 have hn := hP.n3
 have hm : Mod (fun b => b = N) W1 (W1.setCell ⟨N, 1, none⟩ (.slice Af f.length cf)) := Mod.set (F := fun b => b = N) (Mod.rfl' (fun b => b = N) W1) (p := ⟨N, 1, none⟩) (.inl rfl) _
 have hb := hP.bx.set 1 (.slice Af f.length cf)
 simp only [List.set_cons_succ, List.set_cons_zero] at hb
 have ho2 := ho.mono (B' := N + 1) hN
 exact ⟨g, Ag, cg, hs, f, Af, cf, h1, h.oth hm (fun b e => by omega) (fun b e e' => by have := hP.n2 b e'; omega) (fun b e e' => by have := hP.n1 b e'; omega), ⟨hP.n1, hP.n2, hP.n3, hb, ho2.set (fun e => absurd (ho2.lt e).1 (show ¬ (N + 1 ≤ N) by omega)) _, hf⟩, by simp⟩
/-- the free nodes, all of them or the last ones -/
theorem GN.free (h : GN L R m w N k n4 A4 c4 kd fin W) : ∃ l : List Int, l.length = n4 ∧ Own W (L + 2) 3 1 A4 n4 c4 (ints l) := by obtain ⟨_, _, _, _, _, _, _, _, h, _⟩ := h; exact h.fr
end
theorem Rd.tail {w : World} {b o n : Nat} {l : List Int} (h : Rd w 1 (some ⟨b, o, none⟩) n (ints l)) (i : Nat) (hi : i ≤ n) : Rd w 1 (some ⟨b, o + i, none⟩) (n - i) (ints (l.drop i)) := by
 have hl := h.len
 refine ⟨by simp; omega, by have := h.2.1; omega, fun h0 => ?_⟩
 obtain ⟨b0, o0, ha, hc⟩ := h.2.2 (by omega)
 simp only [Option.some.injEq, Addr.mk.injEq, and_true] at ha
 obtain ⟨rfl, rfl⟩ := ha
 refine ⟨b, o + i, rfl, fun j u hu => ?_⟩
 rw [← ints_drop, List.getElem?_drop] at hu
 rw [Nat.add_assoc]
 exact hc (i + j) u hu
end Go.Proofs.YtdnlpklmihoapaaGreatDoor

/- The reference's goodGraph: its contract. Conditions: bounds on the number of draws. -/
namespace Go.Proofs.YtdnlpklmihoapaaGreatDoor
open Go.RowKit

def Graphed (R m : Nat) (w : World) (e : Ending) (w' : World) : Prop := ∃ (g : Sg.Graph) (A : Option Addr) (c : Nat) (hs : List (Option Addr × Nat)), e = .returned (.agg #[.slice A g.length c]) ∧ OwnN w' w.heap.size A c g hs ∧ 2 ≤ g.length ∧ g.length ≤ 10 ∧ (∀ n ∈ g, n.f.length ≤ 30) ∧ Rdr w' R (m + 1200) ∧ Mod (fun b => b = R) w w'
theorem GG.start {R m : Nat} {w : World} (h : Rdr w R m) : GG w.heap.size R m w 0 0 (some ⟨w.heap.size + 1 + 1, 0, none⟩) 0 (World.alloc (World.alloc (World.alloc (World.alloc w (.cells #[.slice none 0 0] 24)) (.cells #[.slice none 0 0] 24)) (.cells #[] 3)) (.cells #[.int .i64 6, .int .i64 5, .int .i64 7, .int .i64 8, .int .i64 4, .int .i64 10, .int .i64 2] 3)) := by
 have hR := h.lt
 have b0 := ((Bx.new w #[.slice none 0 0] 24).al (.cells #[.slice none 0 0] 24)).al (.cells #[] 3) |>.al (.cells #[.int .i64 6, .int .i64 5, .int .i64 7, .int .i64 8, .int .i64 4, .int .i64 10, .int .i64 2] 3)
 have b1 := ((Bx.new (World.alloc w (.cells #[.slice none 0 0] 24)) #[.slice none 0 0] 24).al (.cells #[] 3)).al (.cells #[.int .i64 6, .int .i64 5, .int .i64 7, .int .i64 8, .int .i64 4, .int .i64 10, .int .i64 2] 3)
 have o1 := (Own.new (World.alloc (World.alloc w (.cells #[.slice none 0 0] 24)) (.cells #[.slice none 0 0] 24)) (B := w.heap.size + 2) 3 1 #[] 0 (by simp) (by unfold maxLen; omega) rfl).al (.cells #[.int .i64 6, .int .i64 5, .int .i64 7, .int .i64 8, .int .i64 4, .int .i64 10, .int .i64 2] 3)
 simp only [World.size_alloc] at b1 o1
 have e1 : Ext w (World.alloc (World.alloc (World.alloc (World.alloc w (.cells #[.slice none 0 0] 24)) (.cells #[.slice none 0 0] 24)) (.cells #[] 3)) (.cells #[.int .i64 6, .int .i64 5, .int .i64 7, .int .i64 8, .int .i64 4, .int .i64 10, .int .i64 2] 3)) := ((((Ext.rfl' w).al _).al _).al _).al _
 exact ⟨[], none, 0, [], rfl, by simp, rfl, hR, b0, b1, OwnD.nil _ _ _ _ _ _, ⟨[], rfl, o1⟩, (by intro b hb hb'; rcases hb' with hb' | ⟨x, hx, _⟩ <;> simp_all [blk]), h.ext e1, Mod.of e1⟩

set_option maxRecDepth 100000 in
set_option maxHeartbeats 16000000 in
theorem s_goodGraph (R m : Nat) (w : World) (h : Rdr w R m) (hm : m ≤ 800000) :
  Calls Tryz.prog 63 #[.pointer (some ⟨R, 0, none⟩)] w (Graphed R m w) := by
 have hRl := h.lt
 have G0 := lh (GG.start h)
 have HR0 := lh (h.ext (show Ext w (World.alloc (World.alloc (World.alloc (World.alloc w (.cells #[.slice none 0 0] 24)) (.cells #[.slice none 0 0] 24)) (.cells #[] 3)) (.cells #[.int .i64 6, .int .i64 5, .int .i64 7, .int .i64 8, .int .i64 4, .int .i64 10, .int .i64 2] 3)) from ((((Ext.rfl' w).al _).al _).al _).al _))
 clear h
 go_enter Tryz.func63, Tryz.ntmps63
 go_wp2_with fail
 have RL := (Own.new (World.alloc (World.alloc (World.alloc w (.cells #[.slice none 0 0] 24)) (.cells #[.slice none 0 0] 24)) (.cells #[] 3)) (B := 0) 3 1 #[.int .i64 6, .int .i64 5, .int .i64 7, .int .i64 8, .int .i64 4, .int .i64 10, .int .i64 2] 7 (Nat.zero_le _) (by unfold maxLen; omega) rfl).rd
 simp only [World.size_alloc] at RL
 refine (s_one R m _ 7 [6, 5, 7, 8, 4, 10, 2] _ HR0.out RL (by simp) (by simp) (by intro b hb; simp [blk] at hb; omega) (by omega)).mono ?_
 rintro e w1 ⟨x, rfl, hx, hr, hm1⟩
 obtain ⟨k0, rfl, hk0⟩ : ∃ k : Nat, x = k ∧ 2 ≤ k ∧ k ≤ 10 := ⟨x.toNat, by simp at hx; omega, by simp at hx; omega⟩
 have G1 := lh (show GG w.heap.size R (m + 1) w 0 0 (some ⟨w.heap.size + 1 + 1, 0, none⟩) 0 w1 from by obtain ⟨a, b, c, d, e, f⟩ := G0.out; exact ⟨a, b, c, d, e, f.pick hm1 hr⟩)
 clear RL hx hr hm1 G0 HR0
 go_wp2_with fail
 go_loopw [4, 6] (fun s4 s6 wr => ∃ (k n4 : Nat) (A4 : Option Addr) (c4 : Nat), s4 = .slice A4 n4 c4 ∧ s6 = .int .i64 k ∧ k ≤ k0 ∧ n4 ≤ k ∧ Hid (GG w.heap.size R (m + 1 + 110 * k) w k n4 A4 c4 wr)) (fun _ s6 _ => k0 - (intOf s6).toNat)
 case atStart => exact ⟨0, 0, _, _, rfl, rfl, by omega, by omega, G1⟩
 case round =>
  obtain ⟨k, n4, A4, c4, rfl, rfl, hk9, hn4, hG⟩ := hrel
  clear G1
  have hsz := hG.out.size
  have hrl := hG.out.rl
  by_cases hk : k < k0
  ·obtain ⟨M, hM⟩ : ∃ M, M = m + 1 + 110 * k := ⟨_, rfl⟩
   have hMb : M ≤ m + 1001 := by omega
   have HMe := lh hM
   rw [← hM] at hG
   clear hM
   have N0 := lh (GN.start hG.out 50)
   clear hG
   go_upto_region 8 with fail
   go_cut [26] (fun s26 wx => ∃ b : Bool, s26 = .bool b ∧ Hid (GN w.heap.size R (M + 1) w wr.heap.size k n4 A4 c4 0 false wx))
   case first =>
    by_cases h1 : (1 : Int) < (k : Int)
    ·go_wp2_with fail
     go_meet
     exact ⟨_, rfl, lh (N0.out.more (by omega))⟩
    ·have z1 : decide ((1 : Int) < (k : Int)) = false := by simpa using h1
     go_wp2_with fail
     refine (s_pick R M 8 _ N0.out.rdr (by omega) (by omega) (by omega)).mono ?_
     rintro e w2 ⟨x, rfl, hx0, hx1, hr, hm2⟩
     have N1 := lh (N0.out.pick hm2 hr)
     clear hx0 hx1 hr hm2 z1 h1
     go_wp2_with fail
     go_meet
     exact ⟨_, rfl, N1⟩
   case rest =>
    obtain ⟨b, rfl, hN⟩ := hcut
    clear N0
    go_upto_if 26 with fail
    go_cut [] (fun wx => ∃ kd : Int, Hid (GN w.heap.size R (M + 2) w wr.heap.size k n4 A4 c4 kd false wx))
    case first =>
     cases b
     ·go_wp2_with fail
      go_meet
      exact ⟨0, lh (hN.out.more (by omega))⟩
     ·go_wp2_with fail
      have RL := (Own.new wc (B := 0) 3 1 #[.int .i64 1, .int .i64 1, .int .i64 2, .int .i64 0, .int .i64 1] 5 (Nat.zero_le _) (by unfold maxLen; omega) rfl).rd
      refine (s_one R (M + 1) _ 5 [1, 1, 2, 0, 1] _ (hN.out.rdr.ext ((Ext.rfl' wc).al _)) RL (by simp) (by simp) (by intro b hb; simp [blk] at hb; have := hN.out.rl; omega) (by omega)).mono ?_
      rintro e w3 ⟨x, rfl, hx, hr, hm3⟩
      have N2 := lh ((hN.out.ext ((Ext.rfl' wc).al (.cells #[.int .i64 1, .int .i64 1, .int .i64 2, .int .i64 0, .int .i64 1] 3))).pick hm3 hr)
      clear hx hr hm3 RL
      have f0 := N2.out.c0.2 0
      have q3 := N2.out.c0.1
      have bl := N2.out.rl.2.2
      go_wp2_with fail
      go_meet
      exact ⟨x, lh (N2.out.kind x)⟩
    case rest =>
     obtain ⟨wa, rfl⟩ : ∃ wa : World, wa = wc := ⟨_, rfl⟩
     obtain ⟨kd, hN2⟩ := hcut
     clear hN
     have q0 := hN2.out.c0.1
     have bl := blt q0
     go_upto_if 33 with fail
     clear q0 bl
     go_cut [] (fun wx => Hid (GN w.heap.size R (M + 103) w wr.heap.size k n4 A4 c4 kd true wx))
     case first =>
      by_cases hkd : kd = 0
      ·have z3 : (kd != 0) = false := by simp [hkd]
       go_wp2_with fail
       go_meet
       exact lh (hN2.out.whole.more (by omega))
      ·have z3 : (kd != 0) = true := by simp [hkd]
       clear hkd
       obtain ⟨l, hll, hlo⟩ := hN2.out.free
       have Hlo := lh hlo
       clear hlo
       have hrl2 := hN2.out.rl
       have hlm := Hlo.out.2.2.1
       have hln := Hlo.out.2.1
       unfold maxLen at hlm
       subst hll
       by_cases h3 : 3 < l.length
       ·obtain ⟨b4, rfl, hb4⟩ := Hlo.out.at_ (by omega)
        have z4 : (3 : Int) < (l.length : Int) := by omega
        obtain ⟨j3, hj3⟩ : ∃ j, j = l.length - 3 := ⟨_, rfl⟩
        go_wp2_with fail
        refine (s_pick R (M + 2) 2 _ hN2.out.rdr (by omega) (by omega) (by omega)).mono ?_
        rintro e w5 ⟨x, rfl, hx0, hx1, hr, hm5⟩
        have N3 := lh (hN2.out.pick hm5 hr)
        have Ho5 := lh (Hlo.out.mod hm5 (fun b hb e => by simp [blk] at hb; omega))
        clear hx0 hx1 hr hm5 hN2
        by_cases hx : x = 0
        ·have z5 : (x == 0) = true := by simp [hx]
         have i1 : IntKind.i64.wrap ((l.length : Int) - 3) = (j3 : Int) := by rw [IntWalk.i64_in _ (by omega)]; omega
         have i2 : j3 ≤ c4 := by omega
         have i3 : (j3 : Int) ≤ (c4 : Int) := by omega
         have i4 : j3 ≤ l.length := by omega
         have i5 : (j3 : Int) ≤ (l.length : Int) := by omega
         have i6 : ¬ c4 = j3 := by omega
         have RT := lh (Ho5.out.rd.tail j3 i4)
         obtain ⟨l3, hl3⟩ : ∃ l3, l3 = l.drop j3 := ⟨_, rfl⟩
         have e9 : l.length - j3 = l3.length := by rw [hl3, List.length_drop]
         have hl30 : l3.length ≤ 10 := by rw [← e9]; omega
         rw [← hl3, Nat.zero_add, e9] at RT
         have E9 := lh e9
         clear hx e9 hl3 hj3
         go_wp2_with fail
         rw [E9.out]
         refine (s_goodFormula R (M + 3) _ _ l3 w5 N3.out.rdr RT.out (by omega) (by intro b hb; simp [blk] at hb; omega) (by omega)).mono ?_
         rintro e w9 ⟨f, Af, cf, rfl, ho, hf1, hf30, hr9, hm9⟩
         have N9 := lh (N3.out.form hm9 hr9 ho hf30)
         have f1 : w9.frozen? ⟨wr.heap.size, 1, none⟩ = false := (N3.out.pick hm9 hr9).c0.2 1
         have q3 := (N3.out.pick hm9 hr9).c1
         have bl := (N3.out.pick hm9 hr9).rl.2.2
         clear ho hf1 hr9 hm9
         go_wp2_with fail
         go_meet
         exact lh (N9.out.more (by omega))
        ·have z5 : (x == 0) = false := by rw [beq_eq_false_iff_ne]; exact hx
         clear hx
         go_wp2_with fail
         refine (s_goodFormula R (M + 3) _ _ l w5 N3.out.rdr Ho5.out.rd (by omega) (by intro b hb; simp [blk] at hb; omega) (by omega)).mono ?_
         rintro e w9 ⟨f, Af, cf, rfl, ho, hf1, hf30, hr9, hm9⟩
         have N9 := lh (N3.out.form hm9 hr9 ho hf30)
         have f1 : w9.frozen? ⟨wr.heap.size, 1, none⟩ = false := (N3.out.pick hm9 hr9).c0.2 1
         have q3 := (N3.out.pick hm9 hr9).c1
         have bl := (N3.out.pick hm9 hr9).rl.2.2
         clear ho hf1 hr9 hm9
         go_wp2_with fail
         go_meet
         exact lh (N9.out.more (by omega))
       ·have z4 : ¬ (3 : Int) < (l.length : Int) := by omega
        have z4' : decide ((3 : Int) < (l.length : Int)) = false := by simpa using z4
        go_wp2_with fail
        refine (s_goodFormula R (M + 2) A4 c4 l wa hN2.out.rdr Hlo.out.rd (by omega) (by intro b hb; have := Hlo.out.lt hb; omega) (by omega)).mono ?_
        rintro e w9 ⟨f, Af, cf, rfl, ho, hf1, hf30, hr9, hm9⟩
        have N9 := lh (hN2.out.form hm9 hr9 ho hf30)
        have f1 : w9.frozen? ⟨wr.heap.size, 1, none⟩ = false := (hN2.out.pick hm9 hr9).c0.2 1
        have q3 := (hN2.out.pick hm9 hr9).c1
        have bl := (hN2.out.pick hm9 hr9).rl.2.2
        clear ho hf1 hr9 hm9
        go_wp2_with fail
        go_meet
        exact lh (N9.out.more (by omega))
     case rest =>
      have hN3 := hcut
      clear hcut hN2
      obtain ⟨g, Ag, cg, hs, f, Af, cf, hgk, hS, hP, _⟩ := hN3.out
      have HS := lh hS
      have HP := lh hP
      have hb4 := hS.room
      have q0 := hP.bx.cell (j := 0) rfl
      have q1 := hP.bx.cell (j := 1) rfl
      have bl := blt q0
      have qb := hS.box.cell (j := 0) rfl
      have qf := hS.box.free 0
      have bq := blt qb
      have HOW := lh hS.own.out
      have hA1 : ∀ b, blk Ag = some b → b ≠ w.heap.size + 1 := fun b hb e => by have := (hS.own.out.lt hb).1; omega
      have HA1 := lh hA1
      have hsz9 := hS.size
      subst hgk
      clear hS hP hN3 hA1
      have hON := lh (show Own wc (w.heap.size + 2) 50 2 Ag g.length cg (dcells (nodeIts g) hs) from by have := HOW.out; simpa using this)
      go_upto_region 16 with (at_builtin; refine wpList_app1 (cs := [.int .i64 kd, .slice Af f.length cf]) rfl rfl eiNode rfl hON.out rfl rfl (by intro u hu; simp at hu; rcases hu with rfl | rfl <;> rfl) (by omega) (by omega) (by omega) ?_; intro A7 c7 w7 ho7 hg7 hat7; have hne7 : blk Ag ≠ some (w.heap.size + 1) := (fun e => HA1.out _ e rfl); have hcf7 := grown_cell hg7 qb hne7; have hff7 := grown_free hg7 bq qf hne7; have blf7 := blt hcf7; have GX := lh (GS.node HS.out HP.out ho7 hg7 hat7); clear q0 q1 bl qb qf bq ho7 hg7 hat7 hne7)
      obtain ⟨hS9, hB9⟩ := GX.out
      have HS9 := lh hS9
      have HB9 := lh hB9
      clear hS9 hB9 GX hcf7 hff7 blf7
      generalize (World.setCell w7 ⟨w.heap.size + 1, 0, none⟩ (.slice A7 (g.length + 1) c7)) = w8 at *
      have q0 := HB9.out.cell (j := 0) rfl
      have bl := blt q0
      have hs8 := HS9.out.size
      obtain ⟨l, hll, hlo⟩ := HS9.out.fr
      have Hlo := lh hlo
      have Hll := lh hll
      clear hlo hll
      by_cases hk2 : kd = 2
      ·have z3 : (kd != 2) = false := by simp [hk2]
       go_wp2_with fail
       go_wp2
       go_roundw
       case rel => exact ⟨g.length + 1, n4, A4, c4, rfl, (by simp), by omega, by omega, lh ⟨_, _, _, _, (by simp), HS9.out.more (by have := HMe.out; omega)⟩⟩
       case measure => simp [intOf]; omega
      ·have z3 : (kd != 2) = true := by simp [hk2]
       go_wp2_with (at_builtin; refine wpList_app1 rfl rfl eiInt rfl Hlo.out rfl rfl (one_int _ _) (by omega) (by omega) (by omega) ?_; intro A9 c9 w9 ho9 hg9 hat9; have GF := lh (GS.free HS9.out _ ho9 Hll.out hg9 hat9); clear ho9 hg9 hat9 q0 bl)
       go_roundw
       case rel => exact ⟨g.length + 1, n4 + 1, A9, c9, (by simp), (by simp), by omega, by omega, lh ⟨_, _, _, _, (by simp), GF.out.more (by have := HMe.out; omega)⟩⟩
       case measure => simp [intOf]; omega
  ·obtain rfl : k = k0 := by omega
   obtain ⟨g, Ag, cg, hs, hgk, hS⟩ := hG.out
   subst hgk
   have hnf := hS.nf
   have HNF := lh hnf
   have HS := lh hS
   have qb := hS.box.cell (j := 0) rfl
   have bq := blt qb
   have f0 := hS.res.free 0
   have qr := hS.res.cell (j := 0) rfl
   have bl := hS.res.lt
   have HRS := lh hS.res
   clear hS hnf hG
   go_wp2
   have s0 : ∀ u : Value, World.cell? (World.setCell wr ⟨w.heap.size, 0, none⟩ u) ⟨w.heap.size, 0, none⟩ = some u := fun u => (HRS.out.set 0 u).cell (j := 0) rfl
   refine bodyPost_ret (v := .agg #[.slice Ag g.length cg]) (by simp [results, Tryz.results63, go_sem, s0]; try rfl) rfl ?_
   refine ⟨g, Ag, cg, hs, rfl, (OwnD.below HS.out.own (by show w.heap.size < w.heap.size + 2; omega) _).mono (by omega), by omega, by omega, HNF.out, ?_, ?_⟩
   ·exact (HS.out.rdr.mod (F := fun b => b = w.heap.size) (Mod.set (F := fun b => b = w.heap.size) (Mod.rfl' (fun b => b = w.heap.size) _) (p := ⟨w.heap.size, 0, none⟩) (.inl rfl) _) (fun b e => by omega)).more (by omega)
   ·exact HS.out.md.set (p := ⟨w.heap.size, 0, none⟩) (.inr (Nat.le_refl _)) _
end Go.Proofs.YtdnlpklmihoapaaGreatDoor

/- The draws of cells: goodCells, someCells; one node of an own graph turned. Conditions: bounds. -/
namespace Go.Proofs.YtdnlpklmihoapaaGreatDoor
open Go.RowKit

theorem dcells_form {its : List It} {hs : List (Option Addr × Nat)} {j : Nat} {it it' : It} {x : Value} {A0 : Option Addr} {c0 : Nat} (ha : ∀ i ∈ its, i.pre.length + 1 = 2) (hj : j < hs.length) (hi : its[j]? = some it) (hp : it.pre = [x]) (hp' : it'.pre = [x]) :
  (dcells its hs).set (j * 2 + 1) (.slice A0 it'.n c0) = dcells (its.set j it') (hs.set j (A0, c0)) := by
 induction its generalizing hs j with
 | nil => simp at hi
 | cons z its ih =>
  cases hs with
  | nil => simp at hj
  | cons h hs =>
   cases j with
   | zero =>
    simp at hi
    subst hi
    simp [dcells, itc, hp, hp']
   | succ j =>
    have hz := ha z (by simp)
    simp only [List.set_cons_succ, dcells]
    rw [← ih (fun i hi => ha i (by simp [hi])) (by simpa using hj) (by simpa using hi), List.set_append_right _ _ (by simp [itc]; omega)]
    congr 2
    simp [itc]
    omega
section
variable {w w1 : World} {B c b S : Nat} {g : Sg.Graph} {hs : List (Option Addr × Nat)}
theorem OwnN.setKind (k : OwnN w B (some ⟨b, 0, none⟩) c g hs) {i : Nat} {n : Sg.Node} (hi : g[i]? = some n) (x : Int) : OwnN (w.setCell ⟨b, i * 2, none⟩ (.int .i64 x)) B (some ⟨b, 0, none⟩) c (g.set i ⟨x, n.f⟩) hs := by
 have hlen : hs.length = g.length := by have := k.len; simpa using this
 have hil := (List.getElem?_eq_some_iff.1 hi).1
 have hits : nodeIts (g.set i ⟨x, n.f⟩) = (nodeIts g).set i ⟨[.int .i64 x], n.f.length, parts n.f⟩ := by simp [nodeIts, List.map_set]
 have hh : hs[i]? = some hs[i] := List.getElem?_eq_getElem (by omega)
 have hin := k.inn i _ _ (nodeIts_at hi) hh
 unfold OwnN
 rw [hits]
 refine OwnD.upd k hh ?_ (hin.set (fun e => k.dio i _ hh b rfl e) _) (fun y _ _ hy => Below.heap_setCell _ _ _ _ (fun e => hy (by rw [e]; rfl)))
 have := k.out.st (i * 2) (.int .i64 x)
 rwa [dcells_pre (it' := ⟨[.int .i64 x], n.f.length, parts n.f⟩) (nodeIts_pre g) (by omega) (nodeIts_at hi) rfl rfl rfl] at this
theorem OwnN.setForm (k : OwnN w1 B (some ⟨b, 0, none⟩) c g hs) (hS : ∀ y, fpD (some ⟨b, 0, none⟩) hs y → y < S) (hB : B ≤ S) {i : Nat} {n : Sg.Node} (hi : g[i]? = some n) {f : List Sg.Part} {A0 : Option Addr} {c0 : Nat}
  (own : Own w1 S 85 5 A0 f.length c0 (parts f)) : OwnN (w1.setCell ⟨b, i * 2 + 1, none⟩ (.slice A0 f.length c0)) B (some ⟨b, 0, none⟩) c (g.set i ⟨n.kind, f⟩) (hs.set i (A0, c0)) := by
 have hlen : hs.length = g.length := by have := k.len; simpa using this
 have hil := (List.getElem?_eq_some_iff.1 hi).1
 have hits : nodeIts (g.set i ⟨n.kind, f⟩) = (nodeIts g).set i ⟨[.int .i64 n.kind], f.length, parts f⟩ := by simp [nodeIts, List.map_set]
 have hother : ∀ y, y ≠ b → (w1.setCell ⟨b, i * 2 + 1, none⟩ (.slice A0 f.length c0)).heap[y]? = w1.heap[y]? := fun y hy => Below.heap_setCell _ _ _ _ hy
 have hbS : b < S := hS b (.inl rfl)
 refine ⟨by simp [hlen], ?_, ?_, ?_, ?_⟩
 ·have h1 := k.out.st (i * 2 + 1) (.slice A0 f.length c0)
  rw [dcells_form (it' := ⟨[.int .i64 n.kind], f.length, parts f⟩) (nodeIts_pre g) (by omega) (nodeIts_at hi) rfl rfl] at h1
  rw [hits]
  simpa using h1
 ·intro j it h hj hh
  rw [hits] at hj
  by_cases hij : j = i
  ·subst hij
   rw [List.getElem?_set_self (by simpa using hil)] at hj
   rw [List.getElem?_set_self (by omega)] at hh
   injection hj with hj
   injection hh with hh
   subst hj
   subst hh
   refine (own.keep fun y hy => hother y (fun e2 => ?_)).mono hB
   have := (own.lt hy).1
   omega
  ·rw [List.getElem?_set_ne (fun e => hij e.symm)] at hj hh
   refine (k.inn j it h hj hh).keep fun y hy => hother y (fun e2 => ?_)
   subst e2
   exact k.dio j h hh y rfl hy
 ·intro a d h h' hab hh hh' x hx hx'
  by_cases h1 : a = i
  ·subst h1
   rw [List.getElem?_set_self (by omega)] at hh
   injection hh with hh
   subst hh
   rw [List.getElem?_set_ne (by omega)] at hh'
   have h3 := (own.lt hx).1
   have h4 := hS x (.inr ⟨h', List.mem_of_getElem? hh', hx'⟩)
   omega
  ·rw [List.getElem?_set_ne (fun e => h1 e.symm)] at hh
   by_cases h2 : d = i
   ·subst h2
    rw [List.getElem?_set_self (by omega)] at hh'
    injection hh' with hh'
    subst hh'
    have h3 := (own.lt hx').1
    have h4 := hS x (.inr ⟨h, List.mem_of_getElem? hh, hx⟩)
    omega
   ·rw [List.getElem?_set_ne (fun e => h2 e.symm)] at hh'
    exact k.dis a d h h' hab hh hh' x hx hx'
 ·intro a h hh y hy hy'
  by_cases h1 : a = i
  ·subst h1
   rw [List.getElem?_set_self (by omega)] at hh
   injection hh with hh
   subst hh
   have h3 := (own.lt hy').1
   simp [blk] at hy
   omega
  ·rw [List.getElem?_set_ne (fun e => h1 e.symm)] at hh
   exact k.dio a h hh y hy hy'
end

def Celled (R m lo hi : Nat) (w : World) (e : Ending) (w' : World) : Prop := ∃ (l : List Int) (A : Option Addr) (c : Nat), e = .returned (.slice A l.length c) ∧ Own w' w.heap.size 3 1 A l.length c (ints l) ∧ lo ≤ l.length ∧ l.length ≤ hi ∧ Rdr w' R m ∧ Mod (fun b => b = R) w w'

set_option maxRecDepth 100000 in
set_option maxHeartbeats 4000000 in
theorem s_goodCells (R m : Nat) (A : Option Addr) (c : Nat) (g : Sg.Graph) (w : World) (h : Rdr w R m) (hg : ∀ W, Mod (fun b => b = R) w W → RdN W A g) (hgl : g.length ≤ 10) (hm : m ≤ 900000) :
  Calls Tryz.prog 64 #[.pointer (some ⟨R, 0, none⟩), .agg #[.slice A g.length c]] w (Celled R (m + 20) g.length g.length w) := by
 have hRl := h.lt
 have HG := lh hg
 have M0 := lh (Mod.of (F := fun b => b = R) (((Ext.rfl' w).al (.cells #[.slice A g.length c] 24)).al (.cells #[] 3)))
 have R0 := lh (h.ext (((Ext.rfl' w).al (.cells #[.slice A g.length c] 24)).al (.cells #[] 3)))
 have q0 : World.cell? (World.alloc (World.alloc w (.cells #[.slice A g.length c] 24)) (.cells #[] 3)) ⟨w.heap.size, 0, none⟩ = some (.slice A g.length c) := by simp [go_sem]
 have Q0 := lh q0
 have o1 := Own.new (World.alloc w (.cells #[.slice A g.length c] 24)) (B := w.heap.size) 3 1 #[] 0 (by simp) (by unfold maxLen; omega) rfl
 simp only [World.size_alloc] at o1
 have O1 := lh o1
 clear h hg q0 o1
 go_enter Tryz.func64, Tryz.ntmps64
 go_wp2_with fail
 go_loopw [5, 6] (fun s5 s6 wr => ∃ (l : List Int) (A5 : Option Addr) (c5 : Nat), s5 = .slice A5 l.length c5 ∧ s6 = .int .i64 (l.length : Int) ∧ l.length ≤ g.length ∧ Hid (wr.cell? ⟨w.heap.size, 0, none⟩ = some (.slice A g.length c)) ∧ Hid (Own wr w.heap.size 3 1 A5 l.length c5 (ints l)) ∧ Hid (blk A5 ≠ some w.heap.size) ∧ Hid (Rdr wr R (m + 2 * l.length)) ∧ Hid (Mod (fun b => b = R) w wr)) (fun _ s6 _ => g.length - (intOf s6).toNat)
 case atStart => exact ⟨[], _, _, rfl, rfl, Nat.zero_le _, Q0, O1, lh (by simp [blk]), R0, M0⟩
 case round =>
  clear Q0 O1 R0 M0
  obtain ⟨l, A5, c5, rfl, rfl, hl, hQ, hO, hD, hR, hM⟩ := hrel
  have q0 := hQ.out
  have b0 := blt q0
  by_cases hlt : l.length < g.length
  ·obtain ⟨n, bn, on, Ap, cp, hn, rfl, k1, k2, k3, k4⟩ := (HG.out _ hM.out).at_ hlt
   have bk := blt k1
   clear hn k2 k3 k4
   go_upto_if 22 with fail
   go_cut [7] (fun s7 wx => ∃ x : Int, s7 = .int .i64 x ∧ Hid (wx.cell? ⟨w.heap.size, 0, none⟩ = some (.slice (some ⟨bn, on, none⟩) g.length c)) ∧ Hid (Own wx w.heap.size 3 1 A5 l.length c5 (ints l)) ∧ Hid (Rdr wx R (m + 2 * l.length + 2)) ∧ Hid (Mod (fun b => b = R) w wx))
   case first =>
    by_cases hk : n.kind = 0
    ·have z1 : (n.kind == 0) = true := by simp [hk]
     clear hk q0 k1 b0 bk
     go_wp2_with fail
     refine (s_pick R (m + 2 * l.length) 1000 _ hR.out (by omega) (by omega) (by omega)).mono ?_
     rintro e w2 ⟨x, rfl, hx0, hx1, hr2, hm2⟩
     have Hr2 := lh hr2
     have Hm2 := lh hm2
     clear hx0 hx1 hr2 hm2
     go_wp2_with fail
     have RL := (Own.new w2 (B := 0) 3 1 #[.int .i64 0, .int .i64 1, .int .i64 x, .int .i64 2, .int .i64 5] 5 (Nat.zero_le _) (by unfold maxLen; omega) rfl).rd
     have hRl2 := Hr2.out.lt
     refine (s_one R (m + 2 * l.length + 1) _ 5 [0, 1, x, 2, 5] _ (Hr2.out.ext ((Ext.rfl' w2).al _)) RL (by simp) (by simp) (by intro b hb; simp [blk] at hb; omega) (by omega)).mono ?_
     rintro e w3 ⟨y, rfl, hy, hr3, hm3⟩
     have Hm3 := lh (((Hm2.out).al (.cells #[.int .i64 0, .int .i64 1, .int .i64 x, .int .i64 2, .int .i64 5] 3)).tr' hm3)
     have Hr3 := lh hr3
     clear hy hr3 hm3 RL
     go_wp2_with fail
     go_meet
     exact ⟨y, rfl, lh (Hm3.out.cellE hQ.out (by omega)), lh (hO.out.mod Hm3.out (fun b hb e => by have := (hO.out.lt hb).1; omega)), lh (Hr3.out.more (by omega)), lh (hM.out.tr' Hm3.out)⟩
    ·have z1 : (n.kind == 0) = false := by rw [beq_eq_false_iff_ne]; exact hk
     clear hk
     go_wp2_with fail
     go_meet
     exact ⟨0, rfl, hQ, hO, lh (hR.out.more (by omega)), hM⟩
   case rest =>
    clear q0 b0 k1 bk
    obtain ⟨x, rfl, hQ2, hO2, hR2, hM2⟩ := hcut
    have hws := hM2.out.size
    go_wp2_with (at_builtin; refine wpList_app1 rfl rfl eiInt rfl hO2.out rfl rfl (one_int _ _) (by omega) (by omega) (by omega) ?_; intro A9 c9 w9 ho9 hg9 hat9; have Ho9 := lh ho9; have Hg9 := lh hg9; have Ha9 := lh hat9; clear ho9 hg9 hat9)
    go_roundw
    case rel =>
     have hlt5 := fun b hb => hO2.out.lt (g := b) hb
     refine ⟨l ++ [x], A9, c9, by simp, by simp, by simp; omega, lh (grown_cell Hg9.out hQ2.out hD.out), lh (by have := Ho9.out; simpa using this), lh ?_, lh (by simp only [List.length_append, List.length_singleton]; exact (hR2.out.gr Hg9.out (fun b hb => by have := (hlt5 b hb).1; omega)).more (by omega)), lh (hM2.out.gr Hg9.out (fun b hb => .inr (hlt5 b hb).1))⟩
     intro e
     rcases Ha9.out with h | ⟨q, hq, hle⟩
     ·exact hD.out (by rw [← h]; exact e)
     ·rw [hq] at e
      injection e with e
      have := blt hQ2.out
      omega
    case measure => simp [intOf]; omega
  ·have hle : l.length = g.length := by omega
   have HLE := lh hle
   have hnl : ¬ ((l.length : Int) < (g.length : Int)) := by omega
   clear hle
   go_wp2
   go_ret
   exact ⟨l, A5, c5, rfl, hO.out, by rw [HLE.out]; exact Nat.le_refl _, by rw [HLE.out]; exact Nat.le_refl _, hR.out.more (by omega), hM.out⟩

set_option maxRecDepth 100000 in
set_option maxHeartbeats 4000000 in
theorem s_someCells (R m : Nat) (A : Option Addr) (c : Nat) (g : Sg.Graph) (w : World) (h : Rdr w R m) (hg : ∀ W, Mod (fun b => b = R) w W → RdN W A g) (hgl : g.length ≤ 10) (hg0 : 0 < g.length) (hm : m ≤ 900000) :
  Calls Tryz.prog 73 #[.pointer (some ⟨R, 0, none⟩), .agg #[.slice A g.length c]] w (Celled R (m + 30) 1 11 w) := by
 have hRl := h.lt
 have M0 := lh (Mod.of (F := fun b => b = R) ((Ext.rfl' w).al (.cells #[.slice A g.length c] 24)))
 have HC := lh (s_goodCells R m A c g _ (h.ext ((Ext.rfl' w).al (.cells #[.slice A g.length c] 24))) (fun W hW => hg W (M0.out.tr' hW)) hgl hm)
 have q0 : World.cell? (World.alloc w (.cells #[.slice A g.length c] 24)) ⟨w.heap.size, 0, none⟩ = some (.slice A g.length c) := by simp [go_sem]
 clear h hg
 go_enter Tryz.func73, Tryz.ntmps73
 go_wp2_with fail
 refine HC.out.mono ?_
 rintro e w1 ⟨l, A5, c5, rfl, ho, hl1, hl2, hr1, hm1⟩
 have M1 := lh (M0.out.tr' hm1)
 have O1 := lh (ho.mono (B' := w.heap.size) (by simp))
 have hr0 := hr1.lt
 have R1 := lh hr1
 have hl0 : 0 < l.length := by omega
 clear ho hr1 hm1 M0 HC q0
 go_wp2_with fail
 refine (s_pick R (m + 20) 24 _ R1.out (by omega) (by omega) (by omega)).mono ?_
 rintro e w2 ⟨x, rfl, hx0, hx1, hr2, hm2⟩
 have M2 := lh (M1.out.tr' hm2)
 have O2 := lh (O1.out.mod hm2 (fun b hb e => by have := (O1.out.lt hb).1; omega))
 have R2 := lh hr2
 have hws := M2.out.size
 clear hx0 hx1 hr2 hm2 M1 O1 R1
 by_cases h0 : x = 0
 ·have z1 : (x == 0) = true := by simp [h0]
  clear h0
  go_wp2_with (at_builtin; refine wpList_app1 rfl rfl eiInt rfl O2.out rfl rfl (one_int _ _) (by omega) (by omega) (by omega) ?_; intro A9 c9 w9 ho9 hg9 hat9; have Ho9 := lh ho9; have Hg9 := lh hg9; clear ho9 hg9 hat9)
  go_ret
  have hlt5 := fun b hb => O2.out.lt (g := b) hb
  exact ⟨l ++ [0], A9, c9, by simp, by have := Ho9.out; simpa using this, by simp, by simp; omega, (R2.out.gr Hg9.out (fun b hb => by have := (hlt5 b hb).1; omega)).more (by omega), M2.out.gr Hg9.out (fun b hb => .inr (hlt5 b hb).1)⟩
 ·have z1 : (x == 0) = false := by rw [beq_eq_false_iff_ne]; exact h0
  clear h0
  by_cases h1 : x = 1
  ·have z2 : (x == 1) = true := by simp [h1]
   clear h1
   obtain ⟨b5, rfl, hb5⟩ := O2.out.at_ (by omega)
   go_wp2_with fail
   refine (s_pick R (m + 21) (l.length : Int) _ R2.out (by omega) (by omega) (by omega)).mono ?_
   rintro e w3 ⟨y, rfl, hy0, hy1, hr3, hm3⟩
   obtain ⟨j, rfl⟩ := Int.eq_ofNat_of_zero_le hy0
   have hj : j < l.length := by omega
   have M3 := lh (M2.out.tr' hm3)
   have O3 := lh (O2.out.mod hm3 (fun b hb e => by have := (O2.out.lt hb).1; omega))
   have R3 := lh hr3
   clear hy0 hy1 hr3 hm3 M2 O2 R2
   go_wp2_with fail
   have RL := (Own.new w3 (B := 0) 3 1 #[.int .i64 (-1), .int .i64 1000, .int .i64 7] 3 (Nat.zero_le _) (by unfold maxLen; omega) rfl).rd
   have hRl2 := R3.out.lt
   refine (s_one R (m + 22) _ 3 [-1, 1000, 7] _ (R3.out.ext ((Ext.rfl' w3).al _)) RL (by simp) (by simp) (by intro b hb; simp [blk] at hb; omega) (by omega)).mono ?_
   rintro e w4 ⟨v, rfl, hv, hr4, hm4⟩
   have M4 := lh ((M3.out.al (.cells #[.int .i64 (-1), .int .i64 1000, .int .i64 7] 3)).tr' hm4)
   have O4 := lh ((O3.out.al (.cells #[.int .i64 (-1), .int .i64 1000, .int .i64 7] 3)).mod hm4 (fun b hb e => by have := (O3.out.lt hb).1; omega))
   have R4 := lh hr4
   clear hv hr4 hm4 RL M3 O3 R3
   obtain ⟨y0, hy0⟩ : ∃ y0, l[j]? = some y0 := ⟨_, List.getElem?_eq_getElem hj⟩
   have cj := O4.out.cell (j := j) (u := .int .i64 y0) (by rw [ints_at, hy0]; rfl)
   have fj := O4.out.free j
   have bj := blt cj
   clear hy0
   go_wp2
   go_ret
   have hb5l := (O4.out.lt (g := b5) rfl).1
   refine ⟨l.set j v, some ⟨b5, 0, none⟩, c5, by simp, by have := O4.out.st j (.int .i64 v); rw [ints_set] at this; simpa using this, by simp; omega, by simp; omega, ?_, ?_⟩
   ·exact (R4.out.mod (F := fun b => b = b5) (Mod.set (F := fun b => b = b5) (Mod.rfl' (fun b => b = b5) _) (p := ⟨b5, j, none⟩) (.inl rfl) _) (fun b e => by omega)).more (by omega)
   ·exact M4.out.set (p := ⟨b5, j, none⟩) (.inr hb5l) _
  ·have z2 : (x == 1) = false := by rw [beq_eq_false_iff_ne]; exact h1
   clear h1
   go_wp2
   go_ret
   exact ⟨l, A5, c5, rfl, O2.out, by omega, by omega, R2.out.more (by omega), M2.out⟩
end Go.Proofs.YtdnlpklmihoapaaGreatDoor

/- The reference's someGraph and graphOf: contracts. Conditions: bounds on the number of draws. -/
namespace Go.Proofs.YtdnlpklmihoapaaGreatDoor
open Go.RowKit

/-- an own graph that can be read, whatever the reader does -/
structure GOK (B R : Nat) (A : Option Addr) (c : Nat) (g : Sg.Graph) (hs : List (Option Addr × Nat)) (W : World) : Prop where
 own : OwnN W B A c g hs
 lo : 2 ≤ g.length
 hi : g.length ≤ 10
 nf : ∀ n ∈ g, n.f.length ≤ 30
theorem GOK.mod {B R c : Nat} {A : Option Addr} {g : Sg.Graph} {hs : List (Option Addr × Nat)} {F : Nat → Prop} {W W' : World} (h : GOK B R A c g hs W) (hm : Mod F W W') (hF : ∀ b, F b → b < B) : GOK B R A c g hs W' :=
 ⟨h.own.mod hm (fun b hb e => by have := (h.own.lt hb).1; have := hF b e; omega), h.lo, h.hi, h.nf⟩
theorem GOK.ext {B R c : Nat} {A : Option Addr} {g : Sg.Graph} {hs : List (Option Addr × Nat)} {W W' : World} (h : GOK B R A c g hs W) (e : Ext W W') : GOK B R A c g hs W' := h.mod (F := fun _ => False) (Mod.of e) (fun _ => False.elim)
theorem GOK.rd {B R c : Nat} {A : Option Addr} {g : Sg.Graph} {hs : List (Option Addr × Nat)} {W : World} (h : GOK B R A c g hs W) : RdN W A g := h.own.rdN (by have := h.hi; omega) (fun n hn => by have := h.nf n hn; omega)
theorem GOK.mono {B B' R c : Nat} {A : Option Addr} {g : Sg.Graph} {hs : List (Option Addr × Nat)} {W : World} (h : GOK B R A c g hs W) (hB : B' ≤ B) : GOK B' R A c g hs W := ⟨h.own.mono hB, h.lo, h.hi, h.nf⟩
def SGraphed (R m : Nat) (w : World) (e : Ending) (w' : World) : Prop := ∃ (g : Sg.Graph) (A : Option Addr) (c : Nat) (hs : List (Option Addr × Nat)), e = .returned (.agg #[.slice A g.length c]) ∧ GOK w.heap.size R A c g hs w' ∧ Rdr w' R (m + 1400) ∧ Mod (fun b => b = R) w w'

set_option maxRecDepth 100000 in
set_option maxHeartbeats 8000000 in
theorem s_someGraph (R m : Nat) (w : World) (h : Rdr w R m) (hm : m ≤ 700000) :
  Calls Tryz.prog 72 #[.pointer (some ⟨R, 0, none⟩)] w (SGraphed R m w) := by
 have hRl := h.lt
 have H0 := lh (h.ext (show Ext w (World.alloc w (.cells #[.slice none 0 0] 24)) from (Ext.rfl' w).al _))
 have M0 := lh (Mod.of (F := fun b => b = R) (show Ext w (World.alloc w (.cells #[.slice none 0 0] 24)) from (Ext.rfl' w).al _))
 have B0 := lh (Bx.new w #[.slice none 0 0] 24)
 clear h
 go_enter Tryz.func72, Tryz.ntmps72
 go_wp2_with fail
 refine (s_goodGraph R m _ H0.out (by omega)).mono ?_
 rintro e w1 ⟨g, A, c, hs, rfl, ho, hg2, hg10, hnf, hr1, hm1⟩
 have M1 := lh ((M0.out.tr' hm1).al (.cells #[.slice A g.length c] 24))
 have B1 := lh ((B0.out.mod hm1 (by omega)).al (.cells #[.slice A g.length c] 24))
 have K1 := lh (GOK.ext (R := R) ⟨ho.mono (B' := w.heap.size + 1) (by simp), hg2, hg10, hnf⟩ ((Ext.rfl' w1).al (.cells #[.slice A g.length c] 24)))
 have R1 := lh (hr1.ext ((Ext.rfl' w1).al (.cells #[.slice A g.length c] 24)))
 have hw1 := M0.out.tr' hm1 |>.size
 have hb1 := (B0.out.mod hm1 (by omega)).lt
 obtain ⟨b, rfl, hb⟩ := ho.out.at_ (by simp; omega)
 have hbg : b < w1.heap.size := (ho.out.lt (g := b) rfl).2
 have q1 : World.cell? (World.alloc w1 (.cells #[.slice (some ⟨b, 0, none⟩) g.length c] 24)) ⟨w1.heap.size, 0, none⟩ = some (.slice (some ⟨b, 0, none⟩) g.length c) := by simp [go_sem]
 have Q1 := lh q1
 clear ho hnf hr1 hm1 q1 M0 B0 H0 hb
 go_wp2_with fail
 refine (s_pick R (m + 1200) (g.length : Int) _ R1.out (by omega) (by omega) (by omega)).mono ?_
 rintro e w2 ⟨x, rfl, hx0, hx1, hr2, hm2⟩
 obtain ⟨k, rfl⟩ := Int.eq_ofNat_of_zero_le hx0
 have hk : k < g.length := by omega
 have M2 := lh (M1.out.tr' hm2)
 have B2 := lh (B1.out.mod hm2 (by omega))
 have K2 := lh (K1.out.mod hm2 (fun b e => by omega))
 have Q2 := lh (hm2.cellE Q1.out (by omega))
 have R2 := lh hr2
 clear hx0 hx1 hr2 hm2 M1 B1 K1 Q1 R1
 go_wp2_with fail
 refine (s_pick R (m + 1200 + 1) 24 _ R2.out (by omega) (by omega) (by omega)).mono ?_
 rintro e w3 ⟨x, rfl, hx0, hx1, hr3, hm3⟩
 have M3 := lh (M2.out.tr' hm3)
 have B3 := lh (B2.out.mod hm3 (by omega))
 have K3 := lh (K2.out.mod hm3 (fun b e => by omega))
 have q3 := hm3.cellE Q2.out (by omega)
 have R3 := lh hr3
 have b3 := blt q3
 clear hx0 hx1 hr3 hm3 M2 B2 K2 Q2 R2
 obtain ⟨n, hn⟩ : ∃ n, g[k]? = some n := ⟨_, List.getElem?_eq_getElem hk⟩
 have HN := lh hn
 clear hn
 by_cases h0 : x = 0
 ·have z1 : (x == 0) = true := by simp [h0]
  clear h0
  go_upto_if 14 with fail
  go_wp2_with fail
  refine wp_region_held_drew (S := (fun W => W.cell? ⟨w1.heap.size, 0, none⟩ = some (.slice (some ⟨b, 0, none⟩) g.length c))) (by kernel_rfl) ?_ (fun hHeld => ?_)
  ·exact ((Ext.rfl' _).dr).cellE q3
  refine ty 0 ?_
  refine ty 1 ?_
  refine ty 2 ?_
  refine ty 3 ?_
  refine rd1 4 rfl fun K hK => ?_
  go_simp
  refine hK.out _ _ (by exact (((Ext.rfl' _).dr).al _).cellE q3) fun hh2 => ?_; clear hK K hHeld; have hHeld := hh2; clear hh2
  try simp only [Act.put, pu]
  refine rd1 5 rfl fun K hK => ?_
  go_simp
  have RL := (Own.new (World.drew w3) (B := 0) 3 1 #[.int .i64 (-1), .int .i64 3, .int .i64 0, .int .i64 2] 4 (Nat.zero_le _) (by unfold maxLen; omega) rfl).rd
  refine (s_one R (m + 1200 + 1 + 1) _ 4 [-1, 3, 0, 2] _ (R3.out.ext (((Ext.rfl' w3).dr).al (.cells #[.int .i64 (-1), .int .i64 3, .int .i64 0, .int .i64 2] 3))) RL (by simp) (by simp) (by intro y hy; simp [blk] at hy; have := R3.out.lt; omega) (by omega)).mono ?_
  rintro e w4 ⟨v, rfl, hv, hr4, hm4⟩
  have q4 := hm4.cellE ((((Ext.rfl' w3).dr).al (.cells #[.int .i64 (-1), .int .i64 3, .int .i64 0, .int .i64 2] 3)).cellE q3) (by omega)
  have b4 := blt q4
  have K4 := lh ((K3.out.ext (((Ext.rfl' w3).dr).al (.cells #[.int .i64 (-1), .int .i64 3, .int .i64 0, .int .i64 2] 3))).mod hm4 (fun b e => by omega))
  have B4 := lh ((B3.out.ext (((Ext.rfl' w3).dr).al (.cells #[.int .i64 (-1), .int .i64 3, .int .i64 0, .int .i64 2] 3))).mod hm4 (by omega))
  have R4 := lh hr4
  have M4 := lh ((M3.out.tr' (Mod.of (((Ext.rfl' w3).dr).al (.cells #[.int .i64 (-1), .int .i64 3, .int .i64 0, .int .i64 2] 3)))).tr' hm4)
  have hbB := (K4.out.own.out.lt (g := b) rfl).1
  have hb4 := (K4.out.own.out.lt (g := b) rfl).2
  have hS := lh (Mod.set (F := fun y => y = b) (Mod.rfl' (fun y => y = b) w4) (p := ⟨b, k * 2, none⟩) (.inl rfl) (.int .i64 v))
  have B5 := lh (B4.out.mod hS.out (by omega))
  have R5 := lh (R4.out.mod hS.out (fun y e => by omega))
  have M5 := lh (M4.out.set (p := ⟨b, k * 2, none⟩) (.inr (by show w.heap.size ≤ b; omega)) (.int .i64 v))
  have q5 := hS.out.cellE q4 (by omega)
  have hF4 := K4.out.own.out.free (k * 2)
  obtain ⟨b0, o0, Ap, cp, hA0, hck, hcf, _, _⟩ := K4.out.rd.2 k n HN.out
  simp only [Option.some.injEq, Addr.mk.injEq, and_true] at hA0
  obtain ⟨rfl, rfl⟩ := hA0
  simp only [Nat.zero_add] at hck hcf
  have bck := blt hck
  have K5 := lh (show GOK (w.heap.size + 1) R (some ⟨b, 0, none⟩) c (g.set k ⟨v, n.f⟩) hs (World.setCell w4 ⟨b, k * 2, none⟩ (.int .i64 v)) from ⟨OwnN.setKind K4.out.own HN.out v, by simpa using K4.out.lo, by simpa using K4.out.hi, fun y hy => by rcases List.mem_or_eq_of_mem_set hy with hy | rfl; exact K4.out.nf y hy; exact K4.out.nf n (List.mem_of_getElem? HN.out)⟩)
  clear hr4 hm4 hv RL
  try go_wp2_with fail
  refine hK.out _ _ (by exact q4) fun hh2 => ?_; clear hK K hHeld; have hHeld := hh2; clear hh2
  try simp only [Act.put, pu]
  refine ty 6 ?_
  refine ty 7 ?_
  refine rd1 8 rfl fun K hK => ?_
  go_simp
  refine hK.out _ _ (by exact q5) fun hh2 => ?_; clear hK K hHeld; have hHeld := hh2; clear hh2
  try simp only [Act.put]
  refine dn ?_
  generalize World.setCell w4 ⟨b, k * 2, none⟩ (Value.int IntKind.i64 v) = w5 at *
  have f0 := B5.out.free 0
  have qr := B5.out.cell (j := 0) rfl
  have bl := B5.out.lt
  have bq := blt q5
  go_wp2
  have s0 : ∀ u : Value, World.cell? (World.setCell w5 ⟨w.heap.size, 0, none⟩ u) ⟨w.heap.size, 0, none⟩ = some u := fun u => (B5.out.set 0 u).cell (j := 0) rfl
  refine bodyPost_ret (v := .agg #[.slice (some ⟨b, 0, none⟩) (g.set k ⟨v, n.f⟩).length c]) (by simp [results, Tryz.results72, go_sem, s0]; try rfl) rfl ?_
  refine ⟨_, _, _, _, rfl, (GOK.mod (F := fun b => b = w.heap.size) K5.out (Mod.set (F := fun b => b = w.heap.size) (Mod.rfl' (fun b => b = w.heap.size) _) (p := ⟨w.heap.size, 0, none⟩) (.inl rfl) _) (fun b e => by omega)).mono (by omega), ?_, ?_⟩
  ·exact (R5.out.mod (F := fun b => b = w.heap.size) (Mod.set (F := fun b => b = w.heap.size) (Mod.rfl' (fun b => b = w.heap.size) _) (p := ⟨w.heap.size, 0, none⟩) (.inl rfl) _) (fun b e => by omega)).more (by omega)
  ·exact M5.out.set (p := ⟨w.heap.size, 0, none⟩) (.inr (Nat.le_refl _)) _
 ·have z1 : (x == 0) = false := by rw [beq_eq_false_iff_ne]; exact h0
  clear h0
  by_cases h1 : x = 1
  ·have z2 : (x == 1) = true := by simp [h1]
   clear h1
   have i1 : IntKind.i64.wrap ((g.length : Int) - 1) = (g.length : Int) - 1 := IntWalk.i64_in _ (by omega)
   go_upto_if 24 with fail
   go_wp2_with fail
   refine wp_region_held_drew (S := (fun W => W.cell? ⟨w1.heap.size, 0, none⟩ = some (.slice (some ⟨b, 0, none⟩) g.length c))) (by kernel_rfl) ?_ (fun hHeld => ?_)
   ·exact ((Ext.rfl' _).dr).cellE q3
   refine ty 0 ?_
   refine ty 1 ?_
   refine ty 2 ?_
   refine ty 3 ?_
   refine ty 4 ?_
   refine ty 5 ?_
   refine ty 6 ?_
   refine ty 7 ?_
   refine ty 8 ?_
   refine rd1 9 rfl fun K hK => ?_
   go_simp
   refine hK.out _ _ (by exact (((Ext.rfl' _).dr).al _).cellE q3) fun hh2 => ?_; clear hK K hHeld; have hHeld := hh2; clear hh2
   try simp only [Act.put, pu]
   refine rd1 10 rfl fun K hK => ?_
   go_simp
   have RL := (Own.new (World.drew w3) (B := 0) 3 1 #[.int .i64 (k : Int), .int .i64 ((g.length : Int) - 1)] 2 (Nat.zero_le _) (by unfold maxLen; omega) rfl).rd
   refine (s_goodFormula R (m + 1200 + 1 + 1) _ 2 [(k : Int), (g.length : Int) - 1] _ (R3.out.ext (((Ext.rfl' w3).dr).al (.cells #[.int .i64 (k : Int), .int .i64 ((g.length : Int) - 1)] 3))) RL (by simp) (by intro y hy; simp [blk] at hy; have := R3.out.lt; omega) (by omega)).mono ?_
   rintro e w4 ⟨f, Af, cf, rfl, hof, hf1, hf30, hr4, hm4⟩
   have q4 := hm4.cellE ((((Ext.rfl' w3).dr).al (.cells #[.int .i64 (k : Int), .int .i64 ((g.length : Int) - 1)] 3)).cellE q3) (by omega)
   have b4 := blt q4
   have K4 := lh ((K3.out.ext (((Ext.rfl' w3).dr).al (.cells #[.int .i64 (k : Int), .int .i64 ((g.length : Int) - 1)] 3))).mod hm4 (fun b e => by omega))
   have B4 := lh ((B3.out.ext (((Ext.rfl' w3).dr).al (.cells #[.int .i64 (k : Int), .int .i64 ((g.length : Int) - 1)] 3))).mod hm4 (by omega))
   have R4 := lh hr4
   have M4 := lh ((M3.out.tr' (Mod.of (((Ext.rfl' w3).dr).al (.cells #[.int .i64 (k : Int), .int .i64 ((g.length : Int) - 1)] 3)))).tr' hm4)
   have hbB := (K4.out.own.out.lt (g := b) rfl).1
   have hb4 := (K4.out.own.out.lt (g := b) rfl).2
   have hS := lh (Mod.set (F := fun y => y = b) (Mod.rfl' (fun y => y = b) w4) (p := ⟨b, k * 2 + 1, none⟩) (.inl rfl) (.slice Af f.length cf))
   have B5 := lh (B4.out.mod hS.out (by omega))
   have R5 := lh (R4.out.mod hS.out (fun y e => by omega))
   have M5 := lh (M4.out.set (p := ⟨b, k * 2 + 1, none⟩) (.inr (by show w.heap.size ≤ b; omega)) (.slice Af f.length cf))
   have q5 := hS.out.cellE q4 (by omega)
   have hF4 := K4.out.own.out.free (k * 2 + 1)
   obtain ⟨b0, o0, Ap, cp, hA0, hck, hcf, _, _⟩ := K4.out.rd.2 k n HN.out
   simp only [Option.some.injEq, Addr.mk.injEq, and_true] at hA0
   obtain ⟨rfl, rfl⟩ := hA0
   simp only [Nat.zero_add] at hck hcf
   have bck := blt hck
   have K5 := lh (show GOK (w.heap.size + 1) R (some ⟨b, 0, none⟩) c (g.set k ⟨n.kind, f⟩) (hs.set k (Af, cf)) (World.setCell w4 ⟨b, k * 2 + 1, none⟩ (.slice Af f.length cf)) from ⟨OwnN.setForm K4.out.own (S := w3.heap.size + 1) (fun y hy => by have := (K3.out.own.lt hy).2; omega) (by omega) HN.out (hof.mono (by simp)), by simpa using K4.out.lo, by simpa using K4.out.hi, fun y hy => by rcases List.mem_or_eq_of_mem_set hy with hy | rfl; exact K4.out.nf y hy; exact hf30⟩)
   clear hr4 hm4 hof RL
   try go_wp2_with fail
   refine hK.out _ _ (by exact q4) fun hh2 => ?_; clear hK K hHeld; have hHeld := hh2; clear hh2
   try simp only [Act.put, pu]
   refine ty 11 ?_
   refine ty 12 ?_
   refine rd1 13 rfl fun K hK => ?_
   go_simp
   refine hK.out _ _ (by exact q5) fun hh2 => ?_; clear hK K hHeld; have hHeld := hh2; clear hh2
   try simp only [Act.put]
   refine dn ?_
   generalize World.setCell w4 ⟨b, k * 2 + 1, none⟩ (Value.slice Af f.length cf) = w5 at *
   have f0 := B5.out.free 0
   have qr := B5.out.cell (j := 0) rfl
   have bl := B5.out.lt
   have bq := blt q5
   go_wp2
   have s0 : ∀ u : Value, World.cell? (World.setCell w5 ⟨w.heap.size, 0, none⟩ u) ⟨w.heap.size, 0, none⟩ = some u := fun u => (B5.out.set 0 u).cell (j := 0) rfl
   refine bodyPost_ret (v := .agg #[.slice (some ⟨b, 0, none⟩) (g.set k ⟨n.kind, f⟩).length c]) (by simp [results, Tryz.results72, go_sem, s0]; try rfl) rfl ?_
   refine ⟨_, _, _, _, rfl, (GOK.mod (F := fun b => b = w.heap.size) K5.out (Mod.set (F := fun b => b = w.heap.size) (Mod.rfl' (fun b => b = w.heap.size) _) (p := ⟨w.heap.size, 0, none⟩) (.inl rfl) _) (fun b e => by omega)).mono (by omega), ?_, ?_⟩
   ·exact (R5.out.mod (F := fun b => b = w.heap.size) (Mod.set (F := fun b => b = w.heap.size) (Mod.rfl' (fun b => b = w.heap.size) _) (p := ⟨w.heap.size, 0, none⟩) (.inl rfl) _) (fun b e => by omega)).more (by omega)
   ·exact M5.out.set (p := ⟨w.heap.size, 0, none⟩) (.inr (Nat.le_refl _)) _
  ·have z2 : (x == 1) = false := by rw [beq_eq_false_iff_ne]; exact h1
   clear h1
   have f0 := B3.out.free 0
   have qr := B3.out.cell (j := 0) rfl
   have bl := B3.out.lt
   have bq := blt q3
   go_wp2
   have s0 : ∀ u : Value, World.cell? (World.setCell w3 ⟨w.heap.size, 0, none⟩ u) ⟨w.heap.size, 0, none⟩ = some u := fun u => (B3.out.set 0 u).cell (j := 0) rfl
   refine bodyPost_ret (v := .agg #[.slice (some ⟨b, 0, none⟩) g.length c]) (by simp [results, Tryz.results72, go_sem, s0]; try rfl) rfl ?_
   refine ⟨_, _, _, _, rfl, (GOK.mod (F := fun b => b = w.heap.size) K3.out (Mod.set (F := fun b => b = w.heap.size) (Mod.rfl' (fun b => b = w.heap.size) _) (p := ⟨w.heap.size, 0, none⟩) (.inl rfl) _) (fun b e => by omega)).mono (by omega), ?_, ?_⟩
   ·exact (R3.out.mod (F := fun b => b = w.heap.size) (Mod.set (F := fun b => b = w.heap.size) (Mod.rfl' (fun b => b = w.heap.size) _) (p := ⟨w.heap.size, 0, none⟩) (.inl rfl) _) (fun b e => by omega)).more (by omega)
   ·exact M3.out.set (p := ⟨w.heap.size, 0, none⟩) (.inr (Nat.le_refl _)) _

def GraphCells (R m : Nat) (w : World) (e : Ending) (w' : World) : Prop := ∃ (g : Sg.Graph) (A : Option Addr) (c : Nat) (hs : List (Option Addr × Nat)) (l : List Int) (A2 : Option Addr) (c2 : Nat), e = .returned (.tuple #[.agg #[.slice A g.length c], .slice A2 l.length c2]) ∧
 GOK w.heap.size R A c g hs w' ∧ Own w' w.heap.size 3 1 A2 l.length c2 (ints l) ∧ 1 ≤ l.length ∧ l.length ≤ 11 ∧ (∀ b, fpD A hs b → blk A2 ≠ some b) ∧ Rdr w' R (m + 1500) ∧ Mod (fun b => b = R) w w'
set_option maxRecDepth 100000 in
set_option maxHeartbeats 8000000 in
theorem s_graphOf (R m : Nat) (w : World) (h : Rdr w R m) (hm : m ≤ 600000) :
  Calls Tryz.prog 44 #[.pointer (some ⟨R, 0, none⟩)] w (GraphCells R m w) := by
 have hRl := h.lt
 have H0 := lh (h.ext (show Ext w (World.alloc w (.cells #[.slice none 0 0] 24)) from (Ext.rfl' w).al _))
 have M0 := lh (Mod.of (F := fun b => b = R) (show Ext w (World.alloc w (.cells #[.slice none 0 0] 24)) from (Ext.rfl' w).al _))
 have B0 := lh (Bx.new w #[.slice none 0 0] 24)
 clear h
 go_enter Tryz.func44, Tryz.ntmps44
 go_wp2_with fail
 refine (s_someGraph R m _ H0.out (by omega)).mono ?_
 rintro e w1 ⟨g, A, c, hs, rfl, hk1, hr1, hm1⟩
 have M1 := lh ((M0.out.tr' hm1).al (.cells #[.slice A g.length c] 24))
 have B1 := lh ((B0.out.mod hm1 (by omega)).al (.cells #[.slice A g.length c] 24))
 have K1 := lh ((hk1.mono (B' := w.heap.size + 1) (by simp)).ext ((Ext.rfl' w1).al (.cells #[.slice A g.length c] 24)))
 have R1 := lh (hr1.ext ((Ext.rfl' w1).al (.cells #[.slice A g.length c] 24)))
 have hlo := hk1.lo
 have hhi := hk1.hi
 have hb1 := (B0.out.mod hm1 (by omega)).lt
 have q1 : World.cell? (World.alloc w1 (.cells #[.slice A g.length c] 24)) ⟨w1.heap.size, 0, none⟩ = some (.slice A g.length c) := by simp [go_sem]
 have bq := blt q1
 clear hk1 hr1 hm1 M0 B0 H0
 go_upto_region 2 with fail
 refine wp_region_held_drew (S := (fun W => W.cell? ⟨w1.heap.size, 0, none⟩ = some (.slice A g.length c))) (by kernel_rfl) ?_ (fun hHeld => ?_)
 ·exact ((Ext.rfl' _).dr).cellE q1
 refine ty 0 ?_
 refine ty 1 ?_
 refine ty 2 ?_
 refine rd1 3 rfl fun K hK => ?_
 go_simp
 refine (s_someCells R (m + 1400) A c g _ (R1.out.ext ((Ext.rfl' _).dr)) (fun W hW => ((K1.out.ext ((Ext.rfl' _).dr)).mod hW (fun b e => by omega)).rd) (by omega) (by omega) (by omega)).mono ?_
 rintro e w3 ⟨l, A2, c2, rfl, hol, hl1, hl2, hr3, hm3⟩
 have K3 := lh ((K1.out.ext ((Ext.rfl' _).dr)).mod hm3 (fun b e => by omega))
 have B3 := lh ((B1.out.ext ((Ext.rfl' _).dr)).mod hm3 (by omega))
 have R3 := lh hr3
 have M3 := lh (M1.out.dr.tr' hm3)
 have q3 := hm3.cellE (((Ext.rfl' _).dr).cellE q1) (by omega)
 have Ol := lh hol
 have HDJ := lh (show ∀ y, fpD A hs y → blk A2 ≠ some y from fun y hy e => by have h1 := (K1.out.own.lt hy).2; have h2 := (hol.lt e).1; simp at h1 h2; omega)
 have f3 := B3.out.free 0
 have qr := B3.out.cell (j := 0) rfl
 have b3 := B3.out.lt
 clear hol hr3 hm3
 try go_wp2_with fail
 refine hK.out _ _ (by exact q3) fun hh2 => ?_; clear hK K hHeld; have hHeld := hh2; clear hh2
 try simp only [Act.put, pu]
 refine rd1 4 rfl fun K hK => ?_
 go_simp
 refine hK.out _ _ (by exact (co).trans q3) fun hh2 => ?_; clear hK K hHeld; have hHeld := hh2; clear hh2
 try simp only [Act.put]
 refine ty 5 ?_
 refine dn ?_
 go_wp2
 have s0 : ∀ u : Value, World.cell? (World.setCell w3 ⟨w.heap.size, 0, none⟩ u) ⟨w.heap.size, 0, none⟩ = some u := fun u => (B3.out.set 0 u).cell (j := 0) rfl
 refine bodyPost_ret (v := .tuple #[.agg #[.slice A g.length c], .slice A2 l.length c2]) (by simp [results, Tryz.results44, go_sem, s0]; try rfl) rfl ?_
 have hS := Mod.set (F := fun b => b = w.heap.size) (Mod.rfl' (fun b => b = w.heap.size) w3) (p := ⟨w.heap.size, 0, none⟩) (.inl rfl) (.slice A g.length c)
 refine ⟨g, A, c, hs, l, A2, c2, rfl, (GOK.mod K3.out hS (fun b e => by omega)).mono (by omega), (Ol.out.mod hS (fun b hb e => by have := (Ol.out.lt hb).1; simp at this; omega)).mono (by simp; omega), hl1, hl2, HDJ.out, ?_, ?_⟩
 ·exact (R3.out.mod hS (fun b e => by omega)).more (by omega)
 ·exact M3.out.set (p := ⟨w.heap.size, 0, none⟩) (.inr (Nat.le_refl _)) _
end Go.Proofs.YtdnlpklmihoapaaGreatDoor

/- The draws of a graph and cells: contracts. Conditions: the code can be read. -/
namespace Go.Proofs.YtdnlpklmihoapaaGreatDoor
open Go.RowKit

set_option maxHeartbeats 1000000 in
theorem s_DrawFormatGraph (A : Option Addr) (c : Nat) (l : List Int) (w : World) (h : Rd w 1 A l.length (u8s l)) (hr : ∀ x ∈ l, 0 ≤ x ∧ x ≤ 255) (hc : l.length ≤ c) (hcm : c ≤ maxLen) :
  Calls Tryz.prog 19 #[.slice A l.length c] w fun e w' => ∃ (g : Sg.Graph) (Ag : Option Addr) (cg : Nat) (hs : List (Option Addr × Nat)) (cl : List Int) (Ac : Option Addr) (cc : Nat), e = .returned (.tuple #[.agg #[.slice Ag g.length cg], .slice Ac cl.length cc]) ∧
   GOK w.heap.size 0 Ag cg g hs w' ∧ Own w' w.heap.size 3 1 Ac cl.length cc (ints cl) ∧ cl.length ≤ 11 ∧ Ext w w' := by
 have HN := lh (s_newReader A c l _ (h.ext ((Ext.rfl' w).al (.cells #[.slice none 0 0] 24))) hr hc hcm)
 have B0 := lh (Bx.new w #[.slice none 0 0] 24)
 have E0 := lh (show Ext w (World.alloc w (.cells #[.slice none 0 0] 24)) from (Ext.rfl' w).al _)
 clear h
 go_enter Tryz.func19, Tryz.ntmps19
 go_wp2_with fail
 refine HN.out.mono ?_
 rintro e w1 ⟨rfl, hr1, he1⟩
 have B1 := lh (B0.out.ext he1)
 have E1 := lh (E0.out.tr he1)
 have R1 := lh hr1
 have hw1 := he1.size
 simp only [World.size_alloc] at hw1 hr1
 clear hr1 he1 HN B0
 go_wp2_with fail
 refine (s_graphOf _ 0 _ (by have := R1.out; simpa using this) (by omega)).mono ?_
 rintro e w2 ⟨g, Ag, cg, hs, cl, Ac, cc, rfl, hk, ho, hl1, hl2, hd, hr2, hm2⟩
 have K2 := lh hk
 have O2 := lh ho
 have B2 := lh (B1.out.mod hm2 (by omega))
 have E2 := lh (Ext.md E1.out hm2 (fun b e => by omega))
 have f0 := B2.out.free 0
 have qr := B2.out.cell (j := 0) rfl
 have bl := B2.out.lt
 clear hk ho hd hr2 hm2 R1
 go_wp2
 have s0 : ∀ u : Value, World.cell? (World.setCell w2 ⟨w.heap.size, 0, none⟩ u) ⟨w.heap.size, 0, none⟩ = some u := fun u => (B2.out.set 0 u).cell (j := 0) rfl
 refine bodyPost_ret (v := .tuple #[.agg #[.slice Ag g.length cg], .slice Ac cl.length cc]) (by simp [results, Tryz.results19, go_sem, s0]; try rfl) rfl ?_
 have hS := Mod.set (F := fun b => b = w.heap.size) (Mod.rfl' (fun b => b = w.heap.size) w2) (p := ⟨w.heap.size, 0, none⟩) (.inl rfl) (.slice Ag g.length cg)
 have hz : w.heap.size < w1.heap.size := by omega
 have hGK : GOK w1.heap.size 0 Ag cg g hs w2 := ⟨K2.out.own, K2.out.lo, K2.out.hi, K2.out.nf⟩
 exact ⟨g, Ag, cg, hs, cl, Ac, cc, rfl, (GOK.mod hGK hS (fun b e => by omega)).mono (by omega), (O2.out.mod hS (fun b hb e => by have := (O2.out.lt hb).1; omega)).mono (by omega), hl2, E2.out.set (p := ⟨w.heap.size, 0, none⟩) (Nat.le_refl _) _⟩
end Go.Proofs.YtdnlpklmihoapaaGreatDoor
