/- Own graphs among own things: a node more. Conditions: none. -/
import Derived.Test.YtdnlpklmihoapaaGreatDoorSepAll
import Derived.Test.YtdnlpklmihoapaaGreatDoorCore
import Derived.Test.YtdnlpklmihoapaaGreatDoorTxA
import Derived.Test.YtdnlpklmihoapaaGreatDoorPlQ
namespace Go.Proofs.YtdnlpklmihoapaaGreatDoor
open Go.RowKit
def Th.ownN (B : Nat) (A : Option Addr) (c : Nat) (g : Sg.Graph) (hs : List (Option Addr × Nat)) : Th B := ⟨fpD A hs, fun W => OwnN W B A c g hs, fun _ _ h hk => OwnD.fr h hk, fun _ _ h hb => OwnD.lt h hb⟩
def Th.both {B : Nat} (s t : Th B) : Th B := ⟨fun b => s.fp b ∨ t.fp b, fun W => s.ok W ∧ t.ok W, fun _ _ h hk => ⟨s.fr _ _ h.1 fun b hb => hk b (.inl hb), t.fr _ _ h.2 fun b hb => hk b (.inr hb)⟩,
 fun _ _ h hb => hb.elim (fun hb => s.lt _ _ h.1 hb) (fun hb => t.lt _ _ h.2 hb)⟩
/-- two things taken as one -/
theorem Sep.both {B : Nat} {s t : Th B} {ts : List (Th B)} {W : World} (h : Sep (s :: ts) W) {i : Nat} (ht : ts[i]? = some t) : Sep (ts.set i (Th.both s t)) W := by
 induction ts generalizing i with
 | nil => simp at ht
 | cons x ts ih =>
  obtain ⟨hs, hd, hx, hxd, hr⟩ := h
  cases i with
  | zero =>
   simp at ht
   subst ht
   simp only [List.set_cons_zero]
   exact ⟨⟨hs, hx⟩, fun u hu b hb hb' => hb.elim (fun hb => hd u (by simp [hu]) b hb hb') (fun hb => hxd u hu b hb hb'), hr⟩
  | succ i =>
   simp at ht
   simp only [List.set_cons_succ]
   refine ⟨hx, fun u hu b hb hb' => ?_, ih ⟨hs, fun u hu => hd u (by simp [hu]), hr⟩ ht⟩
   rcases List.mem_or_eq_of_mem_set hu with hu | rfl
   ·exact hxd u hu b hb hb'
   ·rcases hb' with hb' | hb'
    ·exact hd x (by simp) b hb' hb
    ·exact hxd t (List.mem_of_getElem? ht) b hb hb'
/-- one element more, whose own slice lies in no block of the others -/
theorem OwnD.snocD {w1 w2 : World} {B eo so ei si c c' : Nat} {A A' : Option Addr} {its : List It} {hs : List (Option Addr × Nat)} (k : OwnD w1 B eo so ei si A c its hs) {it : It} {A0 : Option Addr} {c0 : Nat} (hS : ∀ b, blk A0 = some b → ¬ fpD A hs b)
  (own : Own w1 B ei si A0 it.n c0 it.xs) (out : Own w2 B eo so A' (its.length + 1) c' (dcells its hs ++ itc it (A0, c0))) (hg : w1.grownBy w2 (blk A)) (hat : blk A' = blk A ∨ ∃ g, blk A' = some g ∧ w1.heap.size ≤ g) :
  OwnD w2 B eo so ei si A' c' (its ++ [it]) (hs ++ [(A0, c0)]) := by
 have key : ∀ (i : Nat) (h : Option Addr × Nat), (hs ++ [(A0, c0)])[i]? = some h → (i < hs.length ∧ hs[i]? = some h) ∨ (i = hs.length ∧ h = (A0, c0)) := by
  intro i h hh
  by_cases hik : i < hs.length
  ·rw [List.getElem?_append_left hik] at hh
   exact .inl ⟨hik, hh⟩
  ·have h1 := (List.getElem?_eq_some_iff.1 hh).1
   simp at h1
   obtain rfl : i = hs.length := by omega
   rw [List.getElem?_append_right (Nat.le_refl _)] at hh
   simp at hh
   exact .inr ⟨rfl, hh.symm⟩
 refine ⟨by simp [k.len], by simpa [dcells_app _ _ k.len] using out, ?_, ?_, ?_⟩
 ·intro i it' h hi hh
  rcases key i h hh with ⟨hik, hh⟩ | ⟨rfl, rfl⟩
  ·rw [List.getElem?_append_left (by rw [← k.len]; exact hik)] at hi
   have o1 := k.inn i it' h hi hh
   exact o1.keep fun b hb => hg.block b (o1.lt hb).2 (fun e => k.dio i h hh b e.symm hb)
  ·rw [List.getElem?_append_right (by rw [k.len]; exact Nat.le_refl _), k.len, Nat.sub_self] at hi
   simp at hi
   subst hi
   exact own.keep fun b hb => hg.block b (own.lt hb).2 (fun e => hS b hb (.inl e.symm))
 ·intro i j h h' hij hh hh' b hb hb'
  rcases key i h hh with ⟨_, hh⟩ | ⟨rfl, rfl⟩
  ·rcases key j h' hh' with ⟨_, hh'⟩ | ⟨rfl, rfl⟩
   ·exact k.dis i j h h' hij hh hh' b hb hb'
   ·exact hS b hb' (.inr ⟨h, List.mem_of_getElem? hh, hb⟩)
  ·have := (List.getElem?_eq_some_iff.1 hh').1
   simp at this
   omega
 ·intro i h hh b hb hb'
  rcases hat with hat | ⟨g, hg', hle⟩
  ·rw [hat] at hb
   rcases key i h hh with ⟨_, hh⟩ | ⟨rfl, rfl⟩
   ·exact k.dio i h hh b hb hb'
   ·exact hS b hb' (.inl hb)
  ·rw [hg'] at hb
   injection hb with hb
   subst hb
   rcases key i h hh with ⟨_, hh⟩ | ⟨rfl, rfl⟩
   ·have h1 := (k.lt (.inr ⟨h, List.mem_of_getElem? hh, hb'⟩)).2
    omega
   ·have h1 := (own.lt hb').2
    omega
/-- the graph at place i grows by a node whose parts are the first thing -/
theorem Sep.node {B : Nat} {ts : List (Th B)} {W W' : World} {A A' Af : Option Addr} {c c' cf : Nat} {g : Sg.Graph} {hs : List (Option Addr × Nat)} {f : List Sg.Part} (kd : Int) (h : Sep (Th.own B 85 5 Af f.length cf (parts f) :: ts) W) (i : Nat) (ht : ts[i]? = some (Th.ownN B A c g hs))
  (ho : Own W' B 50 2 A' (g.length + 1) c' (dcells (nodeIts g) hs ++ [.int .i64 kd, .slice Af f.length cf])) (hg : W.grownBy W' (blk A)) (hat : blk A' = blk A ∨ ∃ g, blk A' = some g ∧ W.heap.size ≤ g) :
  Sep (ts.set i (Th.ownN B A' c' (g ++ [⟨kd, f⟩]) (hs ++ [(Af, cf)]))) W' := by
 have k : OwnN W B A c g hs := Sep.get h (i + 1) (show (Th.own B 85 5 Af f.length cf (parts f) :: ts)[i + 1]? = _ from ht)
 have own : Own W B 85 5 Af f.length cf (parts f) := h.1
 have hS : ∀ b, blk Af = some b → ¬ fpD A hs b := fun b hb => h.2.1 _ (List.mem_of_getElem? ht) b hb
 have hsn := OwnD.snocD (it := ⟨[.int .i64 kd], f.length, parts f⟩) k hS own (by simpa [itc] using ho) hg hat
 have hits : nodeIts (g ++ [⟨kd, f⟩]) = nodeIts g ++ [⟨[.int .i64 kd], f.length, parts f⟩] := by simp [nodeIts]
 rw [← hits] at hsn
 have h1 := Sep.both h ht
 have hil := (List.getElem?_eq_some_iff.1 ht).1
 have h2 := Sep.set (F := fun b => blk A = some b) h1 i (t := Th.both (Th.own B 85 5 Af f.length cf (parts f)) (Th.ownN B A c g hs)) (by rw [List.getElem?_set_self hil]) ⟨hg.os, hg.tape, hg.output, hg.size, fun b hb hn => hg.block b hb (fun e => hn e.symm)⟩ (Th.ownN B A' c' (g ++ [(⟨kd, f⟩ : Sg.Node)]) (hs ++ [(Af, cf)]))
  (fun b e => Or.inl (Or.inr (Or.inl e))) hsn (fun b hb => by
   rcases hb with hb | ⟨x, hx, hb⟩
   ·rcases hat with hat | ⟨q, hq, hle⟩
    ·rw [hat] at hb; exact Or.inl (Or.inr (Or.inl hb))
    ·rw [hq] at hb; injection hb with hb; exact Or.inr (by omega)
   ·rcases List.mem_append.1 hx with hx | hx
    ·exact Or.inl (Or.inr (Or.inr ⟨x, hx, hb⟩))
    ·simp at hx; subst hx; exact Or.inl (Or.inl hb))
 rwa [List.set_set] at h2
/-- two new things at once -/
theorem Sep.add2 {B : Nat} {ts : List (Th B)} {W W' : World} (h : Sep ts W) (e : Ext W W') (s t : Th B) (hs : s.ok W') (ht : t.ok W') (hn : ∀ b, s.fp b → W.heap.size ≤ b) (hn' : ∀ b, t.fp b → W.heap.size ≤ b) (hd : ∀ b, s.fp b → ¬ t.fp b) : Sep (s :: t :: ts) W' :=
 ⟨hs, fun u hu b hb hb' => by
  rcases List.mem_cons.1 hu with rfl | hu
  ·exact hd b hb hb'
  ·have h1 := hn b hb
   have h2 := (h.lt hu hb').2
   omega, ht, fun u hu b hb hb' => by
  have h1 := hn' b hb
  have h2 := (h.lt hu hb').2
  omega, h.ext e⟩
/-- what a parse of a graph returns, put ahead of the things -/
theorem Sep.addG {B c c6 : Nat} {A A6 : Option Addr} {g : Sg.Graph} {ks : List (Option Addr × Nat)} {l : List Int} {ts : List (Th B)} {W W' : World} (h : Sep ts W) (e : Ext W W') (hB : B ≤ W.heap.size) (r : Sep [Th.ownN W.heap.size A c g ks, Th.own W.heap.size 3 1 A6 l.length c6 (ints l)] W') :
  Sep (Th.ownN B A c g ks :: Th.own B 3 1 A6 l.length c6 (ints l) :: ts) W' := by
 have o1 : OwnN W' W.heap.size A c g ks := r.1
 have o2 : Own W' W.heap.size 3 1 A6 l.length c6 (ints l) := r.2.2.1
 exact Sep.add2 h e _ _ (OwnD.mono o1 hB) (o2.mono hB) (fun b hb => (OwnD.lt o1 hb).1) (fun b hb => (o2.lt hb).1) (fun b hb => r.2.1 (Th.own W.heap.size 3 1 A6 l.length c6 (ints l)) (by simp) b hb)
theorem OwnN.nil (w : World) (B : Nat) : OwnN w B none 0 [] [] := ⟨rfl, Own.nil _ _ _ _, fun i it h hi => by simp [nodeIts] at hi, fun i j h h' _ hh => by simp at hh, fun i h hh => by simp at hh⟩
end Go.Proofs.YtdnlpklmihoapaaGreatDoor
