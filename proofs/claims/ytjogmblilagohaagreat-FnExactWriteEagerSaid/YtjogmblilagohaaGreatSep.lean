/- Own things side by side: one is turned, the others stay. Conditions: none. -/
import Derived.Test.YtjogmblilagohaaGreatBox
namespace Go.Proofs.YtjogmblilagohaaGreat
open Go.RowKit

/-- something of the call's own: its blocks, and what holds of it -/
structure Th (B : Nat) where
  fp : Nat → Prop
  ok : World → Prop
  fr : ∀ W W', ok W → (∀ b, fp b → W'.heap[b]? = W.heap[b]?) → ok W'
  lt : ∀ W b, ok W → fp b → B ≤ b ∧ b < W.heap.size
def Th.own (B e size : Nat) (A : Option Addr) (n c : Nat) (xs : List Value) : Th B := ⟨fun b => blk A = some b, fun W => Own W B e size A n c xs, fun _ _ h hk => h.keep hk, fun _ _ h hb => h.lt hb⟩
def Th.ownL (B : Nat) (A : Option Addr) (c : Nat) (ll : List (List Int)) (hs : List (Option Addr × Nat)) : Th B := ⟨fpD A hs, fun W => OwnL W B A c ll hs, fun _ _ h hk => OwnD.fr h hk, fun _ _ h hb => OwnD.lt h hb⟩
def Th.box (B b : Nat) (cs : List Value) : Th B := ⟨fun x => x = b, fun W => Bx W b cs ∧ B ≤ b, fun _ _ h hk => ⟨h.1.keep (hk b rfl), h.2⟩, fun _ _ h hb => by subst hb; exact ⟨h.2, h.1.lt⟩⟩

def Sep {B : Nat} : List (Th B) → World → Prop
  | [], _ => True
  | t :: ts, W => t.ok W ∧ (∀ s ∈ ts, ∀ b, t.fp b → ¬ s.fp b) ∧ Sep ts W
section
variable {B : Nat} {ts : List (Th B)} {W W' : World}
theorem Sep.mem (h : Sep ts W) {t : Th B} (ht : t ∈ ts) : t.ok W := by
  induction ts with
  | nil => cases ht
  | cons s ts ih =>
    rcases List.mem_cons.1 ht with rfl | ht
    · exact h.1
    · exact ih h.2.2 ht
theorem Sep.get (h : Sep ts W) (i : Nat) {t : Th B} (ht : ts[i]? = some t) : t.ok W := h.mem (List.mem_of_getElem? ht)
theorem Sep.fr (h : Sep ts W) (hk : ∀ t ∈ ts, ∀ b, t.fp b → W'.heap[b]? = W.heap[b]?) : Sep ts W' := by
  induction ts with
  | nil => trivial
  | cons s ts ih => exact ⟨s.fr _ _ h.1 (hk s (by simp)), h.2.1, ih h.2.2 (fun t ht => hk t (by simp [ht]))⟩
theorem Sep.lt (h : Sep ts W) {t : Th B} (ht : t ∈ ts) {b : Nat} (hb : t.fp b) : B ≤ b ∧ b < W.heap.size := t.lt _ _ (h.mem ht) hb
theorem Sep.ext (h : Sep ts W) (e : Ext W W') : Sep ts W' := h.fr fun _ ht b hb => e.block b (h.lt ht hb).2
/-- what is turned lies below all of it -/
theorem Sep.mod {F : Nat → Prop} (h : Sep ts W) (m : Mod F W W') (hF : ∀ b, F b → b < B) : Sep ts W' := h.fr fun _ ht b hb => m.block b (h.lt ht hb).2 (fun e => by have := hF b e; have := (h.lt ht hb).1; omega)
theorem Sep.add (h : Sep ts W) (e : Ext W W') (t : Th B) (ht : t.ok W') (hn : ∀ b, t.fp b → W.heap.size ≤ b) : Sep (t :: ts) W' :=
  ⟨ht, fun _ hs b hb hb' => by have := hn b hb; have := (h.lt hs hb').2; omega, h.ext e⟩
/-- something new that is made while thing i grows: it lies in no block of the others -/
theorem Sep.set {F : Nat → Prop} (h : Sep ts W) (i : Nat) {t : Th B} (ht : ts[i]? = some t) (m : Mod F W W') (t' : Th B) (hF : ∀ b, F b → t.fp b ∨ W.heap.size ≤ b) (hok : t'.ok W') (hfp : ∀ b, t'.fp b → t.fp b ∨ W.heap.size ≤ b) : Sep (ts.set i t') W' := by
  induction ts generalizing i with
  | nil => simp at ht
  | cons s ts ih =>
    cases i with
    | zero =>
      simp at ht
      subst ht
      simp only [List.set_cons_zero]
      refine ⟨hok, fun u hu b hb hb' => ?_, h.2.2.fr fun u hu b hb => m.block b (h.2.2.lt hu hb).2 (fun e => ?_)⟩
      · rcases hfp b hb with hb | hb
        · exact h.2.1 u hu b hb hb'
        · have := (h.2.2.lt hu hb').2; omega
      · rcases hF b e with hb2 | hb2
        · exact h.2.1 u hu b hb2 hb
        · have := (h.2.2.lt hu hb).2; omega
    | succ i =>
      simp at ht
      simp only [List.set_cons_succ]
      have htm := List.mem_of_getElem? ht
      refine ⟨s.fr _ _ h.1 fun b hb => m.block b (s.lt _ _ h.1 hb).2 (fun e => ?_), fun u hu b hb hb' => ?_, ih h.2.2 i ht⟩
      · rcases hF b e with hb2 | hb2
        · exact h.2.1 t htm b hb hb2
        · have := (s.lt _ _ h.1 hb).2; omega
      · rcases List.mem_or_eq_of_mem_set hu with hu | rfl
        · exact h.2.1 u hu b hb hb'
        · rcases hfp b hb' with hb2 | hb2
          · exact h.2.1 t htm b hb hb2
          · have := (s.lt _ _ h.1 hb).2; omega
/-- one thing fewer -/
theorem Sep.tail {t : Th B} (h : Sep (t :: ts) W) : Sep ts W := h.2.2
/-- a store into thing i -/
theorem Sep.st (h : Sep ts W) (i : Nat) {t : Th B} (ht : ts[i]? = some t) (p : Addr) (u : Value) (hp : t.fp p.block) (t' : Th B) (hok : t'.ok (W.setCell p u)) (hfp : ∀ b, t'.fp b → t.fp b) : Sep (ts.set i t') (W.setCell p u) :=
  h.set i ht (Mod.set (F := fun b => b = p.block) (Mod.rfl' _ W) (.inl rfl) u) t' (fun b e => .inl (by rw [e]; exact hp)) hok (fun b e => .inl (hfp b e))
/-- an append to thing i -/
theorem Sep.app (h : Sep ts W) (i : Nat) {e size n c n' c' : Nat} {A A' : Option Addr} {xs xs' : List Value} (ht : ts[i]? = some (Th.own B e size A n c xs)) (ho : Own W' B e size A' n' c' xs') (hg : W.grownBy W' (blk A)) (hat : blk A' = blk A ∨ ∃ g, blk A' = some g ∧ W.heap.size ≤ g) :
    Sep (ts.set i (Th.own B e size A' n' c' xs')) W' := by
  refine h.set (F := fun b => blk A = some b) i ht ⟨hg.os, hg.tape, hg.output, hg.size, fun b hb hn => hg.block b hb (fun e => hn e.symm)⟩ _ (fun b e => .inl e) ho (fun b hb => ?_)
  rcases hat with hat | ⟨g, hg', hle⟩
  · exact .inl (by show blk A = some b; rw [← hat]; exact hb)
  · right
    have hb' : blk A' = some b := hb
    rw [hg'] at hb'
    injection hb' with hb'
    omega
/-- whatever is older than all of it is as it was -/
theorem Sep.old {a : World} {F : Nat → Prop} (h : Ext a W) (hB : a.heap.size ≤ B) {t : Th B} (ht : t.ok W) (m : Mod F W W') (hF : ∀ b, F b → t.fp b ∨ W.heap.size ≤ b) : Ext a W' :=
  Ext.md h m fun b hb => by
    rcases hF b hb with h1 | h1
    · have := (t.lt _ _ ht h1).1; omega
    · have := h.size; omega
end
end Go.Proofs.YtjogmblilagohaaGreat
