/- Parts of one proof, joined. A block of the call's own that is known whole: laws. Conditions: none. Lists of lists in memory, with their room. Conditions: none. A list of own lists, after one element got a new list. Conditions: none. Own things side by side: one is turned, the others stay. Conditions: none. What the eager writes keep in memory, and how their steps turn it. Conditions: none. -/
import Derived.Test.YtdnlpklmihoapaaDoorCore
/- A block of the call's own that is known whole: laws. Conditions: none. -/
namespace Go.Proofs.YtdnlpklmihoapaaDoor
open Go.RowKit

/-- block b holds just the cells cs, and can be written -/
def Bx (w : World) (b : Nat) (cs : List Value) : Prop := ∃ e, w.heap[b]? = some (.cells cs.toArray e (0, 0))
theorem Bx.new (w : World) (cs : Array Value) (e : Nat) : Bx (w.alloc (.cells cs e)) w.heap.size cs.toList := ⟨e, by simpa using heap_alloc_new w (.cells cs e)⟩
theorem Bx.lt {w : World} {b : Nat} {cs : List Value} (h : Bx w b cs) : b < w.heap.size := by obtain ⟨e, h⟩ := h; exact (Array.getElem?_eq_some_iff.1 h).1
theorem Bx.keep {w w' : World} {b : Nat} {cs : List Value} (h : Bx w b cs) (hk : w'.heap[b]? = w.heap[b]?) : Bx w' b cs := by obtain ⟨e, h⟩ := h; exact ⟨e, hk.trans h⟩
theorem Bx.ext {w w' : World} {b : Nat} {cs : List Value} (h : Bx w b cs) (e : Ext w w') : Bx w' b cs := h.keep (e.block b h.lt)
theorem Bx.al {w : World} {b : Nat} {cs : List Value} (h : Bx w b cs) (o : Obj) : Bx (w.alloc o) b cs := h.ext ((Ext.rfl' w).al o)
theorem Bx.mod {F : Nat → Prop} {w w' : World} {b : Nat} {cs : List Value} (h : Bx w b cs) (m : Mod F w w') (hF : ¬ F b) : Bx w' b cs := h.keep (m.block b h.lt hF)
theorem Bx.set {w : World} {b : Nat} {cs : List Value} (h : Bx w b cs) (j : Nat) (u : Value) : Bx (w.setCell ⟨b, j, none⟩ u) b (cs.set j u) := by
 obtain ⟨e, h⟩ := h
 refine ⟨e, ?_⟩
 simp [World.setCell, Array.getElem?_modify, h]
theorem Bx.oth {w : World} {b : Nat} {cs : List Value} (h : Bx w b cs) {p : Addr} (hne : p.block ≠ b) (u : Value) : Bx (w.setCell p u) b cs := h.keep (Below.heap_setCell w p u b (fun e => hne e.symm))
theorem Bx.cell {w : World} {b : Nat} {cs : List Value} (h : Bx w b cs) {j : Nat} {u : Value} (hj : cs[j]? = some u) : w.cell? ⟨b, j, none⟩ = some u := by
 obtain ⟨e, h⟩ := h
 rw [cell_of_row w b j _ e (0, 0) h]
 simpa using hj
theorem Bx.free {w : World} {b : Nat} {cs : List Value} (h : Bx w b cs) (j : Nat) : w.frozen? ⟨b, j, none⟩ = false := by
 obtain ⟨e, h⟩ := h
 simp [World.frozen?, h]
end Go.Proofs.YtdnlpklmihoapaaDoor

/- Lists of lists in memory, with their room. Conditions: none. -/
namespace Go.Proofs.YtdnlpklmihoapaaDoor
open Go.RowKit

/-- lists of numbers in memory, with room that is told -/
def RdLC (w : World) (A : Option Addr) (ll : List (List Int)) : Prop :=
 ll.length ≤ 1048576 ∧ ∀ (i : Nat) (l : List Int), ll[i]? = some l → ∃ b o Al cl, A = some ⟨b, o, none⟩ ∧ w.cell? ⟨b, o + i, none⟩ = some (.slice Al l.length cl) ∧ Rd w 1 Al l.length (ints l) ∧ l.length ≤ 1048576 ∧ l.length ≤ cl ∧ cl ≤ maxLen
theorem RdLC.ext {w w' : World} {A : Option Addr} {ll : List (List Int)} (h : RdLC w A ll) (e : Ext w w') : RdLC w' A ll :=
 ⟨h.1, fun i l hl => let ⟨b, o, Al, cl, ha, h1, h2, h3, h4⟩ := h.2 i l hl; ⟨b, o, Al, cl, ha, e.cellE h1, h2.ext e, h3, h4⟩⟩
theorem RdLC.rdL {w : World} {A : Option Addr} {ll : List (List Int)} (h : RdLC w A ll) : RdL w A ll :=
 ⟨h.1, fun i l hl => let ⟨b, o, Al, cl, ha, h1, h2, h3, _⟩ := h.2 i l hl; ⟨b, o, Al, cl, ha, h1, h2, h3⟩⟩
theorem RdLC.at_ {w : World} {A : Option Addr} {ll : List (List Int)} (h : RdLC w A ll) {i : Nat} (hi : i < ll.length) : ∃ l b o Al cl, ll[i]? = some l ∧ A = some ⟨b, o, none⟩ ∧ w.cell? ⟨b, o + i, none⟩ = some (.slice Al l.length cl) ∧ Rd w 1 Al l.length (ints l) ∧ l.length ≤ 1048576 ∧ l.length ≤ cl ∧ cl ≤ maxLen := by
 have hx : ll[i]? = some ll[i] := List.getElem?_eq_getElem hi
 obtain ⟨b, o, Al, cl, r⟩ := h.2 i _ hx
 exact ⟨_, b, o, Al, cl, hx, r⟩
end Go.Proofs.YtdnlpklmihoapaaDoor

/- A list of own lists, after one element got a new list. Conditions: none. -/
namespace Go.Proofs.YtdnlpklmihoapaaDoor
open Go.RowKit

theorem dcells_put (its : List It) : ∀ (hs : List (Option Addr × Nat)) (i : Nat) (it : It) (A0 : Option Addr) (c0 : Nat), (∀ x ∈ its, x.pre = []) → it.pre = [] → hs.length = its.length → i < its.length →
  (dcells its hs).set i (.slice A0 it.n c0) = dcells (its.set i it) (hs.set i (A0, c0)) := by
 induction its with
 | nil => intro hs i it A0 c0 _ _ _ hi; simp at hi
 | cons x its ih =>
  intro hs i it A0 c0 ha hp hl hi
  cases hs with
  | nil => simp at hl
  | cons h hs =>
   have hx := ha x (by simp)
   cases i with
   | zero => simp [dcells, itc, hx, hp]
   | succ i =>
    simp only [List.set_cons_succ, dcells]
    rw [← ih hs i it A0 c0 (fun y hy => ha y (by simp [hy])) hp (by simpa using hl) (by simpa using hi)]
    simp [itc, hx]
theorem OwnL.put {w w1 : World} {B c : Nat} {A : Option Addr} {ll : List (List Int)} {hs : List (Option Addr × Nat)} (k : OwnL w B A c ll hs) (e : Ext w w1) (hB : B ≤ w.heap.size) {i : Nat} (hi : i < ll.length) (l : List Int) {A0 : Option Addr} {c0 : Nat}
  (own : Own w1 w.heap.size 3 1 A0 l.length c0 (ints l)) {g : Nat} (hA : A = some ⟨g, 0, none⟩) : OwnL (w1.setCell ⟨g, i, none⟩ (.slice A0 l.length c0)) B A c (ll.set i l) (hs.set i (A0, c0)) := by
 subst hA
 have hlen : hs.length = ll.length := by have := k.len; simpa using this
 have hout := k.out.ext e
 have hgl : g < w.heap.size := (k.out.lt (g := g) rfl).2
 have hits : listIts (ll.set i l) = (listIts ll).set i ⟨[], l.length, ints l⟩ := by simp [listIts, List.map_set]
 have hpre : ∀ x ∈ listIts ll, x.pre = [] := by
  intro x hx
  unfold listIts at hx
  rw [List.mem_map] at hx
  obtain ⟨y, _, rfl⟩ := hx
  rfl
 have hother : ∀ b, b ≠ g → (w1.setCell ⟨g, i, none⟩ (.slice A0 l.length c0)).heap[b]? = w1.heap[b]? := fun b hb => Below.heap_setCell _ _ _ _ hb
 refine ⟨by simp [hlen], ?_, ?_, ?_, ?_⟩
 ·have h1 := hout.st i (.slice A0 l.length c0)
  rw [dcells_put (listIts ll) hs i ⟨[], l.length, ints l⟩ A0 c0 hpre rfl (by simpa using hlen) (by simpa using hi)] at h1
  rw [hits]
  simpa using h1
 ·intro j it h hj hh
  rw [hits] at hj
  by_cases hij : j = i
  ·subst hij
   rw [List.getElem?_set_self (by simpa using hi)] at hj
   rw [List.getElem?_set_self (by omega)] at hh
   injection hj with hj
   injection hh with hh
   subst hj
   subst hh
   refine (own.keep fun b hb => hother b (fun e2 => ?_)).mono hB
   have := (own.lt hb).1
   omega
  ·rw [List.getElem?_set_ne (fun e => hij e.symm)] at hj hh
   have o1 := (k.inn j it h hj hh).ext e
   refine o1.keep fun b hb => hother b (fun e2 => ?_)
   subst e2
   exact k.dio j h hh b rfl hb
 ·intro a b h h' hab hh hh' x hx hx'
  by_cases h1 : a = i
  ·subst h1
   rw [List.getElem?_set_self (by omega)] at hh
   injection hh with hh
   subst hh
   rw [List.getElem?_set_ne (by omega)] at hh'
   have h3 := (own.lt hx).1
   have h4 := (OwnD.lt k (.inr ⟨h', List.mem_of_getElem? hh', hx'⟩)).2
   omega
  ·rw [List.getElem?_set_ne (fun e => h1 e.symm)] at hh
   by_cases h2 : b = i
   ·subst h2
    rw [List.getElem?_set_self (by omega)] at hh'
    injection hh' with hh'
    subst hh'
    have h3 := (own.lt hx').1
    have h4 := (OwnD.lt k (.inr ⟨h, List.mem_of_getElem? hh, hx⟩)).2
    omega
   ·rw [List.getElem?_set_ne (fun e => h2 e.symm)] at hh'
    exact k.dis a b h h' hab hh hh' x hx hx'
 ·intro a h hh b hb hb'
  by_cases h1 : a = i
  ·subst h1
   rw [List.getElem?_set_self (by omega)] at hh
   injection hh with hh
   subst hh
   have h3 := (own.lt hb').1
   simp [blk] at hb
   omega
  ·rw [List.getElem?_set_ne (fun e => h1 e.symm)] at hh
   exact k.dio a h hh b hb hb'
end Go.Proofs.YtdnlpklmihoapaaDoor

/- Own things side by side: one is turned, the others stay. Conditions: none. -/
namespace Go.Proofs.YtdnlpklmihoapaaDoor
open Go.RowKit

/-- something of the call's own: its blocks, and what holds of it -/
structure Th (B : Nat) where
 fp : Nat → Prop
 ok : World → Prop
 fr : ∀ W W', ok W → (∀ b, fp b → W'.heap[b]? = W.heap[b]?) → ok W'
 lt : ∀ W b, ok W → fp b → B ≤ b ∧ b < W.heap.size
def Th.own (B e size : Nat) (A : Option Addr) (n c : Nat) (xs : List Value) : Th B := ⟨fun b => blk A = some b, fun W => Own W B e size A n c xs, fun _ _ h hk => h.keep hk, fun _ _ h hb => h.lt hb⟩
def Th.ownL (B : Nat) (A : Option Addr) (c : Nat) (ll : List (List Int)) (hs : List (Option Addr × Nat)) : Th B := ⟨fpD A hs, fun W => OwnL W B A c ll hs, fun _ _ h hk => OwnD.fr h hk, fun _ _ h hb => OwnD.lt h hb⟩
def Th.box (B b : Nat) (cs : List Value) : Th B := ⟨fun x => x = b, fun W => Bx W b cs ∧ B ≤ b, fun _ _ h hk => ⟨h.1.keep (hk b rfl), h.2⟩, fun _ _ h hb => by subst hb; exact ⟨h.2, h.1.lt⟩⟩

def Sep {B : Nat} : List (Th B) → World → Prop
 | [], _ => True
 | t :: ts, W => t.ok W ∧ (∀ s ∈ ts, ∀ b, t.fp b → ¬ s.fp b) ∧ Sep ts W
section
variable {B : Nat} {ts : List (Th B)} {W W' : World}
theorem Sep.mem (h : Sep ts W) {t : Th B} (ht : t ∈ ts) : t.ok W := by
 induction ts with
 | nil => cases ht
 | cons s ts ih =>
  rcases List.mem_cons.1 ht with rfl | ht
  ·exact h.1
  ·exact ih h.2.2 ht
theorem Sep.get (h : Sep ts W) (i : Nat) {t : Th B} (ht : ts[i]? = some t) : t.ok W := h.mem (List.mem_of_getElem? ht)
theorem Sep.fr (h : Sep ts W) (hk : ∀ t ∈ ts, ∀ b, t.fp b → W'.heap[b]? = W.heap[b]?) : Sep ts W' := by
 induction ts with
 | nil => trivial
 | cons s ts ih => exact ⟨s.fr _ _ h.1 (hk s (by simp)), h.2.1, ih h.2.2 (fun t ht => hk t (by simp [ht]))⟩
theorem Sep.lt (h : Sep ts W) {t : Th B} (ht : t ∈ ts) {b : Nat} (hb : t.fp b) : B ≤ b ∧ b < W.heap.size := t.lt _ _ (h.mem ht) hb
theorem Sep.ext (h : Sep ts W) (e : Ext W W') : Sep ts W' := h.fr fun _ ht b hb => e.block b (h.lt ht hb).2
/-- what is turned lies below all of it -/
theorem Sep.mod {F : Nat → Prop} (h : Sep ts W) (m : Mod F W W') (hF : ∀ b, F b → b < B) : Sep ts W' := h.fr fun _ ht b hb => m.block b (h.lt ht hb).2 (fun e => by have := hF b e; have := (h.lt ht hb).1; omega)
theorem Sep.add (h : Sep ts W) (e : Ext W W') (t : Th B) (ht : t.ok W') (hn : ∀ b, t.fp b → W.heap.size ≤ b) : Sep (t :: ts) W' :=
 ⟨ht, fun _ hs b hb hb' => by have := hn b hb; have := (h.lt hs hb').2; omega, h.ext e⟩
/-- something new that is made while thing i grows: it lies in no block of the others -/
theorem Sep.set {F : Nat → Prop} (h : Sep ts W) (i : Nat) {t : Th B} (ht : ts[i]? = some t) (m : Mod F W W') (t' : Th B) (hF : ∀ b, F b → t.fp b ∨ W.heap.size ≤ b) (hok : t'.ok W') (hfp : ∀ b, t'.fp b → t.fp b ∨ W.heap.size ≤ b) : Sep (ts.set i t') W' := by
 induction ts generalizing i with
 | nil => simp at ht
 | cons s ts ih =>
  cases i with
  | zero =>
   simp at ht
   subst ht
   simp only [List.set_cons_zero]
   refine ⟨hok, fun u hu b hb hb' => ?_, h.2.2.fr fun u hu b hb => m.block b (h.2.2.lt hu hb).2 (fun e => ?_)⟩
   ·rcases hfp b hb with hb | hb
    ·exact h.2.1 u hu b hb hb'
    ·have := (h.2.2.lt hu hb').2; omega
   ·rcases hF b e with hb2 | hb2
    ·exact h.2.1 u hu b hb2 hb
    ·have := (h.2.2.lt hu hb).2; omega
  | succ i =>
   simp at ht
   simp only [List.set_cons_succ]
   have htm := List.mem_of_getElem? ht
   refine ⟨s.fr _ _ h.1 fun b hb => m.block b (s.lt _ _ h.1 hb).2 (fun e => ?_), fun u hu b hb hb' => ?_, ih h.2.2 i ht⟩
   ·rcases hF b e with hb2 | hb2
    ·exact h.2.1 t htm b hb hb2
    ·have := (s.lt _ _ h.1 hb).2; omega
   ·rcases List.mem_or_eq_of_mem_set hu with hu | rfl
    ·exact h.2.1 u hu b hb hb'
    ·rcases hfp b hb' with hb2 | hb2
     ·exact h.2.1 t htm b hb hb2
     ·have := (s.lt _ _ h.1 hb).2; omega
/-- one thing fewer -/
theorem Sep.tail {t : Th B} (h : Sep (t :: ts) W) : Sep ts W := h.2.2
/-- a store into thing i -/
theorem Sep.st (h : Sep ts W) (i : Nat) {t : Th B} (ht : ts[i]? = some t) (p : Addr) (u : Value) (hp : t.fp p.block) (t' : Th B) (hok : t'.ok (W.setCell p u)) (hfp : ∀ b, t'.fp b → t.fp b) : Sep (ts.set i t') (W.setCell p u) :=
 h.set i ht (Mod.set (F := fun b => b = p.block) (Mod.rfl' _ W) (.inl rfl) u) t' (fun b e => .inl (by rw [e]; exact hp)) hok (fun b e => .inl (hfp b e))
/-- an append to thing i -/
theorem Sep.app (h : Sep ts W) (i : Nat) {e size n c n' c' : Nat} {A A' : Option Addr} {xs xs' : List Value} (ht : ts[i]? = some (Th.own B e size A n c xs)) (ho : Own W' B e size A' n' c' xs') (hg : W.grownBy W' (blk A)) (hat : blk A' = blk A ∨ ∃ g, blk A' = some g ∧ W.heap.size ≤ g) :
  Sep (ts.set i (Th.own B e size A' n' c' xs')) W' := by
 refine h.set (F := fun b => blk A = some b) i ht ⟨hg.os, hg.tape, hg.output, hg.size, fun b hb hn => hg.block b hb (fun e => hn e.symm)⟩ _ (fun b e => .inl e) ho (fun b hb => ?_)
 rcases hat with hat | ⟨g, hg', hle⟩
 ·exact .inl (by show blk A = some b; rw [← hat]; exact hb)
 ·right
  have hb' : blk A' = some b := hb
  rw [hg'] at hb'
  injection hb' with hb'
  omega
/-- whatever is older than all of it is as it was -/
theorem Sep.old {a : World} {F : Nat → Prop} (h : Ext a W) (hB : a.heap.size ≤ B) {t : Th B} (ht : t.ok W) (m : Mod F W W') (hF : ∀ b, F b → t.fp b ∨ W.heap.size ≤ b) : Ext a W' :=
 Ext.md h m fun b hb => by
  rcases hF b hb with h1 | h1
  ·have := (t.lt _ _ ht h1).1; omega
  ·have := h.size; omega
end
end Go.Proofs.YtdnlpklmihoapaaDoor

/- What the eager writes keep in memory, and how their steps turn it. Conditions: none. -/
namespace Go.Proofs.YtdnlpklmihoapaaDoor
open Go.RowKit

/-- values, reads, a list of what changed, a list of what ran; three variables in the blocks N, N1, N2 -/
def WS (B N N1 N2 : Nat) (k0 k1 k2 : List Value) (Av : Option Addr) (cv : Nat) (v : List Int) (Ar : Option Addr) (cr : Nat) (r : List (List Int)) (hs : List (Option Addr × Nat)) (ec : Nat) (Ac : Option Addr) (nc cc : Nat) (xs : List Value) (Ad : Option Addr) (cd : Nat) (rn : List Int) (ts : List (Th B)) (W : World) : Prop :=
 Sep (Th.own B 3 1 Ad rn.length cd (ints rn) :: Th.own B ec 1 Ac nc cc xs :: Th.box B N2 k2 :: Th.box B N1 k1 :: Th.box B N k0 :: Th.own B 3 1 Av v.length cv (ints v) :: Th.ownL B Ar cr r hs :: ts) W
section
variable {B N N1 N2 cv cr ec nc cc cd : Nat} {k0 k1 k2 xs : List Value} {Av Ar Ac Ad : Option Addr} {v rn : List Int} {r : List (List Int)} {hs : List (Option Addr × Nat)} {W W' : World} {ts : List (Th B)}
theorem WS.d (h : WS B N N1 N2 k0 k1 k2 Av cv v Ar cr r hs ec Ac nc cc xs Ad cd rn ts W) : Own W B 3 1 Ad rn.length cd (ints rn) := Sep.get h 0 rfl
theorem WS.c (h : WS B N N1 N2 k0 k1 k2 Av cv v Ar cr r hs ec Ac nc cc xs Ad cd rn ts W) : Own W B ec 1 Ac nc cc xs := Sep.get h 1 rfl
theorem WS.b2 (h : WS B N N1 N2 k0 k1 k2 Av cv v Ar cr r hs ec Ac nc cc xs Ad cd rn ts W) : Bx W N2 k2 := (Sep.get h 2 rfl).1
theorem WS.b1 (h : WS B N N1 N2 k0 k1 k2 Av cv v Ar cr r hs ec Ac nc cc xs Ad cd rn ts W) : Bx W N1 k1 := (Sep.get h 3 rfl).1
theorem WS.b0 (h : WS B N N1 N2 k0 k1 k2 Av cv v Ar cr r hs ec Ac nc cc xs Ad cd rn ts W) : Bx W N k0 := (Sep.get h 4 rfl).1
theorem WS.vv (h : WS B N N1 N2 k0 k1 k2 Av cv v Ar cr r hs ec Ac nc cc xs Ad cd rn ts W) : Own W B 3 1 Av v.length cv (ints v) := Sep.get h 5 rfl
theorem WS.rr (h : WS B N N1 N2 k0 k1 k2 Av cv v Ar cr r hs ec Ac nc cc xs Ad cd rn ts W) : OwnL W B Ar cr r hs := Sep.get h 6 rfl
theorem WS.ext (h : WS B N N1 N2 k0 k1 k2 Av cv v Ar cr r hs ec Ac nc cc xs Ad cd rn ts W) (e : Ext W W') : WS B N N1 N2 k0 k1 k2 Av cv v Ar cr r hs ec Ac nc cc xs Ad cd rn ts W' := Sep.ext h e
theorem WS.setV {g : Nat} (h : WS B N N1 N2 k0 k1 k2 (some ⟨g, 0, none⟩) cv v Ar cr r hs ec Ac nc cc xs Ad cd rn ts W) (j : Nat) (x : Int) : WS B N N1 N2 k0 k1 k2 (some ⟨g, 0, none⟩) cv (v.set j x) Ar cr r hs ec Ac nc cc xs Ad cd rn ts (W.setCell ⟨g, j, none⟩ (.int .i64 x)) := by
 have o := h.vv.st j (.int .i64 x)
 rw [ints_set] at o
 exact Sep.st h 5 rfl ⟨g, j, none⟩ (.int .i64 x) rfl (Th.own B 3 1 (some ⟨g, 0, none⟩) (v.set j x).length cv (ints (v.set j x))) (by show Own _ _ _ _ _ _ _ _; rw [List.length_set]; exact o) (fun b e => e)
theorem WS.setC {g : Nat} (h : WS B N N1 N2 k0 k1 k2 Av cv v Ar cr r hs ec (some ⟨g, 0, none⟩) nc cc xs Ad cd rn ts W) (j : Nat) (u : Value) : WS B N N1 N2 k0 k1 k2 Av cv v Ar cr r hs ec (some ⟨g, 0, none⟩) nc cc (xs.set j u) Ad cd rn ts (W.setCell ⟨g, j, none⟩ u) :=
 Sep.st h 1 rfl ⟨g, j, none⟩ u rfl (Th.own B ec 1 (some ⟨g, 0, none⟩) nc cc (xs.set j u)) (h.c.st j u) (fun _ e => e)
theorem WS.pushC {n' c' : Nat} {A' : Option Addr} {xs' : List Value} (h : WS B N N1 N2 k0 k1 k2 Av cv v Ar cr r hs ec Ac nc cc xs Ad cd rn ts W) (ho : Own W' B ec 1 A' n' c' xs') (hg : W.grownBy W' (blk Ac)) (hat : blk A' = blk Ac ∨ ∃ g, blk A' = some g ∧ W.heap.size ≤ g) :
  WS B N N1 N2 k0 k1 k2 Av cv v Ar cr r hs ec A' n' c' xs' Ad cd rn ts W' := Sep.app h 1 rfl ho hg hat
theorem WS.pushD {c' : Nat} {A' : Option Addr} {rn' : List Int} (h : WS B N N1 N2 k0 k1 k2 Av cv v Ar cr r hs ec Ac nc cc xs Ad cd rn ts W) (ho : Own W' B 3 1 A' rn'.length c' (ints rn')) (hg : W.grownBy W' (blk Ad)) (hat : blk A' = blk Ad ∨ ∃ g, blk A' = some g ∧ W.heap.size ≤ g) :
  WS B N N1 N2 k0 k1 k2 Av cv v Ar cr r hs ec Ac nc cc xs A' c' rn' ts W' := Sep.app h 0 rfl ho hg hat
/-- a new list of what ran -/
theorem WS.newD {c' : Nat} {A' : Option Addr} {rn' : List Int} (h : WS B N N1 N2 k0 k1 k2 Av cv v Ar cr r hs ec Ac nc cc xs Ad cd rn ts W) (e : Ext W W') (ho : Own W' B 3 1 A' rn'.length c' (ints rn')) (hn : ∀ b, blk A' = some b → W.heap.size ≤ b) :
  WS B N N1 N2 k0 k1 k2 Av cv v Ar cr r hs ec Ac nc cc xs A' c' rn' ts W' :=
 Sep.set h 0 rfl (F := fun _ => False) (Mod.of e) (Th.own B 3 1 A' rn'.length c' (ints rn')) (fun _ => False.elim) ho (fun b hb => .inr (hn b hb))
/-- a new list of what changed -/
theorem WS.newC {n' c' : Nat} {A' : Option Addr} {xs' : List Value} (h : WS B N N1 N2 k0 k1 k2 Av cv v Ar cr r hs ec Ac nc cc xs Ad cd rn ts W) (e : Ext W W') (ho : Own W' B ec 1 A' n' c' xs') (hn : ∀ b, blk A' = some b → W.heap.size ≤ b) :
  WS B N N1 N2 k0 k1 k2 Av cv v Ar cr r hs ec A' n' c' xs' Ad cd rn ts W' :=
 Sep.set h 1 rfl (F := fun _ => False) (Mod.of e) (Th.own B ec 1 A' n' c' xs') (fun _ => False.elim) ho (fun b hb => .inr (hn b hb))
theorem WS.putR {g i : Nat} (h : WS B N N1 N2 k0 k1 k2 Av cv v (some ⟨g, 0, none⟩) cr r hs ec Ac nc cc xs Ad cd rn ts W) (hB : B ≤ W.heap.size) {W1 : World} (e : Ext W W1) (hi : i < r.length) (l : List Int) {A0 : Option Addr} {c0 : Nat} (own : Own W1 W.heap.size 3 1 A0 l.length c0 (ints l)) :
  WS B N N1 N2 k0 k1 k2 Av cv v (some ⟨g, 0, none⟩) cr (r.set i l) (hs.set i (A0, c0)) ec Ac nc cc xs Ad cd rn ts (W1.setCell ⟨g, i, none⟩ (.slice A0 l.length c0)) := by
 have hr := h.rr
 refine Sep.set h 6 rfl (F := fun b => b = g) (Mod.set (F := fun b => b = g) (Mod.of (F := fun b => b = g) e) (p := ⟨g, i, none⟩) (.inl rfl) (.slice A0 l.length c0)) (Th.ownL B (some ⟨g, 0, none⟩) cr (r.set i l) (hs.set i (A0, c0))) (fun b hb => .inl (.inl (by rw [hb]; rfl))) (OwnL.put hr e hB hi l own rfl) (fun b hb => ?_)
 rcases hb with hb | ⟨x, hx, hb⟩
 ·exact .inl (.inl hb)
 ·rcases List.mem_or_eq_of_mem_set hx with hx | rfl
  ·exact .inl (.inr ⟨x, hx, hb⟩)
  ·exact .inr (own.lt hb).1
theorem WS.start {A1 : Option Addr} {c1 : Nat} {hs1 : List (Option Addr × Nat)} (h : Sep (Th.own B 3 1 Av v.length cv (ints v) :: Th.ownL B A1 c1 r hs1 :: ts) W) (hB : B ≤ W.heap.size) (k0 k1 k2 : Array Value) (t0 t1 t2 ec : Nat) :
  WS B W.heap.size (W.heap.size + 1) (W.heap.size + 2) k0.toList k1.toList k2.toList Av cv v A1 c1 r hs1 ec none 0 0 [] none 0 [] ts (((W.alloc (.cells k0 t0)).alloc (.cells k1 t1)).alloc (.cells k2 t2)) := by
 have b0 := Bx.new W k0 t0
 have b1 := Bx.new (W.alloc (.cells k0 t0)) k1 t1
 have b2 := Bx.new ((W.alloc (.cells k0 t0)).alloc (.cells k1 t1)) k2 t2
 simp only [World.size_alloc] at b1 b2
 have s0 := Sep.add h ((Ext.rfl' W).al (.cells k0 t0)) (Th.box B W.heap.size k0.toList) ⟨b0, hB⟩ (fun b e => by subst e; exact Nat.le_refl _)
 have s1 := Sep.add s0 ((Ext.rfl' _).al (.cells k1 t1)) (Th.box B (W.heap.size + 1) k1.toList) ⟨b1, by omega⟩ (fun b e => by subst e; simp)
 have s2 := Sep.add s1 ((Ext.rfl' _).al (.cells k2 t2)) (Th.box B (W.heap.size + 2) k2.toList) ⟨b2, by omega⟩ (fun b e => by subst e; simp)
 have s3 := Sep.add s2 (Ext.rfl' _) (Th.own B ec 1 none 0 0 []) (Own.nil _ _ _ _) (fun b e => by cases e)
 exact Sep.add s3 (Ext.rfl' _) (Th.own B 3 1 none ([] : List Int).length 0 (ints [])) (by show Own _ _ _ _ _ _ _ _; simpa [ints] using Own.nil _ B 3 1) (fun b e => by cases e)
theorem Sep.swap {x y : Th B} {ts : List (Th B)} (h : Sep (x :: y :: ts) W) : Sep (y :: x :: ts) W :=
 ⟨h.2.2.1, fun s hs b hb hb' => by
  rcases List.mem_cons.1 hs with rfl | hs
  ·exact h.2.1 y (by simp) b hb' hb
  ·exact h.2.2.2.1 s hs b hb hb', h.1, fun s hs b hb => h.2.1 s (by simp [hs]) b hb, h.2.2.2.2⟩
/-- the start, where the list of what changed is made ahead of its variable -/
theorem WS.startI {A1 : Option Addr} {c1 n : Nat} {hs1 : List (Option Addr × Nat)} (h : Sep (Th.own B 3 1 Av v.length cv (ints v) :: Th.ownL B A1 c1 r hs1 :: ts) W) (hB : B ≤ W.heap.size) (k0 k1 : Array Value) (t0 t1 t2 ec : Nat)
  {W3 W4 : World} (e3 : Ext ((W.alloc (.cells k0 t0)).alloc (.cells k1 t1)) W3) (e4 : Ext W3 W4) (ho : Own W4 W3.heap.size ec 1 Ac n cc xs) (k2 : Array Value) :
  WS B W.heap.size (W.heap.size + 1) W4.heap.size k0.toList k1.toList k2.toList Av cv v A1 c1 r hs1 ec Ac n cc xs none 0 [] ts (W4.alloc (.cells k2 t2)) := by
 have b0 := Bx.new W k0 t0
 have b1 := Bx.new (W.alloc (.cells k0 t0)) k1 t1
 have b2 := Bx.new W4 k2 t2
 simp only [World.size_alloc] at b1
 have hs3 := e3.size
 simp only [World.size_alloc] at hs3
 have hs4 := e4.size
 have s0 := Sep.add h ((Ext.rfl' W).al (.cells k0 t0)) (Th.box B W.heap.size k0.toList) ⟨b0, hB⟩ (fun b e => by subst e; exact Nat.le_refl _)
 have s1 := Sep.add s0 ((Ext.rfl' _).al (.cells k1 t1)) (Th.box B (W.heap.size + 1) k1.toList) ⟨b1, by omega⟩ (fun b e => by subst e; simp)
 have s2 := Sep.add (Sep.ext s1 e3) e4 (Th.own B ec 1 Ac n cc xs) (ho.mono (by omega)) (fun b e => (ho.lt e).1)
 have s3 := Sep.add s2 ((Ext.rfl' _).al (.cells k2 t2)) (Th.box B W4.heap.size k2.toList) ⟨b2, by omega⟩ (fun b e => by subst e; exact Nat.le_refl _)
 exact Sep.add (Sep.swap s3) (Ext.rfl' _) (Th.own B 3 1 none ([] : List Int).length 0 (ints [])) (by show Own _ _ _ _ _ _ _ _; simpa [ints] using Own.nil _ B 3 1) (fun b e => by cases e)
theorem WS.vr (h : WS B N N1 N2 k0 k1 k2 Av cv v Ar cr r hs ec Ac nc cc xs Ad cd rn ts W) : ∀ b, blk Av = some b → ¬ fpD Ar hs b := fun b hb hb' => h.2.2.2.2.2.2.2.2.2.2.2.1 (Th.ownL B Ar cr r hs) (by simp) b hb hb'
theorem WS.cv_ (h : WS B N N1 N2 k0 k1 k2 Av cv v Ar cr r hs ec Ac nc cc xs Ad cd rn ts W) : ∀ b, blk Ac = some b → blk Av ≠ some b := fun b hb => h.2.2.2.1 (Th.own B 3 1 Av v.length cv (ints v)) (by simp) b hb
theorem WS.cN2 (h : WS B N N1 N2 k0 k1 k2 Av cv v Ar cr r hs ec Ac nc cc xs Ad cd rn ts W) : ∀ b, blk Ac = some b → N2 ≠ b := fun b hb e => h.2.2.2.1 (Th.box B N2 k2) (by simp) b hb e.symm
theorem WS.cN1 (h : WS B N N1 N2 k0 k1 k2 Av cv v Ar cr r hs ec Ac nc cc xs Ad cd rn ts W) : ∀ b, blk Ac = some b → N1 ≠ b := fun b hb e => h.2.2.2.1 (Th.box B N1 k1) (by simp) b hb e.symm
theorem WS.cN (h : WS B N N1 N2 k0 k1 k2 Av cv v Ar cr r hs ec Ac nc cc xs Ad cd rn ts W) : ∀ b, blk Ac = some b → N ≠ b := fun b hb e => h.2.2.2.1 (Th.box B N k0) (by simp) b hb e.symm
theorem WS.vN2 (h : WS B N N1 N2 k0 k1 k2 Av cv v Ar cr r hs ec Ac nc cc xs Ad cd rn ts W) : ∀ b, blk Av = some b → N2 ≠ b := fun b hb e => h.2.2.2.2.2.1 (Th.own B 3 1 Av v.length cv (ints v)) (by simp) b e.symm hb
theorem WS.vN1 (h : WS B N N1 N2 k0 k1 k2 Av cv v Ar cr r hs ec Ac nc cc xs Ad cd rn ts W) : ∀ b, blk Av = some b → N1 ≠ b := fun b hb e => h.2.2.2.2.2.2.2.1 (Th.own B 3 1 Av v.length cv (ints v)) (by simp) b e.symm hb
theorem WS.vN (h : WS B N N1 N2 k0 k1 k2 Av cv v Ar cr r hs ec Ac nc cc xs Ad cd rn ts W) : ∀ b, blk Av = some b → N ≠ b := fun b hb e => h.2.2.2.2.2.2.2.2.2.1 (Th.own B 3 1 Av v.length cv (ints v)) (by simp) b e.symm hb
theorem WS.rN2 (h : WS B N N1 N2 k0 k1 k2 Av cv v Ar cr r hs ec Ac nc cc xs Ad cd rn ts W) : ∀ b, fpD Ar hs b → N2 ≠ b := fun b hb e => h.2.2.2.2.2.1 (Th.ownL B Ar cr r hs) (by simp) b e.symm hb
theorem WS.rN1 (h : WS B N N1 N2 k0 k1 k2 Av cv v Ar cr r hs ec Ac nc cc xs Ad cd rn ts W) : ∀ b, fpD Ar hs b → N1 ≠ b := fun b hb e => h.2.2.2.2.2.2.2.1 (Th.ownL B Ar cr r hs) (by simp) b e.symm hb
theorem WS.rN (h : WS B N N1 N2 k0 k1 k2 Av cv v Ar cr r hs ec Ac nc cc xs Ad cd rn ts W) : ∀ b, fpD Ar hs b → N ≠ b := fun b hb e => h.2.2.2.2.2.2.2.2.2.1 (Th.ownL B Ar cr r hs) (by simp) b e.symm hb
theorem WS.dN2 (h : WS B N N1 N2 k0 k1 k2 Av cv v Ar cr r hs ec Ac nc cc xs Ad cd rn ts W) : ∀ b, blk Ad = some b → N2 ≠ b := fun b hb e => h.2.1 (Th.box B N2 k2) (by simp) b hb e.symm
theorem WS.dN1 (h : WS B N N1 N2 k0 k1 k2 Av cv v Ar cr r hs ec Ac nc cc xs Ad cd rn ts W) : ∀ b, blk Ad = some b → N1 ≠ b := fun b hb e => h.2.1 (Th.box B N1 k1) (by simp) b hb e.symm
theorem WS.dN (h : WS B N N1 N2 k0 k1 k2 Av cv v Ar cr r hs ec Ac nc cc xs Ad cd rn ts W) : ∀ b, blk Ad = some b → N ≠ b := fun b hb e => h.2.1 (Th.box B N k0) (by simp) b hb e.symm
theorem WS.dc_ (h : WS B N N1 N2 k0 k1 k2 Av cv v Ar cr r hs ec Ac nc cc xs Ad cd rn ts W) : ∀ b, blk Ad = some b → blk Ac ≠ some b := fun b hb => h.2.1 (Th.own B ec 1 Ac nc cc xs) (by simp) b hb
theorem WS.dr_ (h : WS B N N1 N2 k0 k1 k2 Av cv v Ar cr r hs ec Ac nc cc xs Ad cd rn ts W) : ∀ b, blk Ad = some b → ¬ fpD Ar hs b := fun b hb => h.2.1 (Th.ownL B Ar cr r hs) (by simp) b hb
theorem WS.cr_ (h : WS B N N1 N2 k0 k1 k2 Av cv v Ar cr r hs ec Ac nc cc xs Ad cd rn ts W) : ∀ b, blk Ac = some b → ¬ fpD Ar hs b := fun b hb => h.2.2.2.1 (Th.ownL B Ar cr r hs) (by simp) b hb
theorem WS.tN2 (h : WS B N N1 N2 k0 k1 k2 Av cv v Ar cr r hs ec Ac nc cc xs Ad cd rn ts W) : ∀ x ∈ ts, ∀ b, x.fp b → N2 ≠ b := fun x hx b hb e => h.2.2.2.2.2.1 x (by simp [hx]) b e.symm hb
/-- what the result is -/
theorem WS.fin (h : WS B N N1 N2 k0 k1 k2 Av cv v Ar cr r hs ec Ac nc cc xs Ad cd rn ts W) : Sep (Th.own B 3 1 Ad rn.length cd (ints rn) :: Th.own B 3 1 Av v.length cv (ints v) :: Th.ownL B Ar cr r hs :: ts) W :=
 ⟨h.1, fun s hs b hb => h.2.1 s (by simp at hs ⊢; rcases hs with rfl | rfl | hs <;> simp [*]) b hb, h.2.2.2.2.2.2.2.2.2.2⟩
/-- a turned variable -/
theorem WS.set2 (h : WS B N N1 N2 k0 k1 k2 Av cv v Ar cr r hs ec Ac nc cc xs Ad cd rn ts W) (j : Nat) (u : Value) : WS B N N1 N2 k0 k1 (k2.set j u) Av cv v Ar cr r hs ec Ac nc cc xs Ad cd rn ts (W.setCell ⟨N2, j, none⟩ u) :=
 Sep.st h 2 rfl ⟨N2, j, none⟩ u rfl (Th.box B N2 (k2.set j u)) ⟨h.b2.set j u, (Sep.get h 2 rfl).2⟩ (fun _ e => e)
theorem setCell_two (w : World) {b c : Nat} (i j : Nat) (u v : Value) (h : b ≠ c) : (w.setCell ⟨b, i, none⟩ u).setCell ⟨c, j, none⟩ v = (w.setCell ⟨c, j, none⟩ v).setCell ⟨b, i, none⟩ u := by
 unfold World.setCell
 congr 1
 apply Array.ext_getElem?
 intro k
 simp only [Array.getElem?_modify]
 by_cases h1 : c = k
 ·subst h1
  simp [h]
 ·by_cases h2 : b = k
  ·subst h2
   simp [h1]
  ·simp [h1, h2]
theorem WS.clipD (h : WS B N N1 N2 k0 k1 k2 Av cv v Ar cr r hs ec Ac nc cc xs Ad cd rn ts W) (ho : Own W B 3 1 Ad rn.length rn.length (ints rn)) : WS B N N1 N2 k0 k1 k2 Av cv v Ar cr r hs ec Ac nc cc xs Ad rn.length rn ts W :=
 Sep.set h 0 rfl (F := fun _ => False) (Mod.of (Ext.rfl' W)) (Th.own B 3 1 Ad rn.length rn.length (ints rn)) (fun _ => False.elim) ho (fun _ hb => .inl hb)
end
end Go.Proofs.YtdnlpklmihoapaaDoor
