/- What the eager writes keep in memory, and how their steps turn it. Conditions: none. -/
import Derived.Test.YtjogmblilagohaaGreatSep
import Derived.Test.YtjogmblilagohaaGreatDeepC
namespace Go.Proofs.YtjogmblilagohaaGreat
open Go.RowKit

/-- values, reads, a list of what changed, a list of what ran; three variables in the blocks N, N1, N2 -/
def WS (B N N1 N2 : Nat) (k0 k1 k2 : List Value) (Av : Option Addr) (cv : Nat) (v : List Int) (Ar : Option Addr) (cr : Nat) (r : List (List Int)) (hs : List (Option Addr × Nat)) (ec : Nat) (Ac : Option Addr) (nc cc : Nat) (xs : List Value) (Ad : Option Addr) (cd : Nat) (rn : List Int) (ts : List (Th B)) (W : World) : Prop :=
  Sep (Th.own B 3 1 Ad rn.length cd (ints rn) :: Th.own B ec 1 Ac nc cc xs :: Th.box B N2 k2 :: Th.box B N1 k1 :: Th.box B N k0 :: Th.own B 3 1 Av v.length cv (ints v) :: Th.ownL B Ar cr r hs :: ts) W
section
variable {B N N1 N2 cv cr ec nc cc cd : Nat} {k0 k1 k2 xs : List Value} {Av Ar Ac Ad : Option Addr} {v rn : List Int} {r : List (List Int)} {hs : List (Option Addr × Nat)} {W W' : World} {ts : List (Th B)}
theorem WS.d (h : WS B N N1 N2 k0 k1 k2 Av cv v Ar cr r hs ec Ac nc cc xs Ad cd rn ts W) : Own W B 3 1 Ad rn.length cd (ints rn) := Sep.get h 0 rfl
theorem WS.c (h : WS B N N1 N2 k0 k1 k2 Av cv v Ar cr r hs ec Ac nc cc xs Ad cd rn ts W) : Own W B ec 1 Ac nc cc xs := Sep.get h 1 rfl
theorem WS.b2 (h : WS B N N1 N2 k0 k1 k2 Av cv v Ar cr r hs ec Ac nc cc xs Ad cd rn ts W) : Bx W N2 k2 := (Sep.get h 2 rfl).1
theorem WS.b1 (h : WS B N N1 N2 k0 k1 k2 Av cv v Ar cr r hs ec Ac nc cc xs Ad cd rn ts W) : Bx W N1 k1 := (Sep.get h 3 rfl).1
theorem WS.b0 (h : WS B N N1 N2 k0 k1 k2 Av cv v Ar cr r hs ec Ac nc cc xs Ad cd rn ts W) : Bx W N k0 := (Sep.get h 4 rfl).1
theorem WS.vv (h : WS B N N1 N2 k0 k1 k2 Av cv v Ar cr r hs ec Ac nc cc xs Ad cd rn ts W) : Own W B 3 1 Av v.length cv (ints v) := Sep.get h 5 rfl
theorem WS.rr (h : WS B N N1 N2 k0 k1 k2 Av cv v Ar cr r hs ec Ac nc cc xs Ad cd rn ts W) : OwnL W B Ar cr r hs := Sep.get h 6 rfl
theorem WS.ext (h : WS B N N1 N2 k0 k1 k2 Av cv v Ar cr r hs ec Ac nc cc xs Ad cd rn ts W) (e : Ext W W') : WS B N N1 N2 k0 k1 k2 Av cv v Ar cr r hs ec Ac nc cc xs Ad cd rn ts W' := Sep.ext h e
theorem WS.setV {g : Nat} (h : WS B N N1 N2 k0 k1 k2 (some ⟨g, 0, none⟩) cv v Ar cr r hs ec Ac nc cc xs Ad cd rn ts W) (j : Nat) (x : Int) : WS B N N1 N2 k0 k1 k2 (some ⟨g, 0, none⟩) cv (v.set j x) Ar cr r hs ec Ac nc cc xs Ad cd rn ts (W.setCell ⟨g, j, none⟩ (.int .i64 x)) := by
  have o := h.vv.st j (.int .i64 x)
  rw [ints_set] at o
  exact Sep.st h 5 rfl ⟨g, j, none⟩ (.int .i64 x) rfl (Th.own B 3 1 (some ⟨g, 0, none⟩) (v.set j x).length cv (ints (v.set j x))) (by show Own _ _ _ _ _ _ _ _; rw [List.length_set]; exact o) (fun b e => e)
theorem WS.setC {g : Nat} (h : WS B N N1 N2 k0 k1 k2 Av cv v Ar cr r hs ec (some ⟨g, 0, none⟩) nc cc xs Ad cd rn ts W) (j : Nat) (u : Value) : WS B N N1 N2 k0 k1 k2 Av cv v Ar cr r hs ec (some ⟨g, 0, none⟩) nc cc (xs.set j u) Ad cd rn ts (W.setCell ⟨g, j, none⟩ u) :=
  Sep.st h 1 rfl ⟨g, j, none⟩ u rfl (Th.own B ec 1 (some ⟨g, 0, none⟩) nc cc (xs.set j u)) (h.c.st j u) (fun b e => e)
theorem WS.pushC {n' c' : Nat} {A' : Option Addr} {xs' : List Value} (h : WS B N N1 N2 k0 k1 k2 Av cv v Ar cr r hs ec Ac nc cc xs Ad cd rn ts W) (ho : Own W' B ec 1 A' n' c' xs') (hg : W.grownBy W' (blk Ac)) (hat : blk A' = blk Ac ∨ ∃ g, blk A' = some g ∧ W.heap.size ≤ g) :
    WS B N N1 N2 k0 k1 k2 Av cv v Ar cr r hs ec A' n' c' xs' Ad cd rn ts W' := Sep.app h 1 rfl ho hg hat
theorem WS.pushD {c' : Nat} {A' : Option Addr} {rn' : List Int} (h : WS B N N1 N2 k0 k1 k2 Av cv v Ar cr r hs ec Ac nc cc xs Ad cd rn ts W) (ho : Own W' B 3 1 A' rn'.length c' (ints rn')) (hg : W.grownBy W' (blk Ad)) (hat : blk A' = blk Ad ∨ ∃ g, blk A' = some g ∧ W.heap.size ≤ g) :
    WS B N N1 N2 k0 k1 k2 Av cv v Ar cr r hs ec Ac nc cc xs A' c' rn' ts W' := Sep.app h 0 rfl ho hg hat
/-- a new list of what ran -/
theorem WS.newD {c' : Nat} {A' : Option Addr} {rn' : List Int} (h : WS B N N1 N2 k0 k1 k2 Av cv v Ar cr r hs ec Ac nc cc xs Ad cd rn ts W) (e : Ext W W') (ho : Own W' B 3 1 A' rn'.length c' (ints rn')) (hn : ∀ b, blk A' = some b → W.heap.size ≤ b) :
    WS B N N1 N2 k0 k1 k2 Av cv v Ar cr r hs ec Ac nc cc xs A' c' rn' ts W' :=
  Sep.set h 0 rfl (F := fun _ => False) (Mod.of e) (Th.own B 3 1 A' rn'.length c' (ints rn')) (fun _ => False.elim) ho (fun b hb => .inr (hn b hb))
/-- a new list of what changed -/
theorem WS.newC {n' c' : Nat} {A' : Option Addr} {xs' : List Value} (h : WS B N N1 N2 k0 k1 k2 Av cv v Ar cr r hs ec Ac nc cc xs Ad cd rn ts W) (e : Ext W W') (ho : Own W' B ec 1 A' n' c' xs') (hn : ∀ b, blk A' = some b → W.heap.size ≤ b) :
    WS B N N1 N2 k0 k1 k2 Av cv v Ar cr r hs ec A' n' c' xs' Ad cd rn ts W' :=
  Sep.set h 1 rfl (F := fun _ => False) (Mod.of e) (Th.own B ec 1 A' n' c' xs') (fun _ => False.elim) ho (fun b hb => .inr (hn b hb))
theorem WS.putR {g i : Nat} (h : WS B N N1 N2 k0 k1 k2 Av cv v (some ⟨g, 0, none⟩) cr r hs ec Ac nc cc xs Ad cd rn ts W) (hB : B ≤ W.heap.size) {W1 : World} (e : Ext W W1) (hi : i < r.length) (l : List Int) {A0 : Option Addr} {c0 : Nat} (own : Own W1 W.heap.size 3 1 A0 l.length c0 (ints l)) :
    WS B N N1 N2 k0 k1 k2 Av cv v (some ⟨g, 0, none⟩) cr (r.set i l) (hs.set i (A0, c0)) ec Ac nc cc xs Ad cd rn ts (W1.setCell ⟨g, i, none⟩ (.slice A0 l.length c0)) := by
  have hr := h.rr
  refine Sep.set h 6 rfl (F := fun b => b = g) (Mod.set (F := fun b => b = g) (Mod.of (F := fun b => b = g) e) (p := ⟨g, i, none⟩) (.inl rfl) (.slice A0 l.length c0)) (Th.ownL B (some ⟨g, 0, none⟩) cr (r.set i l) (hs.set i (A0, c0))) (fun b hb => .inl (.inl (by rw [hb]; rfl))) (OwnL.put hr e hB hi l own rfl) (fun b hb => ?_)
  rcases hb with hb | ⟨x, hx, hb⟩
  · exact .inl (.inl hb)
  · rcases List.mem_or_eq_of_mem_set hx with hx | rfl
    · exact .inl (.inr ⟨x, hx, hb⟩)
    · exact .inr (own.lt hb).1
theorem WS.start {A1 : Option Addr} {c1 : Nat} {hs1 : List (Option Addr × Nat)} (h : Sep (Th.own B 3 1 Av v.length cv (ints v) :: Th.ownL B A1 c1 r hs1 :: ts) W) (hB : B ≤ W.heap.size) (k0 k1 k2 : Array Value) (t0 t1 t2 ec : Nat) :
    WS B W.heap.size (W.heap.size + 1) (W.heap.size + 2) k0.toList k1.toList k2.toList Av cv v A1 c1 r hs1 ec none 0 0 [] none 0 [] ts (((W.alloc (.cells k0 t0)).alloc (.cells k1 t1)).alloc (.cells k2 t2)) := by
  have b0 := Bx.new W k0 t0
  have b1 := Bx.new (W.alloc (.cells k0 t0)) k1 t1
  have b2 := Bx.new ((W.alloc (.cells k0 t0)).alloc (.cells k1 t1)) k2 t2
  simp only [World.size_alloc] at b1 b2
  have s0 := Sep.add h ((Ext.rfl' W).al (.cells k0 t0)) (Th.box B W.heap.size k0.toList) ⟨b0, hB⟩ (fun b e => by subst e; exact Nat.le_refl _)
  have s1 := Sep.add s0 ((Ext.rfl' _).al (.cells k1 t1)) (Th.box B (W.heap.size + 1) k1.toList) ⟨b1, by omega⟩ (fun b e => by subst e; simp)
  have s2 := Sep.add s1 ((Ext.rfl' _).al (.cells k2 t2)) (Th.box B (W.heap.size + 2) k2.toList) ⟨b2, by omega⟩ (fun b e => by subst e; simp)
  have s3 := Sep.add s2 (Ext.rfl' _) (Th.own B ec 1 none 0 0 []) (Own.nil _ _ _ _) (fun b e => by cases e)
  exact Sep.add s3 (Ext.rfl' _) (Th.own B 3 1 none ([] : List Int).length 0 (ints [])) (by show Own _ _ _ _ _ _ _ _; simpa [ints] using Own.nil _ B 3 1) (fun b e => by cases e)
theorem Sep.swap {x y : Th B} {ts : List (Th B)} (h : Sep (x :: y :: ts) W) : Sep (y :: x :: ts) W :=
  ⟨h.2.2.1, fun s hs b hb hb' => by
    rcases List.mem_cons.1 hs with rfl | hs
    · exact h.2.1 y (by simp) b hb' hb
    · exact h.2.2.2.1 s hs b hb hb', h.1, fun s hs b hb => h.2.1 s (by simp [hs]) b hb, h.2.2.2.2⟩
/-- the start, where the list of what changed is made ahead of its variable -/
theorem WS.startI {A1 : Option Addr} {c1 n : Nat} {hs1 : List (Option Addr × Nat)} (h : Sep (Th.own B 3 1 Av v.length cv (ints v) :: Th.ownL B A1 c1 r hs1 :: ts) W) (hB : B ≤ W.heap.size) (k0 k1 : Array Value) (t0 t1 t2 ec : Nat)
    {W3 W4 : World} (e3 : Ext ((W.alloc (.cells k0 t0)).alloc (.cells k1 t1)) W3) (e4 : Ext W3 W4) (ho : Own W4 W3.heap.size ec 1 Ac n cc xs) (k2 : Array Value) :
    WS B W.heap.size (W.heap.size + 1) W4.heap.size k0.toList k1.toList k2.toList Av cv v A1 c1 r hs1 ec Ac n cc xs none 0 [] ts (W4.alloc (.cells k2 t2)) := by
  have b0 := Bx.new W k0 t0
  have b1 := Bx.new (W.alloc (.cells k0 t0)) k1 t1
  have b2 := Bx.new W4 k2 t2
  simp only [World.size_alloc] at b1
  have hs3 := e3.size
  simp only [World.size_alloc] at hs3
  have hs4 := e4.size
  have s0 := Sep.add h ((Ext.rfl' W).al (.cells k0 t0)) (Th.box B W.heap.size k0.toList) ⟨b0, hB⟩ (fun b e => by subst e; exact Nat.le_refl _)
  have s1 := Sep.add s0 ((Ext.rfl' _).al (.cells k1 t1)) (Th.box B (W.heap.size + 1) k1.toList) ⟨b1, by omega⟩ (fun b e => by subst e; simp)
  have s2 := Sep.add (Sep.ext s1 e3) e4 (Th.own B ec 1 Ac n cc xs) (ho.mono (by omega)) (fun b e => (ho.lt e).1)
  have s3 := Sep.add s2 ((Ext.rfl' _).al (.cells k2 t2)) (Th.box B W4.heap.size k2.toList) ⟨b2, by omega⟩ (fun b e => by subst e; exact Nat.le_refl _)
  exact Sep.add (Sep.swap s3) (Ext.rfl' _) (Th.own B 3 1 none ([] : List Int).length 0 (ints [])) (by show Own _ _ _ _ _ _ _ _; simpa [ints] using Own.nil _ B 3 1) (fun b e => by cases e)
theorem WS.vr (h : WS B N N1 N2 k0 k1 k2 Av cv v Ar cr r hs ec Ac nc cc xs Ad cd rn ts W) : ∀ b, blk Av = some b → ¬ fpD Ar hs b := fun b hb hb' => h.2.2.2.2.2.2.2.2.2.2.2.1 (Th.ownL B Ar cr r hs) (by simp) b hb hb'
theorem WS.cv_ (h : WS B N N1 N2 k0 k1 k2 Av cv v Ar cr r hs ec Ac nc cc xs Ad cd rn ts W) : ∀ b, blk Ac = some b → blk Av ≠ some b := fun b hb => h.2.2.2.1 (Th.own B 3 1 Av v.length cv (ints v)) (by simp) b hb
theorem WS.cN2 (h : WS B N N1 N2 k0 k1 k2 Av cv v Ar cr r hs ec Ac nc cc xs Ad cd rn ts W) : ∀ b, blk Ac = some b → N2 ≠ b := fun b hb e => h.2.2.2.1 (Th.box B N2 k2) (by simp) b hb e.symm
theorem WS.cN1 (h : WS B N N1 N2 k0 k1 k2 Av cv v Ar cr r hs ec Ac nc cc xs Ad cd rn ts W) : ∀ b, blk Ac = some b → N1 ≠ b := fun b hb e => h.2.2.2.1 (Th.box B N1 k1) (by simp) b hb e.symm
theorem WS.cN (h : WS B N N1 N2 k0 k1 k2 Av cv v Ar cr r hs ec Ac nc cc xs Ad cd rn ts W) : ∀ b, blk Ac = some b → N ≠ b := fun b hb e => h.2.2.2.1 (Th.box B N k0) (by simp) b hb e.symm
theorem WS.vN2 (h : WS B N N1 N2 k0 k1 k2 Av cv v Ar cr r hs ec Ac nc cc xs Ad cd rn ts W) : ∀ b, blk Av = some b → N2 ≠ b := fun b hb e => h.2.2.2.2.2.1 (Th.own B 3 1 Av v.length cv (ints v)) (by simp) b e.symm hb
theorem WS.vN1 (h : WS B N N1 N2 k0 k1 k2 Av cv v Ar cr r hs ec Ac nc cc xs Ad cd rn ts W) : ∀ b, blk Av = some b → N1 ≠ b := fun b hb e => h.2.2.2.2.2.2.2.1 (Th.own B 3 1 Av v.length cv (ints v)) (by simp) b e.symm hb
theorem WS.vN (h : WS B N N1 N2 k0 k1 k2 Av cv v Ar cr r hs ec Ac nc cc xs Ad cd rn ts W) : ∀ b, blk Av = some b → N ≠ b := fun b hb e => h.2.2.2.2.2.2.2.2.2.1 (Th.own B 3 1 Av v.length cv (ints v)) (by simp) b e.symm hb
theorem WS.rN2 (h : WS B N N1 N2 k0 k1 k2 Av cv v Ar cr r hs ec Ac nc cc xs Ad cd rn ts W) : ∀ b, fpD Ar hs b → N2 ≠ b := fun b hb e => h.2.2.2.2.2.1 (Th.ownL B Ar cr r hs) (by simp) b e.symm hb
theorem WS.rN1 (h : WS B N N1 N2 k0 k1 k2 Av cv v Ar cr r hs ec Ac nc cc xs Ad cd rn ts W) : ∀ b, fpD Ar hs b → N1 ≠ b := fun b hb e => h.2.2.2.2.2.2.2.1 (Th.ownL B Ar cr r hs) (by simp) b e.symm hb
theorem WS.rN (h : WS B N N1 N2 k0 k1 k2 Av cv v Ar cr r hs ec Ac nc cc xs Ad cd rn ts W) : ∀ b, fpD Ar hs b → N ≠ b := fun b hb e => h.2.2.2.2.2.2.2.2.2.1 (Th.ownL B Ar cr r hs) (by simp) b e.symm hb
theorem WS.dN2 (h : WS B N N1 N2 k0 k1 k2 Av cv v Ar cr r hs ec Ac nc cc xs Ad cd rn ts W) : ∀ b, blk Ad = some b → N2 ≠ b := fun b hb e => h.2.1 (Th.box B N2 k2) (by simp) b hb e.symm
theorem WS.dN1 (h : WS B N N1 N2 k0 k1 k2 Av cv v Ar cr r hs ec Ac nc cc xs Ad cd rn ts W) : ∀ b, blk Ad = some b → N1 ≠ b := fun b hb e => h.2.1 (Th.box B N1 k1) (by simp) b hb e.symm
theorem WS.dN (h : WS B N N1 N2 k0 k1 k2 Av cv v Ar cr r hs ec Ac nc cc xs Ad cd rn ts W) : ∀ b, blk Ad = some b → N ≠ b := fun b hb e => h.2.1 (Th.box B N k0) (by simp) b hb e.symm
theorem WS.dc_ (h : WS B N N1 N2 k0 k1 k2 Av cv v Ar cr r hs ec Ac nc cc xs Ad cd rn ts W) : ∀ b, blk Ad = some b → blk Ac ≠ some b := fun b hb => h.2.1 (Th.own B ec 1 Ac nc cc xs) (by simp) b hb
theorem WS.dr_ (h : WS B N N1 N2 k0 k1 k2 Av cv v Ar cr r hs ec Ac nc cc xs Ad cd rn ts W) : ∀ b, blk Ad = some b → ¬ fpD Ar hs b := fun b hb => h.2.1 (Th.ownL B Ar cr r hs) (by simp) b hb
theorem WS.cr_ (h : WS B N N1 N2 k0 k1 k2 Av cv v Ar cr r hs ec Ac nc cc xs Ad cd rn ts W) : ∀ b, blk Ac = some b → ¬ fpD Ar hs b := fun b hb => h.2.2.2.1 (Th.ownL B Ar cr r hs) (by simp) b hb
theorem WS.tN2 (h : WS B N N1 N2 k0 k1 k2 Av cv v Ar cr r hs ec Ac nc cc xs Ad cd rn ts W) : ∀ x ∈ ts, ∀ b, x.fp b → N2 ≠ b := fun x hx b hb e => h.2.2.2.2.2.1 x (by simp [hx]) b e.symm hb
/-- what the result is -/
theorem WS.fin (h : WS B N N1 N2 k0 k1 k2 Av cv v Ar cr r hs ec Ac nc cc xs Ad cd rn ts W) : Sep (Th.own B 3 1 Ad rn.length cd (ints rn) :: Th.own B 3 1 Av v.length cv (ints v) :: Th.ownL B Ar cr r hs :: ts) W :=
  ⟨h.1, fun s hs b hb => h.2.1 s (by simp at hs ⊢; rcases hs with rfl | rfl | hs <;> simp [*]) b hb, h.2.2.2.2.2.2.2.2.2.2⟩
/-- a turned variable -/
theorem WS.set2 (h : WS B N N1 N2 k0 k1 k2 Av cv v Ar cr r hs ec Ac nc cc xs Ad cd rn ts W) (j : Nat) (u : Value) : WS B N N1 N2 k0 k1 (k2.set j u) Av cv v Ar cr r hs ec Ac nc cc xs Ad cd rn ts (W.setCell ⟨N2, j, none⟩ u) :=
  Sep.st h 2 rfl ⟨N2, j, none⟩ u rfl (Th.box B N2 (k2.set j u)) ⟨h.b2.set j u, (Sep.get h 2 rfl).2⟩ (fun b e => e)
theorem setCell_two (w : World) {b c : Nat} (i j : Nat) (u v : Value) (h : b ≠ c) : (w.setCell ⟨b, i, none⟩ u).setCell ⟨c, j, none⟩ v = (w.setCell ⟨c, j, none⟩ v).setCell ⟨b, i, none⟩ u := by
  unfold World.setCell
  congr 1
  apply Array.ext_getElem?
  intro k
  simp only [Array.getElem?_modify]
  by_cases h1 : c = k
  · subst h1
    simp [h]
  · by_cases h2 : b = k
    · subst h2
      simp [h1]
    · simp [h1, h2]
theorem WS.clipD (h : WS B N N1 N2 k0 k1 k2 Av cv v Ar cr r hs ec Ac nc cc xs Ad cd rn ts W) (ho : Own W B 3 1 Ad rn.length rn.length (ints rn)) : WS B N N1 N2 k0 k1 k2 Av cv v Ar cr r hs ec Ac nc cc xs Ad rn.length rn ts W :=
  Sep.set h 0 rfl (F := fun _ => False) (Mod.of (Ext.rfl' W)) (Th.own B 3 1 Ad rn.length rn.length (ints rn)) (fun _ => False.elim) ho (fun b hb => .inl hb)
end
end Go.Proofs.YtjogmblilagohaaGreat
