/- Slices of elements that hold slices, all of the call's own: laws. Conditions: none. -/
import Derived.Test.YtkkegmimofmhpaaMod
namespace Go.Proofs.Ytkkegmimofmhpaa
open Go.RowKit

/-- an element: its own cells, and behind them a slice of n elements with the cells xs -/
structure It where
  pre : List Value
  n : Nat
  xs : List Value

def itc (it : It) (h : Option Addr × Nat) : List Value := it.pre ++ [.slice h.1 it.n h.2]
def dcells : List It → List (Option Addr × Nat) → List Value
  | it :: its, h :: hs => itc it h ++ dcells its hs
  | _, _ => []
theorem dcells_nil (its : List It) : dcells its [] = [] := by cases its <;> rfl
theorem length_dcells {its : List It} {hs : List (Option Addr × Nat)} {s : Nat} (hp : ∀ it ∈ its, it.pre.length + 1 = s) (hl : hs.length ≤ its.length) : (dcells its hs).length = hs.length * s := by
  induction its generalizing hs with
  | nil =>
    cases hs with
    | nil => simp [dcells]
    | cons h hs => simp at hl
  | cons it its ih =>
    cases hs with
    | nil => simp [dcells]
    | cons h hs =>
      have h1 := hp it (by simp)
      have h2 := ih (hs := hs) (fun i hi => hp i (by simp [hi])) (by simpa using hl)
      simp only [dcells, itc, List.length_append, List.length_cons, List.length_nil, h2]
      rw [Nat.add_mul, Nat.one_mul]
      omega
theorem at_dcells {its : List It} {hs : List (Option Addr × Nat)} {s : Nat} (hp : ∀ it ∈ its, it.pre.length + 1 = s) (i j : Nat) (hj : j < s) {it : It} {h : Option Addr × Nat} (hi : its[i]? = some it) (hh : hs[i]? = some h) :
    (dcells its hs)[i * s + j]? = (itc it h)[j]? := by
  induction its generalizing hs i with
  | nil => simp at hi
  | cons it' its ih =>
    cases hs with
    | nil => simp at hh
    | cons h' hs =>
      have h1 := hp it' (by simp)
      have hl : (itc it' h').length = s := by simp only [itc, List.length_append, List.length_cons, List.length_nil]; omega
      cases i with
      | zero =>
        simp at hi hh
        subst hi
        subst hh
        simp only [dcells, Nat.zero_mul, Nat.zero_add]
        rw [List.getElem?_append_left (by rw [hl]; exact hj)]
      | succ i =>
        simp only [dcells]
        rw [List.getElem?_append_right (by rw [hl, Nat.add_mul]; omega), hl, show (i + 1) * s + j - s = i * s + j from by rw [Nat.add_mul]; omega]
        exact ih (fun x hx => hp x (by simp [hx])) i (by simpa using hi) (by simpa using hh)
theorem dcells_snoc {its : List It} {hs : List (Option Addr × Nat)} {it : It} (h : Option Addr × Nat) (hi : its[hs.length]? = some it) : dcells its (hs ++ [h]) = dcells its hs ++ itc it h := by
  induction its generalizing hs with
  | nil => simp at hi
  | cons it' its ih =>
    cases hs with
    | nil =>
      simp at hi
      subst hi
      simp [dcells, dcells_nil]
    | cons h' hs =>
      simp only [List.cons_append, dcells, List.append_assoc]
      rw [ih (by simpa using hi)]

/-- the inner slices that have been made so far, none of them in block o -/
structure InnD (w : World) (B ei si o : Nat) (its : List It) (hs : List (Option Addr × Nat)) : Prop where
  len : hs.length ≤ its.length
  inn : ∀ (i : Nat) (it : It) (h : Option Addr × Nat), its[i]? = some it → hs[i]? = some h → Own w B ei si h.1 it.n h.2 it.xs
  dis : ∀ (i j : Nat) (h h' : Option Addr × Nat), i < j → hs[i]? = some h → hs[j]? = some h' → ∀ b, blk h.1 = some b → blk h'.1 ≠ some b
  dio : ∀ (i : Nat) (h : Option Addr × Nat), hs[i]? = some h → blk h.1 ≠ some o

theorem InnD.nil (w : World) (B ei si o : Nat) (its : List It) : InnD w B ei si o its [] := ⟨by simp, by simp, by simp, by simp⟩
theorem InnD.at_ {w : World} {B ei si o : Nat} {its : List It} {hs : List (Option Addr × Nat)} (k : InnD w B ei si o its hs) {i : Nat} {h : Option Addr × Nat} (hh : hs[i]? = some h) : ∃ it, its[i]? = some it ∧ Own w B ei si h.1 it.n h.2 it.xs := by
  have hi : i < its.length := Nat.lt_of_lt_of_le (List.getElem?_eq_some_iff.1 hh).1 k.len
  exact ⟨_, List.getElem?_eq_getElem hi, k.inn i _ h (List.getElem?_eq_getElem hi) hh⟩
theorem InnD.fr {w w' : World} {B ei si o : Nat} {its : List It} {hs : List (Option Addr × Nat)} (k : InnD w B ei si o its hs) (hk : ∀ b, B ≤ b → b < w.heap.size → b ≠ o → w'.heap[b]? = w.heap[b]?) : InnD w' B ei si o its hs :=
  ⟨k.len, fun i it h hi hh => (k.inn i it h hi hh).keep fun g hg => hk g ((k.inn i it h hi hh).lt hg).1 ((k.inn i it h hi hh).lt hg).2 (fun e => k.dio i h hh (by rw [hg, e])), k.dis, k.dio⟩
theorem InnD.ext {w w' : World} {B ei si o : Nat} {its : List It} {hs : List (Option Addr × Nat)} (k : InnD w B ei si o its hs) (e : Ext w w') : InnD w' B ei si o its hs := k.fr fun b _ h _ => e.block b h
theorem InnD.st {w : World} {B ei si o : Nat} {its : List It} {hs : List (Option Addr × Nat)} (k : InnD w B ei si o its hs) (j : Nat) (u : Value) : InnD (w.setCell ⟨o, j, none⟩ u) B ei si o its hs :=
  k.fr fun _ _ _ h => Below.heap_setCell _ _ _ _ h
theorem InnD.dr {w : World} {B ei si o : Nat} {its : List It} {hs : List (Option Addr × Nat)} (k : InnD w B ei si o its hs) : InnD w.drew B ei si o its hs := k.ext (Ext.rfl' w).dr
theorem InnD.snoc {w w1 : World} {B ei si o : Nat} {its : List It} {hs : List (Option Addr × Nat)} (k : InnD w B ei si o its hs) (e : Ext w w1) (hB : B ≤ w.heap.size) (ho : o < w.heap.size) {it : It} (hi : its[hs.length]? = some it) {A : Option Addr} {c : Nat}
    (own : Own w1 w.heap.size ei si A it.n c it.xs) : InnD w1 B ei si o its (hs ++ [(A, c)]) := by
  have k1 := k.ext e
  have hlt := (List.getElem?_eq_some_iff.1 hi).1
  have key : ∀ (i : Nat) (h : Option Addr × Nat), (hs ++ [(A, c)])[i]? = some h → (i < hs.length ∧ hs[i]? = some h) ∨ (i = hs.length ∧ h = (A, c)) := by
    intro i h hh
    by_cases hik : i < hs.length
    · rw [List.getElem?_append_left hik] at hh
      exact .inl ⟨hik, hh⟩
    · have h1 := (List.getElem?_eq_some_iff.1 hh).1
      simp at h1
      obtain rfl : i = hs.length := by omega
      rw [List.getElem?_append_right (Nat.le_refl _)] at hh
      simp at hh
      exact .inr ⟨rfl, hh.symm⟩
  refine ⟨by simp; omega, ?_, ?_, ?_⟩
  · intro i it' h hi' hh
    rcases key i h hh with ⟨_, hh⟩ | ⟨rfl, rfl⟩
    · exact k1.inn i it' h hi' hh
    · rw [hi] at hi'
      injection hi' with hi'
      subst hi'
      exact own.mono hB
  · intro i j h h' hij hh hh' b hb hb'
    rcases key i h hh with ⟨_, hh⟩ | ⟨rfl, rfl⟩
    · rcases key j h' hh' with ⟨_, hh'⟩ | ⟨rfl, rfl⟩
      · exact k.dis i j h h' hij hh hh' b hb hb'
      · obtain ⟨it1, _, ow⟩ := k.at_ hh
        have := (ow.lt hb).2
        have := (own.lt hb').1
        omega
    · have := (List.getElem?_eq_some_iff.1 hh').1
      simp at this
      omega
  · intro i h hh hb
    rcases key i h hh with ⟨_, hh⟩ | ⟨rfl, rfl⟩
    · exact k.dio i h hh hb
    · have := (own.lt hb).1
      omega

/-- a slice of elements that hold slices, all of the call's own -/
structure OwnD (w : World) (B eo so ei si : Nat) (A : Option Addr) (c : Nat) (its : List It) (hs : List (Option Addr × Nat)) : Prop where
  len : hs.length = its.length
  out : Own w B eo so A its.length c (dcells its hs)
  inn : ∀ (i : Nat) (it : It) (h : Option Addr × Nat), its[i]? = some it → hs[i]? = some h → Own w B ei si h.1 it.n h.2 it.xs
  dis : ∀ (i j : Nat) (h h' : Option Addr × Nat), i < j → hs[i]? = some h → hs[j]? = some h' → ∀ b, blk h.1 = some b → blk h'.1 ≠ some b
  dio : ∀ (i : Nat) (h : Option Addr × Nat), hs[i]? = some h → ∀ b, blk A = some b → blk h.1 ≠ some b
/-- its blocks -/
def fpD (A : Option Addr) (hs : List (Option Addr × Nat)) (b : Nat) : Prop := blk A = some b ∨ ∃ h ∈ hs, blk h.1 = some b

theorem InnD.own {w : World} {B eo so ei si o : Nat} {its : List It} {hs : List (Option Addr × Nat)} {c : Nat} (k : InnD w B ei si o its hs) (hl : hs.length = its.length) (out : Own w B eo so (some ⟨o, 0, none⟩) its.length c (dcells its hs)) :
    OwnD w B eo so ei si (some ⟨o, 0, none⟩) c its hs :=
  ⟨hl, out, k.inn, k.dis, fun i h hh b hb => by simp [blk] at hb; subst hb; exact k.dio i h hh⟩
section
variable {w w' : World} {B eo so ei si c : Nat} {A : Option Addr} {its : List It} {hs : List (Option Addr × Nat)}
theorem OwnD.at_ (k : OwnD w B eo so ei si A c its hs) {i : Nat} {it : It} (hi : its[i]? = some it) : ∃ h, hs[i]? = some h ∧ Own w B ei si h.1 it.n h.2 it.xs := by
  have hl : i < hs.length := by rw [k.len]; exact (List.getElem?_eq_some_iff.1 hi).1
  exact ⟨_, List.getElem?_eq_getElem hl, k.inn i it _ hi (List.getElem?_eq_getElem hl)⟩
theorem OwnD.lt (k : OwnD w B eo so ei si A c its hs) {b : Nat} (hb : fpD A hs b) : B ≤ b ∧ b < w.heap.size := by
  rcases hb with hb | ⟨h, hh, hb⟩
  · exact k.out.lt hb
  · obtain ⟨i, hi⟩ := List.getElem?_of_mem hh
    have hl : i < its.length := by rw [← k.len]; exact (List.getElem?_eq_some_iff.1 hi).1
    exact (k.inn i _ h (List.getElem?_eq_getElem hl) hi).lt hb
theorem OwnD.fr (k : OwnD w B eo so ei si A c its hs) (hk : ∀ b, fpD A hs b → w'.heap[b]? = w.heap[b]?) : OwnD w' B eo so ei si A c its hs :=
  ⟨k.len, k.out.keep fun g hg => hk g (.inl hg), fun i it h hi hh => (k.inn i it h hi hh).keep fun g hg => hk g (.inr ⟨h, List.mem_of_getElem? hh, hg⟩), k.dis, k.dio⟩
theorem OwnD.ext (k : OwnD w B eo so ei si A c its hs) (e : Ext w w') : OwnD w' B eo so ei si A c its hs := k.fr fun b hb => e.block b (k.lt hb).2
theorem OwnD.mod {F : Nat → Prop} (k : OwnD w B eo so ei si A c its hs) (m : Mod F w w') (hF : ∀ b, fpD A hs b → ¬ F b) : OwnD w' B eo so ei si A c its hs := k.fr fun b hb => m.block b (k.lt hb).2 (hF b hb)
theorem OwnD.mono {B' : Nat} (k : OwnD w B eo so ei si A c its hs) (hB : B' ≤ B) : OwnD w B' eo so ei si A c its hs := ⟨k.len, k.out.mono hB, fun i it h hi hh => (k.inn i it h hi hh).mono hB, k.dis, k.dio⟩
theorem OwnD.set (k : OwnD w B eo so ei si A c its hs) {p : Addr} (hp : ¬ fpD A hs p.block) (u : Value) : OwnD (w.setCell p u) B eo so ei si A c its hs :=
  k.fr fun b hb => Below.heap_setCell _ _ _ _ (fun e => hp (by rw [← e]; exact hb))
theorem OwnD.below (k : OwnD w B eo so ei si A c its hs) {p : Addr} (hp : p.block < B) (u : Value) : OwnD (w.setCell p u) B eo so ei si A c its hs :=
  k.set (fun e => by have := (k.lt e).1; omega) u
end

/-- nodes, lists of numbers as elements -/
def nodeIts (g : Sg.Graph) : List It := g.map fun n => ⟨[.int .i64 n.kind], n.f.length, parts n.f⟩
def listIts (ll : List (List Int)) : List It := ll.map fun l => ⟨[], l.length, ints l⟩
@[simp] theorem length_nodeIts (g : Sg.Graph) : (nodeIts g).length = g.length := by simp [nodeIts]
@[simp] theorem length_listIts (ll : List (List Int)) : (listIts ll).length = ll.length := by simp [listIts]
theorem nodeIts_pre (g : Sg.Graph) : ∀ it ∈ nodeIts g, it.pre.length + 1 = 2 := by
  intro it h; unfold nodeIts at h; rw [List.mem_map] at h; obtain ⟨n, _, rfl⟩ := h; rfl
theorem listIts_pre (ll : List (List Int)) : ∀ it ∈ listIts ll, it.pre.length + 1 = 1 := by
  intro it h; unfold listIts at h; rw [List.mem_map] at h; obtain ⟨n, _, rfl⟩ := h; rfl
theorem nodeIts_at {g : Sg.Graph} {i : Nat} {n : Sg.Node} (h : g[i]? = some n) : (nodeIts g)[i]? = some ⟨[.int .i64 n.kind], n.f.length, parts n.f⟩ := by simp [nodeIts, h]
theorem listIts_at {ll : List (List Int)} {i : Nat} {l : List Int} (h : ll[i]? = some l) : (listIts ll)[i]? = some ⟨[], l.length, ints l⟩ := by simp [listIts, h]

abbrev OwnN (w : World) (B : Nat) (A : Option Addr) (c : Nat) (g : Sg.Graph) (hs : List (Option Addr × Nat)) : Prop := OwnD w B 94 2 168 5 A c (nodeIts g) hs
abbrev OwnL (w : World) (B : Nat) (A : Option Addr) (c : Nat) (ll : List (List Int)) (hs : List (Option Addr × Nat)) : Prop := OwnD w B 26 1 3 1 A c (listIts ll) hs

theorem OwnL.rdL {w : World} {B c : Nat} {A : Option Addr} {ll : List (List Int)} {hs : List (Option Addr × Nat)} (k : OwnL w B A c ll hs) (hb : ll.length ≤ 1048576) (hl : ∀ l ∈ ll, l.length ≤ 1048576) : RdL w A ll := by
  refine ⟨hb, fun i l hi => ?_⟩
  obtain ⟨h, hh, ho⟩ := k.at_ (listIts_at hi)
  have hil := (List.getElem?_eq_some_iff.1 hi).1
  have hout := k.out
  obtain ⟨g, rfl, _⟩ := hout.at_ (by simp; omega)
  have hc := hout.cell (j := i) (u := .slice h.1 l.length h.2) (by
    have := at_dcells (listIts_pre ll) i 0 (by omega) (listIts_at hi) hh
    rw [Nat.mul_one, Nat.add_zero] at this
    rw [this]; rfl)
  exact ⟨g, 0, h.1, h.2, rfl, by simpa using hc, ho.rd, hl l (List.mem_of_getElem? hi)⟩
theorem OwnN.rdN {w : World} {B c : Nat} {A : Option Addr} {g : Sg.Graph} {hs : List (Option Addr × Nat)} (k : OwnN w B A c g hs) (hb : g.length ≤ 1048576) (hl : ∀ n ∈ g, n.f.length ≤ 1048576) : RdN w A g := by
  refine ⟨hb, fun i n hi => ?_⟩
  obtain ⟨h, hh, ho⟩ := k.at_ (nodeIts_at hi)
  have hil := (List.getElem?_eq_some_iff.1 hi).1
  have hout := k.out
  obtain ⟨g0, rfl, _⟩ := hout.at_ (by simp; omega)
  have hc0 := hout.cell (j := i * 2 + 0) (u := .int .i64 n.kind) (by rw [at_dcells (nodeIts_pre g) i 0 (by omega) (nodeIts_at hi) hh]; rfl)
  have hc1 := hout.cell (j := i * 2 + 1) (u := .slice h.1 n.f.length h.2) (by rw [at_dcells (nodeIts_pre g) i 1 (by omega) (nodeIts_at hi) hh]; rfl)
  exact ⟨g0, 0, h.1, h.2, rfl, by simpa using hc0, by simpa using hc1, ho.rd, hl n (List.mem_of_getElem? hi)⟩
end Go.Proofs.Ytkkegmimofmhpaa
