/- A list of own lists, after one element got a new list. Conditions: none. -/
import Derived.Test.YtjogmblilagohaaGreatBox
namespace Go.Proofs.YtjogmblilagohaaGreat
open Go.RowKit

theorem dcells_put (its : List It) : ∀ (hs : List (Option Addr × Nat)) (i : Nat) (it : It) (A0 : Option Addr) (c0 : Nat), (∀ x ∈ its, x.pre = []) → it.pre = [] → hs.length = its.length → i < its.length →
    (dcells its hs).set i (.slice A0 it.n c0) = dcells (its.set i it) (hs.set i (A0, c0)) := by
  induction its with
  | nil => intro hs i it A0 c0 _ _ _ hi; simp at hi
  | cons x its ih =>
    intro hs i it A0 c0 ha hp hl hi
    cases hs with
    | nil => simp at hl
    | cons h hs =>
      have hx := ha x (by simp)
      cases i with
      | zero => simp [dcells, itc, hx, hp]
      | succ i =>
        simp only [List.set_cons_succ, dcells]
        rw [← ih hs i it A0 c0 (fun y hy => ha y (by simp [hy])) hp (by simpa using hl) (by simpa using hi)]
        simp [itc, hx]
theorem OwnL.put {w w1 : World} {B c : Nat} {A : Option Addr} {ll : List (List Int)} {hs : List (Option Addr × Nat)} (k : OwnL w B A c ll hs) (e : Ext w w1) (hB : B ≤ w.heap.size) {i : Nat} (hi : i < ll.length) (l : List Int) {A0 : Option Addr} {c0 : Nat}
    (own : Own w1 w.heap.size 3 1 A0 l.length c0 (ints l)) {g : Nat} (hA : A = some ⟨g, 0, none⟩) : OwnL (w1.setCell ⟨g, i, none⟩ (.slice A0 l.length c0)) B A c (ll.set i l) (hs.set i (A0, c0)) := by
  subst hA
  have hlen : hs.length = ll.length := by have := k.len; simpa using this
  have hout := k.out.ext e
  have hgl : g < w.heap.size := (k.out.lt (g := g) rfl).2
  have hits : listIts (ll.set i l) = (listIts ll).set i ⟨[], l.length, ints l⟩ := by simp [listIts, List.map_set]
  have hpre : ∀ x ∈ listIts ll, x.pre = [] := by
    intro x hx
    unfold listIts at hx
    rw [List.mem_map] at hx
    obtain ⟨y, _, rfl⟩ := hx
    rfl
  have hother : ∀ b, b ≠ g → (w1.setCell ⟨g, i, none⟩ (.slice A0 l.length c0)).heap[b]? = w1.heap[b]? := fun b hb => Below.heap_setCell _ _ _ _ hb
  refine ⟨by simp [hlen], ?_, ?_, ?_, ?_⟩
  · have h1 := hout.st i (.slice A0 l.length c0)
    rw [dcells_put (listIts ll) hs i ⟨[], l.length, ints l⟩ A0 c0 hpre rfl (by simpa using hlen) (by simpa using hi)] at h1
    rw [hits]
    simpa using h1
  · intro j it h hj hh
    rw [hits] at hj
    by_cases hij : j = i
    · subst hij
      rw [List.getElem?_set_self (by simpa using hi)] at hj
      rw [List.getElem?_set_self (by omega)] at hh
      injection hj with hj
      injection hh with hh
      subst hj
      subst hh
      refine (own.keep fun b hb => hother b (fun e2 => ?_)).mono hB
      have := (own.lt hb).1
      omega
    · rw [List.getElem?_set_ne (fun e => hij e.symm)] at hj hh
      have o1 := (k.inn j it h hj hh).ext e
      refine o1.keep fun b hb => hother b (fun e2 => ?_)
      subst e2
      exact k.dio j h hh b rfl hb
  · intro a b h h' hab hh hh' x hx hx'
    by_cases h1 : a = i
    · subst h1
      rw [List.getElem?_set_self (by omega)] at hh
      injection hh with hh
      subst hh
      rw [List.getElem?_set_ne (by omega)] at hh'
      have h3 := (own.lt hx).1
      have h4 := (OwnD.lt k (.inr ⟨h', List.mem_of_getElem? hh', hx'⟩)).2
      omega
    · rw [List.getElem?_set_ne (fun e => h1 e.symm)] at hh
      by_cases h2 : b = i
      · subst h2
        rw [List.getElem?_set_self (by omega)] at hh'
        injection hh' with hh'
        subst hh'
        have h3 := (own.lt hx').1
        have h4 := (OwnD.lt k (.inr ⟨h, List.mem_of_getElem? hh, hx⟩)).2
        omega
      · rw [List.getElem?_set_ne (fun e => h2 e.symm)] at hh'
        exact k.dis a b h h' hab hh hh' x hx hx'
  · intro a h hh b hb hb'
    by_cases h1 : a = i
    · subst h1
      rw [List.getElem?_set_self (by omega)] at hh
      injection hh with hh
      subst hh
      have h3 := (own.lt hb').1
      simp [blk] at hb
      omega
    · rw [List.getElem?_set_ne (fun e => h1 e.symm)] at hh
      exact k.dio a h hh b hb hb'
end Go.Proofs.YtjogmblilagohaaGreat
