/- The plain law of why a value changed: the way from a cell. No program in sight. Conditions: none. -/
import Derived.Test.YteighpaljdlnaaaModelsA
namespace Sg
/-- a way: nodes that changed, each read by the next one, the last is N -/
structure WayW (g : Graph) (x ch : List Int) (N : Int) (L : List Int) : Prop where
 all : ∀ y ∈ L, y ∈ ch
 next : ∀ (k : Nat) (p q : Int), L[k]? = some p → L[k + 1]? = some q → p < q ∧ p ∈ depAt g x q.toNat
 last : L.getLast? = some N
theorem why_way {g : Graph} (hG : validG g = true) (a b : List Int) {N : Int} : ∀ (m : Nat) (n : Int) (out : List Int), n.toNat < m → n ∈ diffL (mean g a) (mean g b) → WayW g (mean g a) (diffL (mean g a) (mean g b)) N (n :: out) →
  ∃ h t, whyGo g (mean g a) (diffL (mean g a) (mean g b)) (n.toNat + 1) n out = h :: t ∧ kindAt g h = 0 ∧ WayW g (mean g a) (diffL (mean g a) (mean g b)) N (h :: t) := by
 intro m
 induction m with
 | zero => intro n out h; omega
 | succ m ih =>
  intro n out hm hn hw
  by_cases h0 : kindAt g n = 0
  ·exact ⟨n, out, whyGo_end h0 _ _, h0, hw⟩
  ·rw [whyGo_step hG a b hn h0]
   obtain ⟨h1, h2, h3, h4⟩ := nxt_spec hG a b hn h0
   refine ih _ _ (by omega) h1 ⟨fun y hy => ?_, fun k p q hp hq => ?_, ?_⟩
   ·rcases List.mem_cons.1 hy with rfl | hy
    ·exact h1
    ·exact hw.all y hy
   ·cases k with
    | zero =>
     simp only [List.getElem?_cons_zero, List.getElem?_cons_succ, Option.some.injEq] at hp hq
     subst hp hq
     exact ⟨h3, h4⟩
    | succ k =>
     rw [List.getElem?_cons_succ] at hp hq
     exact hw.next k p q hp hq
   ·rw [List.getLast?_cons_cons]; exact hw.last
/-- P86 -/
theorem why_law {g : Graph} {a b : List Int} {n : Int} (hG : validG g = true) (hA : validC g a = true) (hB : validC g b = true) {k0 : Nat} (hk : n = k0) (hkl : k0 < g.length) :
  (whyOr g a b n = [] → n ∉ diffL (mean g a) (mean g b)) ∧
  ∀ (h : Int) (t : List Int), whyOr g a b n = h :: t → WayW g (mean g a) (diffL (mean g a) (mean g b)) n (h :: t) ∧ ∃ (i : Nat) (nd : Node), h = i ∧ i < g.length ∧ g[i]? = some nd ∧ nd.kind = 0 ∧ a.getD i 0 ≠ b.getD i 0 := by
 have hr : inR n 0 ((g.length : Int) - 1) = true := by unfold inR; simp only [Bool.and_eq_true, decide_eq_true_eq]; omega
 have hw : whyOr g a b n = if n ∈ diffL (mean g a) (mean g b) then whyGo g (mean g a) (diffL (mean g a) (mean g b)) (n.toNat + 1) n [] else [] := by unfold whyOr; rw [hG, hA, hB, hr]; rfl
 rw [hw]
 by_cases hn : n ∈ diffL (mean g a) (mean g b)
 ·rw [if_pos hn]
  obtain ⟨h, t, e, hk0, hW⟩ := why_way hG a b (N := n) (n.toNat + 1) n [] (by omega) hn ⟨by simpa using hn, by intro k p q _ hq; simp at hq, rfl⟩
  rw [e]
  refine ⟨fun h => by simp at h, fun h' t' e' => ?_⟩
  injection e' with e1 e2
  subst e1 e2
  refine ⟨hW, ?_⟩
  obtain ⟨i, rfl, hi, hne⟩ := mem_diffL.1 (hW.all h (by simp))
  rw [length_mean] at hi
  have hnd : g[i]? = some g[i] := List.getElem?_eq_getElem hi
  have hkk : g[i].kind = 0 := by unfold kindAt at hk0; rw [Int.toNat_natCast, getD_of hnd] at hk0; exact hk0
  refine ⟨i, g[i], rfl, hi, hnd, hkk, ?_⟩
  rw [mean_atN a hnd, mean_atN b hnd, if_pos hkk, if_pos hkk] at hne
  exact hne
 ·rw [if_neg hn]
  exact ⟨fun _ => hn, fun h t e => by simp at e⟩
end Sg
