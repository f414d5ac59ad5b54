/- Parts in order, child by child: plain laws for the walks. Conditions: in the theorems. -/
import Derived.Test.YtdnlpklmihoapaaDoorPlO
namespace Sg
def kidsTo (f : List Part) (k : Nat) (l : List Int) (out : List Part) : List Part := l.foldl (fun o x => postF f k x o) out
def lenI (l : List Part) : Int := (l.length : Int) - 1
/-- a part whose first j children have been put -/
def partJ (f : List Part) (k : Nat) (p : Part) (out : List Part) (j : Nat) : Part :=
 ⟨p.kind, if 0 < j then lenI (kidsTo f k ((below p).take 1) out) else p.a, if 1 < j then lenI (kidsTo f k ((below p).take 2) out) else p.b, if 2 < j then lenI (kidsTo f k ((below p).take 3) out) else p.c, p.n⟩
theorem postF_kids {f : List Part} {k : Nat} {i : Int} {p : Part} (hd : f.getD i.toNat default = p) (out : List Part) : postF f (k + 1) i out = kidsTo f k (below p) out ++ [partJ f k p out (below p).length] := by
 unfold postF
 simp only [hd]
 unfold partJ below kidsTo lenI
 by_cases h8 : p.kind = 8
 ·simp [h8]
 ·by_cases h27 : 2 ≤ p.kind ∧ p.kind ≤ 7
  ·simp [h8, h27]
  ·simp [h8, h27]
theorem kidsTo_succ {f : List Part} {k : Nat} {l : List Int} {j : Nat} {x : Int} (h : l[j]? = some x) (out : List Part) : kidsTo f k (l.take (j + 1)) out = postF f k x (kidsTo f k (l.take j) out) := by
 unfold kidsTo
 rw [List.take_add_one, h]
 simp
theorem partJ_zero (f : List Part) (k : Nat) (p : Part) (out : List Part) : partJ f k p out 0 = p := by simp [partJ]
theorem postF_len {f : List Part} (hf : Goods f) {k : Nat} {i : Int} (h0 : 0 ≤ i) (hl : i < f.length) (hk : i < k) (out : List Part) : (postF f k i out).length = out.length + (treeOf f k i).size := by
 rw [postF_flat hf k i out h0 hl hk, List.length_append, flat_len]
/-- the room that is wanted -/
theorem kids_len {f : List Part} (hf : Goods f) {k : Nat} {i : Nat} {p : Part} (hp : f[i]? = some p) (hk : i < k + 1) (out : List Part) :
  (kidsTo f k (below p) out).length + 1 = out.length + (treeOf f (k + 1) (i : Int)).size ∧
  ∀ (j : Nat) (x : Int), (below p)[j]? = some x → (kidsTo f k ((below p).take j) out).length + (treeOf f k x).size + 1 ≤ out.length + (treeOf f (k + 1) (i : Int)).size := by
 have hi := (List.getElem?_eq_some_iff.1 hp).1
 obtain ⟨j', q, e, hq, hd⟩ := getD_part (f := f) (i := (i : Int)) (by omega) (by omega)
 obtain rfl : i = j' := by omega
 rw [hp] at hq
 injection hq with hq
 subst hq
 have hL : ∀ (x : Int) (o : List Part), 0 ≤ x → x < i → (postF f k x o).length = o.length + (treeOf f k x).size := fun x o h0 h1 => postF_len hf h0 (by omega) (by omega) o
 have eT : treeOf f (k + 1) (i : Int) = if p.kind = 8 then .ite (treeOf f k p.a) (treeOf f k p.b) (treeOf f k p.c) else if 2 ≤ p.kind ∧ p.kind ≤ 7 then .bin p.kind (treeOf f k p.a) (treeOf f k p.b) else .leaf p.kind p.n := by
  rw [treeOf]
  simp only [hd]
 rw [eT]
 unfold below kidsTo
 rcases part_cases hf hp with ⟨h8, hn, ha, hb, hc⟩ | ⟨h2, h7, hn, hc, ha, hb⟩ | ⟨hk, ha, hb, hc⟩
 ·rw [if_pos h8, if_pos h8]
  simp only [List.foldl_cons, List.foldl_nil, Tr.size]
  have e1 := hL p.a out ha.1 ha.2
  have e2 := hL p.b (postF f k p.a out) hb.1 hb.2
  have e3 := hL p.c (postF f k p.b (postF f k p.a out)) hc.1 hc.2
  refine ⟨by omega, fun j x hx => ?_⟩
  match j, hx with
  | 0, hx => simp only [List.getElem?_cons_zero, Option.some.injEq] at hx; subst hx; simp; omega
  | 1, hx => simp only [List.getElem?_cons_succ, List.getElem?_cons_zero, Option.some.injEq] at hx; subst hx; simp; omega
  | 2, hx => simp only [List.getElem?_cons_succ, List.getElem?_cons_zero, Option.some.injEq] at hx; subst hx; simp; omega
  | j + 3, hx => simp at hx
 ·rw [if_neg (by omega : ¬ p.kind = 8), if_pos ⟨h2, h7⟩, if_neg (by omega : ¬ p.kind = 8), if_pos ⟨h2, h7⟩]
  simp only [List.foldl_cons, List.foldl_nil, Tr.size]
  have e1 := hL p.a out ha.1 ha.2
  have e2 := hL p.b (postF f k p.a out) hb.1 hb.2
  refine ⟨by omega, fun j x hx => ?_⟩
  match j, hx with
  | 0, hx => simp only [List.getElem?_cons_zero, Option.some.injEq] at hx; subst hx; simp; omega
  | 1, hx => simp only [List.getElem?_cons_succ, List.getElem?_cons_zero, Option.some.injEq] at hx; subst hx; simp; omega
  | j + 2, hx => simp at hx
 ·rw [if_neg (by omega : ¬ p.kind = 8), if_neg (by omega : ¬ (2 ≤ p.kind ∧ p.kind ≤ 7)), if_neg (by omega : ¬ p.kind = 8), if_neg (by omega : ¬ (2 ≤ p.kind ∧ p.kind ≤ 7))]
  exact ⟨rfl, fun j x hx => by simp at hx⟩
end Sg
