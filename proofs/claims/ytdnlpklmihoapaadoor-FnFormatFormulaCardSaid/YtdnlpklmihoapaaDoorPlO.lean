/- Formulas as trees in plain Lean: parts in order, and how many there are. No program in sight. Conditions: in the theorems. -/
import Derived.Test.YtdnlpklmihoapaaDoorCore
namespace Sg
/-- a formula's tree -/
inductive Tr where
 | leaf (k n : Int)
 | bin (k : Int) (x y : Tr)
 | ite (x y z : Tr)
def Tr.size : Tr → Nat
 | .leaf _ _ => 1
 | .bin _ x y => x.size + y.size + 1
 | .ite x y z => x.size + y.size + z.size + 1
/-- its parts in order, the first one at place b -/
def flat : Tr → Nat → List Part
 | .leaf k n, _ => [⟨k, -1, -1, -1, n⟩]
 | .bin k x y, b => flat x b ++ (flat y (b + x.size) ++ [⟨k, (b : Int) + x.size - 1, (b : Int) + x.size + y.size - 1, -1, 0⟩])
 | .ite x y z, b => flat x b ++ (flat y (b + x.size) ++ (flat z (b + x.size + y.size) ++ [⟨8, (b : Int) + x.size - 1, (b : Int) + x.size + y.size - 1, (b : Int) + x.size + y.size + z.size - 1, 0⟩]))
theorem size_pos (t : Tr) : 1 ≤ t.size := by cases t <;> simp [Tr.size]
@[simp] theorem flat_len : ∀ (t : Tr) (b : Nat), (flat t b).length = t.size
 | .leaf _ _, _ => rfl
 | .bin _ x y, b => by simp [flat, Tr.size, flat_len x, flat_len y]; omega
 | .ite x y z, b => by simp [flat, Tr.size, flat_len x, flat_len y, flat_len z]; omega
/-- what may stand in a tree (m: the greatest number) -/
def Tr.ok (m : Int) : Tr → Prop
 | .leaf k n => (k = 0 ∧ 0 ≤ n ∧ n ≤ m) ∨ (k = 1 ∧ 0 ≤ n ∧ n ≤ m)
 | .bin k x y => 2 ≤ k ∧ k ≤ 7 ∧ x.ok m ∧ y.ok m
 | .ite x y z => x.ok m ∧ y.ok m ∧ z.ok m
/-- .. and in one of a valid formula -/
def Tr.good : Tr → Prop
 | .leaf k n => (k = 0 ∧ 0 ≤ n ∧ n ≤ 99) ∨ (k = 1 ∧ 0 ≤ n ∧ n ≤ 9)
 | .bin k x y => 2 ≤ k ∧ k ≤ 7 ∧ x.good ∧ y.good
 | .ite x y z => x.good ∧ y.good ∧ z.good
/-- the kinds alone -/
def Tr.fine : Tr → Prop
 | .leaf k _ => k = 0 ∨ k = 1
 | .bin k x y => 2 ≤ k ∧ k ≤ 7 ∧ x.fine ∧ y.fine
 | .ite x y z => x.fine ∧ y.fine ∧ z.fine
theorem Tr.good.fine : ∀ {t : Tr}, t.good → t.fine
 | .leaf _ _, h => h.imp And.left And.left
 | .bin _ _ _, h => ⟨h.1, h.2.1, h.2.2.1.fine, h.2.2.2.fine⟩
 | .ite _ _ _, h => ⟨h.1.fine, h.2.1.fine, h.2.2.fine⟩
theorem Tr.ok.fine {m : Int} : ∀ {t : Tr}, t.ok m → t.fine
 | .leaf _ _, h => h.imp And.left And.left
 | .bin _ _ _, h => ⟨h.1, h.2.1, h.2.2.1.fine, h.2.2.2.fine⟩
 | .ite _ _ _, h => ⟨h.1.fine, h.2.1.fine, h.2.2.fine⟩
theorem Tr.good.ok : ∀ {t : Tr}, t.good → t.ok 99
 | .leaf k n, h => by
  rcases h with h | h
  ·exact .inl ⟨h.1, h.2.1, by omega⟩
  ·exact .inr ⟨h.1, h.2.1, by omega⟩
 | .bin _ _ _, h => ⟨h.1, h.2.1, h.2.2.1.ok, h.2.2.2.ok⟩
 | .ite _ _ _, h => ⟨h.1.ok, h.2.1.ok, h.2.2.ok⟩
/-- the tree below a part; k: fuel -/
def treeOf (f : List Part) : Nat → Int → Tr
 | 0, _ => .leaf 0 0
 | k + 1, i =>
  let p := f.getD i.toNat default
  if p.kind = 8 then .ite (treeOf f k p.a) (treeOf f k p.b) (treeOf f k p.c)
  else if 2 ≤ p.kind ∧ p.kind ≤ 7 then .bin p.kind (treeOf f k p.a) (treeOf f k p.b)
  else .leaf p.kind p.n
/-- the parts below a part and it, behind others, as both programs put them; k: fuel -/
def postF (f : List Part) : Nat → Int → List Part → List Part
 | 0, _, out => out
 | k + 1, i, out =>
  let p := f.getD i.toNat default
  if p.kind = 8 then
   let o1 := postF f k p.a out
   let o2 := postF f k p.b o1
   let o3 := postF f k p.c o2
   o3 ++ [⟨p.kind, (o1.length : Int) - 1, (o2.length : Int) - 1, (o3.length : Int) - 1, p.n⟩]
  else if 2 ≤ p.kind ∧ p.kind ≤ 7 then
   let o1 := postF f k p.a out
   let o2 := postF f k p.b o1
   o2 ++ [⟨p.kind, (o1.length : Int) - 1, (o2.length : Int) - 1, p.c, p.n⟩]
  else out ++ [p]
def orderF (f : List Part) : List Part := if validF f = true then postF f f.length ((f.length : Int) - 1) [] else []
/-- a part of a valid formula -/
theorem part_cases {f : List Part} (h : ∀ (i : Nat) (p : Part), f[i]? = some p → goodPart p i = true) {i : Nat} {p : Part} (hp : f[i]? = some p) :
  (p.kind = 8 ∧ p.n = 0 ∧ (0 ≤ p.a ∧ p.a < i) ∧ (0 ≤ p.b ∧ p.b < i) ∧ (0 ≤ p.c ∧ p.c < i)) ∨ (2 ≤ p.kind ∧ p.kind ≤ 7 ∧ p.n = 0 ∧ p.c = -1 ∧ (0 ≤ p.a ∧ p.a < i) ∧ (0 ≤ p.b ∧ p.b < i)) ∨
  (((p.kind = 0 ∧ 0 ≤ p.n ∧ p.n ≤ 99) ∨ (p.kind = 1 ∧ 0 ≤ p.n ∧ p.n ≤ 9)) ∧ p.a = -1 ∧ p.b = -1 ∧ p.c = -1) := by
 have hg := h i p hp
 have hb := goodPart_below hg
 unfold goodPart at hg
 rw [Bool.and_eq_true] at hg
 have ha := hg.1
 unfold alone at ha
 unfold below at hb
 by_cases h8 : p.kind = 8
 ·rw [if_pos h8] at hb
  rw [if_neg (by omega), if_neg (by omega), if_pos h8] at ha
  exact .inl ⟨h8, by simpa using ha, hb _ (by simp), hb _ (by simp), hb _ (by simp)⟩
 ·rw [if_neg h8] at hb
  by_cases h27 : 2 ≤ p.kind ∧ p.kind ≤ 7
  ·rw [if_pos h27] at hb
   rw [if_neg (by omega), if_neg (by omega), if_neg h8, if_pos h27] at ha
   simp only [Bool.and_eq_true, beq_iff_eq] at ha
   exact .inr (.inl ⟨h27.1, h27.2, ha.1, ha.2, hb _ (by simp), hb _ (by simp)⟩)
  ·right; right
   by_cases h0 : p.kind = 0
   ·rw [if_pos h0] at ha
    simp only [inR, Bool.and_eq_true, beq_iff_eq, decide_eq_true_eq] at ha
    exact ⟨.inl ⟨h0, ha.1.1.1⟩, ha.1.1.2, ha.1.2, ha.2⟩
   ·rw [if_neg h0] at ha
    by_cases h1 : p.kind = 1
    ·rw [if_pos h1] at ha
     simp only [inR, Bool.and_eq_true, beq_iff_eq, decide_eq_true_eq] at ha
     exact ⟨.inr ⟨h1, ha.1.1.1⟩, ha.1.1.2, ha.1.2, ha.2⟩
    ·rw [if_neg h1, if_neg h8, if_neg h27] at ha
     cases ha
def Goods (f : List Part) : Prop := ∀ (i : Nat) (p : Part), f[i]? = some p → goodPart p i = true
theorem getD_part {f : List Part} {i : Int} (h0 : 0 ≤ i) (h : i < f.length) : ∃ (j : Nat) (p : Part), i = j ∧ f[j]? = some p ∧ f.getD i.toNat default = p := by
 obtain ⟨j, rfl⟩ := Int.eq_ofNat_of_zero_le h0
 have hj : j < f.length := by omega
 exact ⟨j, f[j], rfl, List.getElem?_eq_getElem hj, by simp [List.getD_eq_getElem?_getD, hj]⟩
/-- putting parts in order is laying down the tree -/
theorem postF_flat {f : List Part} (hf : Goods f) : ∀ (k : Nat) (i : Int) (out : List Part), 0 ≤ i → i < f.length → i < k → postF f k i out = out ++ flat (treeOf f k i) out.length
 | 0, i, out, h0, _, h => by omega
 | k + 1, i, out, h0, hl, h => by
  obtain ⟨j, p, rfl, hp, hd⟩ := getD_part h0 hl
  unfold postF treeOf
  simp only [hd]
  rcases part_cases hf hp with ⟨h8, hn, ha, hb, hc⟩ | ⟨h2, h7, hn, hc, ha, hb⟩ | ⟨hk, ha, hb, hc⟩
  ·rw [if_pos h8, if_pos h8, postF_flat hf k p.a out ha.1 (by omega) (by omega), postF_flat hf k p.b _ hb.1 (by omega) (by omega), postF_flat hf k p.c _ hc.1 (by omega) (by omega)]
   simp only [List.length_append, flat_len, flat, List.append_assoc, h8, hn]
   simp only [← Nat.add_assoc, Int.natCast_add]
  ·rw [if_neg (by omega), if_pos ⟨h2, h7⟩, if_neg (by omega), if_pos ⟨h2, h7⟩, postF_flat hf k p.a out ha.1 (by omega) (by omega), postF_flat hf k p.b _ hb.1 (by omega) (by omega)]
   simp only [List.length_append, flat_len, flat, List.append_assoc, hn, hc, Int.natCast_add, Int.add_assoc]
  ·rw [if_neg (by omega), if_neg (by omega), if_neg (by omega), if_neg (by omega)]
   obtain ⟨pk, pa, pb, pc, pn⟩ := p
   simp only at ha hb hc
   subst ha hb hc
   rfl
theorem treeOf_good {f : List Part} (hf : Goods f) : ∀ (k : Nat) (i : Int), 0 ≤ i → i < f.length → i < k → (treeOf f k i).good
 | 0, i, h0, _, h => by omega
 | k + 1, i, h0, hl, h => by
  obtain ⟨j, p, rfl, hp, hd⟩ := getD_part h0 hl
  unfold treeOf
  simp only [hd]
  rcases part_cases hf hp with ⟨h8, hn, ha, hb, hc⟩ | ⟨h2, h7, hn, hc, ha, hb⟩ | ⟨hk, ha, hb, hc⟩
  ·rw [if_pos h8]
   exact ⟨treeOf_good hf k p.a ha.1 (by omega) (by omega), treeOf_good hf k p.b hb.1 (by omega) (by omega), treeOf_good hf k p.c hc.1 (by omega) (by omega)⟩
  ·rw [if_neg (by omega), if_pos ⟨h2, h7⟩]
   exact ⟨h2, h7, treeOf_good hf k p.a ha.1 (by omega) (by omega), treeOf_good hf k p.b hb.1 (by omega) (by omega)⟩
  ·rw [if_neg (by omega), if_neg (by omega)]
   exact hk
/-- more fuel gives the same tree -/
theorem treeOf_fuel {f : List Part} (hf : Goods f) : ∀ (k m : Nat) (i : Int), 0 ≤ i → i < f.length → i < k → i < m → treeOf f k i = treeOf f m i
 | 0, _, i, h0, _, h, _ => by omega
 | _, 0, i, h0, _, _, h => by omega
 | k + 1, m + 1, i, h0, hl, h, h' => by
  obtain ⟨j, p, rfl, hp, hd⟩ := getD_part h0 hl
  unfold treeOf
  simp only [hd]
  rcases part_cases hf hp with ⟨h8, hn, ha, hb, hc⟩ | ⟨h2, h7, hn, hc, ha, hb⟩ | ⟨hk, ha, hb, hc⟩
  ·rw [if_pos h8, if_pos h8, treeOf_fuel hf k m p.a ha.1 (by omega) (by omega) (by omega), treeOf_fuel hf k m p.b hb.1 (by omega) (by omega) (by omega), treeOf_fuel hf k m p.c hc.1 (by omega) (by omega) (by omega)]
  ·rw [if_neg (by omega), if_pos ⟨h2, h7⟩, if_neg (by omega), if_pos ⟨h2, h7⟩, treeOf_fuel hf k m p.a ha.1 (by omega) (by omega) (by omega), treeOf_fuel hf k m p.b hb.1 (by omega) (by omega) (by omega)]
  ·rw [if_neg (by omega), if_neg (by omega), if_neg (by omega), if_neg (by omega)]
/-! how many parts a tree has: each part of a valid formula is below one other -/
def sizeAt (f : List Part) (i : Int) : Nat := (treeOf f f.length i).size
def sumS (f : List Part) (l : List Int) : Nat := (l.map (sizeAt f)).sum
theorem sizeAt_eq {f : List Part} (hf : Goods f) {i : Nat} {p : Part} (hp : f[i]? = some p) : sizeAt f (i : Int) = 1 + sumS f (below p) := by
 have hi := (List.getElem?_eq_some_iff.1 hp).1
 obtain ⟨j, q, e, hq, hd⟩ := getD_part (f := f) (i := (i : Int)) (by omega) (by omega)
 obtain rfl : i = j := by omega
 rw [hp] at hq
 injection hq with hq
 subst hq
 unfold sizeAt sumS
 obtain ⟨k, hk⟩ : ∃ k, f.length = k + 1 := ⟨f.length - 1, by omega⟩
 have e1 : ∀ x : Int, 0 ≤ x → x < i → treeOf f k x = treeOf f f.length x := fun x h0 h1 => treeOf_fuel hf k f.length x h0 (by omega) (by omega) (by omega)
 rw [show treeOf f f.length (i : Int) = treeOf f (k + 1) (i : Int) by rw [hk]]
 unfold treeOf
 simp only [hd]
 unfold below
 rcases part_cases hf hp with ⟨h8, hn, ha, hb, hc⟩ | ⟨h2, h7, hn, hc, ha, hb⟩ | ⟨hk, ha, hb, hc⟩
 ·rw [if_pos h8, if_pos h8, e1 _ ha.1 ha.2, e1 _ hb.1 hb.2, e1 _ hc.1 hc.2]
  simp [Tr.size, sizeAt]; omega
 ·rw [if_neg (by omega), if_pos ⟨h2, h7⟩, if_neg (by omega), if_pos ⟨h2, h7⟩, e1 _ ha.1 ha.2, e1 _ hb.1 hb.2]
  simp [Tr.size, sizeAt]; omega
 ·rw [if_neg (by omega), if_neg (by omega), if_neg (by omega), if_neg (by omega)]
  rfl
/-- the numbers below n that are not in a list -/
def freeOf (n : Nat) (l : List Int) : List Int := ((List.range n).map Int.ofNat).filter fun i => decide (i ∉ l)
theorem sum_filter_split (f : List Part) (p q : Int → Bool) (l : List Int) (h : ∀ x ∈ l, p x = true → q x = true) : sumS f (l.filter q) = sumS f (l.filter p) + sumS f (l.filter fun x => q x && !p x) := by
 induction l with
 | nil => rfl
 | cons x l ih =>
  have ih := ih (fun y hy => h y (by simp [hy]))
  have hx := h x (by simp)
  unfold sumS at ih ⊢
  cases hp : p x
  ·cases hq : q x
   ·simp [hp, hq, ih]
   ·simp [hp, hq, ih]; omega
  ·have hq := hx hp
   simp [hp, hq, ih]; omega
theorem sumS_perm (f : List Part) {l m : List Int} (h : l.Perm m) : sumS f l = sumS f m := (h.map _).sum_nat
/-- what is not yet below another part, among the first k parts: together as many as k -/
theorem free_sum {f : List Part} (hf : Goods f) (hu : ∀ i : Nat, (belows f).count (i : Int) ≤ 1) (k : Nat) (hk : k ≤ f.length) : sumS f (freeOf k (belows (f.take k))) = k := by
 induction k with
 | zero => rfl
 | succ k ih =>
  have ih := ih (by omega)
  have hp : f[k]? = some f[k] := List.getElem?_eq_getElem (by omega)
  generalize f[k] = p at hp
  have ht : f.take (k + 1) = f.take k ++ [p] := by rw [List.take_add_one, hp]; rfl
  have hbel : belows (f.take (k + 1)) = belows (f.take k) ++ below p := by unfold belows; rw [ht, List.flatMap_append]; simp
  have hsz := sizeAt_eq hf hp
  have hlt := goodPart_below (hf k p hp)
  have hcount : ∀ i : Int, 0 ≤ i → (belows (f.take k)).count i + (below p).count i ≤ 1 := fun i hi => by
   obtain ⟨j, rfl⟩ := Int.eq_ofNat_of_zero_le hi
   have e : belows f = belows (f.take (k + 1)) ++ belows (f.drop (k + 1)) := by unfold belows; rw [← List.flatMap_append, List.take_append_drop]
   have := hu j
   rw [e, List.count_append, hbel, List.count_append] at this
   omega
  have hbk : ∀ x ∈ belows (f.take k), 0 ≤ x ∧ x < (k : Int) := fun x hx => by
   unfold belows at hx
   rw [List.mem_flatMap] at hx
   obtain ⟨q, hq, hx⟩ := hx
   obtain ⟨j, hj, e⟩ := List.getElem_of_mem hq
   rw [List.getElem_take] at e
   have hjk : j < k := by rw [List.length_take] at hj; omega
   have := goodPart_below (hf j q (by rw [← e]; exact List.getElem?_eq_getElem (by omega))) x hx
   omega
  have h1 : freeOf (k + 1) (belows (f.take (k + 1))) = (freeOf k (belows (f.take k))).filter (fun i => decide (i ∉ below p)) ++ [(k : Int)] := by
   unfold freeOf
   rw [List.range_succ, List.map_append, List.filter_append, List.filter_filter, hbel]
   congr 1
   ·congr 1
    funext i
    simp [List.mem_append, not_or, Bool.and_comm]
   ·have h1 : ((k : Int)) ∉ belows (f.take k) := fun e => by have := hbk _ e; omega
    have h2 : ((k : Int)) ∉ below p := fun e => by have := hlt _ e; omega
    simp [h1, h2]
  have h2 : sumS f (freeOf k (belows (f.take k))) = sumS f ((freeOf k (belows (f.take k))).filter fun i => decide (i ∉ below p)) + sumS f (below p) := by
   have hs := sum_filter_split f (fun i => decide (i ∉ below p)) (fun _ => true) (freeOf k (belows (f.take k))) (fun _ _ _ => rfl)
   rw [List.filter_eq_self.2 (fun _ _ => rfl)] at hs
   rw [hs]
   congr 1
   refine sumS_perm f ?_
   have hnd : (below p).Nodup := List.nodup_iff_count.2 fun x => by
    by_cases hx : x ∈ below p
    ·have := hcount x (hlt x hx).1; omega
    ·rw [List.count_eq_zero_of_not_mem hx]; omega
   refine (List.perm_ext_iff_of_nodup ?_ hnd).2 fun x => ?_
   ·refine List.Nodup.sublist (List.filter_sublist) ?_
    unfold freeOf
    refine List.Nodup.sublist (List.filter_sublist) ?_
    rw [List.nodup_iff_pairwise_ne, List.pairwise_map]
    exact (List.nodup_iff_pairwise_ne.1 (List.nodup_range)).imp fun h e => h (Int.ofNat.inj e)
   ·simp only [List.mem_filter, decide_not, Bool.not_not, Bool.true_and, decide_eq_true_eq]
    refine ⟨fun h => h.2, fun hx => ⟨?_, hx⟩⟩
    have hr := hlt x hx
    obtain ⟨j, rfl⟩ := Int.eq_ofNat_of_zero_le hr.1
    unfold freeOf
    rw [List.mem_filter]
    refine ⟨List.mem_map.2 ⟨j, List.mem_range.2 (by omega), rfl⟩, decide_eq_true fun e => ?_⟩
    have := hcount j hr.1
    have c1 := List.count_pos_iff.2 e
    have c2 := List.count_pos_iff.2 hx
    omega
  rw [h1]
  unfold sumS at *
  rw [List.map_append, List.sum_append]
  simp only [List.map_cons, List.map_nil, List.sum_cons, List.sum_nil]
  omega
theorem validF_goods {f : List Part} (h : validF f = true) : Goods f := validF_good h
theorem validF_uses {f : List Part} (h : validF f = true) : usesOk f = true := by
 unfold validF at h
 simp only [Bool.and_eq_true] at h
 exact h.2
theorem mem_belows {f : List Part} (hf : Goods f) {x : Int} (hx : x ∈ belows f) : 0 ≤ x ∧ x + 1 < (f.length : Int) := by
 unfold belows at hx
 rw [List.mem_flatMap] at hx
 obtain ⟨q, hq, hx⟩ := hx
 obtain ⟨j, hj, rfl⟩ := List.getElem_of_mem hq
 have := goodPart_below (hf j _ (List.getElem?_eq_getElem hj)) x hx
 omega
theorem uses_count {f : List Part} (h : validF f = true) (i : Nat) : (belows f).count (i : Int) = if i + 1 < f.length then 1 else 0 := by
 split
 ·rename_i hi
  have hu := validF_uses h
  unfold usesOk at hu
  rw [List.all_eq_true] at hu
  simpa using hu i (List.mem_range.2 (by omega))
 ·rename_i hi
  refine List.count_eq_zero_of_not_mem fun e => ?_
  have := mem_belows (validF_goods h) e
  omega
/-- the tree of a valid formula has all its parts -/
theorem tree_size {f : List Part} (h : validF f = true) : (treeOf f f.length ((f.length : Int) - 1)).size = f.length := by
 have hl := validF_len h
 have hs := free_sum (validF_goods h) (fun i => by rw [uses_count h]; split <;> omega) f.length (Nat.le_refl _)
 rw [List.take_length] at hs
 have e : freeOf f.length (belows f) = [((f.length - 1 : Nat) : Int)] := by
  obtain ⟨n, hn⟩ : ∃ n, f.length = n + 1 := ⟨f.length - 1, by omega⟩
  unfold freeOf
  rw [hn, List.range_succ, List.map_append, List.filter_append]
  have h1 : ((List.range n).map Int.ofNat).filter (fun i => decide (i ∉ belows f)) = [] := by
   rw [List.filter_eq_nil_iff]
   intro x hx
   obtain ⟨j, hj, rfl⟩ := List.mem_map.1 hx
   have hj := List.mem_range.1 hj
   have hc := uses_count h j
   rw [if_pos (by omega)] at hc
   have := List.count_pos_iff.1 (show 0 < (belows f).count (j : Int) by omega)
   simpa using this
  have h2 : ((n : Nat) : Int) ∉ belows f := fun e => by
   have := mem_belows (validF_goods h) e
   omega
  rw [h1]
  simp [h2]
 rw [e] at hs
 unfold sumS sizeAt at hs
 simp only [List.map_cons, List.map_nil, List.sum_cons, List.sum_nil, Nat.add_zero] at hs
 rw [show ((f.length : Int) - 1) = ((f.length - 1 : Nat) : Int) by omega]
 exact hs
theorem order_flat {f : List Part} (h : validF f = true) : orderF f = flat (treeOf f f.length ((f.length : Int) - 1)) 0 := by
 have hl := validF_len h
 unfold orderF
 rw [if_pos h, postF_flat (validF_goods h) _ _ _ (by omega) (by omega) (by omega)]
 rfl
theorem order_tree {f : List Part} (h : validF f = true) : (treeOf f f.length ((f.length : Int) - 1)).good := by
 have hl := validF_len h
 exact treeOf_good (validF_goods h) _ _ (by omega) (by omega) (by omega)
/-! parts in order are a valid formula, and in order already -/
theorem belows_app (a b : List Part) : belows (a ++ b) = belows a ++ belows b := by unfold belows; rw [List.flatMap_append]
theorem belows_one (p : Part) : belows [p] = below p := by unfold belows; simp
theorem flat_count : ∀ (t : Tr) (b i : Nat), t.fine → (belows (flat t b)).count (i : Int) = if b ≤ i ∧ i + 1 < b + t.size then 1 else 0
 | .leaf k n, b, i, h => by
  have : belows (flat (.leaf k n) b) = [] := by
   show belows [_] = []
   rw [belows_one]
   unfold below
   rcases h with rfl | rfl
   ·rfl
   ·rfl
  rw [this, if_neg (by simp only [Tr.size]; omega)]
  rfl
 | .bin k x y, b, i, h => by
  obtain ⟨h2, h7, hx, hy⟩ := h
  have px := size_pos x
  have py := size_pos y
  have e : below (⟨k, (b : Int) + x.size - 1, (b : Int) + x.size + y.size - 1, -1, 0⟩ : Part) = [(b : Int) + x.size - 1, (b : Int) + x.size + y.size - 1] := by
   unfold below
   rw [if_neg (by simp only; omega), if_pos ⟨h2, h7⟩]
  have hsz : (Tr.bin k x y).size = x.size + y.size + 1 := rfl
  by_cases hR : b ≤ i ∧ i + 1 < b + (Tr.bin k x y).size
  ·rw [if_pos hR]
   simp only [flat, belows_app, belows_one, e, List.count_append, flat_count x b i hx, flat_count y (b + x.size) i hy, List.count_cons, List.count_nil, beq_iff_eq]
   split <;> split <;> split <;> split <;> omega
  ·rw [if_neg hR]
   simp only [flat, belows_app, belows_one, e, List.count_append, flat_count x b i hx, flat_count y (b + x.size) i hy, List.count_cons, List.count_nil, beq_iff_eq]
   split <;> split <;> split <;> split <;> omega
 | .ite x y z, b, i, h => by
  obtain ⟨hx, hy, hz⟩ := h
  have px := size_pos x
  have py := size_pos y
  have pz := size_pos z
  have e : below (⟨8, (b : Int) + x.size - 1, (b : Int) + x.size + y.size - 1, (b : Int) + x.size + y.size + z.size - 1, 0⟩ : Part) = [(b : Int) + x.size - 1, (b : Int) + x.size + y.size - 1, (b : Int) + x.size + y.size + z.size - 1] := by
   unfold below
   rw [if_pos rfl]
  have hsz : (Tr.ite x y z).size = x.size + y.size + z.size + 1 := rfl
  by_cases hR : b ≤ i ∧ i + 1 < b + (Tr.ite x y z).size
  ·rw [if_pos hR]
   simp only [flat, belows_app, belows_one, e, List.count_append, flat_count x b i hx, flat_count y (b + x.size) i hy, flat_count z (b + x.size + y.size) i hz, List.count_cons, List.count_nil, beq_iff_eq]
   split <;> split <;> split <;> split <;> split <;> split <;> omega
  ·rw [if_neg hR]
   simp only [flat, belows_app, belows_one, e, List.count_append, flat_count x b i hx, flat_count y (b + x.size) i hy, flat_count z (b + x.size + y.size) i hz, List.count_cons, List.count_nil, beq_iff_eq]
   split <;> split <;> split <;> split <;> split <;> split <;> omega
theorem goodFrom_app (a b : List Part) (i : Nat) : goodFrom i (a ++ b) = (goodFrom i a && goodFrom (i + a.length) b) := by
 induction a generalizing i with
 | nil => simp [goodFrom]
 | cons p a ih => simp [goodFrom, ih, Bool.and_assoc, Nat.add_comm, Nat.add_left_comm]
theorem goodFrom_one (p : Part) (i : Nat) : goodFrom i [p] = goodPart p i := by simp [goodFrom]
theorem flat_good : ∀ (t : Tr) (b : Nat), t.good → goodFrom b (flat t b) = true
 | .leaf k n, b, h => by
  show goodFrom b [_] = true
  rw [goodFrom_one]
  unfold goodPart alone below
  rcases h with ⟨rfl, h⟩ | ⟨rfl, h⟩
  ·simp [inR, h]
  ·simp [inR, h]
 | .bin k x y, b, h => by
  obtain ⟨h2, h7, hx, hy⟩ := h
  have px := size_pos x
  have py := size_pos y
  simp only [flat, goodFrom_app, goodFrom_one, flat_len, flat_good x b hx, flat_good y (b + x.size) hy, Bool.true_and]
  unfold goodPart alone below
  simp only
  rw [if_neg (by omega), if_neg (by omega), if_neg (by omega), if_pos ⟨h2, h7⟩, if_neg (by omega), if_pos ⟨h2, h7⟩]
  simp only [List.all_cons, List.all_nil, inR, Bool.and_true, Bool.and_eq_true, beq_self_eq_true, decide_eq_true_eq, true_and]
  omega
 | .ite x y z, b, h => by
  obtain ⟨hx, hy, hz⟩ := h
  have px := size_pos x
  have py := size_pos y
  have pz := size_pos z
  simp only [flat, goodFrom_app, goodFrom_one, flat_len, flat_good x b hx, flat_good y (b + x.size) hy, flat_good z (b + x.size + y.size) hz, Bool.true_and]
  unfold goodPart alone below
  simp only
  rw [if_neg (by omega), if_neg (by omega), if_pos trivial, if_pos trivial]
  simp only [List.all_cons, List.all_nil, inR, Bool.and_true, Bool.and_eq_true, beq_self_eq_true, decide_eq_true_eq, true_and]
  omega
theorem flat_valid {t : Tr} (h : t.good) (hs : t.size ≤ 12) : validF (flat t 0) = true := by
 have hp := size_pos t
 unfold validF
 rw [flat_good t 0 h, flat_len]
 simp only [Bool.and_true, Bool.and_eq_true]
 refine ⟨by simp [inR]; omega, ?_⟩
 unfold usesOk
 rw [List.all_eq_true]
 intro i hi
 rw [flat_len] at hi
 have hi := List.mem_range.1 hi
 rw [flat_count t 0 i h.fine, if_pos (by omega)]
 rfl
/-- a tree that is laid down is found again -/
theorem tree_flat : ∀ (t : Tr) (b k : Nat) (f : List Part) (n : Nat), t.good → f.length = n → b + t.size ≤ n → (∀ j p, (flat t b)[j]? = some p → f[b + j]? = some p) → b + t.size ≤ k → treeOf f k ((b + t.size : Nat) - 1 : Int) = t
 | .leaf c n, b, k, f, _, hg, rfl, hl, hf, hk => by
  obtain ⟨k, rfl⟩ : ∃ m, k = m + 1 := ⟨k - 1, by simp only [Tr.size] at hk; omega⟩
  have h0 := hf 0 ⟨c, -1, -1, -1, n⟩ rfl
  have e : (((b + (Tr.leaf c n).size : Nat) : Int) - 1).toNat = b := by simp only [Tr.size]; omega
  unfold treeOf
  simp only [e, List.getD_eq_getElem?_getD]
  rw [Nat.add_zero] at h0
  rw [h0]
  simp only [Option.getD_some]
  rcases hg with ⟨rfl, -⟩ | ⟨rfl, -⟩
  ·rw [if_neg (by decide), if_neg (by decide)]
  ·rw [if_neg (by decide), if_neg (by decide)]
 | .bin c x y, b, k, f, _, hg, rfl, hl, hf, hk => by
  obtain ⟨h2, h7, hx, hy⟩ := hg
  simp only [Tr.size] at hl hk
  obtain ⟨k, rfl⟩ : ∃ m, k = m + 1 := ⟨k - 1, by omega⟩
  have lx := flat_len x b
  have ly := flat_len y (b + x.size)
  have h0 := hf (x.size + y.size) ⟨c, (b : Int) + x.size - 1, (b : Int) + x.size + y.size - 1, -1, 0⟩ (by
   simp only [flat]
   rw [List.getElem?_append_right (by omega), List.getElem?_append_right (by omega), lx, ly, show x.size + y.size - x.size - y.size = 0 by omega]
   rfl)
  have e : (((b + (Tr.bin c x y).size : Nat) : Int) - 1).toNat = b + (x.size + y.size) := by simp only [Tr.size]; omega
  unfold treeOf
  simp only [e, List.getD_eq_getElem?_getD, h0, Option.getD_some]
  rw [if_neg (by omega), if_pos ⟨h2, h7⟩]
  have ex := tree_flat x b k f _ hx rfl (by omega) (fun j p hj => hf j p (by simp only [flat]; rw [List.getElem?_append_left (List.getElem?_eq_some_iff.1 hj).1]; exact hj)) (by omega)
  have ey := tree_flat y (b + x.size) k f _ hy rfl (by omega) (fun j p hj => by
   have := hf (x.size + j) p (by
    simp only [flat]
    rw [List.getElem?_append_right (by omega), lx, show x.size + j - x.size = j by omega, List.getElem?_append_left (List.getElem?_eq_some_iff.1 hj).1]
    exact hj)
   rwa [← Nat.add_assoc] at this) (by omega)
  rw [show (b : Int) + x.size - 1 = ((b + x.size : Nat) : Int) - 1 by omega, ex, show (b : Int) + x.size + y.size - 1 = ((b + x.size + y.size : Nat) : Int) - 1 by omega, ey]
 | .ite x y z, b, k, f, _, hg, rfl, hl, hf, hk => by
  obtain ⟨hx, hy, hz⟩ := hg
  simp only [Tr.size] at hl hk
  obtain ⟨k, rfl⟩ : ∃ m, k = m + 1 := ⟨k - 1, by omega⟩
  have lx := flat_len x b
  have ly := flat_len y (b + x.size)
  have lz := flat_len z (b + x.size + y.size)
  have h0 := hf (x.size + (y.size + z.size)) ⟨8, (b : Int) + x.size - 1, (b : Int) + x.size + y.size - 1, (b : Int) + x.size + y.size + z.size - 1, 0⟩ (by
   simp only [flat]
   rw [List.getElem?_append_right (by omega), List.getElem?_append_right (by omega), List.getElem?_append_right (by omega), lx, ly, lz, show x.size + (y.size + z.size) - x.size - y.size - z.size = 0 by omega]
   rfl)
  have e : (((b + (Tr.ite x y z).size : Nat) : Int) - 1).toNat = b + (x.size + (y.size + z.size)) := by simp only [Tr.size]; omega
  unfold treeOf
  simp only [e, List.getD_eq_getElem?_getD, h0, Option.getD_some]
  rw [if_pos trivial]
  have ex := tree_flat x b k f _ hx rfl (by omega) (fun j p hj => hf j p (by simp only [flat]; rw [List.getElem?_append_left (List.getElem?_eq_some_iff.1 hj).1]; exact hj)) (by omega)
  have ey := tree_flat y (b + x.size) k f _ hy rfl (by omega) (fun j p hj => by
   have := hf (x.size + j) p (by
    simp only [flat]
    rw [List.getElem?_append_right (by omega), lx, show x.size + j - x.size = j by omega, List.getElem?_append_left (List.getElem?_eq_some_iff.1 hj).1]
    exact hj)
   rwa [← Nat.add_assoc] at this) (by omega)
  have ez := tree_flat z (b + x.size + y.size) k f _ hz rfl (by omega) (fun j p hj => by
   have := hf (x.size + (y.size + j)) p (by
    simp only [flat]
    rw [List.getElem?_append_right (by omega), List.getElem?_append_right (by omega), lx, ly, show x.size + (y.size + j) - x.size - y.size = j by omega, List.getElem?_append_left (List.getElem?_eq_some_iff.1 hj).1]
    exact hj)
   rwa [← Nat.add_assoc, ← Nat.add_assoc] at this) (by omega)
  rw [show (b : Int) + x.size - 1 = ((b + x.size : Nat) : Int) - 1 by omega, ex, show (b : Int) + x.size + y.size - 1 = ((b + x.size + y.size : Nat) : Int) - 1 by omega, ey, show (b : Int) + x.size + y.size + z.size - 1 = ((b + x.size + y.size + z.size : Nat) : Int) - 1 by omega, ez]
theorem order_flat_flat {t : Tr} (h : t.good) (hs : t.size ≤ 12) : orderF (flat t 0) = flat t 0 := by
 rw [order_flat (flat_valid h hs)]
 have := tree_flat t 0 (flat t 0).length (flat t 0) t.size h (by simp) (by omega) (fun j p hj => by simpa using hj) (by simp)
 rw [Nat.zero_add] at this
 rw [show (((flat t 0).length : Nat) : Int) - 1 = (t.size : Int) - 1 by simp, this]
end Sg
