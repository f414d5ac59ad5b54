/- The plain law of the hasty machine's runs: what must run has run, and what ran may run. No program in sight. Conditions: none. -/
import Derived.Test.YtmkfjnkdaeoppaaGreatModelHY
import Derived.Test.YtmkfjnkdaeoppaaGreatModelT
namespace Sg
/-- what a call of hasty has done -/
structure HRan (g : Graph) (s t : HS) : Prop where
 a : ∀ x ∈ s.ran, x ∈ t.ran
 b : ∀ i, i < g.length → t.reads.getD i [] ≠ s.reads.getD i [] → (i : Int) ∈ t.ran
 c : ∀ j, j < g.length → t.vals.getD j 0 ≠ s.vals.getD j 0 → ∀ i, i < g.length → (j : Int) ∈ s.reads.getD i [] → (i : Int) ∈ t.ran
 e : ∀ j, j < g.length → t.vals.getD j 0 ≠ s.vals.getD j 0 → (j : Int) ∈ t.ran
theorem hasty_ran {g : Graph} (hG : validG g = true) : ∀ (f n : Nat) (s : HS), HIn g s → (hastyS g f n s).ran.length < 200 → 201 ≤ f + s.ran.length →
  HRan g s (hastyS g f n s) ∧ ∀ i, i < g.length → (n : Int) ∈ s.reads.getD i [] → (i : Int) ∈ (hastyS g f n s).ran := by
 intro f
 induction f with
 | zero =>
  intro n s h h1 h2
  have : (hastyS g 0 n s).ran.length = s.ran.length := rfl
  omega
 | succ f ih =>
  intro n s h h1 h2
  rw [← hastyTo_all] at h1 ⊢
  have hne : ∀ k, k ≤ g.length → (hastyTo g f n s k).ran.length < 200 := by
   intro k hk
   have := (hastyTo_in hG f n s h k hk).1.m
   apply Classical.byContradiction
   intro hno
   have := hastyTo_full hk (show (hastyTo g f n s k).ran.length = 200 by omega)
   rw [this] at h1
   omega
  have key : ∀ k, k ≤ g.length → HRan g s (hastyTo g f n s k) ∧ ∀ i, i < k → (n : Int) ∈ s.reads.getD i [] → (i : Int) ∈ (hastyTo g f n s k).ran := by
   intro k
   induction k with
   | zero => intro _; exact ⟨⟨fun x hx => hx, fun i _ h => absurd rfl h, fun j _ h => absurd rfl h, fun j _ h => absurd rfl h⟩, fun i h => by omega⟩
   | succ k ihk =>
    intro hk
    obtain ⟨J, D⟩ := ihk (by omega)
    obtain ⟨ht, hts⟩ := hastyTo_in hG f n s h k (by omega)
    have hlt := hne k (by omega)
    have hlt1 := hne (k + 1) hk
    rw [hastyTo_succ] at hlt1 ⊢
    generalize hastyTo g f n s k = t at *
    unfold stepH at hlt1 ⊢
    by_cases hc : (n : Int) ∈ t.reads.getD k []
    ·have hcc : (n : Int) ∈ t.reads.getD k [] ∧ t.ran.length ≠ 200 := ⟨hc, by omega⟩
     rw [if_pos hcc] at hlt1 ⊢
     have hu := ht.ran hG (by omega) hcc.1 hcc.2
     have hur : (ranH g t k).ran = t.ran ++ [(k : Int)] := rfl
     have hul : (ranH g t k).ran.length = t.ran.length + 1 := by simp [ranH]
     have hku : (k : Int) ∈ (ranH g t k).ran := by rw [hur]; simp
     have htu : ∀ x ∈ t.ran, x ∈ (ranH g t k).ran := fun x hx => by rw [hur]; simp [hx]
     have hub : ∀ i, i < g.length → (ranH g t k).reads.getD i [] ≠ s.reads.getD i [] → (i : Int) ∈ (ranH g t k).ran := by
      intro i hi hd
      rw [ran_reads ht (by omega)] at hd
      split at hd
      ·rename_i e; rw [e]; exact hku
      ·exact htu _ (J.b i hi hd)
     have hue : ∀ j, j < g.length → j ≠ k → (ranH g t k).vals.getD j 0 ≠ s.vals.getD j 0 → t.vals.getD j 0 ≠ s.vals.getD j 0 := by
      intro j hj hjk hd
      rwa [ran_vals ht (by omega), if_neg hjk] at hd
     by_cases hv : (runF (g.getD k default).f t.vals).1 = t.vals.getD k 0
     ·rw [if_pos hv] at hlt1 ⊢
      have hvv : ∀ j, (ranH g t k).vals.getD j 0 = t.vals.getD j 0 := by
       intro j
       rw [ran_vals ht (by omega)]
       split
       ·rename_i e; rw [e, hv]
       ·rfl
      refine ⟨⟨fun x hx => htu x (J.a x hx), hub, fun j hj hd i hi hm => htu _ (J.c j hj (by rwa [hvv] at hd) i hi hm), fun j hj hd => htu _ (J.e j hj (by rwa [hvv] at hd))⟩, fun i hi hm => ?_⟩
      by_cases hik : i = k
      ·rw [hik]; exact hku
      ·exact htu _ (D i (by omega) hm)
     ·rw [if_neg hv] at hlt1 ⊢
      obtain ⟨Q, Q1⟩ := ih k (ranH g t k) hu hlt1 (by omega)
      generalize hastyS g f k (ranH g t k) = t' at *
      refine ⟨⟨fun x hx => Q.a x (htu x (J.a x hx)), fun i hi hd => ?_, fun j hj hd i hi hm => ?_, fun j hj hd => ?_⟩, fun i hi hm => ?_⟩
      ·by_cases h3 : t'.reads.getD i [] = (ranH g t k).reads.getD i []
       ·rw [h3] at hd; exact Q.a _ (hub i hi hd)
       ·exact Q.b i hi h3
      ·by_cases hs : (ranH g t k).reads.getD i [] = s.reads.getD i []
       ·by_cases h3 : t'.vals.getD j 0 = (ranH g t k).vals.getD j 0
        ·rw [h3] at hd
         by_cases hjk : j = k
         ·subst hjk; exact Q1 i hi (by rw [hs]; exact hm)
         ·exact Q.a _ (htu _ (J.c j hj (hue j hj hjk hd) i hi hm))
        ·exact Q.c j hj h3 i hi (by rw [hs]; exact hm)
       ·exact Q.a _ (hub i hi hs)
      ·by_cases h3 : t'.vals.getD j 0 = (ranH g t k).vals.getD j 0
       ·rw [h3] at hd
        by_cases hjk : j = k
        ·rw [hjk]; exact Q.a _ hku
        ·exact Q.a _ (htu _ (J.e j hj (hue j hj hjk hd)))
       ·exact Q.e j hj h3
      ·by_cases hik : i = k
       ·rw [hik]; exact Q.a _ hku
       ·exact Q.a _ (htu _ (D i (by omega) hm))
    ·rw [if_neg (fun e => hc e.1)] at hlt1 ⊢
     refine ⟨J, fun i hi hm => ?_⟩
     by_cases hik : i = k
     ·subst hik
      exact J.b i (by omega) (fun e => hc (by rw [e]; exact hm))
     ·exact D i (by omega) hm
  exact ⟨(key g.length (Nat.le_refl _)).1, (key g.length (Nat.le_refl _)).2⟩
/-- what must run has run -/
theorem hasty_must {g : Graph} {st : Eager} {n x : Int} (h : mayHasty g st n x = true) (hr : (hastyR g st n.toNat x).ran.length < 200) : ∀ y ∈ (writeE g st [n] [x]).2, y ∈ (hastyR g st n.toNat x).ran := by
 obtain ⟨h1, h2, h3⟩ := mayHasty_parts h
 have hst := hasty_write h hr
 rw [write_start (mayHasty_write h)] at hst ⊢
 dsimp only at hst ⊢
 have hC := written_valid (mayHasty_write h)
 generalize hb : writtenL (cellsOf g st.vals) [n] [x] = b at *
 obtain ⟨k, nd, rfl, hnd, hkd⟩ := isCell_at h2
 rw [Int.toNat_natCast] at hr hst ⊢
 obtain ⟨hG, hv, hrl, hnr, hR⟩ := validE_parts h1
 have hkl := (List.getElem?_eq_some_iff.1 hnd).1
 have hmb : mean g b = (hastyR g st k x).vals := congrArg Eager.vals hst
 have hma : mean g (cellsOf g st.vals) = st.vals := validE_mean h1
 intro y hy
 unfold mustOr at hy
 split at hy
 ·rw [mem_whichL] at hy
  obtain ⟨i, rfl, hi, hm⟩ := hy
  rw [hma, hmb] at hm
  have hni : g[i]? = some (g.getD i default) := by rw [List.getD_eq_getElem?_getD, List.getElem?_eq_getElem hi]; rfl
  unfold mustAt kindAt at hm
  rw [Int.toNat_natCast] at hm
  simp only [Bool.and_eq_true, bne_iff_ne, ne_eq, Bool.or_eq_true, List.any_eq_true] at hm
  obtain ⟨h0, hm⟩ := hm
  have hdep : depAt g st.vals i = st.reads.getD i [] := by
   unfold depAt
   rw [if_neg h0, rightAt_run hni h0 (hR i hi)]
  have hik : i ≠ k := by
   intro e
   subst e
   rw [getD_of hnd] at h0
   exact h0 hkd
  unfold hastyR at hm hr ⊢
  by_cases e : st.vals.getD k 0 = x
  ·rw [if_pos e] at hm
   rcases hm with hm | ⟨z, _, hz⟩
   ·exact absurd rfl hm
   ·exact absurd rfl hz
  ·rw [if_neg e] at hm hr ⊢
   obtain ⟨Q, Q1⟩ := hasty_ran hG 201 k _ (HIn.of h1 h3) hr (by simp)
   rcases hm with hm | ⟨z, hz, hd⟩
   ·refine Q.e i hi (fun e2 => hm ?_)
    rw [e2]
    show st.vals.getD i 0 = (st.vals.set k x).getD i 0
    rw [getD_setH _ _ _ _ _ (by rw [hv]; exact hkl), if_neg hik]
   ·rw [hdep] at hz
    have hzr := (WrIn.of h1).rd i hi z hz
    obtain ⟨j, rfl⟩ := Int.eq_ofNat_of_zero_le hzr.1
    by_cases hjk : j = k
    ·subst hjk; exact Q1 i hi hz
    ·refine Q.c j (by omega) (fun e2 => hd ?_) i hi hz
     unfold rd
     rw [Int.toNat_natCast, e2]
     show st.vals.getD j 0 = (st.vals.set k x).getD j 0
     rw [getD_setH _ _ _ _ _ (by rw [hv]; exact hkl), if_neg hjk]
 ·cases hy
/-- the reads are among what may be read -/
def ReadsMay (g : Graph) (s : HS) : Prop := ∀ i, i < g.length → ∀ x ∈ s.reads.getD i [], x ∈ mayRead (g.getD i default).f
theorem run_mayH {g : Graph} (hG : validG g = true) {i : Nat} (hi : i < g.length) (h0 : (g.getD i default).kind ≠ 0) (v : List Int) : ∀ x ∈ (runF (g.getD i default).f v).2, x ∈ mayRead (g.getD i default).f := by
 intro x hx
 unfold runF at hx
 obtain ⟨p, hp, h1, rfl⟩ := reck_mem _ _ _ _ _ ((mem_firstOnly _ _).1 hx)
 have hg := validG_node hG i hi
 unfold goodNode at hg
 dsimp only at hg
 rw [if_neg h0] at hg
 split at hg
 ·simp only [Bool.and_eq_true] at hg
  exact mem_mayRead hg.1 hp h1
 ·cases hg
theorem Use.tr {g : Graph} {n k i : Nat} (h : Use g n k) (h2 : Use g k i) : Use g n i := by
 induction h2 with
 | self => exact h
 | more _ hm ih => exact .more ih hm
theorem hasty_may {g : Graph} (hG : validG g = true) : ∀ (f n : Nat) (s : HS), HIn g s → ReadsMay g s →
  ReadsMay g (hastyS g f n s) ∧ ∀ y ∈ (hastyS g f n s).ran, y ∈ s.ran ∨ ∃ i : Nat, y = i ∧ i < g.length ∧ Use g n i ∧ (g.getD i default).kind ≠ 0 := by
 intro f
 induction f with
 | zero => intro n s _ h; exact ⟨h, fun y hy => .inl hy⟩
 | succ f ih =>
  intro n s h hM
  rw [← hastyTo_all]
  have key : ∀ k, k ≤ g.length → ReadsMay g (hastyTo g f n s k) ∧ ∀ y ∈ (hastyTo g f n s k).ran, y ∈ s.ran ∨ ∃ i : Nat, y = i ∧ i < g.length ∧ Use g n i ∧ (g.getD i default).kind ≠ 0 := by
   intro k
   induction k with
   | zero => intro _; exact ⟨hM, fun y hy => .inl hy⟩
   | succ k ihk =>
    intro hk
    obtain ⟨J, D⟩ := ihk (by omega)
    obtain ⟨ht, _⟩ := hastyTo_in hG f n s h k (by omega)
    rw [hastyTo_succ]
    generalize hastyTo g f n s k = t at *
    unfold stepH
    split
    ·rename_i hcc
     have hu := ht.ran hG (by omega) hcc.1 hcc.2
     have hkl : k < g.length := by omega
     have h0 : (g.getD k default).kind ≠ 0 := by
      intro e
      have hn : g[k]? = some (g.getD k default) := by rw [List.getD_eq_getElem?_getD, List.getElem?_eq_getElem hkl]; rfl
      have := ht.c k _ hn e
      rw [this] at hcc
      exact absurd hcc.1 (by simp)
     have hnk : Use g n k := .more .self (J k hkl _ hcc.1)
     have hUM : ReadsMay g (ranH g t k) := by
      intro i hi x hx
      rw [ran_reads ht hkl] at hx
      split at hx
      ·rename_i e; subst e; exact run_mayH hG hkl h0 _ x hx
      ·exact J i hi x hx
     have hUR : ∀ y ∈ (ranH g t k).ran, y ∈ s.ran ∨ ∃ i : Nat, y = i ∧ i < g.length ∧ Use g n i ∧ (g.getD i default).kind ≠ 0 := by
      intro y hy
      have hy : y ∈ t.ran ++ [(k : Int)] := hy
      rcases List.mem_append.1 hy with hy | hy
      ·exact D y hy
      ·exact .inr ⟨k, List.mem_singleton.1 hy, hkl, hnk, h0⟩
     split
     ·exact ⟨hUM, hUR⟩
     ·obtain ⟨q1, q2⟩ := ih k _ hu hUM
      refine ⟨q1, fun y hy => ?_⟩
      rcases q2 y hy with hy | ⟨i, e, hi, hU, hK⟩
      ·exact hUR y hy
      ·exact .inr ⟨i, e, hi, hnk.tr hU, hK⟩
    ·exact ⟨J, D⟩
  exact key g.length (Nat.le_refl _)
/-- what ran may run -/
theorem hasty_within {g : Graph} {st : Eager} {n x : Int} (h : mayHasty g st n x = true) : ∀ y ∈ (hastyR g st n.toNat x).ran, y ∈ mayRunL g [n] := by
 obtain ⟨h1, h2, h3⟩ := mayHasty_parts h
 obtain ⟨_, hcd, _, _⟩ := mayWrite_parts (mayHasty_write h)
 obtain ⟨hG, hv, hrl, hnr, hR⟩ := validE_parts h1
 obtain ⟨k, nd, rfl, hnd, hkd⟩ := isCell_at h2
 rw [Int.toNat_natCast]
 intro y hy
 unfold hastyR at hy
 split at hy
 ·cases hy
 ·have hM : ReadsMay g ⟨st.vals.set k x, st.reads, []⟩ := by
   intro i hi z hz
   have hz : z ∈ st.reads.getD i [] := hz
   have hni : g[i]? = some (g.getD i default) := by rw [List.getD_eq_getElem?_getD, List.getElem?_eq_getElem hi]; rfl
   by_cases h0 : (g.getD i default).kind = 0
   ·rw [rightAt_cell hni h0 (hR i hi)] at hz; cases hz
   ·have := run_mayH hG hi h0 st.vals
    rw [rightAt_run hni h0 (hR i hi)] at this
    exact this z hz
  rcases (hasty_may hG 201 k _ (HIn.of h1 h3) hM).2 y hy with hy | ⟨i, rfl, hi, hU, hK⟩
  ·cases hy
  ·unfold mayRunL
   rw [hG, hcd]
   simp only [Bool.and_self, if_true]
   rw [mem_whichL]
   refine ⟨i, rfl, hi, ?_⟩
   unfold mayAt kindAt
   rw [Int.toNat_natCast]
   simp only [Bool.and_eq_true, bne_iff_ne, ne_eq, List.any_cons, List.any_nil, Bool.or_false, Int.toNat_natCast]
   exact ⟨hK, useB_iff.2 hU⟩
end Sg
