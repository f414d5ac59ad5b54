/- The plain law of the hasty machine: with runs to spare it comes to the state that the eager machine comes to. No program in sight. Conditions: none. -/
import Derived.Test.YtmkfjnkdaeoppaaGreatHasM
import Derived.Test.YtmkfjnkdaeoppaaGreatModelR
import Derived.Test.YtmkfjnkdaeoppaaGreatModelsA
namespace Sg
theorem getD_setH {α : Type} (l : List α) (i j : Nat) (x d : α) (h : i < l.length) : (l.set i x).getD j d = if j = i then x else l.getD j d := by
 by_cases e : j = i
 ·subst e
  rw [if_pos rfl, List.getD_eq_getElem?_getD, List.getElem?_set_self h]
  rfl
 ·rw [if_neg e, List.getD_eq_getElem?_getD, List.getElem?_set_ne (fun h => e h.symm), ← List.getD_eq_getElem?_getD]
/-- node i is right -/
def Rt (g : Graph) (s : HS) (i : Nat) : Prop := (g.getD i default).kind ≠ 0 → runF (g.getD i default).f s.vals = (s.vals.getD i 0, s.reads.getD i [])
theorem ran_vals {g : Graph} {s : HS} (h : HIn g s) {k : Nat} (hk : k < g.length) (j : Nat) : (ranH g s k).vals.getD j 0 = if j = k then (runF (g.getD k default).f s.vals).1 else s.vals.getD j 0 := by
 unfold ranH
 exact getD_setH _ _ _ _ _ (by rw [h.v]; exact hk)
theorem ran_reads {g : Graph} {s : HS} (h : HIn g s) {k : Nat} (hk : k < g.length) (j : Nat) : (ranH g s k).reads.getD j [] = if j = k then (runF (g.getD k default).f s.vals).2 else s.reads.getD j [] := by
 unfold ranH
 exact getD_setH _ _ _ _ _ (by rw [h.r]; exact hk)
theorem ran_right {g : Graph} {s : HS} (hG : validG g = true) (h : HIn g s) {k : Nat} (hk : k < g.length) : Rt g (ranH g s k) k := by
 intro h0
 have hn : g[k]? = some (g.getD k default) := by rw [List.getD_eq_getElem?_getD, List.getElem?_eq_getElem hk]; rfl
 rw [ran_vals h hk, ran_reads h hk, if_pos rfl, if_pos rfl]
 refine Eq.trans (runF_congr (validG_fok hG k hn h0) fun j hj => ?_) rfl
 rw [ran_vals h hk, if_neg (by omega)]
/-- who was right and does not read what changed stays right -/
theorem ran_keep {g : Graph} {s : HS} (h : HIn g s) {k i : Nat} (hk : k < g.length) (hi : i < g.length) (hik : i ≠ k) (hR : Rt g s i) (hc : (runF (g.getD k default).f s.vals).1 = s.vals.getD k 0 ∨ (k : Int) ∉ s.reads.getD i []) : Rt g (ranH g s k) i := by
 intro h0
 rw [ran_vals h hk, ran_reads h hk, if_neg hik, if_neg hik, ← hR h0]
 refine (runF_same fun x hx => ?_).symm
 rw [hR h0] at hx
 have hxr := h.i.rd i hi x hx
 unfold rd
 rw [ran_vals h hk]
 split
 ·rename_i e
  rcases hc with hc | hc
  ·rw [e, hc]
  ·exact absurd (by rw [show (k : Int) = x by omega]; exact hx) hc
 ·rfl
theorem hasty_fix {g : Graph} (hG : validG g = true) : ∀ (f n : Nat) (s : HS), HIn g s → (hastyS g f n s).ran.length < 200 → 201 ≤ f + s.ran.length →
  ∀ i, i < g.length → ¬ Rt g (hastyS g f n s) i → ¬ Rt g s i ∧ (n : Int) ∉ s.reads.getD i [] ∧ (hastyS g f n s).reads.getD i [] = s.reads.getD i [] := by
 intro f
 induction f with
 | zero =>
  intro n s _ h1 h2
  have : (hastyS g 0 n s).ran.length = s.ran.length := rfl
  omega
 | succ f ih =>
  intro n s h h1 h2
  rw [← hastyTo_all] at h1 ⊢
  have hne : ∀ k, k ≤ g.length → (hastyTo g f n s k).ran.length < 200 := by
   intro k hk
   have := (hastyTo_in hG f n s h k hk).1.m
   apply Classical.byContradiction
   intro hno
   have := hastyTo_full hk (show (hastyTo g f n s k).ran.length = 200 by omega)
   rw [this] at h1
   omega
  have key : ∀ k, k ≤ g.length → ∀ i, i < g.length → ¬ Rt g (hastyTo g f n s k) i → ¬ Rt g s i ∧ (i < k → (n : Int) ∉ s.reads.getD i []) ∧ (hastyTo g f n s k).reads.getD i [] = s.reads.getD i [] := by
   intro k
   induction k with
   | zero => intro _ i _ hi; exact ⟨hi, fun h => by omega, rfl⟩
   | succ k ihk =>
    intro hk i hi
    have J := ihk (by omega)
    obtain ⟨ht, hts⟩ := hastyTo_in hG f n s h k (by omega)
    have hlt := hne k (by omega)
    have hlt1 := hne (k + 1) hk
    rw [hastyTo_succ] at hlt1 ⊢
    generalize hastyTo g f n s k = t at *
    unfold stepH at hlt1 ⊢
    by_cases hc : (n : Int) ∈ t.reads.getD k []
    ·have hcc : (n : Int) ∈ t.reads.getD k [] ∧ t.ran.length ≠ 200 := ⟨hc, by omega⟩
     rw [if_pos hcc] at hlt1 ⊢
     have hu := ht.ran hG (by omega) hcc.1 hcc.2
     have hur : (ranH g t k).ran.length = t.ran.length + 1 := by simp [ranH]
     have huk := ran_right hG ht (show k < g.length by omega)
     have hrd : i ≠ k → (ranH g t k).reads.getD i [] = t.reads.getD i [] := fun e => by rw [ran_reads ht (by omega), if_neg e]
     by_cases hv : (runF (g.getD k default).f t.vals).1 = t.vals.getD k 0
     ·rw [if_pos hv] at hlt1 ⊢
      intro hno
      have hik : i ≠ k := fun e => hno (by rw [e]; exact huk)
      have hnt : ¬ Rt g t i := fun hR => hno (ran_keep ht (by omega) hi hik hR (.inl hv))
      obtain ⟨j1, j2, j3⟩ := J i hi hnt
      exact ⟨j1, fun e => j2 (by omega), by rw [hrd hik]; exact j3⟩
     ·rw [if_neg hv] at hlt1 ⊢
      intro hno
      obtain ⟨m1, m2, m3⟩ := ih k (ranH g t k) hu hlt1 (by omega) i hi hno
      have hik : i ≠ k := fun e => m1 (by rw [e]; exact huk)
      rw [hrd hik] at m2 m3
      have hnt : ¬ Rt g t i := fun hR => m1 (ran_keep ht (by omega) hi hik hR (.inr m2))
      obtain ⟨j1, j2, j3⟩ := J i hi hnt
      exact ⟨j1, fun e => j2 (by omega), by rw [m3]; exact j3⟩
    ·rw [if_neg (fun e => hc e.1)] at hlt1 ⊢
     intro hno
     obtain ⟨j1, j2, j3⟩ := J i hi hno
     refine ⟨j1, fun e => ?_, j3⟩
     by_cases hik : i = k
     ·subst hik; rw [← j3]; exact hc
     ·exact j2 (by omega)
  intro i hi hno
  obtain ⟨j1, j2, j3⟩ := key g.length (Nat.le_refl _) i hi hno
  exact ⟨j1, j2 hi, j3⟩
theorem hasty_cells {g : Graph} (hG : validG g = true) : ∀ (f n : Nat) (s : HS), HIn g s → ∀ i, i < g.length → (g.getD i default).kind = 0 → (hastyS g f n s).vals.getD i 0 = s.vals.getD i 0 := by
 intro f
 induction f with
 | zero => intro n s _ i _ _; rfl
 | succ f ih =>
  intro n s h i hi h0
  rw [← hastyTo_all]
  have key : ∀ k, k ≤ g.length → (hastyTo g f n s k).vals.getD i 0 = s.vals.getD i 0 := by
   intro k
   induction k with
   | zero => intro _; rfl
   | succ k ihk =>
    intro hk
    have J := ihk (by omega)
    obtain ⟨ht, _⟩ := hastyTo_in hG f n s h k (by omega)
    rw [hastyTo_succ]
    generalize hastyTo g f n s k = t at *
    unfold stepH
    split
    ·rename_i hcc
     have hu := ht.ran hG (by omega) hcc.1 hcc.2
     have hik : i ≠ k := by
      intro e
      subst e
      have hn : g[i]? = some (g.getD i default) := by rw [List.getD_eq_getElem?_getD, List.getElem?_eq_getElem hi]; rfl
      have := ht.c i _ hn h0
      rw [this] at hcc
      exact absurd hcc.1 (by simp)
     have e1 : (ranH g t k).vals.getD i 0 = t.vals.getD i 0 := by rw [ran_vals ht (by omega), if_neg hik]
     split
     ·rw [e1, J]
     ·rw [ih k _ hu i hi h0, e1, J]
    ·exact J
  exact key g.length (Nat.le_refl _)
/-- with runs to spare the state is valid -/
theorem hasty_valid {g : Graph} {st : Eager} {n : Nat} {x : Int} (h : validE g st = true) (hx : 0 ≤ x ∧ x ≤ 999) (hn : isCell g (n : Int) = true) (hr : (hastyR g st n x).ran.length < 200) : validE g ⟨(hastyR g st n x).vals, (hastyR g st n x).reads⟩ = true := by
 have hin := hastyR_in h hx (n := n)
 obtain ⟨hG, hv, hrl, hnr, hR⟩ := validE_parts h
 unfold hastyR at *
 by_cases e : st.vals.getD n 0 = x
 ·simp only [if_pos e]; exact h
 ·simp only [if_neg e] at hin hr ⊢
  have H0 := HIn.of h hx (n := n)
  obtain ⟨k, nd, hk, hnd, hkd⟩ := isCell_at hn
  obtain rfl : n = k := by omega
  have hnl := (List.getElem?_eq_some_iff.1 hnd).1
  have hF := hasty_fix hG 201 n _ H0 hr (by simp)
  refine validE_mk ⟨hG, hin.v, hin.r, inR999_of hin.n, fun i hi => ?_⟩
  have hni : g[i]? = some (g.getD i default) := by rw [List.getD_eq_getElem?_getD, List.getElem?_eq_getElem hi]; rfl
  refine rightAt_mk hni (fun h0 => hin.c i _ hni h0) (fun h0 => ?_)
  apply Classical.byContradiction
  intro hno
  obtain ⟨j1, j2, _⟩ := hF i hi (fun hRt => hno (hRt h0))
  apply j1
  intro _
  have hok := rightAt_run hni h0 (hR i hi)
  have hin' : i ≠ n := by
   intro e
   subst e
   rw [getD_of hnd] at h0
   exact h0 hkd
  show runF (g.getD i default).f (st.vals.set n x) = ((st.vals.set n x).getD i 0, st.reads.getD i [])
  rw [getD_setH _ _ _ _ _ (by omega), if_neg hin', ← hok]
  refine (runF_same fun y hy => ?_).symm
  rw [hok] at hy
  have hyr := (WrIn.of h).rd i hi y hy
  unfold rd
  rw [getD_setH _ _ _ _ _ (by omega), if_neg]
  intro e
  exact j2 (by rw [show (n : Int) = y by omega]; exact hy)
theorem mayHasty_parts {g : Graph} {st : Eager} {n x : Int} (h : mayHasty g st n x = true) : validE g st = true ∧ isCell g n = true ∧ (0 ≤ x ∧ x ≤ 999) := by
 unfold mayHasty inR at h
 simp only [Bool.and_eq_true, decide_eq_true_eq] at h
 exact ⟨h.1.1, h.1.2, h.2⟩
theorem mayHasty_write {g : Graph} {st : Eager} {n x : Int} (h : mayHasty g st n x = true) : mayWrite g st [n] [x] = true := by
 obtain ⟨h1, h2, h3⟩ := mayHasty_parts h
 unfold mayWrite
 rw [h1, Bool.true_and]
 have hc : cellsDiffer g [n] = true := by
  unfold cellsDiffer
  simp [List.range_succ, h2]
 rw [hc]
 have hr : inR999 [x] = true := inR999_of fun y hy => by rw [List.mem_singleton.1 hy]; exact h3
 rw [hr]
 rfl
/-- the eager machine's state is the hasty one's -/
theorem hasty_write {g : Graph} {st : Eager} {n x : Int} (h : mayHasty g st n x = true) (hr : (hastyR g st n.toNat x).ran.length < 200) : (writeE g st [n] [x]).1 = ⟨(hastyR g st n.toNat x).vals, (hastyR g st n.toNat x).reads⟩ := by
 obtain ⟨h1, h2, h3⟩ := mayHasty_parts h
 obtain ⟨k, nd, rfl, hnd, hkd⟩ := isCell_at h2
 rw [Int.toNat_natCast] at hr ⊢
 have hV := hasty_valid h1 h3 h2 hr
 have hin := hastyR_in h1 h3 (n := k)
 have hw := write_start (mayHasty_write h)
 rw [hw]
 show startE g _ = _
 rw [← validE_start hV]
 congr 1
 obtain ⟨hG, hv, hrl, hnr, hR⟩ := validE_parts h1
 have hkl := (List.getElem?_eq_some_iff.1 hnd).1
 show writtenL (cellsOf g st.vals) [(k : Int)] [x] = cellsOf g (hastyR g st k x).vals
 have hwl : writtenL (cellsOf g st.vals) [(k : Int)] [x] = (cellsOf g st.vals).set k x := by simp [writtenL]
 rw [hwl]
 refine ext0 (by simp [hv, hin.v]) fun i hi => ?_
 have hi : i < g.length := by simpa [hv] using hi
 rw [getD_setH _ _ _ _ _ (by rw [length_cellsOf, hv]; exact hkl), cellsOf_at g (hastyR g st k x).vals i (by rw [hin.v]; exact hi), cellsOf_at g st.vals i (by rw [hv]; exact hi)]
 have hcell : (g.getD i default).kind = 0 → (hastyR g st k x).vals.getD i 0 = if i = k then x else st.vals.getD i 0 := by
  intro h0
  unfold hastyR
  by_cases e : st.vals.getD k 0 = x
  ·rw [if_pos e]
   split
   ·rename_i e2; rw [e2, e]
   ·rfl
  ·rw [if_neg e, hasty_cells hG 201 k _ (HIn.of h1 h3) i hi h0]
   exact getD_setH _ _ _ _ _ (by rw [hv]; exact hkl)
 by_cases hik : i = k
 ·subst hik
  have h0 : (g.getD i default).kind = 0 := by rw [getD_of hnd]; exact hkd
  rw [if_pos rfl, if_neg (fun e => e h0), hcell h0, if_pos rfl]
 ·rw [if_neg hik]
  by_cases h0 : (g.getD i default).kind = 0
  ·rw [if_neg (fun e => e h0), if_neg (fun e => e h0), hcell h0, if_neg hik]
  ·rw [if_pos h0, if_pos h0]
end Sg
