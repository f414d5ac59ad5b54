/- Parts of one proof, joined. Lazy states of a valid graph are small. Conditions: those of the statements. What the lazy machine's functions return is small. Conditions: none. The plain laws of the lazy machine: what is read is what is meant. No program in sight. Conditions: none. What writing and forgetting return is small. Conditions: none. -/
import Derived.Test.YtmkfjnkdaeoppaaGreatMarksC
import Derived.Test.YtmkfjnkdaeoppaaGreatFactsAll
import Derived.Test.YtmkfjnkdaeoppaaGreatLazSmall
import Derived.Test.YtmkfjnkdaeoppaaGreatLazFour
import Derived.Test.YtmkfjnkdaeoppaaGreatModLaz
/- Lazy states of a valid graph are small. Conditions: those of the statements. -/
namespace Go.Proofs.YtmkfjnkdaeoppaaGreat
open Go.RowKit
theorem smallZ_of {g : Sg.Graph} {v v' q q' : List Int} {r : List (List Int)} (h : Sg.validL g ⟨v, r, q⟩ = true) (lv : v'.length = v.length) (lq : q'.length = q.length) : SmallZ ⟨v', r, q'⟩ := by
 obtain ⟨hG, hvl, hrl, hql, _⟩ := Sg.validL_shape h
 have h10 := Sg.validG_len10 hG
 have hv : v.length = g.length := hvl
 have hr : r.length = g.length := hrl
 have hq : q.length = g.length := hql
 have hs : ∀ l ∈ r, l.length ≤ 10 := reads_small h
 have ht := totL_small r 10 hs
 exact ⟨by show v'.length ≤ _; omega, by show r.length ≤ _; omega, fun l hl => Nat.le_trans (hs l hl) (by omega), by show totL r ≤ _; omega, by show q'.length ≤ _; omega⟩
theorem smallZ_nil : SmallZ ⟨[], [], []⟩ := ⟨by simp, by simp, by simp, by simp [totL], by simp⟩
end Go.Proofs.YtmkfjnkdaeoppaaGreat

/- What the lazy machine's functions return is small. Conditions: none. -/
namespace Go.Proofs.YtmkfjnkdaeoppaaGreat
open Go.RowKit
theorem settleO_smallQ (g : Sg.Graph) (st : Sg.Lazy) : SmallZ (Sg.settleO g st).1 ∧ (Sg.settleO g st).2.length ≤ 1048576 := by
 unfold Sg.settleO
 split
 ·rename_i h
  have hc := Sg.readsL_cleaned (s := ⟨st, []⟩) h (Sg.allL g.length) (fun k hk => (List.all_eq_true.1 (Sg.allL_all g.length)) k hk)
  have hl := hc.ran_len
  have h10 := Sg.validG_len10 (Sg.validL_shape h).1
  exact ⟨smallZ_of hc.ok rfl rfl, by show (Sg.readsL g (Sg.allL g.length) ⟨st, []⟩).ran.length ≤ _; simp at hl; omega⟩
 ·exact ⟨smallZ_nil, by simp⟩
end Go.Proofs.YtmkfjnkdaeoppaaGreat

/- The plain laws of the lazy machine: what is read is what is meant. No program in sight. Conditions: none. -/
namespace Sg
theorem mem_stale {g : Graph} {st : Lazy} (h : validL g st = true) {n : Int} : n ∈ staleOf g st ↔ ∃ i : Nat, n = i ∧ i < g.length ∧ st.cols.getD i 0 ≠ 0 := by
 unfold staleOf staleL
 rw [if_pos h, mem_whichL]
 constructor
 ·rintro ⟨i, e, hi, hp⟩
  exact ⟨i, e, hi, by unfold rd at hp; simpa using hp⟩
 ·rintro ⟨i, e, hi, hp⟩
  exact ⟨i, e, hi, by unfold rd; simpa using hp⟩
theorem allClean_validE {g : Graph} {st : Lazy} (h : validL g st = true) (hc : ∀ i, i < g.length → st.cols.getD i 0 = 0) : validE g ⟨st.vals, st.reads⟩ = true := by
 obtain ⟨hs, hC⟩ := validL_iff.1 h
 refine validE_mk ⟨hs.1, hs.2.1, hs.2.2.1, hs.2.2.2.2, fun i hi => ?_⟩
 have hn : g[i]? = some g[i] := List.getElem?_eq_getElem hi
 have hk := hC i _ hn
 refine rightAt_mk hn (fun h0 => (hk.cell h0).2) fun h0 => ?_
 rcases hk.form h0 with ⟨h2, _⟩ | ⟨h2, _⟩ | ⟨_, hR, _⟩
 ·have := hc i hi; omega
 ·have := hc i hi; omega
 ·exact hR
theorem nil_stale {g : Graph} {st : Lazy} (h : validL g st = true) (hc : ∀ i, i < g.length → st.cols.getD i 0 = 0) : staleOf g st = [] := by
 refine List.eq_nil_iff_forall_not_mem.2 fun x hx => ?_
 obtain ⟨i, _, hi, hn⟩ := (mem_stale h).1 hx
 exact hn (hc i hi)
theorem lazy_cellsC {g : Graph} {st : Lazy} (h : validL g st = true) : validC g (cellsOf g st.vals) = true := by
 obtain ⟨hs, hC⟩ := validL_iff.1 h
 refine validC_mk (by rw [length_cellsOf]; exact hs.2.1) fun i n hn => ?_
 have hi := (List.getElem?_eq_some_iff.1 hn).1
 rw [cellsOf_at _ _ _ (by omega), getD_of hn]
 by_cases h0 : n.kind = 0
 ·rw [if_neg (fun e => e h0)]
  exact ⟨inR999_at hs.2.2.2.2 (by omega), fun e => absurd h0 e⟩
 ·rw [if_pos h0]
  exact ⟨by omega, fun _ => rfl⟩
/-- the cells stay -/
theorem cells_same {g : Graph} {a b : List Int} (ha : a.length = g.length) (hb : b.length = g.length) (h : ∀ i n, g[i]? = some n → n.kind = 0 → a.getD i 0 = b.getD i 0) : cellsOf g a = cellsOf g b := by
 refine ext0 (by rw [length_cellsOf, length_cellsOf]; omega) fun i hi => ?_
 rw [length_cellsOf] at hi
 have hn : g[i]? = some g[i] := List.getElem?_eq_getElem (by omega)
 rw [cellsOf_at _ _ _ hi, cellsOf_at _ _ _ (by omega), getD_of hn]
 by_cases h0 : g[i].kind = 0
 ·rw [if_neg (fun e => e h0), if_neg (fun e => e h0)]; exact h i _ hn h0
 ·rw [if_pos h0, if_pos h0]
theorem cleaned_cells {g : Graph} {N : Nat → Prop} {s s' : LR} (hs : validL g s.st = true) (h : Cleaned g N s s') : cellsOf g s'.st.vals = cellsOf g s.st.vals := by
 have h1 := (validL_shape hs).2.1
 have h2 := (validL_shape h.ok).2.1
 refine cells_same h2 h1 fun i n hn h0 => ?_
 have hi := (List.getElem?_eq_some_iff.1 hn).1
 exact (h.keep i hi (((validL_iff.1 hs).2 i n hn).cell h0).1).2.1
/-- reads one after the other: each is clean at the end -/
theorem readsL_clean {g : Graph} (l : List Int) : ∀ (s : LR), validL g s.st = true → (∀ x ∈ l, ∃ k : Nat, x = k ∧ k < g.length) →
  Cleaned g (fun _ => True) s (readsL g l s) ∧ ∀ x ∈ l, colOf (readsL g l s) x.toNat = 0 := by
 induction l with
 | nil => intro s hs _; exact ⟨Cleaned.refl hs, by simp⟩
 | cons x l ih =>
  intro s hs hl
  obtain ⟨k, rfl, hk⟩ := hl x (by simp)
  have hG := (validL_shape hs).1
  have h10 := validG_len10 hG
  obtain ⟨a1, a2⟩ := cleanS_cleaned hG 10 k s (by omega) hk hs
  obtain ⟨b1, b2⟩ := ih (cleanS g 10 k s) a1.ok (fun y hy => hl y (by simp [hy]))
  have e : readsL g ((k : Int) :: l) s = readsL g l (cleanS g 10 k s) := rfl
  rw [e]
  refine ⟨Cleaned.trans hs (a1.mono fun _ _ => trivial) b1, fun y hy => ?_⟩
  rcases List.mem_cons.1 hy with rfl | hy
  ·rw [Int.toNat_natCast]; exact (b1.keep k hk a2).1
  ·exact b2 y hy
theorem allL_mem {n : Nat} {x : Int} : x ∈ allL n ↔ ∃ k : Nat, x = k ∧ k < n := by
 unfold allL
 rw [mem_whichL]
 simp
theorem settleO_in {g : Graph} {st : Lazy} (h : validL g st = true) : settleO g st = ((readsL g (allL g.length) ⟨st, []⟩).st, (readsL g (allL g.length) ⟨st, []⟩).ran) := by
 unfold settleO
 rw [if_pos h]
/-- P46, P47 -/
theorem settle_law {g : Graph} {st : Lazy} (h : validL g st = true) : validL g (settleO g st).1 = true ∧ cellsOf g (settleO g st).1.vals = cellsOf g st.vals ∧ staleOf g (settleO g st).1 = [] ∧ startE g (cellsOf g st.vals) = ⟨(settleO g st).1.vals, (settleO g st).1.reads⟩ ∧ (settleO g st).2.Nodup := by
 obtain ⟨h1, h2⟩ := readsL_clean (g := g) (allL g.length) ⟨st, []⟩ h (fun x hx => allL_mem.1 hx)
 rw [settleO_in h]
 have hc : ∀ i, i < g.length → (readsL g (allL g.length) ⟨st, []⟩).st.cols.getD i 0 = 0 := fun i hi => by
  have := h2 (i : Int) (allL_mem.2 ⟨i, rfl, hi⟩)
  rwa [Int.toNat_natCast] at this
 have hcc : cellsOf g (readsL g (allL g.length) ⟨st, []⟩).st.vals = cellsOf g st.vals := cleaned_cells h h1
 refine ⟨h1.ok, hcc, nil_stale h1.ok hc, ?_, ?_⟩
 ·have := validE_start (allClean_validE h1.ok hc)
  dsimp only at this
  rw [hcc] at this
  exact this
 ·obtain ⟨l, e, hn, _⟩ := h1.ran
  have e : (readsL g (allL g.length) ⟨st, []⟩).ran = l := by simpa using e
  dsimp only
  rw [e]; exact hn
end Sg

/- What writing and forgetting return is small. Conditions: none. -/
namespace Go.Proofs.YtmkfjnkdaeoppaaGreat
open Go.RowKit
end Go.Proofs.YtmkfjnkdaeoppaaGreat
