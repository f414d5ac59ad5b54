/- Parts of one proof, joined. Lazy states of a valid graph are small. Conditions: those of the statements. What the lazy machine's functions return is small. Conditions: none. The plain laws of the lazy machine: what is read is what is meant. No program in sight. Conditions: none. What writing and forgetting return is small. Conditions: none. -/
import Derived.Test.YtmkfjnkdaeoppaaGreatMarksC
import Derived.Test.YtmkfjnkdaeoppaaGreatFactsAll
import Derived.Test.YtmkfjnkdaeoppaaGreatLazSmall
import Derived.Test.YtmkfjnkdaeoppaaGreatLazFour
import Derived.Test.YtmkfjnkdaeoppaaGreatModLaz
/- Lazy states of a valid graph are small. Conditions: those of the statements. -/
namespace Go.Proofs.YtmkfjnkdaeoppaaGreat
open Go.RowKit
theorem smallZ_of {g : Sg.Graph} {v v' q q' : List Int} {r : List (List Int)} (h : Sg.validL g ⟨v, r, q⟩ = true) (lv : v'.length = v.length) (lq : q'.length = q.length) : SmallZ ⟨v', r, q'⟩ := by
 obtain ⟨hG, hvl, hrl, hql, _⟩ := Sg.validL_shape h
 have h10 := Sg.validG_len10 hG
 have hv : v.length = g.length := hvl
 have hr : r.length = g.length := hrl
 have hq : q.length = g.length := hql
 have hs : ∀ l ∈ r, l.length ≤ 10 := reads_small h
 have ht := totL_small r 10 hs
 exact ⟨by show v'.length ≤ _; omega, by show r.length ≤ _; omega, fun l hl => Nat.le_trans (hs l hl) (by omega), by show totL r ≤ _; omega, by show q'.length ≤ _; omega⟩
theorem smallZ_nil : SmallZ ⟨[], [], []⟩ := ⟨by simp, by simp, by simp, by simp [totL], by simp⟩
end Go.Proofs.YtmkfjnkdaeoppaaGreat

/- What the lazy machine's functions return is small. Conditions: none. -/
namespace Go.Proofs.YtmkfjnkdaeoppaaGreat
open Go.RowKit
theorem readLO_smallQ (g : Sg.Graph) (st : Sg.Lazy) (n : Int) : SmallZ (Sg.readLO g st n).1 ∧ (Sg.readLO g st n).2.2.length ≤ 1048576 := by
 unfold Sg.readLO
 split
 ·rename_i h
  simp only [Bool.and_eq_true] at h
  have hc := Sg.clean_in (s := ⟨st, []⟩) h.1 (Sg.Cleaned.refl h.1) h.2
  have hl := hc.ran_len
  have h10 := Sg.validG_len10 (Sg.validL_shape h.1).1
  exact ⟨smallZ_of hc.ok rfl rfl, by show (Sg.readS g st n).ran.length ≤ _; unfold Sg.readS; simp at hl; omega⟩
 ·exact ⟨smallZ_nil, by simp⟩
theorem readAO_smallQ (g : Sg.Graph) (st : Sg.Lazy) (l : List Int) : SmallZ (Sg.readAO g st l).1 ∧ (Sg.readAO g st l).2.length ≤ 1048576 := by
 unfold Sg.readAO
 split
 ·rename_i h
  simp only [Bool.and_eq_true] at h
  have hc := Sg.readsL_cleaned (s := ⟨st, []⟩) h.1.1 l (fun k hk => (List.all_eq_true.1 h.2) k hk)
  have hl := hc.ran_len
  have h10 := Sg.validG_len10 (Sg.validL_shape h.1.1).1
  exact ⟨smallZ_of hc.ok rfl rfl, by show (Sg.readsL g l ⟨st, []⟩).ran.length ≤ _; simp at hl; omega⟩
 ·exact ⟨smallZ_nil, by simp⟩
theorem settleO_smallQ (g : Sg.Graph) (st : Sg.Lazy) : SmallZ (Sg.settleO g st).1 ∧ (Sg.settleO g st).2.length ≤ 1048576 := by
 unfold Sg.settleO
 split
 ·rename_i h
  have hc := Sg.readsL_cleaned (s := ⟨st, []⟩) h (Sg.allL g.length) (fun k hk => (List.all_eq_true.1 (Sg.allL_all g.length)) k hk)
  have hl := hc.ran_len
  have h10 := Sg.validG_len10 (Sg.validL_shape h).1
  exact ⟨smallZ_of hc.ok rfl rfl, by show (Sg.readsL g (Sg.allL g.length) ⟨st, []⟩).ran.length ≤ _; simp at hl; omega⟩
 ·exact ⟨smallZ_nil, by simp⟩
end Go.Proofs.YtmkfjnkdaeoppaaGreat

/- The plain laws of the lazy machine: what is read is what is meant. No program in sight. Conditions: none. -/
namespace Sg
theorem whichL_ascZ (p : Nat → Bool) (k : Nat) : ∀ (i : Nat) (x y : Int), (whichL p k)[i]? = some x → (whichL p k)[i + 1]? = some y → x < y := by
 have hp : List.Pairwise (· < ·) (whichL p k) := by
  unfold whichL
  rw [List.pairwise_map]
  exact (List.Pairwise.filter _ List.pairwise_lt_range).imp fun h => by simpa using h
 intro i x y hx hy
 obtain ⟨h1, rfl⟩ := List.getElem?_eq_some_iff.1 hx
 obtain ⟨h2, rfl⟩ := List.getElem?_eq_some_iff.1 hy
 exact List.pairwise_iff_getElem.1 hp i (i + 1) h1 h2 (by omega)
theorem clean_mean {g : Graph} {st : Lazy} (h : validL g st = true) : ∀ (m j : Nat), j < m → j < g.length → st.cols.getD j 0 = 0 → (mean g (cellsOf g st.vals)).getD j 0 = st.vals.getD j 0 := by
 obtain ⟨hs, hC⟩ := validL_iff.1 h
 have hA := ahead_of h
 intro m
 induction m with
 | zero => intro j hj; omega
 | succ m ih =>
  intro j hjm hj hc
  have hn : g[j]? = some g[j] := List.getElem?_eq_getElem hj
  have hk := hC j _ hn
  rw [mean_atN _ hn]
  by_cases h0 : g[j].kind = 0
  ·rw [if_pos h0, cellsOf_at _ _ _ (by omega), getD_of hn, if_neg (fun e => e h0)]
  ·rw [if_neg h0]
   rcases hk.form h0 with ⟨h2, _⟩ | ⟨h2, _⟩ | ⟨_, hR, hr⟩
   ·omega
   ·omega
   ·have : runF g[j].f st.vals = runF g[j].f (meanTo g (cellsOf g st.vals) j) := by
     refine runF_same fun x hx => ?_
     rw [hR] at hx
     have hxa := hA j x hx
     unfold rd
     rw [← meanTo_getD g _ j g.length x.toNat (by omega) (by omega)]
     exact (ih x.toNat (by omega) (by omega) (hr x hx)).symm
    rw [← this, hR]
theorem mem_stale {g : Graph} {st : Lazy} (h : validL g st = true) {n : Int} : n ∈ staleOf g st ↔ ∃ i : Nat, n = i ∧ i < g.length ∧ st.cols.getD i 0 ≠ 0 := by
 unfold staleOf staleL
 rw [if_pos h, mem_whichL]
 constructor
 ·rintro ⟨i, e, hi, hp⟩
  exact ⟨i, e, hi, by unfold rd at hp; simpa using hp⟩
 ·rintro ⟨i, e, hi, hp⟩
  exact ⟨i, e, hi, by unfold rd; simpa using hp⟩
theorem stale_cell {g : Graph} {st : Lazy} (h : validL g st = true) {i : Nat} {n : Node} (hn : g[i]? = some n) (hc : st.cols.getD i 0 ≠ 0) : n.kind ≠ 0 :=
 fun h0 => hc (((validL_iff.1 h).2 i n hn).cell h0).1
theorem stale_asc (g : Graph) (st : Lazy) : ∀ (i : Nat) (x y : Int), (staleOf g st)[i]? = some x → (staleOf g st)[i + 1]? = some y → x < y := by
 unfold staleOf staleL
 split
 ·exact whichL_ascZ _ _
 ·intro i x y hx; simp at hx
theorem allClean_validE {g : Graph} {st : Lazy} (h : validL g st = true) (hc : ∀ i, i < g.length → st.cols.getD i 0 = 0) : validE g ⟨st.vals, st.reads⟩ = true := by
 obtain ⟨hs, hC⟩ := validL_iff.1 h
 refine validE_mk ⟨hs.1, hs.2.1, hs.2.2.1, hs.2.2.2.2, fun i hi => ?_⟩
 have hn : g[i]? = some g[i] := List.getElem?_eq_getElem hi
 have hk := hC i _ hn
 refine rightAt_mk hn (fun h0 => (hk.cell h0).2) fun h0 => ?_
 rcases hk.form h0 with ⟨h2, _⟩ | ⟨h2, _⟩ | ⟨_, hR, _⟩
 ·have := hc i hi; omega
 ·have := hc i hi; omega
 ·exact hR
theorem stale_nil {g : Graph} {st : Lazy} (h : validL g st = true) (hs : staleOf g st = []) : ∀ i, i < g.length → st.cols.getD i 0 = 0 := by
 intro i hi
 refine Decidable.byContradiction fun hc => ?_
 have : (i : Int) ∈ staleOf g st := (mem_stale h).2 ⟨i, rfl, hi, hc⟩
 rw [hs] at this
 cases this
theorem nil_stale {g : Graph} {st : Lazy} (h : validL g st = true) (hc : ∀ i, i < g.length → st.cols.getD i 0 = 0) : staleOf g st = [] := by
 refine List.eq_nil_iff_forall_not_mem.2 fun x hx => ?_
 obtain ⟨i, _, hi, hn⟩ := (mem_stale h).1 hx
 exact hn (hc i hi)
theorem lazy_cellsC {g : Graph} {st : Lazy} (h : validL g st = true) : validC g (cellsOf g st.vals) = true := by
 obtain ⟨hs, hC⟩ := validL_iff.1 h
 refine validC_mk (by rw [length_cellsOf]; exact hs.2.1) fun i n hn => ?_
 have hi := (List.getElem?_eq_some_iff.1 hn).1
 rw [cellsOf_at _ _ _ (by omega), getD_of hn]
 by_cases h0 : n.kind = 0
 ·rw [if_neg (fun e => e h0)]
  exact ⟨inR999_at hs.2.2.2.2 (by omega), fun e => absurd h0 e⟩
 ·rw [if_pos h0]
  exact ⟨by omega, fun _ => rfl⟩
/-- the cells stay -/
theorem cells_same {g : Graph} {a b : List Int} (ha : a.length = g.length) (hb : b.length = g.length) (h : ∀ i n, g[i]? = some n → n.kind = 0 → a.getD i 0 = b.getD i 0) : cellsOf g a = cellsOf g b := by
 refine ext0 (by rw [length_cellsOf, length_cellsOf]; omega) fun i hi => ?_
 rw [length_cellsOf] at hi
 have hn : g[i]? = some g[i] := List.getElem?_eq_getElem (by omega)
 rw [cellsOf_at _ _ _ hi, cellsOf_at _ _ _ (by omega), getD_of hn]
 by_cases h0 : g[i].kind = 0
 ·rw [if_neg (fun e => e h0), if_neg (fun e => e h0)]; exact h i _ hn h0
 ·rw [if_pos h0, if_pos h0]
theorem cleaned_cells {g : Graph} {N : Nat → Prop} {s s' : LR} (hs : validL g s.st = true) (h : Cleaned g N s s') : cellsOf g s'.st.vals = cellsOf g s.st.vals := by
 have h1 := (validL_shape hs).2.1
 have h2 := (validL_shape h.ok).2.1
 refine cells_same h2 h1 fun i n hn h0 => ?_
 have hi := (List.getElem?_eq_some_iff.1 hn).1
 exact (h.keep i hi (((validL_iff.1 hs).2 i n hn).cell h0).1).2.1
theorem readS_cleaned {g : Graph} {st : Lazy} (h : validL g st = true) {k : Nat} (hk : k < g.length) : Cleaned g (Need g k) ⟨st, []⟩ (readS g st (k : Int)) ∧ colOf (readS g st (k : Int)) k = 0 := by
 have hs := validL_shape h
 have h10 := validG_len10 hs.1
 exact cleanS_cleaned hs.1 10 k ⟨st, []⟩ (by omega) hk h
theorem read_value {g : Graph} {st : Lazy} (h : validL g st = true) {k : Nat} (hk : k < g.length) : valOf (readS g st (k : Int)) k = (mean g (cellsOf g st.vals)).getD k 0 := by
 obtain ⟨h1, h2⟩ := readS_cleaned h hk
 rw [← cleaned_cells h h1]
 exact (clean_mean h1.ok (k + 1) k (by omega) hk h2).symm
theorem cleanS_clean (g : Graph) (f : Nat) (n : Int) (s : LR) (h : colOf s n.toNat = 0) : cleanS g f n s = s := by
 cases f with
 | zero => rfl
 | succ f =>
  have hc : checkS (cleanS g f) n.toNat s = s := by unfold checkS; rw [if_neg (by omega)]
  unfold cleanS
  rw [hc, if_neg (by omega)]
theorem cleanS_dirty (g : Graph) (f : Nat) (n : Int) (s : LR) (h : colOf s n.toNat = 2) : (n.toNat : Int) ∈ (cleanS g (f + 1) n s).ran := by
 have hc : checkS (cleanS g f) n.toNat s = s := by unfold checkS; rw [if_neg (by omega)]
 unfold cleanS
 rw [hc, if_pos h]
 unfold finishL
 simp
theorem inR_iff {n : Int} {L : Nat} : inR n 0 ((L : Int) - 1) = true ↔ ∃ k : Nat, n = k ∧ k < L := by
 unfold inR
 simp only [Bool.and_eq_true, decide_eq_true_eq]
 constructor
 ·rintro ⟨h1, h2⟩
  obtain ⟨k, rfl⟩ := Int.eq_ofNat_of_zero_le h1
  exact ⟨k, rfl, by omega⟩
 ·rintro ⟨k, rfl, hk⟩
  omega
theorem readLO_in {g : Graph} {st : Lazy} (h : validL g st = true) {k : Nat} (hk : k < g.length) : readLO g st (k : Int) = ((readS g st (k : Int)).st, valOf (readS g st (k : Int)) k, (readS g st (k : Int)).ran) := by
 unfold readLO
 rw [h, inR_iff.2 ⟨k, rfl, hk⟩, Int.toNat_natCast]
 rfl
/-- P39 -/
theorem read_law {g : Graph} {st : Lazy} (h : validL g st = true) {k : Nat} (hk : k < g.length) :
  validL g (readLO g st k).1 = true ∧ (readLO g st k).2.1 = (mean g (cellsOf g st.vals)).getD k 0 ∧ (readLO g st k).1.vals.getD k 0 = (readLO g st k).2.1 ∧ (k : Int) ∉ staleOf g (readLO g st k).1 ∧ cellsOf g (readLO g st k).1.vals = cellsOf g st.vals := by
 obtain ⟨h1, h2⟩ := readS_cleaned h hk
 rw [readLO_in h hk]
 refine ⟨h1.ok, read_value h hk, rfl, fun hm => ?_, cleaned_cells h h1⟩
 obtain ⟨i, e, _, hc⟩ := (mem_stale h1.ok).1 hm
 have : i = k := by omega
 subst this
 exact hc h2
/-- P42 -/
theorem read_twice {g : Graph} {st : Lazy} (h : validL g st = true) {k : Nat} (hk : k < g.length) : readLO g (readLO g st k).1 k = ((readLO g st k).1, (readLO g st k).2.1, []) := by
 obtain ⟨h1, h2⟩ := readS_cleaned h hk
 rw [readLO_in h hk, readLO_in h1.ok hk]
 have : readS g (readS g st (k : Int)).st (k : Int) = ⟨(readS g st (k : Int)).st, []⟩ := cleanS_clean g 10 k _ h2
 rw [this]
 rfl
/-- P40, P41 -/
theorem read_ran {g : Graph} {st : Lazy} (h : validL g st = true) {k : Nat} (hk : k < g.length) : (readLO g st k).2.2.Nodup ∧ ∀ x ∈ (readLO g st k).2.2, ∃ j : Nat, x = j ∧ j < g.length ∧ Need g k j ∧ x ∈ staleOf g st ∧ (st.cols.getD j 0 = 2 ∨ ∃ y ∈ st.reads.getD j [], (readLO g st k).1.vals.getD y.toNat 0 ≠ st.vals.getD y.toNat 0) := by
 obtain ⟨h1, _⟩ := readS_cleaned h hk
 rw [readLO_in h hk]
 obtain ⟨l, e, hn, hr⟩ := h1.ran
 have e : (readS g st (k : Int)).ran = l := by simpa using e
 refine ⟨by rw [e]; exact hn, fun x hx => ?_⟩
 dsimp only at hx
 rw [e] at hx
 obtain ⟨j, e, hj, hN, hc, _, hw⟩ := hr x hx
 exact ⟨j, e, hj, hN, (mem_stale h).2 ⟨j, e, hj, hc⟩, hw⟩
theorem forget_parts {g : Graph} {st : Lazy} {n : Int} (h : mayForgetL g st n = true) : validL g st = true ∧ ∃ (k : Nat) (nd : Node), n = k ∧ g[k]? = some nd ∧ nd.kind ≠ 0 ∧ k < g.length := by
 unfold mayForgetL at h
 simp only [Bool.and_eq_true, Bool.not_eq_true'] at h
 obtain ⟨⟨h1, h2⟩, h3⟩ := h
 obtain ⟨k, rfl, hk⟩ := inR_iff.1 h2
 have hn : g[k]? = some g[k] := List.getElem?_eq_getElem hk
 refine ⟨h1, k, g[k], rfl, hn, fun h0 => ?_, hk⟩
 unfold isCell kindAt at h3
 rw [h2, Int.toNat_natCast, getD_of hn, h0] at h3
 cases h3
/-- P45 -/
theorem forget_law {g : Graph} {st : Lazy} {n : Int} (h : mayForgetL g st n = true) : validL g (forgetL st n.toNat) = true ∧ (∀ i : Nat, i < g.length → (readLO g (forgetL st n.toNat) i).2.1 = (readLO g st i).2.1) ∧ n ∈ (readLO g (forgetL st n.toNat) n).2.2 := by
 obtain ⟨hV, k, nd, rfl, hn, h0, hk⟩ := forget_parts h
 rw [Int.toNat_natCast]
 have hF := forgetL_valid hV hn h0
 refine ⟨hF, fun i hi => ?_, ?_⟩
 ·rw [(read_law hF hi).2.1, (read_law hV hi).2.1]
  rfl
 ·rw [readLO_in hF hk]
  have h2 : colOf ⟨forgetL st k, []⟩ ((k : Nat) : Int).toNat = 2 := by
   have hs := validL_shape hV
   have hA := ahead_of hF
   rw [Int.toNat_natCast]
   show (doubtC (st.reads.set k []) (st.cols.set k 2) k).getD k 0 = 2
   rw [doubtC_getD _ _ _ _ (by simp; omega), getD_set _ _ _ _ _ (by omega), if_pos rfl, if_neg (by omega)]
  have := cleanS_dirty g 9 (k : Int) _ h2
  rw [Int.toNat_natCast] at this
  exact this
theorem writeL_vals {g : Graph} {st : Lazy} (_h : validL g st = true) {k : Nat} (hk : k < st.vals.length) (x : Int) : (writeL st k x).vals = st.vals.set k x := by
 unfold writeL
 split
 ·rename_i e
  refine (List.ext_getElem? fun j => ?_).symm
  rw [List.getElem?_set]
  split
  ·rename_i e2
   subst e2
   try rw [if_pos hk]
   rw [← e, List.getD_eq_getElem?_getD, List.getElem?_eq_getElem hk]
   rfl
  ·rfl
 ·rfl
theorem write_parts {g : Graph} {st : Lazy} {n x : Int} (h : mayWriteL g st n x = true) : validL g st = true ∧ isCell g n = true ∧ (0 ≤ x ∧ x ≤ 999) ∧ ∃ k : Nat, n = k ∧ k < g.length := by
 unfold mayWriteL inR at h
 simp only [Bool.and_eq_true, decide_eq_true_eq] at h
 obtain ⟨k, nd, rfl, hn, _⟩ := isCell_at h.1.2
 exact ⟨h.1.1, h.1.2, h.2, k, rfl, (List.getElem?_eq_some_iff.1 hn).1⟩
/-- P38 -/
theorem back_law {g : Graph} {st : Lazy} {n x : Int} (h : mayWriteL g st n x = true) : mayWriteL g (writeL st n.toNat x) n (st.vals.getD n.toNat 0) = true ∧
  ∀ i : Nat, i < g.length → (readLO g (writeL (writeL st n.toNat x) n.toNat (st.vals.getD n.toNat 0)) i).2.1 = (readLO g st i).2.1 := by
 obtain ⟨hV, hc, hx, k, rfl, hk⟩ := write_parts h
 rw [Int.toNat_natCast]
 have hs := validL_shape hV
 have hW := writeL_valid hV hc hx
 have hy := inR999_at hs.2.2.2.2 (i := k) (by omega)
 have hB := writeL_valid hW hc hy
 refine ⟨?_, fun i hi => ?_⟩
 ·unfold mayWriteL inR
  rw [hW, hc]
  simp only [Bool.true_and, Bool.and_eq_true, decide_eq_true_eq]
  exact hy
 ·rw [(read_law hB hi).2.1, (read_law hV hi).2.1]
  have : (writeL (writeL st k x) k (st.vals.getD k 0)).vals = st.vals := by
   rw [writeL_vals hW (by have := (validL_shape hW).2.1; omega), writeL_vals hV (by omega)]
   refine List.ext_getElem? fun j => ?_
   rw [List.set_set, List.getElem?_set]
   split
   ·rename_i e2
    subst e2
    try rw [if_pos (by omega)]
    rw [List.getD_eq_getElem?_getD, List.getElem?_eq_getElem (by omega)]
    rfl
   ·rfl
  rw [this]
/-- P37 -/
theorem write_law {g : Graph} {st : Lazy} {n x : Int} (h : mayWriteL g st n x = true) : validL g (writeL st n.toNat x) = true ∧ (writeL st n.toNat x).vals.getD n.toNat 0 = x ∧ (∀ y ∈ staleOf g st, y ∈ staleOf g (writeL st n.toNat x)) ∧
  ∀ i : Nat, i < g.length → (i : Int) ∉ staleOf g (writeL st n.toNat x) → (writeL st n.toNat x).vals.getD i 0 = (mean g (cellsOf g (writeL st n.toNat x).vals)).getD i 0 := by
 obtain ⟨hV, hc, hx, k, rfl, hk⟩ := write_parts h
 have hW := writeL_valid hV hc hx
 rw [Int.toNat_natCast]
 have hs := validL_shape hV
 refine ⟨hW, ?_, fun y hy => ?_, fun i hi hn => ?_⟩
 ·rw [writeL_vals hV (by omega), getD_set _ _ _ _ _ (by omega), if_pos rfl]
 ·obtain ⟨i, rfl, hi, hne⟩ := (mem_stale hV).1 hy
  refine (mem_stale hW).2 ⟨i, rfl, hi, ?_⟩
  unfold writeL
  split
  ·exact hne
  ·dsimp only
   rw [spoilC_getD _ _ _ _ (by omega)]
   split
   ·split
    ·omega
    ·(try rw [if_neg hne]); exact hne
   ·exact hne
 ·refine (clean_mean hW (i + 1) i (by omega) hi (Decidable.byContradiction fun hne => hn ((mem_stale hW).2 ⟨i, rfl, hi, hne⟩))).symm
/-- reads one after the other: each is clean at the end -/
theorem readsL_clean {g : Graph} (l : List Int) : ∀ (s : LR), validL g s.st = true → (∀ x ∈ l, ∃ k : Nat, x = k ∧ k < g.length) →
  Cleaned g (fun _ => True) s (readsL g l s) ∧ ∀ x ∈ l, colOf (readsL g l s) x.toNat = 0 := by
 induction l with
 | nil => intro s hs _; exact ⟨Cleaned.refl hs, by simp⟩
 | cons x l ih =>
  intro s hs hl
  obtain ⟨k, rfl, hk⟩ := hl x (by simp)
  have hG := (validL_shape hs).1
  have h10 := validG_len10 hG
  obtain ⟨a1, a2⟩ := cleanS_cleaned hG 10 k s (by omega) hk hs
  obtain ⟨b1, b2⟩ := ih (cleanS g 10 k s) a1.ok (fun y hy => hl y (by simp [hy]))
  have e : readsL g ((k : Int) :: l) s = readsL g l (cleanS g 10 k s) := rfl
  rw [e]
  refine ⟨Cleaned.trans hs (a1.mono fun _ _ => trivial) b1, fun y hy => ?_⟩
  rcases List.mem_cons.1 hy with rfl | hy
  ·rw [Int.toNat_natCast]; exact (b1.keep k hk a2).1
  ·exact b2 y hy
theorem allL_mem {n : Nat} {x : Int} : x ∈ allL n ↔ ∃ k : Nat, x = k ∧ k < n := by
 unfold allL
 rw [mem_whichL]
 simp
theorem settleO_in {g : Graph} {st : Lazy} (h : validL g st = true) : settleO g st = ((readsL g (allL g.length) ⟨st, []⟩).st, (readsL g (allL g.length) ⟨st, []⟩).ran) := by
 unfold settleO
 rw [if_pos h]
/-- P46, P47 -/
theorem settle_law {g : Graph} {st : Lazy} (h : validL g st = true) : validL g (settleO g st).1 = true ∧ cellsOf g (settleO g st).1.vals = cellsOf g st.vals ∧ staleOf g (settleO g st).1 = [] ∧ startE g (cellsOf g st.vals) = ⟨(settleO g st).1.vals, (settleO g st).1.reads⟩ ∧ (settleO g st).2.Nodup := by
 obtain ⟨h1, h2⟩ := readsL_clean (g := g) (allL g.length) ⟨st, []⟩ h (fun x hx => allL_mem.1 hx)
 rw [settleO_in h]
 have hc : ∀ i, i < g.length → (readsL g (allL g.length) ⟨st, []⟩).st.cols.getD i 0 = 0 := fun i hi => by
  have := h2 (i : Int) (allL_mem.2 ⟨i, rfl, hi⟩)
  rwa [Int.toNat_natCast] at this
 have hcc : cellsOf g (readsL g (allL g.length) ⟨st, []⟩).st.vals = cellsOf g st.vals := cleaned_cells h h1
 refine ⟨h1.ok, hcc, nil_stale h1.ok hc, ?_, ?_⟩
 ·have := validE_start (allClean_validE h1.ok hc)
  dsimp only at this
  rw [hcc] at this
  exact this
 ·obtain ⟨l, e, hn, _⟩ := h1.ran
  have e : (readsL g (allL g.length) ⟨st, []⟩).ran = l := by simpa using e
  dsimp only
  rw [e]; exact hn
/-- P35 -/
theorem valid_law {g : Graph} {st : Lazy} (h : validL g st = true) (hs : staleOf g st = []) : mean g (cellsOf g st.vals) = st.vals := validE_mean (allClean_validE h (stale_nil h hs))
end Sg

/- What writing and forgetting return is small. Conditions: none. -/
namespace Go.Proofs.YtmkfjnkdaeoppaaGreat
open Go.RowKit
theorem forgetLO_smallQ (g : Sg.Graph) (st : Sg.Lazy) (n : Int) : SmallZ (Sg.forgetLO g st n).1 := by
 unfold Sg.forgetLO
 split
 ·rename_i h
  exact smallZ_of (Sg.forget_law h).1 rfl rfl
 ·exact smallZ_nil
theorem writeLO_smallQ (g : Sg.Graph) (st : Sg.Lazy) (n x : Int) : SmallZ (Sg.writeLO g st n x).1 := by
 unfold Sg.writeLO
 split
 ·rename_i h
  exact smallZ_of (Sg.write_law h).1 rfl rfl
 ·exact smallZ_nil
end Go.Proofs.YtmkfjnkdaeoppaaGreat
