/- The plain model of making lazy nodes clean: the recursion. No program in sight. Conditions: none. -/
import Derived.Test.YtmelggoagbhieaaGreatModelJ
namespace Sg
/-- what a function that makes one node clean is good for -/
def Cleans (g : Graph) (c : Int → LR → LR) (b : Nat) : Prop := ∀ (k : Nat) (s : LR), k < b → k < g.length → validL g s.st = true → Cleaned g (Need g k) s (c k s) ∧ colOf (c k s) k = 0
theorem loopS_skip (c : Int → LR → LR) (n : Nat) (l : List Int) (s : LR) (h : colOf s n ≠ 1) : loopS c n l s = s := by
  unfold loopS
  induction l with
  | nil => rfl
  | cons k l ih => rw [List.foldl_cons, if_neg h]; exact ih
theorem loopS_cons (c : Int → LR → LR) (n : Nat) (k : Int) (l : List Int) (s : LR) (h : colOf s n = 1) : loopS c n (k :: l) s = loopS c n l (c k s) := by
  unfold loopS
  rw [List.foldl_cons, if_pos h]
/-- the loop over the reads -/
theorem loopS_cleaned {g : Graph} {c : Int → LR → LR} {n : Nat} (hn : n < g.length) (hc : Cleans g c n) (l : List Int) (hl : ∀ x ∈ l, 0 ≤ x ∧ x < (n : Int)) (s : LR) (hs : validL g s.st = true) (N : Nat → Prop) (hN : ∀ (k j : Nat), (k : Int) ∈ l → Need g k j → N j) :
    Cleaned g N s (loopS c n l s) ∧ (colOf (loopS c n l s) n = 1 → ∀ x ∈ l, colOf (loopS c n l s) x.toNat = 0) := by
  induction l generalizing s with
  | nil => exact ⟨Cleaned.refl hs, by simp⟩
  | cons x l ih =>
    by_cases h1 : colOf s n = 1
    · rw [loopS_cons c n x l s h1]
      have hx := hl x (by simp)
      obtain ⟨k, rfl⟩ := Int.eq_ofNat_of_zero_le hx.1
      obtain ⟨a1, a2⟩ := hc k s (by omega) (by omega) hs
      have a3 := a1.mono (fun j hj => hN k j (by simp) hj)
      obtain ⟨b1, b2⟩ := ih (fun y hy => hl y (by simp [hy])) (c k s) a1.ok (fun k' j hk hj => hN k' j (by simp [hk]) hj)
      refine ⟨Cleaned.trans hs a3 b1, fun e y hy => ?_⟩
      rcases List.mem_cons.1 hy with rfl | hy
      · rw [Int.toNat_natCast]
        exact (b1.keep k (by omega) a2).1
      · exact b2 e y hy
    · rw [loopS_skip c n _ s h1]
      exact ⟨Cleaned.refl hs, fun e => absurd e h1⟩
/-- a node that was to be checked -/
theorem checkS_cleaned {g : Graph} {c : Int → LR → LR} {n : Nat} {nd : Node} (hn : g[n]? = some nd) (hc : Cleans g c n) (s : LR) (hs : validL g s.st = true) :
    Cleaned g (Need g n) s (checkS c n s) ∧ (colOf (checkS c n s) n = 0 ∨ colOf (checkS c n s) n = 2) := by
  have hil := (List.getElem?_eq_some_iff.1 hn).1
  obtain ⟨hsh, hC⟩ := validL_iff.1 hs
  have hrange : ∀ t : LR, validL g t.st = true → colOf t n = 0 ∨ colOf t n = 1 ∨ colOf t n = 2 := by
    intro t ht
    have hk := (validL_iff.1 ht).2 n nd hn
    by_cases h0 : nd.kind = 0
    · exact .inl (hk.cell h0).1
    · rcases hk.form h0 with h | h | h
      · exact .inr (.inr h.1)
      · exact .inr (.inl h.1)
      · exact .inl h.1
  unfold checkS
  by_cases h1 : colOf s n = 1
  · rw [if_pos h1]
    have hk := hC n nd hn
    have hk0 : nd.kind ≠ 0 := fun h0 => by have := (hk.cell h0).1; unfold colOf at h1; omega
    have hmay := hk.may hsh.1 hn hk0
    have hd := getD_of hn default
    obtain ⟨a1, a2⟩ := loopS_cleaned hil hc (rdsOf s n) (fun x hx => ahead_of hs n x hx) s hs (Need g n) (fun k j hk hj => (Need.more .self (by rw [hd]; exact hmay.1 _ hk)).trans hj)
    generalize ht : loopS c n (rdsOf s n) s = t at *
    by_cases h2 : colOf t n = 1
    · rw [if_pos h2]
      have hsame := (a1.stay n hil (by omega)).2
      have b := cleaned_col a1.ok hn h2 (fun x hx => a2 h2 x (by rw [← hsame]; exact hx))
      refine ⟨Cleaned.trans hs a1 (b.mono (fun j e => by subst e; exact .self)), .inl ?_⟩
      have hcl := (validL_shape a1.ok).2.2.2.1
      show (t.st.cols.set n 0).getD n 0 = 0
      rw [getD_set _ _ _ _ _ (by omega), if_pos rfl]
    · rw [if_neg h2]
      refine ⟨a1, ?_⟩
      rcases hrange t a1.ok with h | h | h
      · exact .inl h
      · exact absurd h h2
      · exact .inr h
  · rw [if_neg h1]
    refine ⟨Cleaned.refl hs, ?_⟩
    rcases hrange s hs with h | h | h
    · exact .inl h
    · exact absurd h h1
    · exact .inr h
/-- the formula's value, where each node is made clean before it is read -/
theorem evalM_cleaned {g : Graph} {c : Int → LR → LR} {n : Nat} (hn : n < g.length) (hc : Cleans g c n) (N : Nat → Prop) {f : List Part} (hf : ∀ p ∈ f, p.kind = 1 → (0 ≤ p.n ∧ p.n < (n : Int)) ∧ ∀ j, Need g p.n.toNat j → N j) :
    ∀ (m : Nat) (i : Int) (l : List Int) (s : LR), validL g s.st = true →
      Cleaned g N s (evalM f (fun (t : List Int × LR) k => valOf (c k t.2) k.toNat) (fun t k => (once t.1 k, c k t.2)) m i (l, s)).2.2 ∧
      (evalM f (fun (t : List Int × LR) k => valOf (c k t.2) k.toNat) (fun t k => (once t.1 k, c k t.2)) m i (l, s)).1 = (reck f (evalM f (fun (t : List Int × LR) k => valOf (c k t.2) k.toNat) (fun t k => (once t.1 k, c k t.2)) m i (l, s)).2.2.st.vals m i).1 ∧
      (evalM f (fun (t : List Int × LR) k => valOf (c k t.2) k.toNat) (fun t k => (once t.1 k, c k t.2)) m i (l, s)).2.1 = (reck f (evalM f (fun (t : List Int × LR) k => valOf (c k t.2) k.toNat) (fun t k => (once t.1 k, c k t.2)) m i (l, s)).2.2.st.vals m i).2.foldl once l ∧
      ∀ x ∈ (reck f (evalM f (fun (t : List Int × LR) k => valOf (c k t.2) k.toNat) (fun t k => (once t.1 k, c k t.2)) m i (l, s)).2.2.st.vals m i).2, colOf (evalM f (fun (t : List Int × LR) k => valOf (c k t.2) k.toNat) (fun t k => (once t.1 k, c k t.2)) m i (l, s)).2.2 x.toNat = 0 := by
  have hmem : ∀ (v : List Int) (m : Nat) (i : Int) (x : Int), x ∈ (reck f v m i).2 → 0 ≤ x ∧ x < (n : Int) := fun v m i x hx => by
    obtain ⟨p, hp, h1, rfl⟩ := reck_mem f v m i x hx
    exact (hf p hp h1).1
  -- what was read for clean nodes stays
  have same : ∀ (t u : LR) (m : Nat) (i : Int), Cleaned g N t u → (∀ x ∈ (reck f t.st.vals m i).2, colOf t x.toNat = 0) → reck f t.st.vals m i = reck f u.st.vals m i := fun t u m i h hcl => by
    refine reck_same f _ _ m i fun x hx => ?_
    have hx2 := hmem _ _ _ x hx
    have := (h.keep x.toNat (by omega) (hcl x hx)).2.1
    unfold valOf at this
    unfold rd
    exact this.symm
  intro m
  induction m with
  | zero => intro i l s hs; exact ⟨Cleaned.refl hs, by first | rfl | trivial, by first | rfl | trivial, by intro x hx; cases hx⟩
  | succ m ih =>
    intro i l s hs
    simp only [evalM, reck]
    by_cases h0 : (f.getD i.toNat default).kind = 0
    · simp only [if_pos h0]
      exact ⟨Cleaned.refl hs, by first | rfl | trivial, by first | rfl | trivial, by intro x hx; cases hx⟩
    · simp only [if_neg h0]
      by_cases h1 : (f.getD i.toNat default).kind = 1
      · simp only [if_pos h1]
        obtain ⟨hr, hN⟩ := hf _ (getD_mem h1) h1
        generalize (f.getD i.toNat default).n = x at *
        obtain ⟨k, rfl⟩ := Int.eq_ofNat_of_zero_le hr.1
        rw [Int.toNat_natCast] at hN
        obtain ⟨a1, a2⟩ := hc k s (by omega) (by omega) hs
        refine ⟨a1.mono hN, by first | rfl | trivial, by first | rfl | trivial, fun y hy => ?_⟩
        simp only [List.mem_singleton] at hy
        subst hy
        exact a2
      · simp only [if_neg h1]
        obtain ⟨a1, a2, a3, a4⟩ := ih (f.getD i.toNat default).a l s hs
        generalize hR : evalM f (fun (t : List Int × LR) k => valOf (c k t.2) k.toNat) (fun t k => (once t.1 k, c k t.2)) m (f.getD i.toNat default).a (l, s) = R at *
        obtain ⟨x, l1, t⟩ := R
        dsimp only at a1 a2 a3 a4 ⊢
        by_cases h8 : (f.getD i.toNat default).kind = 8
        · simp only [if_pos h8]
          generalize hJ : (if x = 0 then (f.getD i.toNat default).c else (f.getD i.toNat default).b) = j
          obtain ⟨b1, b2, b3, b4⟩ := ih j l1 t a1.ok
          generalize evalM f (fun (t : List Int × LR) k => valOf (c k t.2) k.toNat) (fun t k => (once t.1 k, c k t.2)) m j (l1, t) = U at *
          obtain ⟨y, l2, u⟩ := U
          dsimp only at b1 b2 b3 b4 ⊢
          have e := same t u m _ b1 a4
          rw [← e, ← a2, hJ]
          refine ⟨Cleaned.trans hs a1 b1, b2, ?_, fun z hz => ?_⟩
          · rw [List.foldl_append, ← a3]; exact b3
          · rcases List.mem_append.1 hz with hz | hz
            · have := hmem _ _ _ z hz
              exact (b1.keep z.toNat (by omega) (a4 z hz)).1
            · exact b4 z hz
        · simp only [if_neg h8]
          obtain ⟨b1, b2, b3, b4⟩ := ih (f.getD i.toNat default).b l1 t a1.ok
          generalize evalM f (fun (t : List Int × LR) k => valOf (c k t.2) k.toNat) (fun t k => (once t.1 k, c k t.2)) m (f.getD i.toNat default).b (l1, t) = U at *
          obtain ⟨y, l2, u⟩ := U
          dsimp only at b1 b2 b3 b4 ⊢
          have e := same t u m _ b1 a4
          rw [← e, ← a2, b2]
          refine ⟨Cleaned.trans hs a1 b1, by first | rfl | trivial, ?_, fun z hz => ?_⟩
          · rw [List.foldl_append, ← a3]; exact b3
          · rcases List.mem_append.1 hz with hz | hz
            · have := hmem _ _ _ z hz
              exact (b1.keep z.toNat (by omega) (a4 z hz)).1
            · exact b4 z hz
theorem runC_cleaned {g : Graph} {c : Int → LR → LR} {n : Nat} {nd : Node} (hG : validG g = true) (hn : g[n]? = some nd) (h0 : nd.kind ≠ 0) (hc : Cleans g c n) (s : LR) (hs : validL g s.st = true) :
    Cleaned g (fun j => Need g n j ∧ j < n) s (runC g c n s).2.2 ∧ (runC g c n s).1 = (runF nd.f (runC g c n s).2.2.st.vals).1 ∧ (runC g c n s).2.1 = (runF nd.f (runC g c n s).2.2.st.vals).2 ∧ ∀ x ∈ (runF nd.f (runC g c n s).2.2.st.vals).2, colOf (runC g c n s).2.2 x.toNat = 0 := by
  have hil := (List.getElem?_eq_some_iff.1 hn).1
  have hd := getD_of hn default
  have hgn := validG_node hG n hil
  have hV : validF nd.f = true := by
    unfold goodNode at hgn
    rw [hd] at hgn
    dsimp only at hgn
    rw [if_neg h0] at hgn
    split at hgn
    · simp only [Bool.and_eq_true] at hgn; exact hgn.1
    · cases hgn
  have := evalM_cleaned hil hc (fun j => Need g n j ∧ j < n) (f := nd.f) (fun p hp h1 => by
    have hm := mem_mayRead hV hp h1
    have hr := may_lt hG hn h0 hm
    refine ⟨hr, fun j hj => ⟨(Need.more .self (by rw [hd, Int.toNat_of_nonneg hr.1]; exact hm)).trans hj, ?_⟩⟩
    have := Need.le hG (by omega) hj
    omega) nd.f.length ((nd.f.length : Int) - 1) [] s hs
  unfold runC runM
  rw [hd]
  obtain ⟨a1, a2, a3, a4⟩ := this
  exact ⟨a1, a2, a3, fun x hx => a4 x ((mem_firstOnly _ _).1 hx)⟩
theorem cleanS_cleaned {g : Graph} (hG : validG g = true) (f : Nat) : Cleans g (cleanS g f) f := by
  induction f with
  | zero => intro k s hk; omega
  | succ f ih =>
    intro k s hk hkg hs
    have hn : g[k]? = some g[k] := List.getElem?_eq_getElem hkg
    generalize g[k] = nd at hn
    have hc : Cleans g (cleanS g f) k := fun j t hj hjg ht => ih j t (by omega) hjg ht
    obtain ⟨a1, a2⟩ := checkS_cleaned hn hc s hs
    simp only [cleanS, Int.toNat_natCast]
    generalize ht : checkS (cleanS g f) k s = t at *
    by_cases h2 : colOf t k = 2
    · rw [if_pos h2]
      have h0 : nd.kind ≠ 0 := fun h0 => by have := (((validL_iff.1 a1.ok).2 k nd hn).cell h0).1; unfold colOf at h2; omega
      obtain ⟨b1, b2, b3, b4⟩ := runC_cleaned hG hn h0 hc t a1.ok
      generalize runC g (cleanS g f) k t = R at *
      obtain ⟨x, l, u⟩ := R
      dsimp only at b1 b2 b3 b4 ⊢
      have hu2 : colOf u k = 2 := by
        rcases b1.two k hkg h2 with h | h
        · exact h
        · have := (b1.fin k hkg (by omega) h).2; omega
      obtain ⟨c1, c2⟩ := cleaned_run b1.ok hn hu2 b4
      rw [b2, b3]
      exact ⟨Cleaned.trans hs a1 (Cleaned.trans a1.ok (b1.mono (fun j hj => hj.1)) (c1.mono (fun j e => by subst e; exact .self))), c2⟩
    · rw [if_neg h2]
      exact ⟨a1, a2.elim id (fun h => absurd h h2)⟩
/-- what runs is not much -/
theorem Cleaned.ran_len {g : Graph} {N : Nat → Prop} {s s' : LR} (h : Cleaned g N s s') : s'.ran.length ≤ s.ran.length + g.length := by
  obtain ⟨l, h1, h2, h3⟩ := h.ran
  rw [h1, List.length_append]
  have key : ∀ (n : Nat) (l : List Int), l.Nodup → (∀ x ∈ l, 0 ≤ x ∧ x < (n : Int)) → l.length ≤ n := by
    intro n
    induction n with
    | zero =>
      intro l _ hb
      cases l with
      | nil => simp
      | cons x l => have := hb x (by simp); omega
    | succ n ih =>
      intro l hn hb
      have h1 := ih (l.erase (n : Int)) (hn.erase _) (fun x hx => by
        have hm := (hn.mem_erase_iff).1 hx
        have := hb x hm.2
        have : x ≠ (n : Int) := hm.1
        omega)
      have : l.length ≤ (l.erase (n : Int)).length + 1 := by
        rw [List.length_erase]
        split <;> omega
      omega
  have := key g.length l h2 (fun x hx => by obtain ⟨j, rfl, hj, _⟩ := h3 x hx; omega)
  omega
end Sg
