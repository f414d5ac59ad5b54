/- The plain law of reads one after the other. No program in sight. Conditions: none. -/
import Derived.Test.YtmkfjnkdaeoppaaGreatPlAll
namespace Sg
/-- what ran before stands in front -/
def shL (p : List Int) (s : LR) : LR := ⟨s.st, p ++ s.ran⟩
theorem loopS_sh {c : Int → LR → LR} {p : List Int} (hc : ∀ k s, c k (shL p s) = shL p (c k s)) (n : Nat) (l : List Int) : ∀ s, loopS c n l (shL p s) = shL p (loopS c n l s) := by
 unfold loopS
 induction l with
 | nil => intro s; rfl
 | cons x l ih =>
  intro s
  rw [List.foldl_cons, List.foldl_cons]
  by_cases h : colOf s n = 1
  ·rw [if_pos h, if_pos (show colOf (shL p s) n = 1 from h), hc]; exact ih _
  ·rw [if_neg h, if_neg (show ¬ colOf (shL p s) n = 1 from h)]; exact ih _
theorem checkS_sh {c : Int → LR → LR} {p : List Int} (hc : ∀ k s, c k (shL p s) = shL p (c k s)) (n : Nat) (s : LR) : checkS c n (shL p s) = shL p (checkS c n s) := by
 unfold checkS
 by_cases h : colOf s n = 1
 ·rw [if_pos h, if_pos (show colOf (shL p s) n = 1 from h)]
  have e : loopS c n (rdsOf (shL p s) n) (shL p s) = shL p (loopS c n (rdsOf s n) s) := loopS_sh hc n _ s
  rw [e]
  by_cases h2 : colOf (loopS c n (rdsOf s n) s) n = 1
  ·rw [if_pos h2, if_pos (show colOf (shL p (loopS c n (rdsOf s n) s)) n = 1 from h2)]; rfl
  ·rw [if_neg h2, if_neg (show ¬ colOf (shL p (loopS c n (rdsOf s n) s)) n = 1 from h2)]
 ·rw [if_neg h, if_neg (show ¬ colOf (shL p s) n = 1 from h)]
theorem evalM_sh {c : Int → LR → LR} {p : List Int} (hc : ∀ k s, c k (shL p s) = shL p (c k s)) (f : List Part) : ∀ (m : Nat) (i : Int) (l : List Int) (s : LR),
  evalM f (fun (t : List Int × LR) k => valOf (c k t.2) k.toNat) (fun t k => (once t.1 k, c k t.2)) m i (l, shL p s) = ((evalM f (fun (t : List Int × LR) k => valOf (c k t.2) k.toNat) (fun t k => (once t.1 k, c k t.2)) m i (l, s)).1, (evalM f (fun (t : List Int × LR) k => valOf (c k t.2) k.toNat) (fun t k => (once t.1 k, c k t.2)) m i (l, s)).2.1, shL p (evalM f (fun (t : List Int × LR) k => valOf (c k t.2) k.toNat) (fun t k => (once t.1 k, c k t.2)) m i (l, s)).2.2) := by
 intro m
 induction m with
 | zero => intro i l s; rfl
 | succ m ih =>
  intro i l s
  simp only [evalM]
  by_cases h0 : (f.getD i.toNat default).kind = 0
  ·simp only [if_pos h0]
  ·simp only [if_neg h0]
   by_cases h1 : (f.getD i.toNat default).kind = 1
   ·simp only [if_pos h1, hc]
    rfl
   ·simp only [if_neg h1]
    rw [ih (f.getD i.toNat default).a l s]
    generalize evalM f (fun (t : List Int × LR) k => valOf (c k t.2) k.toNat) (fun t k => (once t.1 k, c k t.2)) m (f.getD i.toNat default).a (l, s) = R
    obtain ⟨x, l1, t⟩ := R
    dsimp only
    by_cases h8 : (f.getD i.toNat default).kind = 8
    ·simp only [if_pos h8]
     exact ih _ l1 t
    ·simp only [if_neg h8]
     rw [ih (f.getD i.toNat default).b l1 t]
theorem cleanS_sh (g : Graph) (p : List Int) : ∀ (f : Nat) (n : Int) (s : LR), cleanS g f n (shL p s) = shL p (cleanS g f n s) := by
 intro f
 induction f with
 | zero => intro n s; rfl
 | succ f ih =>
  intro n s
  simp only [cleanS]
  rw [checkS_sh ih n.toNat s]
  generalize checkS (cleanS g f) n.toNat s = t
  by_cases h : colOf t n.toNat = 2
  ·rw [if_pos h, if_pos (show colOf (shL p t) n.toNat = 2 from h)]
   have e : runC g (cleanS g f) n.toNat (shL p t) = ((runC g (cleanS g f) n.toNat t).1, (runC g (cleanS g f) n.toNat t).2.1, shL p (runC g (cleanS g f) n.toNat t).2.2) := by
    unfold runC runM
    exact evalM_sh ih _ _ _ _ _
   rw [e]
   generalize runC g (cleanS g f) n.toNat t = R
   obtain ⟨x, l, u⟩ := R
   dsimp only
   unfold finishL
   show (⟨if x = valOf u n.toNat then _ else _, (p ++ u.ran) ++ [(n.toNat : Int)]⟩ : LR) = ⟨_, p ++ (u.ran ++ [(n.toNat : Int)])⟩
   rw [List.append_assoc]
   rfl
  ·rw [if_neg h, if_neg (show ¬ colOf (shL p t) n.toNat = 2 from h)]
theorem readAO_parts {g : Graph} {st : Lazy} {ns : List Int} (h : (readAO g st ns).1.vals.length = st.vals.length) (hV : validL g st = true) (hg : 2 ≤ g.length) : (∀ x ∈ ns, ∃ k : Nat, x = k ∧ k < g.length) ∧ readAO g st ns = ((readsL g ns ⟨st, []⟩).st, (readsL g ns ⟨st, []⟩).ran) := by
 have hs := validL_shape hV
 by_cases hc : (validL g st && decide (ns.length ≤ 10) && ns.all fun k => inR k 0 ((g.length : Int) - 1)) = true
 ·refine ⟨fun x hx => ?_, by unfold readAO; rw [if_pos hc]⟩
  simp only [Bool.and_eq_true, List.all_eq_true] at hc
  exact inR_iff.1 (hc.2 x hx)
 ·unfold readAO at h
  rw [if_neg hc] at h
  have h : 0 = st.vals.length := h
  omega
/-- P43: one read more -/
theorem reads_step {g : Graph} {st : Lazy} {ns : List Int} (hV : validL g st = true) (hr : ∀ x ∈ ns, ∃ k : Nat, x = k ∧ k < g.length) {n : Nat} {x : Int} (hx : ns[n]? = some x) : validL g (readsL g (ns.take n) ⟨st, []⟩).st = true ∧
  ∃ y l, readLO g (readsL g (ns.take n) ⟨st, []⟩).st x = ((readsL g (ns.take (n + 1)) ⟨st, []⟩).st, y, l) ∧ (readsL g (ns.take (n + 1)) ⟨st, []⟩).ran = (readsL g (ns.take n) ⟨st, []⟩).ran ++ l := by
 obtain ⟨h1, _⟩ := readsL_clean (g := g) (ns.take n) ⟨st, []⟩ hV (fun y hy => hr y (List.mem_of_mem_take hy))
 refine ⟨h1.ok, ?_⟩
 obtain ⟨k, rfl, hk⟩ := hr x (List.mem_of_getElem? hx)
 have hl := (List.getElem?_eq_some_iff.1 hx).1
 have ht : ns.take (n + 1) = ns.take n ++ [(k : Int)] := by rw [List.take_add_one, hx]; rfl
 rw [ht, readsL_snoc, readLO_in h1.ok hk]
 generalize readsL g (ns.take n) ⟨st, []⟩ = S at *
 have e : cleanS g 10 (k : Int) S = shL S.ran (readS g S.st (k : Int)) := by
  have := cleanS_sh g S.ran 10 (k : Int) ⟨S.st, []⟩
  rw [show shL S.ran ⟨S.st, []⟩ = S by unfold shL; rw [List.append_nil]] at this
  exact this
 rw [e]
 exact ⟨_, _, rfl, rfl⟩
theorem reads_nodup {g : Graph} {st : Lazy} {ns : List Int} (hV : validL g st = true) (hr : ∀ x ∈ ns, ∃ k : Nat, x = k ∧ k < g.length) : (readsL g ns ⟨st, []⟩).ran.Nodup ∧ (readsL g ns ⟨st, []⟩).ran.length ≤ 10 ∧ validL g (readsL g ns ⟨st, []⟩).st = true := by
 obtain ⟨h1, _⟩ := readsL_clean (g := g) ns ⟨st, []⟩ hV hr
 have hl := h1.ran_len
 have h10 := validG_len10 (validL_shape hV).1
 obtain ⟨l, e, hn, _⟩ := h1.ran
 have e : (readsL g ns ⟨st, []⟩).ran = l := by simpa using e
 exact ⟨by rw [e]; exact hn, by simp at hl; omega, h1.ok⟩
end Sg
