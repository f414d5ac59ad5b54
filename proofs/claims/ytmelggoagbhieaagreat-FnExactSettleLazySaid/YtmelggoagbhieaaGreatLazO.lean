/- Lazy states of one's own with the list of what ran: from a copy, and back; the plain model of ReadLazy, ReadAll and SettleLazy. Conditions: none. -/
import Derived.Test.YtmelggoagbhieaaGreatLazL0
namespace Sg
noncomputable def readS (g : Graph) (st : Lazy) (n : Int) : LR := cleanS g 10 n ⟨st, []⟩
noncomputable def readLO (g : Graph) (st : Lazy) (n : Int) : Lazy × Int × List Int := if (validL g st && inR n 0 ((g.length : Int) - 1)) = true then ((readS g st n).st, valOf (readS g st n) n.toNat, (readS g st n).ran) else (⟨[], [], []⟩, 0, [])
noncomputable def readsL (g : Graph) (l : List Int) (s : LR) : LR := l.foldl (fun t k => cleanS g 10 k t) s
noncomputable def readAO (g : Graph) (st : Lazy) (l : List Int) : Lazy × List Int := if (validL g st && decide (l.length ≤ 10) && l.all fun k => inR k 0 ((g.length : Int) - 1)) = true then ((readsL g l ⟨st, []⟩).st, (readsL g l ⟨st, []⟩).ran) else (⟨[], [], []⟩, [])
def allL (n : Nat) : List Int := whichL (fun _ => true) n
noncomputable def settleO (g : Graph) (st : Lazy) : Lazy × List Int := if validL g st = true then ((readsL g (allL g.length) ⟨st, []⟩).st, (readsL g (allL g.length) ⟨st, []⟩).ran) else (⟨[], [], []⟩, [])
theorem readsL_snoc (g : Graph) (l : List Int) (k : Int) (s : LR) : readsL g (l ++ [k]) s = cleanS g 10 k (readsL g l s) := by unfold readsL; rw [List.foldl_append]; rfl
theorem clean_in {g : Graph} {s t : LR} (hs : validL g s.st = true) (h : Cleaned g (fun _ => True) s t) {k : Int} (hk : inR k 0 ((g.length : Int) - 1) = true) : Cleaned g (fun _ => True) s (cleanS g 10 k t) := by
  unfold inR at hk
  simp only [Bool.and_eq_true, decide_eq_true_eq] at hk
  have hG := (validL_shape hs).1
  have h10 := validG_len10 hG
  have hcl := cleanS_cleaned hG 10 k.toNat t (by omega) (by omega) h.ok
  rw [Int.toNat_of_nonneg hk.1] at hcl
  exact Cleaned.trans hs h (hcl.1.mono fun _ _ => trivial)
theorem readsL_cleaned {g : Graph} {s : LR} (hs : validL g s.st = true) (l : List Int) (hl : ∀ k ∈ l, inR k 0 ((g.length : Int) - 1) = true) : Cleaned g (fun _ => True) s (readsL g l s) := by
  have key : ∀ (l : List Int) (t : LR), (∀ k ∈ l, inR k 0 ((g.length : Int) - 1) = true) → Cleaned g (fun _ => True) s t → Cleaned g (fun _ => True) s (readsL g l t) := by
    intro l
    induction l with
    | nil => intro t _ h; exact h
    | cons k l ih => intro t hl h; exact ih (cleanS g 10 k t) (fun x hx => hl x (by simp [hx])) (clean_in hs h (hl k (by simp)))
  exact key l s hl (Cleaned.refl hs)
theorem allL_all (n : Nat) : (allL n).all (fun k => inR k 0 ((n : Int) - 1)) = true := by
  rw [List.all_eq_true]
  intro x hx
  unfold allL at hx
  rw [mem_whichL] at hx
  obtain ⟨i, rfl, hi, _⟩ := hx
  unfold inR
  simp only [Bool.and_eq_true, decide_eq_true_eq]
  omega
theorem allL_succ (n : Nat) : allL (n + 1) = allL n ++ [(n : Int)] := by unfold allL; rw [whichL_succ, if_pos rfl]
@[simp] theorem length_allL (n : Nat) : (allL n).length = n := by
  induction n with
  | zero => rfl
  | succ n ih => rw [allL_succ, List.length_append, ih]; rfl
theorem settle_all (g : Graph) (st : Lazy) : readAO g st (allL g.length) = settleO g st := by
  unfold readAO settleO
  cases h : validL g st
  · simp
  · have h10 := validG_len10 (validL_shape h).1
    have hA := allL_all g.length
    rw [hA]
    simp [h10]
end Sg
namespace Go.Proofs.YtmelggoagbhieaaGreat
open Go.RowKit
theorem LS.of {w0 W : World} {L gv cv gr cr gq cq Bl c : Nat} {pre : List Value} {A : Option Addr} {hs : List (Option Addr × Nat)} {v q : List Int} {r : List (List Int)} (e : Ext w0 W) (Z : OwnZ W w0.heap.size (some ⟨gv, 0, none⟩) cv (some ⟨gr, 0, none⟩) cr (some ⟨gq, 0, none⟩) cq hs ⟨v, r, q⟩)
    (lv : v.length = L) (lr : r.length = L) (lq : q.length = L) (hb : Bx W Bl (pre ++ [.slice A 0 c])) (o : Own W w0.heap.size 3 1 A 0 c []) (hB : w0.heap.size ≤ Bl) (d1 : ∀ b, fpZ (some ⟨gv, 0, none⟩) (some ⟨gr, 0, none⟩) (some ⟨gq, 0, none⟩) hs b → b ≠ Bl ∧ blk A ≠ some b) (d2 : blk A ≠ some Bl) :
    ∃ F, LS w0 L gv cv gr cr gq cq Bl pre ⟨⟨v, r, q⟩, []⟩ F W ∧ ∀ b, F b → fpZ (some ⟨gv, 0, none⟩) (some ⟨gr, 0, none⟩) (some ⟨gq, 0, none⟩) hs b ∨ b = Bl ∨ blk A = some b := by
  refine ⟨_, ⟨e, ⟨hs, A, c, ?_, fun b => Iff.rfl⟩, lr⟩, fun b hb => ?_⟩
  rotate_left
  · obtain ⟨y, hy, hyb⟩ := hb
    simp only [thZ, List.mem_cons, List.not_mem_nil, or_false] at hy
    rcases hy with rfl | rfl | rfl | rfl | rfl
    · exact .inl (.inl hyb)
    · exact .inl (.inr (.inl hyb))
    · exact .inl (.inr (.inr hyb))
    · exact .inr (.inl hyb)
    · exact .inr (.inr hyb)
  have zv := Z.v
  have zq := Z.q
  dsimp only at zv zq
  rw [lv] at zv
  rw [lq] at zq
  refine ⟨zv, ?_, Z.r, ?_, zq, ?_, ⟨hb, hB⟩, ?_, o, ?_, trivial⟩
  · intro y hy b hb1 hb2
    simp only [List.mem_cons, List.not_mem_nil, or_false] at hy
    rcases hy with rfl | rfl | rfl | rfl
    · exact (Z.d b hb1).1 hb2
    · exact (Z.d b hb1).2 hb2
    · exact (d1 b (.inl hb1)).1 hb2
    · exact (d1 b (.inl hb1)).2 hb2
  · intro y hy b hb1 hb2
    simp only [List.mem_cons, List.not_mem_nil, or_false] at hy
    rcases hy with rfl | rfl | rfl
    · exact Z.e b hb2 hb1
    · exact (d1 b (.inr (.inl hb1))).1 hb2
    · exact (d1 b (.inr (.inl hb1))).2 hb2
  · intro y hy b hb1 hb2
    simp only [List.mem_cons, List.not_mem_nil, or_false] at hy
    rcases hy with rfl | rfl
    · exact (d1 b (.inr (.inr hb1))).1 hb2
    · exact (d1 b (.inr (.inr hb1))).2 hb2
  · intro y hy b hb1 hb2
    simp only [List.mem_cons, List.not_mem_nil, or_false] at hy
    subst hy
    have hb1' : b = Bl := hb1
    subst hb1'
    exact d2 hb2
  · intro y hy
    cases hy
theorem LS.back {w0 W : World} {L gv cv gr cr gq cq Bl : Nat} {pre : List Value} {s : Sg.LR} {F : Nat → Prop} (h : LS w0 L gv cv gr cr gq cq Bl pre s F W) :
    ∃ hs A c, OwnZ W w0.heap.size (some ⟨gv, 0, none⟩) cv (some ⟨gr, 0, none⟩) cr (some ⟨gq, 0, none⟩) cq hs s.st ∧ Bx W Bl (pre ++ [.slice A s.ran.length c]) ∧ Own W w0.heap.size 3 1 A s.ran.length c (ints s.ran) ∧ (∀ b, fpZ (some ⟨gv, 0, none⟩) (some ⟨gr, 0, none⟩) (some ⟨gq, 0, none⟩) hs b → ¬ blk A = some b) ∧ s.st.vals.length = L ∧ s.st.reads.length = L ∧ s.st.cols.length = L := by
  obtain ⟨hs, A, c, hS, hF⟩ := h.ex
  have zv := h.v
  have zq := h.q
  have lv := h.vl
  have lq := h.ql
  rw [← lv] at zv
  rw [← lq] at zq
  refine ⟨hs, A, c, ⟨zv, Sep.get hS 1 rfl, zq, fun b hb => ⟨fun hf => ?_, fun hf => ?_⟩, fun b hb hf => ?_⟩, (Sep.get hS 3 rfl).1, Sep.get hS 4 rfl, fun b hb hf => ?_, lv, h.rl, lq⟩
  · exact hS.2.1 (Th.ownL w0.heap.size (some ⟨gr, 0, none⟩) cr s.st.reads hs) (by simp) b hb hf
  · exact hS.2.1 (Th.own w0.heap.size 3 1 (some ⟨gq, 0, none⟩) L cq (ints s.st.cols)) (by simp) b hb hf
  · exact hS.2.2.2.1 (Th.own w0.heap.size 3 1 (some ⟨gq, 0, none⟩) L cq (ints s.st.cols)) (by simp) b hf hb
  · rcases hb with hb | hb | hb
    · exact hS.2.1 (Th.own w0.heap.size 3 1 A s.ran.length c (ints s.ran)) (by simp) b hb hf
    · exact hS.2.2.2.1 (Th.own w0.heap.size 3 1 A s.ran.length c (ints s.ran)) (by simp) b hb hf
    · exact hS.2.2.2.2.2.1 (Th.own w0.heap.size 3 1 A s.ran.length c (ints s.ran)) (by simp) b hb hf
/-- the addresses of a state of one's own that has nodes -/
theorem OwnZ.some3 {w : World} {B c1 c2 c3 : Nat} {A1 A2 A3 : Option Addr} {hs : List (Option Addr × Nat)} {v q : List Int} {r : List (List Int)} (h : OwnZ w B A1 c1 A2 c2 A3 c3 hs ⟨v, r, q⟩) (h1 : 0 < v.length) (h2 : 0 < r.length) (h3 : 0 < q.length) : ∃ gv gr gq, A1 = some ⟨gv, 0, none⟩ ∧ A2 = some ⟨gr, 0, none⟩ ∧ A3 = some ⟨gq, 0, none⟩ := by
  obtain ⟨gv, e1, _⟩ := h.v.at_ (by simpa using h1)
  obtain ⟨gr, e2, _⟩ := h.r.out.at_ (by simpa using h2)
  obtain ⟨gq, e3, _⟩ := h.q.at_ (by simpa using h3)
  exact ⟨gv, gr, gq, e1, e2, e3⟩
/-- what ReadAll and SettleLazy leave -/
def ZR (w : World) (s0 : Sg.Lazy) (s1 : List Int) (e : Ending) (w' : World) : Prop := ∃ R00 d00 R01 d01 R02 d02 z0 R10 d10, e = .returned (.tuple #[.agg #[.slice R00 s0.vals.length d00, .slice R01 s0.reads.length d01, .slice R02 s0.cols.length d02], .slice R10 s1.length d10]) ∧ OwnZ w' w.heap.size R00 d00 R01 d01 R02 d02 z0 s0 ∧ Own w' w.heap.size 3 1 R10 s1.length d10 (ints s1) ∧ (∀ b, (fpZ R00 R01 R02 z0 b) → ¬ (blk R10 = some b)) ∧ Ext w w'
/-- what ReadLazy leaves -/
def ZN (w : World) (s0 : Sg.Lazy) (s1 : Int) (s2 : List Int) (e : Ending) (w' : World) : Prop := ∃ R00 d00 R01 d01 R02 d02 z0 R20 d20, e = .returned (.tuple #[.agg #[.slice R00 s0.vals.length d00, .slice R01 s0.reads.length d01, .slice R02 s0.cols.length d02], .int .i64 s1, .slice R20 s2.length d20]) ∧ OwnZ w' w.heap.size R00 d00 R01 d01 R02 d02 z0 s0 ∧ Own w' w.heap.size 3 1 R20 s2.length d20 (ints s2) ∧ (∀ b, (fpZ R00 R01 R02 z0 b) → ¬ (blk R20 = some b)) ∧ Ext w w'
/-- a box of one's own whose cells were set anew -/
theorem Bx.set3 {w : World} {b : Nat} {x0 x1 x2 : Value} (h : Bx w b [x0, x1, x2]) (u0 u1 u2 : Value) : Bx (((w.setCell ⟨b, 0, none⟩ u0).setCell ⟨b, 1, none⟩ u1).setCell ⟨b, 2, none⟩ u2) b [u0, u1, u2] := ((h.set 0 u0).set 1 u1).set 2 u2
theorem Mod.set3 (w : World) (b : Nat) (u0 u1 u2 : Value) : Mod (fun x => x = b) w (((w.setCell ⟨b, 0, none⟩ u0).setCell ⟨b, 1, none⟩ u1).setCell ⟨b, 2, none⟩ u2) := Mod.set (F := fun x => x = b) (Mod.set (F := fun x => x = b) (Mod.set (F := fun x => x = b) (Mod.rfl' _ w) (.inl rfl) u0) (.inl rfl) u1) (.inl rfl) u2
end Go.Proofs.YtmelggoagbhieaaGreat
