/- Plain laws of sessions in one batch: each effect is shown at most once behind the beginning. No program in sight. Conditions: in the theorems. -/
import Derived.Test.YtaklkcjlihdlkaaPlT
namespace Sg
def plain0B (g : Graph) (cells : List Int) : Ses × List Int × List Show := (ses0 g cells, (cells, showL (effs g (List.replicate g.length false)) (mean g cells)))
/-- a session in one batch -/
def midB (l : List Act) : List Act := l.filter fun a => decide (a.kind ≠ 2) && decide (a.kind ≠ 3)
def wholeB (l : List Act) : List Act := (⟨2, 0, 0⟩ : Act) :: (midB l ++ [⟨3, 0, 0⟩])
def batchS (g : Graph) (l : List Act) : List Act := if validA g l = true ∧ (wholeB l).length ≤ 30 then wholeB l else []
theorem batch_ok {g : Graph} {l : List Act} (h : batchS g l ≠ []) : batchS g l = wholeB l ∧ validA g l = true ∧ validA g (wholeB l) = true := by
 unfold batchS at h ⊢
 split at h
 ·rename_i hv
  rw [if_pos hv]
  refine ⟨rfl, hv.1, ?_⟩
  obtain ⟨h1, h2⟩ := hv
  unfold validA at h1 ⊢
  simp only [Bool.and_eq_true, List.all_eq_true, decide_eq_true_eq] at h1 ⊢
  refine ⟨⟨fun a ha => ?_, h1.1.2⟩, h2⟩
  unfold wholeB midB at ha
  simp only [List.mem_cons, List.mem_append, List.mem_filter, List.not_mem_nil, or_false] at ha
  rcases ha with rfl | ha | rfl
  ·rfl
  ·exact h1.1.1 a ha.1
  ·rfl
 ·exact absurd rfl h
theorem mid_run {σ : Type} (fl : σ → List Int → List Bool → σ) : ∀ (l : List Act) (x : Ses) (s : σ), (∀ a ∈ l, a.kind = 0 ∨ a.kind = 1) → x.opn = 1 → ∃ y, runS fl (x, s) l = (y, s) ∧ y.opn = 1
 | [], x, s, _, h => ⟨x, rfl, h⟩
 | a :: l, x, s, hl, h => by
  have ha := hl a (by simp)
  have e : stepR fl (x, s) a = ((stepS x a).1, s) ∧ (stepS x a).1.opn = 1 := by
   unfold stepR stepS
   rcases ha with ha | ha
   ·rw [if_pos ha]
    simp [h]
   ·rw [if_neg (by omega), if_pos ha]
    simp [h]
  obtain ⟨y, e2, h2⟩ := mid_run fl l (stepS x a).1 s (fun b hb => hl b (by simp [hb])) e.2
  refine ⟨y, ?_, h2⟩
  show runS fl (stepR fl (x, s) a) l = _
  rw [e.1, e2]
theorem zeros_valid (g : Graph) : validC g (List.replicate g.length 0) = true := by
 refine validC_mk (by simp) fun i n hn => ?_
 have : (List.replicate g.length (0 : Int)).getD i 0 = 0 := by
  rw [List.getD_eq_getElem?_getD, List.getElem?_replicate]
  split <;> rfl
 rw [this]
 exact ⟨by omega, fun _ => rfl⟩
/-- batches show less -/
theorem batch_law {g : Graph} {l : List Act} (h : batchS g l ≠ []) :
  ∃ m : List Show, plainS g (List.replicate g.length 0) (batchS g l) = plainS g (List.replicate g.length 0) [] ++ m ∧ m.Pairwise (fun a b => a.node ≠ b.node) := by
 obtain ⟨e, hA, hW⟩ := batch_ok h
 rw [e]
 have hz := zeros_valid g
 have hf := fitS_mk hz hW
 have hf0 : fitS g (List.replicate g.length 0) [] = true := by simpa using fitS_take hf 0
 unfold plainS
 rw [if_pos hf, if_pos hf0]
 have hmid : ∀ a ∈ midB l, a.kind = 0 ∨ a.kind = 1 := by
  intro a ha
  unfold midB at ha
  simp only [List.mem_filter, Bool.and_eq_true, decide_eq_true_eq] at ha
  unfold validA at hA
  simp only [Bool.and_eq_true, List.all_eq_true] at hA
  have := hA.1.1 a ha.1
  unfold actOk at this
  split at this
  ·rename_i h; exact .inl h
  ·split at this
   ·rename_i h; exact .inr h
   ·split at this
    ·rename_i h; rcases h with h | h
     ·exact absurd h ha.2.1
     ·exact absurd h ha.2.2
    ·cases this
 show ∃ m, (runS (plainFl g) (plain0B g (List.replicate g.length 0)) (wholeB l)).2.2 = (plain0B g (List.replicate g.length 0)).2.2 ++ m ∧ _
 obtain ⟨y, e1, h1⟩ := mid_run (plainFl g) (midB l) ⟨1, List.replicate g.length 0, List.replicate g.length false⟩ (plain0B g (List.replicate g.length 0)).2 hmid rfl
 have e2 : runS (plainFl g) (plain0B g (List.replicate g.length 0)) (wholeB l) = stepR (plainFl g) (y, (plain0B g (List.replicate g.length 0)).2) ⟨3, 0, 0⟩ := by
  unfold wholeB
  show runS (plainFl g) (stepR (plainFl g) (plain0B g (List.replicate g.length 0)) ⟨2, 0, 0⟩) (midB l ++ [⟨3, 0, 0⟩]) = _
  rw [runS_snoc, ← e1]
  rfl
 rw [e2]
 unfold stepR stepS
 simp only [h1]
 refine ⟨_, rfl, ?_⟩
 unfold showL
 rw [List.pairwise_map]
 have hp : (effs g y.stop).Pairwise (· < ·) := whichL_sorted _ _
 unfold common
 exact (List.Pairwise.filter _ hp).imp fun h => by show _ ≠ _; intro e; simp only at e; omega
end Sg
