/- Plain laws of sessions: what the first acts show is the beginning of what all show; the eager machine shows what is meant. No program in sight. Conditions: in the theorems. -/
import Derived.Test.YtaklkcjlihdlkaaPlS
import Derived.Test.YtaklkcjlihdlkaaModelR
namespace Sg
theorem runS_app {σ : Type} (fl : σ → List Int → List Bool → σ) (q : Ses × σ) (l m : List Act) : runS fl q (l ++ m) = runS fl (runS fl q l) m := by simp [runS]
/-- what is shown only grows -/
theorem plainFl_grow (g : Graph) (q : Ses × List Int × List Show) (l : List Act) : ∃ m, (runS (plainFl g) q l).2.2 = q.2.2 ++ m := by
 induction l generalizing q with
 | nil => exact ⟨[], by simp [runS]⟩
 | cons a l ih =>
  obtain ⟨m, hm⟩ := ih (stepR (plainFl g) q a)
  have h2 : ∃ m2, (stepR (plainFl g) q a).2.2 = q.2.2 ++ m2 := by
   unfold stepR
   split
   ·exact ⟨_, rfl⟩
   ·exact ⟨[], by simp⟩
  obtain ⟨m2, hm2⟩ := h2
  refine ⟨m2 ++ m, ?_⟩
  have : runS (plainFl g) q (a :: l) = runS (plainFl g) (stepR (plainFl g) q a) l := rfl
  rw [this, hm, hm2, List.append_assoc]
theorem validA_take {g : Graph} {l : List Act} (h : validA g l = true) (k : Nat) : validA g (l.take k) = true := by
 unfold validA at h ⊢
 simp only [Bool.and_eq_true, List.all_eq_true, decide_eq_true_eq] at h ⊢
 exact ⟨⟨fun a ha => h.1.1 a (List.mem_of_mem_take ha), h.1.2⟩, by rw [List.length_take]; omega⟩
theorem fitS_take {g : Graph} {cells : List Int} {l : List Act} (h : fitS g cells l = true) (k : Nat) : fitS g cells (l.take k) = true := by
 unfold fitS at h ⊢
 rw [Bool.and_eq_true] at h ⊢
 exact ⟨h.1, validA_take h.2 k⟩
theorem fitS_parts {g : Graph} {cells : List Int} {l : List Act} (h : fitS g cells l = true) : validG g = true ∧ validC g cells = true ∧ (∀ a ∈ l, actOk g a = true) ∧ l.length ≤ 30 := by
 unfold fitS validA at h
 simp only [Bool.and_eq_true, List.all_eq_true, decide_eq_true_eq] at h
 exact ⟨h.1.1, h.1.2, h.2.1.1, h.2.2⟩
theorem fitS_mk {g : Graph} {cells : List Int} {l : List Act} (hC : validC g cells = true) (hA : validA g l = true) : fitS g cells l = true := by
 unfold fitS
 rw [Bool.and_eq_true, Bool.and_eq_true]
 refine ⟨⟨?_, hC⟩, hA⟩
 unfold validA at hA
 simp only [Bool.and_eq_true] at hA
 exact hA.1.2
/-- sessions go on -/
theorem plain_pre {g : Graph} {cells : List Int} {l : List Act} (h : fitS g cells l = true) (k : Nat) : plainS g cells (l.take k) <+: plainS g cells l := by
 unfold plainS
 rw [if_pos h, if_pos (fitS_take h k)]
 have e : runS (plainFl g) (ses0 g cells, (cells, showL (effs g (List.replicate g.length false)) (mean g cells))) l = runS (plainFl g) (runS (plainFl g) (ses0 g cells, (cells, showL (effs g (List.replicate g.length false)) (mean g cells))) (l.take k)) (l.drop k) := by
  rw [← runS_app, List.take_append_drop]
 rw [e]
 obtain ⟨m, hm⟩ := plainFl_grow g (runS (plainFl g) (ses0 g cells, (cells, showL (effs g (List.replicate g.length false)) (mean g cells))) (l.take k)) (l.drop k)
 rw [hm]
 exact List.prefix_append _ _
/-- how many effects a graph has -/
def numE (g : Graph) (k : Nat) : Nat := ((List.range k).filter fun i : Nat => decide (kindAt g (i : Int) = 2)).length
theorem numE_succ (g : Graph) (k : Nat) : numE g (k + 1) = numE g k + if kindAt g (k : Int) = 2 then 1 else 0 := by
 unfold numE
 rw [List.range_succ, List.filter_append, List.length_append]
 by_cases h : kindAt g (k : Int) = 2 <;> simp [h]
theorem effs_none (g : Graph) : effs g (List.replicate g.length false) = whichL (fun i => decide (kindAt g (i : Int) = 2)) g.length := by
 unfold effs
 refine whichL_congr fun i hi => ?_
 simp [hi]
theorem plain_nil {g : Graph} {cells : List Int} {l : List Act} (h : fitS g cells l = true) : (plainS g cells []).length = numE g g.length ∧ plainS g cells [] <+: plainS g cells l := by
 refine ⟨?_, by simpa using plain_pre h 0⟩
 unfold plainS
 rw [if_pos (by simpa using fitS_take h 0)]
 show (showL _ _).length = _
 rw [showL_len, effs_none]
 unfold whichL numE
 rw [List.length_map]

/-- the cells of a graph, and what they are to hold -/
def inputsL (g : Graph) : List Int := whichL (fun i => decide (kindAt g (i : Int) = 0)) g.length
def valuesL (g : Graph) (p : List Int) : List Int := (inputsL g).map (rd p)
theorem mem_inputsL {g : Graph} {n : Int} : n ∈ inputsL g ↔ ∃ i : Nat, n = i ∧ i < g.length ∧ kindAt g (i : Int) = 0 := by
 unfold inputsL
 rw [mem_whichL]
 simp
theorem kindAt_of {g : Graph} {i : Nat} {n : Node} (h : g[i]? = some n) : kindAt g (i : Int) = n.kind := by
 unfold kindAt
 simp [h]
theorem inputs_differ (g : Graph) : cellsDiffer g (inputsL g) = true := by
 unfold cellsDiffer
 rw [List.all_eq_true]
 intro k hk
 rw [List.mem_range] at hk
 obtain ⟨x, hx⟩ : ∃ x, (inputsL g)[k]? = some x := ⟨_, List.getElem?_eq_getElem hk⟩
 have hd : (inputsL g).getD k 0 = x := by rw [List.getD_eq_getElem?_getD, hx]; rfl
 rw [hd, Bool.and_eq_true, decide_eq_true_eq]
 constructor
 ·obtain ⟨i, rfl, hi, hk0⟩ := mem_inputsL.1 (List.mem_of_getElem? hx)
  unfold isCell inR
  simp only [Bool.and_eq_true, decide_eq_true_eq]
  exact ⟨by omega, hk0⟩
 ·intro hm
  obtain ⟨j, hj⟩ := List.getElem?_of_mem hm
  rw [List.getElem?_take] at hj
  split at hj
  ·rename_i hjk
   have hp : (inputsL g).Pairwise (· < ·) := whichL_sorted _ _
   obtain ⟨h1, e1⟩ := List.getElem?_eq_some_iff.1 hj
   obtain ⟨h2, e2⟩ := List.getElem?_eq_some_iff.1 hx
   have := List.pairwise_iff_getElem.1 hp j k h1 h2 hjk
   omega
  ·cases hj
theorem rd_nat (l : List Int) (i : Nat) : rd l (i : Int) = l.getD i 0 := by unfold rd; simp
theorem validC_rd {g : Graph} {p : List Int} (h : validC g p = true) (i : Nat) (hi : i < g.length) : 0 ≤ p.getD i 0 ∧ p.getD i 0 ≤ 999 := by
 have hl := validC_len h
 refine validC_range h _ ?_
 rw [List.getD_eq_getElem?_getD, List.getElem?_eq_getElem (by omega)]
 exact List.getElem_mem _
theorem mayWrite_all {g : Graph} {a p : List Int} (hG : validG g = true) (ha : validC g a = true) (hp : validC g p = true) : mayWrite g (startE g a) (inputsL g) (valuesL g p) = true := by
 unfold mayWrite
 rw [start_validE hG ha, inputs_differ]
 simp only [Bool.true_and, Bool.and_eq_true, decide_eq_true_eq]
 refine ⟨by simp [valuesL], ?_⟩
 unfold inR999
 rw [List.all_eq_true]
 intro x hx
 obtain ⟨n, hn, rfl⟩ := List.mem_map.1 hx
 obtain ⟨i, rfl, hi, _⟩ := mem_inputsL.1 hn
 have := validC_rd hp i hi
 rw [rd_nat]
 simp only [inR, Bool.and_eq_true, decide_eq_true_eq]
 exact this
theorem writtenL_mem (a nodes : List Int) (f : Int → Int) (hn : ∀ x ∈ nodes, 0 ≤ x ∧ x < (a.length : Int)) (i : Nat) (h : (i : Int) ∈ nodes) : (writtenL a nodes (nodes.map f)).getD i 0 = f i := by
 have key : ∀ (l : List Int) (b : List Int), (∀ x ∈ l, 0 ≤ x ∧ x < (b.length : Int)) → ((i : Int) ∈ l ∨ b.getD i 0 = f i) → ((l.zip (l.map f)).foldl (fun l p => l.set p.1.toNat p.2) b).getD i 0 = f i := by
  intro l
  induction l with
  | nil => intro b _ h; rcases h with h | h; cases h; exact h
  | cons x l ih =>
   intro b hb h
   rw [List.map_cons, List.zip_cons_cons, List.foldl_cons]
   refine ih _ (fun y hy => by have := hb y (by simp [hy]); simpa using this) ?_
   have hx := hb x (by simp)
   by_cases e : x = (i : Int)
   ·right
    subst e
    show (b.set (Int.toNat (i : Int)) (f i)).getD i 0 = f i
    rw [Int.toNat_natCast]
    exact set_getD_same (by omega) _ _
   ·rcases h with h | h
    ·rcases List.mem_cons.1 h with h | h
     ·exact absurd h.symm e
     ·exact .inl h
    ·right
     show (b.set x.toNat (f x)).getD i 0 = f i
     rw [set_getD_other (by omega)]
     exact h
 exact key nodes a hn (.inl h)
theorem written_all {g : Graph} {a p : List Int} (ha : validC g a = true) (hp : validC g p = true) : writtenL a (inputsL g) (valuesL g p) = p := by
 have hal := validC_len ha
 have hpl := validC_len hp
 refine ext0 (by rw [writtenL_len]; omega) fun i hi => ?_
 rw [writtenL_len] at hi
 have hin : ∀ x ∈ inputsL g, 0 ≤ x ∧ x < (a.length : Int) := fun x hx => by obtain ⟨j, rfl, hj, _⟩ := mem_inputsL.1 hx; omega
 by_cases hm : (i : Int) ∈ inputsL g
 ·unfold valuesL
  rw [writtenL_mem a _ _ hin i hm, rd_nat]
 ·have hlen : (inputsL g).length = (valuesL g p).length := by simp [valuesL]
  rw [← writtenTo_all _ _ _ hlen, writtenTo_keep _ _ _ _ _ (fun x hx => (hin x hx).1) (fun h => hm (List.mem_of_mem_take h))]
  obtain ⟨n, hn⟩ : ∃ n, g[i]? = some n := ⟨_, List.getElem?_eq_getElem (by omega)⟩
  have h0 : n.kind ≠ 0 := fun h0 => hm (mem_inputsL.2 ⟨i, rfl, by omega, by rw [kindAt_of hn]; exact h0⟩)
  rw [validC_cell ha hn h0, validC_cell hp hn h0]
/-- the eager machine in a session: its state, what is shown, how many nodes ran -/
def eagerFl (g : Graph) (q : Eager × List Show × Int) (p : List Int) (s : List Bool) : Eager × List Show × Int :=
 ((writeE g q.1 (inputsL g) (valuesL g p)).1, q.2.1 ++ showL (common (effs g s) (writeE g q.1 (inputsL g) (valuesL g p)).2) (writeE g q.1 (inputsL g) (valuesL g p)).1.vals, q.2.2 + ((writeE g q.1 (inputsL g) (valuesL g p)).2.length : Int))
def eager0 (g : Graph) (cells : List Int) : Eager × List Show × Int := (startE g cells, showL (effs g (List.replicate g.length false)) (mean g cells), (g.length : Int) - ((inputsL g).length : Int))
def eagerR (g : Graph) (cells : List Int) (l : List Act) : Ses × Eager × List Show × Int := runS (eagerFl g) (ses0 g cells, eager0 g cells) l
def eagerS (g : Graph) (cells : List Int) (l : List Act) : List Show := if fitS g cells l = true then (eagerR g cells l).2.2.1 else []
theorem eagerFl_eq {g : Graph} {a p : List Int} (hG : validG g = true) (ha : validC g a = true) (hp : validC g p = true) (o : List Show) (n : Int) (s : List Bool) :
  eagerFl g (startE g a, o, n) p s = (startE g p, o ++ showL (common (effs g s) (mustOr g a p)) (mean g p), n + ((mustOr g a p).length : Int)) := by
 unfold eagerFl
 dsimp only
 have h : writeE g (startE g a) (inputsL g) (valuesL g p) = (startE g p, mustOr g a p) := by
  rw [write_start (mayWrite_all hG ha hp)]
  have : cellsOf g (startE g a).vals = a := start_cells ha
  rw [this, written_all ha hp]
 rw [h]
 rfl
/-- what holds of both machines side by side -/
theorem eager_plain {g : Graph} {cells : List Int} {l : List Act} (h : fitS g cells l = true) (k : Nat) (hk : k ≤ l.length) :
  ∃ n, eagerR g cells (l.take k) = ((runS (plainFl g) (ses0 g cells, (cells, showL (effs g (List.replicate g.length false)) (mean g cells))) (l.take k)).1, startE g (runS (plainFl g) (ses0 g cells, (cells, showL (effs g (List.replicate g.length false)) (mean g cells))) (l.take k)).2.1, (runS (plainFl g) (ses0 g cells, (cells, showL (effs g (List.replicate g.length false)) (mean g cells))) (l.take k)).2.2, n) ∧
   validC g (runS (plainFl g) (ses0 g cells, (cells, showL (effs g (List.replicate g.length false)) (mean g cells))) (l.take k)).2.1 = true := by
 obtain ⟨hG, hC, hA, hl⟩ := fitS_parts h
 induction k with
 | zero => exact ⟨_, rfl, hC⟩
 | succ k ih =>
  obtain ⟨n, e, hv⟩ := ih (by omega)
  have hs := runS_ok (plainFl g) (q := (ses0 g cells, (cells, showL (effs g (List.replicate g.length false)) (mean g cells)))) (ses0_ok hC) l hA k (by omega)
  have e2 : l.take (k + 1) = l.take k ++ [l[k]] := List.take_succ_eq_append_getElem (by omega)
  have hx := hs.step (hA _ (List.getElem_mem (show k < l.length by omega)))
  unfold eagerR at e ⊢
  rw [e2, runS_snoc, runS_snoc, e]
  generalize runS (plainFl g) (ses0 g cells, (cells, showL (effs g (List.replicate g.length false)) (mean g cells))) (l.take k) = q at hv hx
  unfold stepR
  dsimp only
  by_cases hd : (stepS q.1 l[k]).2 = true
  ·rw [if_pos hd, if_pos hd, eagerFl_eq hG hv hx.c]
   exact ⟨_, rfl, hx.c⟩
  ·rw [if_neg hd, if_neg hd]
   exact ⟨n, rfl, hv⟩
/-- eager machines show what is meant -/
theorem eager_is_plain (g : Graph) (cells : List Int) (l : List Act) : eagerS g cells l = plainS g cells l := by
 unfold eagerS plainS
 split
 ·rename_i h
  obtain ⟨n, e, _⟩ := eager_plain h l.length (Nat.le_refl _)
  rw [List.take_length] at e
  rw [e]
 ·rfl
end Sg
