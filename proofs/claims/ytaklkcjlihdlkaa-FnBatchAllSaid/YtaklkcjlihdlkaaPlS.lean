/- Sessions in plain Lean: acts, what they do, what effects show. No program in sight. Conditions: none. -/
import Derived.Test.YtaklkcjlihdlkaaModelsA
namespace Sg
structure Act where
 kind : Int
 node : Int
 val : Int
structure Show where
 node : Int
 val : Int
def actOk (g : Graph) (a : Act) : Bool :=
 if a.kind = 0 then isCell g a.node && inR a.val 0 999
 else if a.kind = 1 then inR a.node 0 ((g.length : Int) - 1) && decide (kindAt g a.node = 2) && decide (a.val = 0)
 else if a.kind = 2 ∨ a.kind = 3 then decide (a.node = 0) && decide (a.val = 0) else false
def validA (g : Graph) (l : List Act) : Bool := l.all (actOk g) && validG g && decide (l.length ≤ 30)
/-- what a session keeps: batches that are open, the cells, the effects that are stopped -/
structure Ses where
 opn : Nat
 pend : List Int
 stop : List Bool
def stepS (x : Ses) (a : Act) : Ses × Bool :=
 if a.kind = 0 then (⟨x.opn, x.pend.set a.node.toNat a.val, x.stop⟩, decide (x.opn = 0))
 else if a.kind = 1 then (⟨x.opn, x.pend, x.stop.set a.node.toNat true⟩, false)
 else if a.kind = 2 then (⟨x.opn + 1, x.pend, x.stop⟩, false)
 else (⟨x.opn - 1, x.pend, x.stop⟩, decide (x.opn = 1))
def stepR {σ : Type} (fl : σ → List Int → List Bool → σ) (q : Ses × σ) (a : Act) : Ses × σ :=
 ((stepS q.1 a).1, if (stepS q.1 a).2 = true then fl q.2 (stepS q.1 a).1.pend (stepS q.1 a).1.stop else q.2)
def runS {σ : Type} (fl : σ → List Int → List Bool → σ) (q : Ses × σ) (l : List Act) : Ses × σ := l.foldl (stepR fl) q
theorem runS_snoc {σ : Type} (fl : σ → List Int → List Bool → σ) (q : Ses × σ) (l : List Act) (a : Act) : runS fl q (l ++ [a]) = stepR fl (runS fl q l) a := by simp [runS]
def ses0 (g : Graph) (cells : List Int) : Ses := ⟨0, cells, List.replicate g.length false⟩
def effs (g : Graph) (s : List Bool) : List Int := whichL (fun i => decide (kindAt g (i : Int) = 2) && !(s.getD i false)) g.length
def showL (nodes values : List Int) : List Show := nodes.map fun n => ⟨n, rd values n⟩
def plainFl (g : Graph) (q : List Int × List Show) (p : List Int) (s : List Bool) : List Int × List Show := (p, q.2 ++ showL (common (effs g s) (mustOr g q.1 p)) (mean g p))
def fitS (g : Graph) (cells : List Int) (l : List Act) : Bool := validG g && validC g cells && validA g l
def plainS (g : Graph) (cells : List Int) (l : List Act) : List Show :=
 if fitS g cells l = true then (runS (plainFl g) (ses0 g cells, (cells, showL (effs g (List.replicate g.length false)) (mean g cells))) l).2.2 else []

/-- what a session keeps true -/
structure SesOk (g : Graph) (x : Ses) (k : Nat) : Prop where
 c : validC g x.pend = true
 s : x.stop.length = g.length
 o : x.opn ≤ k
theorem length_validC {g : Graph} {l : List Int} (h : validC g l = true) : l.length = g.length := by
 unfold validC at h
 simp only [Bool.and_eq_true, decide_eq_true_eq] at h
 exact h.1
theorem validC_put {g : Graph} {l : List Int} (h : validC g l = true) {n v : Int} (hn : isCell g n = true) (hv : inR v 0 999 = true) : validC g (l.set n.toNat v) = true := by
 have hl := length_validC h
 unfold validC at h ⊢
 simp only [Bool.and_eq_true, decide_eq_true_eq, List.length_set, List.all_eq_true, List.mem_range] at h ⊢
 refine ⟨hl, fun i hi => ?_⟩
 have h1 := h.2 i hi
 unfold isCell at hn
 simp only [Bool.and_eq_true, decide_eq_true_eq, inR] at hn
 unfold cellOk at h1 ⊢
 by_cases e : n.toNat = i
 ·subst e
  have hk : kindAt g ((n.toNat : Nat) : Int) = 0 := by rw [Int.toNat_of_nonneg hn.1.1]; exact hn.2
  simp only [List.getD_eq_getElem?_getD, List.getElem?_set_self hi, Option.getD_some, hk]
  simpa using hv
 ·simp only [List.getD_eq_getElem?_getD, List.getElem?_set_ne e] at h1 ⊢
  exact h1
theorem SesOk.step {g : Graph} {x : Ses} {k : Nat} (h : SesOk g x k) {a : Act} (ha : actOk g a = true) : SesOk g (stepS x a).1 (k + 1) := by
 unfold stepS
 unfold actOk at ha
 split
 ·rename_i h0
  rw [if_pos h0, Bool.and_eq_true] at ha
  exact ⟨validC_put h.c ha.1 ha.2, h.s, by have := h.o; show x.opn ≤ k + 1; omega⟩
 ·split
  ·exact ⟨h.c, by show (x.stop.set _ _).length = _; rw [List.length_set]; exact h.s, by have := h.o; show x.opn ≤ k + 1; omega⟩
  ·split
   ·exact ⟨h.c, h.s, by have := h.o; show x.opn + 1 ≤ k + 1; omega⟩
   ·exact ⟨h.c, h.s, by have := h.o; show x.opn - 1 ≤ k + 1; omega⟩
theorem ses0_ok {g : Graph} {cells : List Int} (h : validC g cells = true) : SesOk g (ses0 g cells) 0 := ⟨h, by simp [ses0], Nat.le_refl _⟩
theorem runS_ok {σ : Type} (fl : σ → List Int → List Bool → σ) {g : Graph} {q : Ses × σ} (h : SesOk g q.1 0) (l : List Act) (hl : ∀ a ∈ l, actOk g a = true) (k : Nat) (hk : k ≤ l.length) : SesOk g (runS fl q (l.take k)).1 k := by
 induction k with
 | zero => simpa [runS] using h
 | succ k ih =>
  have hx : l[k]? = some l[k] := List.getElem?_eq_getElem (by omega)
  have e : l.take (k + 1) = l.take k ++ [l[k]] := List.take_succ_eq_append_getElem (by omega)
  rw [e, runS_snoc]
  exact (ih (by omega)).step (hl _ (List.getElem_mem _))
theorem effs_len (g : Graph) (s : List Bool) : (effs g s).length ≤ g.length := whichL_len _ _
theorem showL_len (a b : List Int) : (showL a b).length = a.length := by simp [showL]
theorem plainFl_len (g : Graph) (q : List Int × List Show) (p : List Int) (s : List Bool) : (plainFl g q p s).2.length ≤ q.2.length + g.length := by
 unfold plainFl
 have h1 : (common (effs g s) (mustOr g q.1 p)).length ≤ (effs g s).length := List.length_filter_le _ _
 have h2 := effs_len g s
 simp only [List.length_append, showL_len]
 omega
theorem run_len (g : Graph) (q : Ses × List Int × List Show) (l : List Act) : (runS (plainFl g) q l).2.2.length ≤ q.2.2.length + g.length * l.length := by
 induction l generalizing q with
 | nil => simp [runS]
 | cons a l ih =>
  have h1 := ih (stepR (plainFl g) q a)
  have h2 : (stepR (plainFl g) q a).2.2.length ≤ q.2.2.length + g.length := by
   unfold stepR
   split
   ·exact plainFl_len _ _ _ _
   ·show q.2.2.length ≤ _; omega
  simp only [runS, List.foldl_cons, List.length_cons] at h1 ⊢
  rw [Nat.mul_add, Nat.mul_one]
  omega
end Sg
