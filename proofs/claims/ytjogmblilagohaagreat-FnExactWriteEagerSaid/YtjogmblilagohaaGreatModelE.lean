/- The plain model of eager writes: no program in sight. Conditions: none. -/
import Derived.Test.YtjogmblilagohaaGreatModelC
namespace Sg
/-- a state while it is written: values, reads, what changed, what ran -/
structure WrS where
  vals : List Int
  reads : List (List Int)
  ch : List Bool
  ran : List Int
def wstep (s : List Int × List Bool) (n x : Int) : List Int × List Bool := (s.1.set n.toNat x, s.2.set n.toNat (s.1.getD n.toNat 0 != x))
def wcells (s : List Int × List Bool) (nodes values : List Int) (k : Nat) : List Int × List Bool := ((nodes.zip values).take k).foldl (fun s p => wstep s p.1 p.2) s
theorem wcells_succ (s : List Int × List Bool) (nodes values : List Int) (k : Nat) {n x : Int} (hn : nodes[k]? = some n) (hx : values[k]? = some x) : wcells s nodes values (k + 1) = wstep (wcells s nodes values k) n x := by
  unfold wcells
  have hz : (nodes.zip values)[k]? = some (n, x) := by rw [List.getElem?_zip_eq_some]; exact ⟨hn, hx⟩
  obtain ⟨hk, he⟩ := List.getElem?_eq_some_iff.1 hz
  rw [List.take_succ_eq_append_getElem hk, List.foldl_append, he]
  rfl
@[simp] theorem wcells_zero (s : List Int × List Bool) (nodes values : List Int) : wcells s nodes values 0 = s := rfl
@[simp] theorem wstep_len1 (s : List Int × List Bool) (n x : Int) : (wstep s n x).1.length = s.1.length := by simp [wstep]
@[simp] theorem wstep_len2 (s : List Int × List Bool) (n x : Int) : (wstep s n x).2.length = s.2.length := by simp [wstep]
theorem foldl_len (l : List (Int × Int)) (s : List Int × List Bool) : (l.foldl (fun s p => wstep s p.1 p.2) s).1.length = s.1.length ∧ (l.foldl (fun s p => wstep s p.1 p.2) s).2.length = s.2.length := by
  induction l generalizing s with
  | nil => exact ⟨rfl, rfl⟩
  | cons a l ih => rw [List.foldl_cons]; have := ih (wstep s a.1 a.2); simpa using this
@[simp] theorem wcells_len1 (s : List Int × List Bool) (nodes values : List Int) (k : Nat) : (wcells s nodes values k).1.length = s.1.length := (foldl_len _ _).1
@[simp] theorem wcells_len2 (s : List Int × List Bool) (nodes values : List Int) (k : Nat) : (wcells s nodes values k).2.length = s.2.length := (foldl_len _ _).2
def hit (s : WrS) (l : List Int) : Bool := l.any fun k => s.ch.getD k.toNat false
def rstep (g : Graph) (s : WrS) (i : Nat) : WrS :=
  if ((g.getD i default).kind != 0 && hit s (s.reads.getD i [])) = true then
    ⟨s.vals.set i (runF (g.getD i default).f s.vals).1, s.reads.set i (runF (g.getD i default).f s.vals).2, s.ch.set i ((runF (g.getD i default).f s.vals).1 != s.vals.getD i 0), s.ran ++ [(i : Int)]⟩
  else s
def rsteps (g : Graph) (s : WrS) (k : Nat) : WrS := (List.range k).foldl (rstep g) s
@[simp] theorem rsteps_zero (g : Graph) (s : WrS) : rsteps g s 0 = s := rfl
theorem rsteps_succ (g : Graph) (s : WrS) (k : Nat) : rsteps g s (k + 1) = rstep g (rsteps g s k) k := by unfold rsteps; rw [List.range_succ, List.foldl_append]; rfl
def writeS (g : Graph) (st : Eager) (nodes values : List Int) : WrS :=
  rsteps g ⟨(wcells (st.vals, List.replicate g.length false) nodes values nodes.length).1, st.reads, (wcells (st.vals, List.replicate g.length false) nodes values nodes.length).2, []⟩ g.length
def writeE (g : Graph) (st : Eager) (nodes values : List Int) : Eager × List Int := (⟨(writeS g st nodes values).vals, (writeS g st nodes values).reads⟩, (writeS g st nodes values).ran)
def isCell (g : Graph) (n : Int) : Bool := inR n 0 ((g.length : Int) - 1) && decide (kindAt g n = 0)
def cellsDiffer (g : Graph) (nodes : List Int) : Bool := (List.range nodes.length).all fun k => isCell g (nodes.getD k 0) && decide (nodes.getD k 0 ∉ nodes.take k)
def mayWrite (g : Graph) (st : Eager) (nodes values : List Int) : Bool := validE g st && cellsDiffer g nodes && decide (nodes.length = values.length) && inR999 values
def writeOr (g : Graph) (st : Eager) (nodes values : List Int) : Eager × List Int := if mayWrite g st nodes values = true then writeE g st nodes values else (⟨[], []⟩, [])
/-- what holds of a state while it is written -/
structure WrOk (g : Graph) (s : WrS) : Prop where
  v : s.vals.length = g.length
  r : s.reads.length = g.length
  c : s.ch.length = g.length
  n : inRange s.vals
theorem WrOk.step {g : Graph} {s : WrS} (hG : validG g = true) (h : WrOk g s) (i : Nat) (hi : i < g.length) : WrOk g (rstep g s i) := by
  unfold rstep
  split
  · rename_i hc
    simp only [Bool.and_eq_true, bne_iff_ne] at hc
    refine ⟨by simp [h.v], by simp [h.r], by simp [h.c], ?_⟩
    intro x hx
    rcases List.mem_or_eq_of_mem_set hx with hx | rfl
    · exact h.n x hx
    · have hn : g[i]? = some g[i] := List.getElem?_eq_getElem hi
      have hd : g.getD i default = g[i] := by simp [hn]
      rw [hd] at hc ⊢
      exact runF_range (validG_fok hG i hn hc.1) h.n
  · exact h
theorem WrOk.steps {g : Graph} {s : WrS} (hG : validG g = true) (h : WrOk g s) (k : Nat) (hk : k ≤ g.length) : WrOk g (rsteps g s k) := by
  induction k with
  | zero => exact h
  | succ k ih => rw [rsteps_succ]; exact (ih (by omega)).step hG k (by omega)
theorem rstep_ran (g : Graph) (s : WrS) (i : Nat) : (rstep g s i).ran.length ≤ s.ran.length + 1 := by
  unfold rstep
  split <;> simp
theorem rsteps_ran (g : Graph) (s : WrS) (k : Nat) : (rsteps g s k).ran.length ≤ s.ran.length + k := by
  induction k with
  | zero => simp
  | succ k ih => rw [rsteps_succ]; have := rstep_ran g (rsteps g s k) k; omega
theorem wcells_range (v : List Int) (c : List Bool) (nodes values : List Int) (k : Nat) (hv : inRange v) (hx : inRange values) : inRange (wcells (v, c) nodes values k).1 := by
  unfold wcells
  have key : ∀ (l : List (Int × Int)) (s : List Int × List Bool), inRange s.1 → (∀ p ∈ l, 0 ≤ p.2 ∧ p.2 ≤ 999) → inRange (l.foldl (fun s p => wstep s p.1 p.2) s).1 := by
    intro l
    induction l with
    | nil => intro s hs _; exact hs
    | cons a l ih =>
      intro s hs hp
      rw [List.foldl_cons]
      refine ih _ ?_ (fun p hp' => hp p (by simp [hp']))
      intro x hx
      rcases List.mem_or_eq_of_mem_set hx with hx | rfl
      · exact hs x hx
      · exact hp a (by simp)
  refine key _ _ hv (fun p hp => ?_)
  have h1 := List.mem_of_mem_take hp
  exact hx p.2 (List.of_mem_zip h1).2
theorem isCell_at {g : Graph} {n : Int} (h : isCell g n = true) : ∃ (k : Nat) (x : Node), n = k ∧ g[k]? = some x ∧ x.kind = 0 := by
  unfold isCell inR kindAt at h
  simp only [Bool.and_eq_true, decide_eq_true_eq] at h
  obtain ⟨k, rfl⟩ := Int.eq_ofNat_of_zero_le h.1.1
  have hk : k < g.length := by omega
  have hn : g[k]? = some g[k] := List.getElem?_eq_getElem hk
  refine ⟨k, _, rfl, hn, ?_⟩
  have := h.2
  rw [Int.toNat_natCast] at this
  simpa [hn] using this
theorem cellsDiffer_at {g : Graph} {nodes : List Int} (h : cellsDiffer g nodes = true) {k : Nat} {n : Int} (hn : nodes[k]? = some n) : isCell g n = true ∧ n ∉ nodes.take k := by
  unfold cellsDiffer at h
  rw [List.all_eq_true] at h
  have := h k (List.mem_range.2 (List.getElem?_eq_some_iff.1 hn).1)
  simp only [Bool.and_eq_true, decide_eq_true_eq, List.getD_eq_getElem?_getD, hn, Option.getD_some] at this
  exact this
theorem cellsDiffer_nodup {g : Graph} {nodes : List Int} (h : cellsDiffer g nodes = true) : nodes.Nodup := by
  rw [List.nodup_iff_pairwise_ne, List.pairwise_iff_getElem]
  intro i j hi hj hij e
  have := (cellsDiffer_at h (List.getElem?_eq_getElem hj)).2
  rw [← e] at this
  refine this ?_
  rw [List.mem_take_iff_getElem]
  exact ⟨i, by omega, rfl⟩
end Sg
