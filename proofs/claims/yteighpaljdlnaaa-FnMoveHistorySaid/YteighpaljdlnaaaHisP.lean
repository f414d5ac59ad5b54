/- Histories in plain Lean: validity, moves. No program in sight. Conditions: none. -/
import Derived.Test.YteighpaljdlnaaaMeanAll
namespace Sg
/-- states of cells, and the place of the one that holds -/
structure Hist where
 sts : List (List Int)
 pos : Int
def validH (g : Graph) (h : Hist) : Bool := h.sts.all (validC g) && validG g && inR h.sts.length 1 10 && inR h.pos 0 ((h.sts.length : Int) - 1)
def moveOk (g : Graph) (h : Hist) (n : Int) : Bool := validH g h && inR (h.pos + n) 0 ((h.sts.length : Int) - 1)
def moveH (g : Graph) (h : Hist) (n : Int) : Hist := if moveOk g h n = true then ⟨h.sts, h.pos + n⟩ else ⟨[], 0⟩
theorem validH_parts {g : Graph} {h : Hist} (k : validH g h = true) : (∀ l ∈ h.sts, validC g l = true) ∧ validG g = true ∧ 1 ≤ h.sts.length ∧ h.sts.length ≤ 10 ∧ 0 ≤ h.pos ∧ h.pos < h.sts.length := by
 unfold validH inR at k
 simp only [Bool.and_eq_true, decide_eq_true_eq, List.all_eq_true] at k
 obtain ⟨⟨⟨h1, h2⟩, h3, h4⟩, h5, h6⟩ := k
 exact ⟨h1, h2, by omega, by omega, h5, by omega⟩
theorem validH_bad {g : Graph} {r : List (List Int)} {p : Int} {l : List Int} (hm : l ∈ r) (hv : validC g l = false) : false = validH g ⟨r, p⟩ := by
 have : r.all (validC g) = false := by rw [List.all_eq_false]; exact ⟨l, hm, by rw [hv]; simp⟩
 unfold validH
 simp [this]
end Sg
namespace Go.Proofs.Yteighpaljdlnaaa
open Go.RowKit
def moveC (g : Sg.Graph) (h : Sg.Hist) (n : Int) : List Int := if Sg.moveOk g h n = true then changedOr g (h.sts.getD h.pos.toNat []) (h.sts.getD (h.pos + n).toNat []) else []
structure SmallH (s : Sg.Hist) : Prop where
 r : s.sts.length ≤ 1048576
 e : ∀ l ∈ s.sts, l.length ≤ 1048576
 t : totL s.sts ≤ 1048576
theorem moveC_len (g : Sg.Graph) (h : Sg.Hist) (n : Int) : (moveC g h n).length ≤ 10 := by
 unfold moveC
 split
 ·exact changedOr_len _ _ _
 ·simp
theorem moveH_small (g : Sg.Graph) (h : Sg.Hist) (n : Int) : SmallH (Sg.moveH g h n) := by
 unfold Sg.moveH
 split
 ·rename_i k
  unfold Sg.moveOk at k
  rw [Bool.and_eq_true] at k
  obtain ⟨h1, h2, h3, h4, -⟩ := Sg.validH_parts k.1
  have hg : g.length ≤ 10 := by unfold Sg.validG at h2; simp only [Bool.and_eq_true, decide_eq_true_eq] at h2; exact h2.2
  have hl : ∀ l ∈ h.sts, l.length ≤ 10 := fun l hm => by
   have := h1 l hm
   unfold Sg.validC at this
   simp only [Bool.and_eq_true, decide_eq_true_eq] at this
   omega
  have ht : ∀ ll : List (List Int), (∀ l ∈ ll, l.length ≤ 10) → totL ll ≤ 10 * ll.length := by
   intro ll
   induction ll with
   | nil => intro _; simp [totL]
   | cons x r ih =>
    intro hx
    have a1 := ih fun l hm => hx l (by simp [hm])
    have a2 := hx x (by simp)
    simp only [totL, List.map_cons, List.sum_cons, List.length_cons] at a1 ⊢
    omega
  have := ht _ hl
  exact ⟨by show h.sts.length ≤ _; omega, fun l hm => Nat.le_trans (hl l hm) (by omega), by show totL h.sts ≤ _; omega⟩
 ·exact ⟨by simp, by simp, by simp [totL]⟩
end Go.Proofs.Yteighpaljdlnaaa
