/- The plain law of moves in histories: steps back and forth are nothing. No program in sight. Conditions: none. -/
import Derived.Test.YteighpaljdlnaaaHisP
namespace Go.Proofs.Yteighpaljdlnaaa
open Go.RowKit
theorem diffL_comm {a b : List Int} (h : a.length = b.length) : Sg.diffL a b = Sg.diffL b a := by
 unfold Sg.diffL
 rw [h]
 congr 1
 funext i
 rw [Bool.eq_iff_iff]
 simp only [bne_iff_ne, ne_eq]
 exact ⟨fun h e => h e.symm, fun h e => h e.symm⟩
theorem changedOr_comm (g : Sg.Graph) (a b : List Int) : changedOr g a b = changedOr g b a := by
 unfold changedOr
 rw [diffL_comm (show (Sg.mean g a).length = (Sg.mean g b).length by rw [Sg.length_mean, Sg.length_mean])]
 cases Sg.validG g <;> cases Sg.validC g a <;> cases Sg.validC g b <;> rfl
theorem move_law {g : Sg.Graph} {ll : List (List Int)} {p n : Int} (hO : Sg.moveOk g ⟨ll, p⟩ n = true) : ∃ i j : Nat, p = i ∧ (i : Int) + n = j ∧ i < ll.length ∧ j < ll.length ∧ ll.length ≤ 10 ∧ Sg.moveH g ⟨ll, i⟩ n = ⟨ll, j⟩ ∧ Sg.moveOk g ⟨ll, j⟩ (-n) = true ∧
  Sg.moveH g ⟨ll, j⟩ (-n) = ⟨ll, i⟩ ∧ moveC g ⟨ll, i⟩ n = changedOr g (ll.getD i []) (ll.getD j []) ∧ moveC g ⟨ll, j⟩ (-n) = changedOr g (ll.getD i []) (ll.getD j []) := by
 have h1 := hO
 unfold Sg.moveOk at h1
 rw [Bool.and_eq_true] at h1
 obtain ⟨hv, hr⟩ := h1
 obtain ⟨h2, hG, hl1, hl2, hp0, hp1⟩ := Sg.validH_parts hv
 simp only [Sg.inR, Bool.and_eq_true, decide_eq_true_eq] at hr hl1 hl2 hp0 hp1
 obtain ⟨i, rfl⟩ := Int.eq_ofNat_of_zero_le hp0
 obtain ⟨j, hj⟩ := Int.eq_ofNat_of_zero_le hr.1
 have hjn : (j : Int) + -n = i := by omega
 have hM : Sg.moveH g ⟨ll, i⟩ n = ⟨ll, j⟩ := by unfold Sg.moveH; rw [if_pos hO]; simp only [hj]
 have hO2 : Sg.moveOk g ⟨ll, j⟩ (-n) = true := by
  unfold Sg.moveOk
  rw [Bool.and_eq_true]
  refine ⟨?_, ?_⟩
  ·unfold Sg.validH at hv ⊢
   rw [Bool.and_eq_true] at hv ⊢
   refine ⟨hv.1, ?_⟩
   simp only [Sg.inR, Bool.and_eq_true, decide_eq_true_eq]
   omega
  ·simp only [Sg.inR, Bool.and_eq_true, decide_eq_true_eq]
   omega
 refine ⟨i, j, rfl, hj, by omega, by omega, hl2, hM, hO2, ?_, ?_, ?_⟩
 ·unfold Sg.moveH; rw [if_pos hO2]; simp only [hjn]
 ·unfold moveC; rw [if_pos hO]; simp only [hj, Int.toNat_natCast]
 ·unfold moveC; rw [if_pos hO2]; simp only [hjn, Int.toNat_natCast]; exact changedOr_comm _ _ _
end Go.Proofs.Yteighpaljdlnaaa
