/- What a write leaves is small. Conditions: none. -/
import Derived.Test.YtmkfjnkdaeoppaaGreatWriteE
namespace Go.Proofs.YtmkfjnkdaeoppaaGreat
open Go.RowKit
theorem wrIn_step {g : Sg.Graph} {s : Sg.WrS} (hG : Sg.validG g = true) (h : Sg.WrIn g s.reads) {i : Nat} (hi : i < g.length) : Sg.WrIn g (Sg.rstep g s i).reads := by
 obtain ⟨n, hn⟩ : ∃ n, g[i]? = some n := ⟨_, List.getElem?_eq_getElem hi⟩
 by_cases h0 : n.kind = 0
 ·rw [Sg.rstep_no hn (.inl h0)]; exact h
 ·cases hb : Sg.hit s (s.reads.getD i [])
  ·rw [Sg.rstep_no hn (.inr hb)]; exact h
  ·rw [Sg.rstep_yes hn h0 hb]; exact h.put hG s.vals hn h0
theorem wrIn_steps {g : Sg.Graph} {s : Sg.WrS} (hG : Sg.validG g = true) (h : Sg.WrIn g s.reads) (k : Nat) (hk : k ≤ g.length) : Sg.WrIn g (Sg.rsteps g s k).reads := by
 induction k with
 | zero => exact h
 | succ k ih => rw [Sg.rsteps_succ]; exact wrIn_step hG (ih (by omega)) (by omega)
theorem writeOr_small (g : Sg.Graph) (v : List Int) (r : List (List Int)) (nodes vals : List Int) : SmallE (Sg.writeOr g ⟨v, r⟩ nodes vals).1 ∧ (Sg.writeOr g ⟨v, r⟩ nodes vals).2.length ≤ 1048576 := by
 unfold Sg.writeOr
 split
 ·rename_i h
  unfold Sg.mayWrite at h
  simp only [Bool.and_eq_true, decide_eq_true_eq] at h
  obtain ⟨⟨⟨hV, hC⟩, hL⟩, hR⟩ := h
  obtain ⟨s1, s2⟩ := writeS_shape (nodes := nodes) hV (Sg.inR999_range hR)
  obtain ⟨hG, hvl, hrl, hvr, _⟩ := Sg.validE_parts hV
  have h10 := validG_len hG
  have hv10 : v.length = g.length := hvl
  have hr10 : r.length = g.length := hrl
  have hI : Sg.WrIn g (Sg.writeS g ⟨v, r⟩ nodes vals).reads := wrIn_steps hG (Sg.WrIn.of hV) g.length (Nat.le_refl _)
  have hn : (Sg.writeS g ⟨v, r⟩ nodes vals).ran.length ≤ 0 + g.length := Sg.rsteps_ran g _ g.length
  have ht := totL_small _ 4096 hI.le
  refine ⟨⟨?_, ?_, fun l hl => Nat.le_trans (hI.le l hl) (by omega), ?_⟩, ?_⟩
  ·show (Sg.writeS g ⟨v, r⟩ nodes vals).vals.length ≤ _
   omega
  ·show (Sg.writeS g ⟨v, r⟩ nodes vals).reads.length ≤ _
   omega
  ·show totL (Sg.writeS g ⟨v, r⟩ nodes vals).reads ≤ _
   omega
  ·show (Sg.writeS g ⟨v, r⟩ nodes vals).ran.length ≤ _
   omega
 ·exact ⟨⟨by simp, by simp, by simp, by simp [totL]⟩, by simp⟩
end Go.Proofs.YtmkfjnkdaeoppaaGreat
