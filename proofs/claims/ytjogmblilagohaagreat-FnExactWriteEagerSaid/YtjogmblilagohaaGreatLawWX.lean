/- FnExactWriteEager: the law's walk with the contracts of both functions. Conditions: the arguments can be read. -/
import Derived.Test.YtjogmblilagohaaGreatLawWE
import Derived.Test.YtjogmblilagohaaGreatWriteE
namespace Go.Proofs.YtjogmblilagohaaGreat
open Go.RowKit
theorem wrIn_step {g : Sg.Graph} {s : Sg.WrS} (hG : Sg.validG g = true) (h : Sg.WrIn g s.reads) {i : Nat} (hi : i < g.length) : Sg.WrIn g (Sg.rstep g s i).reads := by
  obtain ⟨n, hn⟩ : ∃ n, g[i]? = some n := ⟨_, List.getElem?_eq_getElem hi⟩
  by_cases h0 : n.kind = 0
  · rw [Sg.rstep_no hn (.inl h0)]; exact h
  · cases hb : Sg.hit s (s.reads.getD i [])
    · rw [Sg.rstep_no hn (.inr hb)]; exact h
    · rw [Sg.rstep_yes hn h0 hb]; exact h.put hG s.vals hn h0
theorem wrIn_steps {g : Sg.Graph} {s : Sg.WrS} (hG : Sg.validG g = true) (h : Sg.WrIn g s.reads) (k : Nat) (hk : k ≤ g.length) : Sg.WrIn g (Sg.rsteps g s k).reads := by
  induction k with
  | zero => exact h
  | succ k ih => rw [Sg.rsteps_succ]; exact wrIn_step hG (ih (by omega)) (by omega)
theorem writeOr_small (g : Sg.Graph) (v : List Int) (r : List (List Int)) (nodes vals : List Int) : SmallE (Sg.writeOr g ⟨v, r⟩ nodes vals).1 ∧ (Sg.writeOr g ⟨v, r⟩ nodes vals).2.length ≤ 1048576 := by
  unfold Sg.writeOr
  split
  · rename_i h
    unfold Sg.mayWrite at h
    simp only [Bool.and_eq_true, decide_eq_true_eq] at h
    obtain ⟨⟨⟨hV, hC⟩, hL⟩, hR⟩ := h
    obtain ⟨s1, s2⟩ := writeS_shape (nodes := nodes) hV (Sg.inR999_range hR)
    obtain ⟨hG, hvl, hrl, hvr, _⟩ := Sg.validE_parts hV
    have h10 := validG_len hG
    have hv10 : v.length = g.length := hvl
    have hr10 : r.length = g.length := hrl
    have hI : Sg.WrIn g (Sg.writeS g ⟨v, r⟩ nodes vals).reads := wrIn_steps hG (Sg.WrIn.of hV) g.length (Nat.le_refl _)
    have hn : (Sg.writeS g ⟨v, r⟩ nodes vals).ran.length ≤ 0 + g.length := Sg.rsteps_ran g _ g.length
    have ht := totL_small _ 4096 hI.le
    refine ⟨⟨?_, ?_, fun l hl => Nat.le_trans (hI.le l hl) (by omega), ?_⟩, ?_⟩
    · show (Sg.writeS g ⟨v, r⟩ nodes vals).vals.length ≤ _
      omega
    · show (Sg.writeS g ⟨v, r⟩ nodes vals).reads.length ≤ _
      omega
    · show totL (Sg.writeS g ⟨v, r⟩ nodes vals).reads ≤ _
      omega
    · show (Sg.writeS g ⟨v, r⟩ nodes vals).ran.length ≤ _
      omega
  · exact ⟨⟨by simp, by simp, by simp, by simp [totL]⟩, by simp⟩
theorem ex_FnExactWriteEager (A0 : Option Addr) (c0 : Nat) (g : Sg.Graph) (A1 : Option Addr) (c1 : Nat) (v : List Int) (B1 : Option Addr) (k1 : Nat) (r : List (List Int)) (A2 : Option Addr) (c2 : Nat) (l2 : List Int) (A3 : Option Addr) (c3 : Nat) (l3 : List Int) (w : World) (h0 : RdN0 w A0 g) (h1 : Rd w 1 A1 v.length (ints v)) (h2 : RdL0 w B1 r) (h3 : Rd w 1 A2 l2.length (ints l2)) (h4 : Rd w 1 A3 l3.length (ints l3)) :
    Calls Tryz.prog 4 #[.agg #[.slice A0 g.length c0], .agg #[.slice A1 v.length c1, .slice B1 r.length k1], .slice A2 l2.length c2, .slice A3 l3.length c3] w fun e w' => e = .returned (.bool true) ∧ Ext w w' :=
  l_FnExactWriteEager A0 c0 g A1 c1 v B1 k1 r A2 c2 l2 A3 c3 l3 (Sg.writeOr g ⟨v, r⟩ l2 l3).1 (Sg.writeOr g ⟨v, r⟩ l2 l3).2 (writeOr_small g v r l2 l3).1 (writeOr_small g v r l2 l3).2
    (fun B0 d0 B1 d1 E1 e1 B2 d2 B3 d3 w h hv hr hn hw hvl _ hcn hcm _ => s_WriteEager B0 B1 E1 B2 B3 d0 d1 e1 d2 d3 g v l2 l3 r w h hv hr hn hw hvl hcn hcm)
    (fun B0 d0 B1 d1 E1 e1 B2 d2 B3 d3 w h hv hr hn hw hvl _ hcn hcm _ => i_WriteEager B0 B1 E1 B2 B3 d0 d1 e1 d2 d3 g v l2 l3 r w h hv hr hn hw hvl hcn hcm) w h0 h1 h2 h3 h4
end Go.Proofs.YtjogmblilagohaaGreat
