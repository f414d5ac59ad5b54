/- FnExactWriteHasty: the law's walk with the contracts of both functions. Conditions: the arguments can be read. -/
import Derived.Test.YtmelggoagbhieaaGreatLawWH
import Derived.Test.YtmelggoagbhieaaGreatHasE
namespace Go.Proofs.YtmelggoagbhieaaGreat
open Go.RowKit
theorem hastyO_small (g : Sg.Graph) (v : List Int) (r : List (List Int)) (n x : Int) : SmallE (Sg.hastyO g ⟨v, r⟩ n x).1 ∧ (Sg.hastyO g ⟨v, r⟩ n x).2.length ≤ 1048576 := by
  unfold Sg.hastyO
  split
  · rename_i h
    unfold Sg.mayHasty at h
    simp only [Bool.and_eq_true] at h
    have hx : 0 ≤ x ∧ x ≤ 999 := by
      have := h.2
      unfold Sg.inR at this
      simp only [Bool.and_eq_true, decide_eq_true_eq] at this
      exact this
    have hI := Sg.hastyR_in h.1.1 (n := n.toNat) hx
    have h10 := validG_len (Sg.validE_parts h.1.1).1
    have hs : ∀ l ∈ (Sg.hastyR g ⟨v, r⟩ n.toNat x).reads, l.length ≤ 4096 := hI.i.le
    have ht := totL_small _ 4096 hs
    have hr := hI.r
    have hv := hI.v
    have hm := hI.m
    generalize Sg.hastyR g ⟨v, r⟩ n.toNat x = u at *
    exact ⟨⟨by show u.vals.length ≤ _; omega, by show u.reads.length ≤ _; omega, fun l hl => Nat.le_trans (hs l hl) (by omega), by show totL u.reads ≤ _; have h9 : u.reads.length * 4096 ≤ 10 * 4096 := Nat.mul_le_mul_right _ (by omega); omega⟩, by show u.ran.length ≤ _; omega⟩
  · exact ⟨⟨by simp, by simp, by simp, by simp [totL]⟩, by simp⟩
theorem ex_FnExactWriteHasty (A0 : Option Addr) (c0 : Nat) (g : Sg.Graph) (A1 : Option Addr) (c1 : Nat) (v : List Int) (B1 : Option Addr) (k1 : Nat) (r : List (List Int)) (n2 n3 : Int) (w : World) (h0 : RdN0 w A0 g) (h1 : Rd w 1 A1 v.length (ints v)) (h2 : RdL0 w B1 r) (_h3 : (Lit.int .i64 n2).wf = true) (_h4 : (Lit.int .i64 n3).wf = true) :
    Calls Tryz.prog 8 #[.agg #[.slice A0 g.length c0], .agg #[.slice A1 v.length c1, .slice B1 r.length k1], .int .i64 n2, .int .i64 n3] w fun e w' => e = .returned (.bool true) ∧ Ext w w' :=
  l_FnExactWriteHasty A0 c0 g A1 c1 v B1 k1 r n2 n3 (Sg.hastyO g ⟨v, r⟩ n2 n3).1 (Sg.hastyO g ⟨v, r⟩ n2 n3).2 (hastyO_small g v r n2 n3).1 (hastyO_small g v r n2 n3).2
    (fun B0 d0 B1 d1 E1 e1 w h hv hr hvl => s_WriteHasty B0 B1 E1 d0 d1 e1 g v r n2 n3 w h hv hr hvl)
    (fun B0 d0 B1 d1 E1 e1 w h hv hr hvl => i_WriteHasty B0 B1 E1 d0 d1 e1 g v r n2 n3 w h hv hr hvl) w h0 h1 h2
end Go.Proofs.YtmelggoagbhieaaGreat
