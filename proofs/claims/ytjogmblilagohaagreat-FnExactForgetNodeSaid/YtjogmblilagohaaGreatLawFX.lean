/- FnExactForgetNode: the law's walk with the contracts of both functions. Conditions: the arguments can be read. -/
import Derived.Test.YtjogmblilagohaaGreatLawFN
import Derived.Test.YtjogmblilagohaaGreatLawSZ
import Derived.Test.YtjogmblilagohaaGreatLazJ
namespace Go.Proofs.YtjogmblilagohaaGreat
open Go.RowKit
theorem forgetLO_small (g : Sg.Graph) (v q : List Int) (r : List (List Int)) (n : Int) : SmallZ (Sg.forgetLO g ⟨v, r, q⟩ n).1 := by
  unfold Sg.forgetLO
  split
  · rename_i h
    unfold Sg.mayForgetL at h
    simp only [Bool.and_eq_true] at h
    obtain ⟨hG, hvl, hrl, hql, _⟩ := Sg.validL_shape h.1.1
    have h10 := vG_len hG
    have hv : v.length = g.length := hvl
    have hr : r.length = g.length := hrl
    have hq : q.length = g.length := hql
    have hs : ∀ l ∈ r.set n.toNat [], l.length ≤ 10 := fun l hl => by
      rcases List.mem_or_eq_of_mem_set hl with hl | rfl
      · exact reads_small h.1.1 l hl
      · simp
    have ht := totL_small (r.set n.toNat []) 10 hs
    rw [List.length_set] at ht
    exact ⟨by show v.length ≤ _; omega, by show (r.set n.toNat []).length ≤ _; rw [List.length_set]; omega, fun l hl => Nat.le_trans (hs l hl) (by omega), by show totL (r.set n.toNat []) ≤ _; omega, by show (Sg.doubtC _ (q.set n.toNat 2) _).length ≤ _; simp; omega⟩
  · exact smallZ_nil
theorem ex_FnExactForgetNode (A0 : Option Addr) (c0 : Nat) (g : Sg.Graph) (A1 : Option Addr) (c1 : Nat) (v : List Int) (B1 : Option Addr) (k1 : Nat) (r : List (List Int)) (C1 : Option Addr) (m1 : Nat) (q : List Int) (n2 : Int) (w : World) (h0 : RdN0 w A0 g) (h1 : Rd w 1 A1 v.length (ints v)) (h2 : RdL0 w B1 r) (h3 : Rd w 1 C1 q.length (ints q)) (_h4 : (Lit.int .i64 n2).wf = true) :
    Calls Tryz.prog 12 #[.agg #[.slice A0 g.length c0], .agg #[.slice A1 v.length c1, .slice B1 r.length k1, .slice C1 q.length m1], .int .i64 n2] w fun e w' => e = .returned (.bool true) ∧ Ext w w' :=
  l_FnExactForgetNode A0 c0 g A1 c1 v B1 k1 r C1 m1 q n2 (Sg.forgetLO g ⟨v, r, q⟩ n2).1 (Sg.forgetLO g ⟨v, r, q⟩ n2).2 (forgetLO_small g v q r n2)
    (fun B0 d0 B1 d1 E1 e1 F1 f1 w h hv hr hq hvl hql => s_ForgetNode B0 B1 E1 F1 d0 d1 e1 f1 g v q r n2 w h hv hr hq hvl hql)
    (fun B0 d0 B1 d1 E1 e1 F1 f1 w h hv hr hq hvl hql => i_ForgetNode B0 B1 E1 F1 d0 d1 e1 f1 g v q r n2 w h hv hr hq hvl hql) w h0 h1 h2 h3
end Go.Proofs.YtjogmblilagohaaGreat
