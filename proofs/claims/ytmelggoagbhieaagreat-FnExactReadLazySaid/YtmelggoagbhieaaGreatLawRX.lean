/- FnExactReadLazy: the law's walk with the contracts of both functions. Conditions: the arguments can be read. -/
import Derived.Test.YtmelggoagbhieaaGreatLawRL
import Derived.Test.YtmelggoagbhieaaGreatLawSZ
import Derived.Test.YtmelggoagbhieaaGreatLazP
import Derived.Test.YtmelggoagbhieaaGreatLazQ
namespace Go.Proofs.YtmelggoagbhieaaGreat
open Go.RowKit
theorem readLO_small (g : Sg.Graph) (st : Sg.Lazy) (n : Int) : SmallZ (Sg.readLO g st n).1 ∧ (Sg.readLO g st n).2.2.length ≤ 1048576 := by
  unfold Sg.readLO
  split
  · rename_i h
    simp only [Bool.and_eq_true] at h
    have hc := Sg.clean_in (s := ⟨st, []⟩) h.1 (Sg.Cleaned.refl h.1) h.2
    have hl := hc.ran_len
    have h10 := Sg.validG_len10 (Sg.validL_shape h.1).1
    exact ⟨smallZ_of hc.ok rfl rfl, by show (Sg.readS g st n).ran.length ≤ _; unfold Sg.readS; simp at hl; omega⟩
  · exact ⟨smallZ_nil, by simp⟩
theorem ex_FnExactReadLazy (A0 : Option Addr) (c0 : Nat) (g : Sg.Graph) (A1 : Option Addr) (c1 : Nat) (v : List Int) (B1 : Option Addr) (k1 : Nat) (r : List (List Int)) (C1 : Option Addr) (m1 : Nat) (q : List Int) (n2 : Int) (w : World) (h0 : RdN0 w A0 g) (h1 : Rd w 1 A1 v.length (ints v)) (h2 : RdL0 w B1 r) (h3 : Rd w 1 C1 q.length (ints q)) (_h4 : (Lit.int .i64 n2).wf = true) :
    Calls Tryz.prog 5 #[.agg #[.slice A0 g.length c0], .agg #[.slice A1 v.length c1, .slice B1 r.length k1, .slice C1 q.length m1], .int .i64 n2] w fun e w' => e = .returned (.bool true) ∧ Ext w w' :=
  l_FnExactReadLazy A0 c0 g A1 c1 v B1 k1 r C1 m1 q n2 (Sg.readLO g ⟨v, r, q⟩ n2).1 (Sg.readLO g ⟨v, r, q⟩ n2).2.1 (Sg.readLO g ⟨v, r, q⟩ n2).2.2 (readLO_small g ⟨v, r, q⟩ n2).1 (readLO_small g ⟨v, r, q⟩ n2).2
    (fun B0 d0 B1 d1 E1 e1 F1 f1 w h hv hr hq hvl hql => s_ReadLazy B0 B1 E1 F1 d0 d1 e1 f1 g v q r n2 w h hv hr hq hvl hql)
    (fun B0 d0 B1 d1 E1 e1 F1 f1 w h hv hr hq hvl hql => i_ReadLazy B0 B1 E1 F1 d0 d1 e1 f1 g v q r n2 w h hv hr hq hvl hql) w h0 h1 h2 h3
end Go.Proofs.YtmelggoagbhieaaGreat
