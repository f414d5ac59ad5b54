/- FnExactSettleLazy: the law's walk with the contracts of both functions. Conditions: the arguments can be read. -/
import Derived.Test.YtmelggoagbhieaaGreatLawSL
import Derived.Test.YtmelggoagbhieaaGreatLawSZ
import Derived.Test.YtmelggoagbhieaaGreatLazS
import Derived.Test.YtmelggoagbhieaaGreatLazT
namespace Go.Proofs.YtmelggoagbhieaaGreat
open Go.RowKit
theorem settleO_small (g : Sg.Graph) (st : Sg.Lazy) : SmallZ (Sg.settleO g st).1 ∧ (Sg.settleO g st).2.length ≤ 1048576 := by
  unfold Sg.settleO
  split
  · rename_i h
    have hc := Sg.readsL_cleaned (s := ⟨st, []⟩) h (Sg.allL g.length) (fun k hk => (List.all_eq_true.1 (Sg.allL_all g.length)) k hk)
    have hl := hc.ran_len
    have h10 := Sg.validG_len10 (Sg.validL_shape h).1
    exact ⟨smallZ_of hc.ok rfl rfl, by show (Sg.readsL g (Sg.allL g.length) ⟨st, []⟩).ran.length ≤ _; simp at hl; omega⟩
  · exact ⟨smallZ_nil, by simp⟩
theorem ex_FnExactSettleLazy (A0 : Option Addr) (c0 : Nat) (g : Sg.Graph) (A1 : Option Addr) (c1 : Nat) (v : List Int) (B1 : Option Addr) (k1 : Nat) (r : List (List Int)) (C1 : Option Addr) (m1 : Nat) (q : List Int) (w : World) (h0 : RdN0 w A0 g) (h1 : Rd w 1 A1 v.length (ints v)) (h2 : RdL0 w B1 r) (h3 : Rd w 1 C1 q.length (ints q)) :
    Calls Tryz.prog 7 #[.agg #[.slice A0 g.length c0], .agg #[.slice A1 v.length c1, .slice B1 r.length k1, .slice C1 q.length m1]] w fun e w' => e = .returned (.bool true) ∧ Ext w w' :=
  l_FnExactSettleLazy A0 c0 g A1 c1 v B1 k1 r C1 m1 q (Sg.settleO g ⟨v, r, q⟩).1 (Sg.settleO g ⟨v, r, q⟩).2 (settleO_small g ⟨v, r, q⟩).1 (settleO_small g ⟨v, r, q⟩).2
    (fun B0 d0 B1 d1 E1 e1 F1 f1 w h hv hr hq hvl hql => s_SettleLazy B0 B1 E1 F1 d0 d1 e1 f1 g v q r w h hv hr hq hvl hql)
    (fun B0 d0 B1 d1 E1 e1 F1 f1 w h hv hr hq hvl hql => i_SettleLazy B0 B1 E1 F1 d0 d1 e1 f1 g v q r w h hv hr hq hvl hql) w h0 h1 h2 h3
end Go.Proofs.YtmelggoagbhieaaGreat
