/- FnExactReadAll: the law's walk with the contracts of both functions. Conditions: the arguments can be read. -/
import Derived.Test.YtmelggoagbhieaaGreatLawRA
import Derived.Test.YtmelggoagbhieaaGreatLawSZ
import Derived.Test.YtmelggoagbhieaaGreatLazR
import Derived.Test.YtmelggoagbhieaaGreatLazT
namespace Go.Proofs.YtmelggoagbhieaaGreat
open Go.RowKit
theorem readAO_small (g : Sg.Graph) (st : Sg.Lazy) (l : List Int) : SmallZ (Sg.readAO g st l).1 ∧ (Sg.readAO g st l).2.length ≤ 1048576 := by
  unfold Sg.readAO
  split
  · rename_i h
    simp only [Bool.and_eq_true] at h
    have hc := Sg.readsL_cleaned (s := ⟨st, []⟩) h.1.1 l (fun k hk => (List.all_eq_true.1 h.2) k hk)
    have hl := hc.ran_len
    have h10 := Sg.validG_len10 (Sg.validL_shape h.1.1).1
    exact ⟨smallZ_of hc.ok rfl rfl, by show (Sg.readsL g l ⟨st, []⟩).ran.length ≤ _; simp at hl; omega⟩
  · exact ⟨smallZ_nil, by simp⟩
theorem ex_FnExactReadAll (A0 : Option Addr) (c0 : Nat) (g : Sg.Graph) (A1 : Option Addr) (c1 : Nat) (v : List Int) (B1 : Option Addr) (k1 : Nat) (r : List (List Int)) (C1 : Option Addr) (m1 : Nat) (q : List Int) (A2 : Option Addr) (c2 : Nat) (l2 : List Int) (w : World) (h0 : RdN0 w A0 g) (h1 : Rd w 1 A1 v.length (ints v)) (h2 : RdL0 w B1 r) (h3 : Rd w 1 C1 q.length (ints q)) (h4 : Rd w 1 A2 l2.length (ints l2)) :
    Calls Tryz.prog 6 #[.agg #[.slice A0 g.length c0], .agg #[.slice A1 v.length c1, .slice B1 r.length k1, .slice C1 q.length m1], .slice A2 l2.length c2] w fun e w' => e = .returned (.bool true) ∧ Ext w w' :=
  l_FnExactReadAll A0 c0 g A1 c1 v B1 k1 r C1 m1 q A2 c2 l2 (Sg.readAO g ⟨v, r, q⟩ l2).1 (Sg.readAO g ⟨v, r, q⟩ l2).2 (readAO_small g ⟨v, r, q⟩ l2).1 (readAO_small g ⟨v, r, q⟩ l2).2
    (fun B0 d0 B1 d1 E1 e1 F1 f1 B2 d2 w h hv hr hq hn hvl hql _ _ _ => s_ReadAll B0 B1 E1 F1 d0 d1 e1 f1 g v q r B2 d2 l2 w h hv hr hq hvl hql hn)
    (fun B0 d0 B1 d1 E1 e1 F1 f1 B2 d2 w h hv hr hq hn hvl hql _ _ _ => i_ReadAll B0 B1 E1 F1 d0 d1 e1 f1 g v q r B2 d2 l2 w h hv hr hq hvl hql hn) w h0 h1 h2 h3 h4
end Go.Proofs.YtmelggoagbhieaaGreat
