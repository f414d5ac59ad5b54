/- FnExactWriteLazy: the law's walk with the contracts of both functions. Conditions: the arguments can be read. -/
import Derived.Test.YtjogmblilagohaaGreatLawWL
import Derived.Test.YtjogmblilagohaaGreatLazThree
namespace Go.Proofs.YtjogmblilagohaaGreat
open Go.RowKit
theorem smallZ_of {g : Sg.Graph} {v v' q q' : List Int} {r : List (List Int)} (h : Sg.validL g ⟨v, r, q⟩ = true) (lv : v'.length = v.length) (lq : q'.length = q.length) : SmallZ ⟨v', r, q'⟩ := by
  obtain ⟨hG, hvl, hrl, hql, _⟩ := Sg.validL_shape h
  have h10 := vG_len hG
  have hv : v.length = g.length := hvl
  have hr : r.length = g.length := hrl
  have hq : q.length = g.length := hql
  have hs : ∀ l ∈ r, l.length ≤ 10 := reads_small h
  have ht := totL_small r 10 hs
  exact ⟨by show v'.length ≤ _; omega, by show r.length ≤ _; omega, fun l hl => Nat.le_trans (hs l hl) (by omega), by show totL r ≤ _; omega, by show q'.length ≤ _; omega⟩
theorem smallZ_nil : SmallZ ⟨[], [], []⟩ := ⟨by simp, by simp, by simp, by simp [totL], by simp⟩
theorem writeLO_small (g : Sg.Graph) (v q : List Int) (r : List (List Int)) (n x : Int) : SmallZ (Sg.writeLO g ⟨v, r, q⟩ n x).1 := by
  unfold Sg.writeLO
  split
  · rename_i h
    unfold Sg.mayWriteL at h
    simp only [Bool.and_eq_true] at h
    obtain ⟨lv, lr, lq⟩ := Sg.writeL_len ⟨v, r, q⟩ n.toNat x
    have e := Sg.writeL_eq ⟨v, r, q⟩ n.toNat x
    rw [show (Sg.writeL ⟨v, r, q⟩ n.toNat x, true).1 = Sg.writeL ⟨v, r, q⟩ n.toNat x from rfl, e]
    have h2 := smallZ_of h.1.1 lv lq
    exact h2
  · exact smallZ_nil
theorem ex_FnExactWriteLazy (A0 : Option Addr) (c0 : Nat) (g : Sg.Graph) (A1 : Option Addr) (c1 : Nat) (v : List Int) (B1 : Option Addr) (k1 : Nat) (r : List (List Int)) (C1 : Option Addr) (m1 : Nat) (q : List Int) (n2 n3 : Int) (w : World) (h0 : RdN0 w A0 g) (h1 : Rd w 1 A1 v.length (ints v)) (h2 : RdL0 w B1 r) (h3 : Rd w 1 C1 q.length (ints q)) (_h4 : (Lit.int .i64 n2).wf = true) (_h5 : (Lit.int .i64 n3).wf = true) :
    Calls Tryz.prog 11 #[.agg #[.slice A0 g.length c0], .agg #[.slice A1 v.length c1, .slice B1 r.length k1, .slice C1 q.length m1], .int .i64 n2, .int .i64 n3] w fun e w' => e = .returned (.bool true) ∧ Ext w w' :=
  l_FnExactWriteLazy A0 c0 g A1 c1 v B1 k1 r C1 m1 q n2 n3 (Sg.writeLO g ⟨v, r, q⟩ n2 n3).1 (Sg.writeLO g ⟨v, r, q⟩ n2 n3).2 (writeLO_small g v q r n2 n3)
    (fun B0 d0 B1 d1 E1 e1 F1 f1 w h hv hr hq hvl hql => s_WriteLazy B0 B1 E1 F1 d0 d1 e1 f1 g v q r n2 n3 w h hv hr hq hvl hql)
    (fun B0 d0 B1 d1 E1 e1 F1 f1 w h hv hr hq hvl hql => i_WriteLazy B0 B1 E1 F1 d0 d1 e1 f1 g v q r n2 n3 w h hv hr hq hvl hql) w h0 h1 h2 h3
end Go.Proofs.YtjogmblilagohaaGreat
