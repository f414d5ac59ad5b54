/- Aids for the exact laws whose results are states: bounds, frames. Conditions: none. -/
import Derived.Test.YtmelggoagbhieaaGreatMarksAll
import Derived.Test.YtmelggoagbhieaaGreatLawOne
import Derived.Test.YtmelggoagbhieaaGreatLawTwo
import Derived.Test.YtmelggoagbhieaaGreatStateE
import Derived.Deep.DeepCutAuto
namespace Sg
theorem runF_len {f : List Part} {k : Nat} (h : FOK f k) (v : List Int) : (runF f v).2.length ≤ 4096 := by
  have h1 := reck_len f v f.length ((f.length : Int) - 1)
  have h2 : 2 ^ f.length ≤ 2 ^ 12 := Nat.pow_le_pow_right (by omega) h.len
  have h3 : (runF f v).2.length ≤ (reck f v f.length ((f.length : Int) - 1)).2.length := by
    unfold runF
    have : ∀ (l out : List Int), (l.foldl once out).length ≤ out.length + l.length := by
      intro l
      induction l with
      | nil => intro out; simp
      | cons x l ih =>
        intro out
        have h4 := ih (once out x)
        have h5 : (once out x).length ≤ out.length + 1 := by unfold once; split <;> simp
        simp only [List.foldl_cons, List.length_cons]
        omega
    have := this (reck f v f.length ((f.length : Int) - 1)).2 []
    simpa [firstOnly] using this
  omega
theorem depAt_len {g : Graph} (hg : validG g = true) (v : List Int) {k : Nat} (hk : k < g.length) : (depAt g v k).length ≤ 4096 := by
  unfold depAt
  obtain ⟨n, hn⟩ : ∃ n, g[k]? = some n := ⟨_, List.getElem?_eq_getElem hk⟩
  have hd : g.getD k default = n := by simp [hn]
  rw [hd]
  split
  · simp
  · rename_i h0
    exact runF_len (validG_fok hg k hn h0) v
end Sg
namespace Go.Proofs.YtmelggoagbhieaaGreat
open Go.RowKit

/-- a state whose sizes are small -/
structure SmallE (st : Sg.Eager) : Prop where
  v : st.vals.length ≤ 1048576
  r : st.reads.length ≤ 1048576
  e : ∀ l ∈ st.reads, l.length ≤ 1048576
  t : totL st.reads ≤ 100000000000
theorem totL_small (ll : List (List Int)) (c : Nat) (h : ∀ l ∈ ll, l.length ≤ c) : totL ll ≤ ll.length * c := by
  induction ll with
  | nil => simp [totL]
  | cons l r ih =>
    have h1 := h l (by simp)
    have h2 := ih (fun x hx => h x (by simp [hx]))
    simp only [totL, List.map_cons, List.sum_cons, List.length_cons] at h2 ⊢
    rw [Nat.add_mul, Nat.one_mul]
    omega
theorem validG_len {g : Sg.Graph} (h : Sg.validG g = true) : g.length ≤ 10 := by
  unfold Sg.validG at h
  simp only [Bool.and_eq_true, decide_eq_true_eq] at h
  exact h.2
theorem OwnE.lt {w : World} {B c1 c2 : Nat} {A1 A2 : Option Addr} {hs : List (Option Addr × Nat)} {st : Sg.Eager} (k : OwnE w B A1 c1 A2 c2 hs st) {b : Nat} (h : blk A1 = some b ∨ fpD A2 hs b) : B ≤ b ∧ b < w.heap.size := by
  rcases h with h | h
  · exact k.v.lt h
  · exact k.r.lt h
theorem OwnE.ext {w w' : World} {B c1 c2 : Nat} {A1 A2 : Option Addr} {hs : List (Option Addr × Nat)} {st : Sg.Eager} (k : OwnE w B A1 c1 A2 c2 hs st) (e : Ext w w') : OwnE w' B A1 c1 A2 c2 hs st := ⟨k.v.ext e, OwnD.ext k.r e, k.d⟩
theorem OwnE.mod {F : Nat → Prop} {w w' : World} {B c1 c2 : Nat} {A1 A2 : Option Addr} {hs : List (Option Addr × Nat)} {st : Sg.Eager} (k : OwnE w B A1 c1 A2 c2 hs st) (m : Mod F w w') (hF : ∀ b, (blk A1 = some b ∨ fpD A2 hs b) → ¬ F b) : OwnE w' B A1 c1 A2 c2 hs st :=
  ⟨k.v.mod m fun b hb => hF b (.inl hb), OwnD.mod k.r m fun b hb => hF b (.inr hb), k.d⟩
theorem OwnE.rr {w : World} {B c1 c2 : Nat} {A1 A2 : Option Addr} {hs : List (Option Addr × Nat)} {st : Sg.Eager} (k : OwnE w B A1 c1 A2 c2 hs st) (s : SmallE st) : RdL w A2 st.reads := OwnL.rdL k.r s.r s.e
end Go.Proofs.YtmelggoagbhieaaGreat
