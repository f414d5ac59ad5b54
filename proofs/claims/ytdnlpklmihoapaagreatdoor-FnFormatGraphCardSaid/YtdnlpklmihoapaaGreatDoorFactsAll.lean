/- Parts of one proof, joined. A state that a call has made. Conditions: none. Aids for the exact laws whose results are states: bounds, frames. Conditions: none. -/
import Derived.Test.YtdnlpklmihoapaaGreatDoorImplThree
import Derived.Test.YtdnlpklmihoapaaGreatDoorSpecThree
import Derived.Test.YtdnlpklmihoapaaGreatDoorLawAll
import Derived.Deep.DeepCutAuto
/- A state that a call has made. Conditions: none. -/
namespace Go.Proofs.YtdnlpklmihoapaaGreatDoor
open Go.RowKit

/-- what StartEager returns: the start, or the zero value -/
def startOr (g : Sg.Graph) (l : List Int) : Sg.Eager := if (Sg.validG g && Sg.validC g l) = true then Sg.startE g l else ⟨[], []⟩
/-- a state that a call has made -/
structure OwnE (w : World) (B : Nat) (A1 : Option Addr) (c1 : Nat) (A2 : Option Addr) (c2 : Nat) (hs : List (Option Addr × Nat)) (st : Sg.Eager) : Prop where
 v : Own w B 3 1 A1 st.vals.length c1 (ints st.vals)
 r : OwnL w B A2 c2 st.reads hs
 d : ∀ b, blk A1 = some b → ¬ fpD A2 hs b
theorem OwnE.nil (w : World) (B : Nat) : OwnE w B none 0 none 0 [] ⟨[], []⟩ := ⟨Own.nil _ _ _ _, OwnD.nil _ _ _ _ _ _, by intro b h; simp [blk] at h⟩
end Go.Proofs.YtdnlpklmihoapaaGreatDoor

/- Aids for the exact laws whose results are states: bounds, frames. Conditions: none. -/
namespace Sg
theorem szFrom_sum : ∀ (ns : List Nat) (L : Nat), 0 ≤ szFrom ns L → ns.sum ≤ L
 | [], L, _ => by simp
 | n :: r, L, h => by
  unfold szFrom at h
  split at h
  ·omega
  ·have := szFrom_sum r _ h
   simp only [List.sum_cons]
   omega
theorem szL_sum (ns : List Nat) (L : Nat) (h : 0 ≤ szL ns L) : ns.length + ns.sum ≤ L := by
 unfold szL at h
 split at h
 ·omega
 ·have := szFrom_sum ns _ h
  omega
theorem runF_len {f : List Part} {k : Nat} (h : FOK f k) (v : List Int) : (runF f v).2.length ≤ 4096 := by
 have h1 := reck_len f v f.length ((f.length : Int) - 1)
 have h2 : 2 ^ f.length ≤ 2 ^ 12 := Nat.pow_le_pow_right (by omega) h.len
 have h3 : (runF f v).2.length ≤ (reck f v f.length ((f.length : Int) - 1)).2.length := by
  unfold runF
  have : ∀ (l out : List Int), (l.foldl once out).length ≤ out.length + l.length := by
   intro l
   induction l with
   | nil => intro out; simp
   | cons x l ih =>
    intro out
    have h4 := ih (once out x)
    have h5 : (once out x).length ≤ out.length + 1 := by unfold once; split <;> simp
    simp only [List.foldl_cons, List.length_cons]
    omega
  have := this (reck f v f.length ((f.length : Int) - 1)).2 []
  simpa [firstOnly] using this
 omega
theorem depAt_len {g : Graph} (hg : validG g = true) (v : List Int) {k : Nat} (hk : k < g.length) : (depAt g v k).length ≤ 4096 := by
 unfold depAt
 obtain ⟨n, hn⟩ : ∃ n, g[k]? = some n := ⟨_, List.getElem?_eq_getElem hk⟩
 have hd : g.getD k default = n := by simp [hn]
 rw [hd]
 split
 ·simp
 ·rename_i h0
  exact runF_len (validG_fok hg k hn h0) v
end Sg
namespace Go.Proofs.YtdnlpklmihoapaaGreatDoor
open Go.RowKit

theorem totN_le (g : Sg.Graph) (L : Nat) (h : 0 ≤ Sg.szL (g.map (fun n => n.f.length)) L) : totN g ≤ 5 * L := by
 have h1 := Sg.szL_sum _ _ h
 have h2 : totN g ≤ g.length + 5 * (g.map (fun n => n.f.length)).sum := by
  clear h h1
  induction g with
  | nil => simp [totN]
  | cons n g ih => simp [totN] at ih ⊢; omega
 simp only [List.length_map] at h1
 omega
/-- a state whose sizes are small -/
structure SmallE (st : Sg.Eager) : Prop where
 v : st.vals.length ≤ 1048576
 r : st.reads.length ≤ 1048576
 e : ∀ l ∈ st.reads, l.length ≤ 1048576
 t : totL st.reads ≤ 100000000000
theorem totL_small (ll : List (List Int)) (c : Nat) (h : ∀ l ∈ ll, l.length ≤ c) : totL ll ≤ ll.length * c := by
 induction ll with
 | nil => simp [totL]
 | cons l r ih =>
  have h1 := h l (by simp)
  have h2 := ih (fun x hx => h x (by simp [hx]))
  simp only [totL, List.map_cons, List.sum_cons, List.length_cons] at h2 ⊢
  rw [Nat.add_mul, Nat.one_mul]
  omega
theorem validG_len {g : Sg.Graph} (h : Sg.validG g = true) : g.length ≤ 10 := by
 unfold Sg.validG at h
 simp only [Bool.and_eq_true, decide_eq_true_eq] at h
 exact h.2
theorem deps_small {g : Sg.Graph} (hg : Sg.validG g = true) (v : List Int) (k : Nat) (hk : k ≤ g.length) : (∀ l ∈ Sg.depsTo g v k, l.length ≤ 4096) := by
 intro l hl
 unfold Sg.depsTo at hl
 rw [List.mem_map] at hl
 obtain ⟨i, hi, rfl⟩ := hl
 rw [List.mem_range] at hi
 exact Sg.depAt_len hg v (by omega)
theorem smallE_start (g : Sg.Graph) (l : List Int) : SmallE (startOr g l) := by
 unfold startOr
 split
 ·rename_i h
  simp only [Bool.and_eq_true] at h
  have h10 := validG_len h.1
  have hd := deps_small h.1 (Sg.mean g l) g.length (Nat.le_refl _)
  have ht := totL_small _ 4096 hd
  refine ⟨by simp [Sg.startE]; omega, by simp [Sg.startE]; omega, fun x hx => Nat.le_trans (hd x hx) (by omega), ?_⟩
  simp only [Sg.length_depsTo] at ht
  simp only [Sg.startE]
  omega
 ·exact ⟨by simp, by simp, by simp, by simp [totL]⟩
theorem RdN0.up2 {w : World} {A : Option Addr} {g : Sg.Graph} (h : RdN0 w A g) (hb : g.length ≤ 1048576) (hl : ∀ n ∈ g, n.f.length ≤ 1048576) : RdN w A g :=
 ⟨hb, fun i n hn => let ⟨b, o, Ap, cp, ha, h1, h2, h3⟩ := h.2 i n hn; ⟨b, o, Ap, cp, ha, h1, h2, h3, hl n (List.mem_of_getElem? hn)⟩⟩
theorem numL_small (k : Int) (ll : List (List Int)) (h : ∀ l ∈ ll, l.length ≤ 1048576) : ∀ l ∈ numL k ll, l.length ≤ 1048576 := by
 induction ll generalizing k with
 | nil => intro l hl; cases hl
 | cons x r ih =>
  intro l hl
  simp only [numL, List.mem_cons] at hl
  rcases hl with rfl | hl
  ·simpa using h x (by simp)
  ·exact ih _ (fun y hy => h y (by simp [hy])) l hl
theorem OwnE.lt {w : World} {B c1 c2 : Nat} {A1 A2 : Option Addr} {hs : List (Option Addr × Nat)} {st : Sg.Eager} (k : OwnE w B A1 c1 A2 c2 hs st) {b : Nat} (h : blk A1 = some b ∨ fpD A2 hs b) : B ≤ b ∧ b < w.heap.size := by
 rcases h with h | h
 ·exact k.v.lt h
 ·exact k.r.lt h
theorem OwnE.ext {w w' : World} {B c1 c2 : Nat} {A1 A2 : Option Addr} {hs : List (Option Addr × Nat)} {st : Sg.Eager} (k : OwnE w B A1 c1 A2 c2 hs st) (e : Ext w w') : OwnE w' B A1 c1 A2 c2 hs st := ⟨k.v.ext e, OwnD.ext k.r e, k.d⟩
theorem OwnE.mod {F : Nat → Prop} {w w' : World} {B c1 c2 : Nat} {A1 A2 : Option Addr} {hs : List (Option Addr × Nat)} {st : Sg.Eager} (k : OwnE w B A1 c1 A2 c2 hs st) (m : Mod F w w') (hF : ∀ b, (blk A1 = some b ∨ fpD A2 hs b) → ¬ F b) : OwnE w' B A1 c1 A2 c2 hs st :=
 ⟨k.v.mod m fun b hb => hF b (.inl hb), OwnD.mod k.r m fun b hb => hF b (.inr hb), k.d⟩
theorem OwnE.rv {w : World} {B c1 c2 : Nat} {A1 A2 : Option Addr} {hs : List (Option Addr × Nat)} {st : Sg.Eager} (k : OwnE w B A1 c1 A2 c2 hs st) : Rd w 1 A1 st.vals.length (ints st.vals) := k.v.rd
theorem OwnE.rr {w : World} {B c1 c2 : Nat} {A1 A2 : Option Addr} {hs : List (Option Addr × Nat)} {st : Sg.Eager} (k : OwnE w B A1 c1 A2 c2 hs st) (s : SmallE st) : RdL w A2 st.reads := OwnL.rdL k.r s.r s.e
end Go.Proofs.YtdnlpklmihoapaaGreatDoor
