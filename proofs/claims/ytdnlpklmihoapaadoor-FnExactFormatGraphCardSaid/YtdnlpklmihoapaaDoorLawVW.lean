/- Parts of one proof, joined. The laws' sizes, copies and comparisons of lazy states: contracts. Conditions: bounds on lengths. FnExactValidLazy: the law's walk, given the contracts of both functions. Conditions: the arguments can be read. FnExactValidLazy: the law's walk with the contracts of both functions. Conditions: the arguments can be read. -/
import Derived.Test.YtdnlpklmihoapaaDoorLawAll
import Derived.Test.YtdnlpklmihoapaaDoorSepAll
import Derived.Test.YtdnlpklmihoapaaDoorModelsA
import Derived.Test.YtdnlpklmihoapaaDoorTy
import Derived.Test.YtdnlpklmihoapaaDoorFactsAll
import Derived.Test.YtdnlpklmihoapaaDoorSpecQRS
import Derived.Test.YtdnlpklmihoapaaDoorImplVW
/- The laws' sizes, copies and comparisons of lazy states: contracts. Conditions: bounds on lengths. -/
namespace Sg
def szZ (v : List Int) (r : List (List Int)) (q : List Int) (L : Nat) : Int := if 0 ≤ szE v r L then szI q.length (szE v r L).toNat else -1
theorem szE_neg (v : List Int) (r : List (List Int)) (L : Nat) : szE v r L = -1 ∨ 0 ≤ szE v r L := by unfold szE; split <;> first | exact .inl rfl | exact szL_neg _ _
theorem szE_ok (v : List Int) (r : List (List Int)) (L : Nat) (h : 0 ≤ szE v r L) : v.length ≤ L ∧ r.length ≤ L ∧ (∀ l ∈ r, l.length ≤ L) ∧ ∃ M : Nat, M ≤ L ∧ szE v r L = M := by
 unfold szE at *
 split at h
 ·omega
 ·rename_i hv
  rw [if_neg hv]
  obtain ⟨h1, h2, M, h3, h4⟩ := szL_ok _ _ h
  refine ⟨by omega, by simp at h1; omega, fun l hl => ?_, M, by omega, h4⟩
  have := h2 l.length (List.mem_map.2 ⟨l, hl, rfl⟩)
  omega
theorem szZ_neg (v : List Int) (r : List (List Int)) (q : List Int) (L : Nat) : szZ v r q L = -1 ∨ 0 ≤ szZ v r q L := by
 unfold szZ szI
 split
 ·split
  ·exact .inl rfl
  ·exact .inr (by omega)
 ·exact .inl rfl
theorem szZ_ok (v : List Int) (r : List (List Int)) (q : List Int) (L : Nat) (h : 0 ≤ szZ v r q L) : v.length ≤ L ∧ r.length ≤ L ∧ (∀ l ∈ r, l.length ≤ L) ∧ q.length ≤ L ∧ ∃ M : Nat, M ≤ L ∧ szZ v r q L = M := by
 unfold szZ at *
 split at h
 ·rename_i hE
  rw [if_pos hE]
  obtain ⟨h1, h2, h3, M, h4, h5⟩ := szE_ok v r L hE
  rw [h5] at h ⊢
  simp only [Int.toNat_natCast] at h ⊢
  unfold szI at *
  split at h
  ·omega
  ·rename_i hq
   rw [if_neg hq]
   exact ⟨h1, h2, h3, by omega, M - q.length, by omega, rfl⟩
 ·omega
end Sg
namespace Go.Proofs.YtdnlpklmihoapaaDoor
open Go.RowKit

/-- a lazy state of the call's own -/
structure OwnZ (w : World) (B : Nat) (A1 : Option Addr) (c1 : Nat) (A2 : Option Addr) (c2 : Nat) (A3 : Option Addr) (c3 : Nat) (hs : List (Option Addr × Nat)) (st : Sg.Lazy) : Prop where
 v : Own w B 3 1 A1 st.vals.length c1 (ints st.vals)
 r : OwnL w B A2 c2 st.reads hs
 q : Own w B 3 1 A3 st.cols.length c3 (ints st.cols)
 d : ∀ b, blk A1 = some b → ¬ fpD A2 hs b ∧ blk A3 ≠ some b
 e : ∀ b, blk A3 = some b → ¬ fpD A2 hs b
/-- its blocks -/
def fpZ (A1 A2 A3 : Option Addr) (hs : List (Option Addr × Nat)) (b : Nat) : Prop := blk A1 = some b ∨ fpD A2 hs b ∨ blk A3 = some b
section
variable {w w' : World} {B c1 c2 c3 : Nat} {A1 A2 A3 : Option Addr} {hs : List (Option Addr × Nat)} {st : Sg.Lazy}
theorem OwnZ.ext (k : OwnZ w B A1 c1 A2 c2 A3 c3 hs st) (e : Ext w w') : OwnZ w' B A1 c1 A2 c2 A3 c3 hs st := ⟨k.v.ext e, OwnD.ext k.r e, k.q.ext e, k.d, k.e⟩
theorem OwnZ.mono {B' : Nat} (k : OwnZ w B A1 c1 A2 c2 A3 c3 hs st) (h : B' ≤ B) : OwnZ w B' A1 c1 A2 c2 A3 c3 hs st := ⟨k.v.mono h, OwnD.mono k.r h, k.q.mono h, k.d, k.e⟩
theorem OwnZ.mod {F : Nat → Prop} (k : OwnZ w B A1 c1 A2 c2 A3 c3 hs st) (m : Mod F w w') (hF : ∀ b, fpZ A1 A2 A3 hs b → ¬ F b) : OwnZ w' B A1 c1 A2 c2 A3 c3 hs st :=
 ⟨k.v.mod m fun b hb => hF b (.inl hb), OwnD.mod k.r m fun b hb => hF b (.inr (.inl hb)), k.q.mod m fun b hb => hF b (.inr (.inr hb)), k.d, k.e⟩
theorem OwnZ.lt (k : OwnZ w B A1 c1 A2 c2 A3 c3 hs st) {b : Nat} (h : fpZ A1 A2 A3 hs b) : B ≤ b ∧ b < w.heap.size := by
 rcases h with h | h | h
 ·exact k.v.lt h
 ·exact OwnD.lt k.r h
 ·exact k.q.lt h
end
theorem RdL0.up3 {w : World} {A : Option Addr} {ll : List (List Int)} (h : RdL0 w A ll) (hb : ll.length ≤ 1048576) (hl : ∀ l ∈ ll, l.length ≤ 1048576) : RdL w A ll :=
 ⟨hb, fun i l hi => let ⟨b, o, Al, cl, ha, h1, h2⟩ := h.2 i l hi; ⟨b, o, Al, cl, ha, h1, h2, hl l (List.mem_of_getElem? hi)⟩⟩
theorem OwnL.rdLC {w : World} {B c : Nat} {A : Option Addr} {ll : List (List Int)} {hs : List (Option Addr × Nat)} (k : OwnL w B A c ll hs) (hb : ll.length ≤ 1048576) (hl : ∀ l ∈ ll, l.length ≤ 1048576) : RdLC w A ll := by
 refine ⟨hb, fun i l hi => ?_⟩
 obtain ⟨h, hh, ho⟩ := OwnD.at_ k (listIts_at hi)
 have hil := (List.getElem?_eq_some_iff.1 hi).1
 have hout := k.out
 obtain ⟨g, rfl, _⟩ := hout.at_ (by simp; omega)
 have hc := hout.cell (j := i) (u := .slice h.1 l.length h.2) (by
  have := at_dcells (listIts_pre ll) i 0 (by omega) (listIts_at hi) hh
  rw [Nat.mul_one, Nat.add_zero] at this
  rw [this]; rfl)
 exact ⟨g, 0, h.1, h.2, rfl, by simpa using hc, ho.rd, hl l (List.mem_of_getElem? hi), ho.2.1, ho.2.2.1⟩

end Go.Proofs.YtdnlpklmihoapaaDoor

/- FnExactValidLazy: the law's walk, given the contracts of both functions. Conditions: the arguments can be read. -/
namespace Go.Proofs.YtdnlpklmihoapaaDoor
open Go.RowKit

end Go.Proofs.YtdnlpklmihoapaaDoor

/- FnExactValidLazy: the law's walk with the contracts of both functions. Conditions: the arguments can be read. -/
namespace Go.Proofs.YtdnlpklmihoapaaDoor
open Go.RowKit
end Go.Proofs.YtdnlpklmihoapaaDoor
