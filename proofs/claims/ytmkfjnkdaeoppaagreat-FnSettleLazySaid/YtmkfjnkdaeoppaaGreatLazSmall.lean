/- Parts of one proof, joined. Small laws of lazy states: the empty state, states turned in place, short reads. Conditions: none. What writing and forgetting do to a lazy state: definitions and small laws. Conditions: none. -/
import Derived.Test.YtmkfjnkdaeoppaaGreatLawVW
import Derived.Test.YtmkfjnkdaeoppaaGreatModLaz
import Derived.Test.YtmkfjnkdaeoppaaGreatImplThree
import Derived.Test.YtmkfjnkdaeoppaaGreatLazOne
import Derived.Test.YtmkfjnkdaeoppaaGreatLazE
import Derived.Test.YtmkfjnkdaeoppaaGreatLazTwo
import Derived.Test.YtmkfjnkdaeoppaaGreatImplVW
import Derived.Test.YtmkfjnkdaeoppaaGreatCellA
/- Small laws of lazy states: the empty state, states turned in place, short reads. Conditions: none. -/
namespace Go.Proofs.YtmkfjnkdaeoppaaGreat
open Go.RowKit

theorem OwnZ.nil (w : World) (B : Nat) : OwnZ w B none 0 none 0 none 0 [] ⟨[], [], []⟩ :=
 ⟨by simpa [ints] using Own.nil w B 3 1, ⟨by simp [listIts], by simpa [dcells, listIts] using Own.nil w B 26 1, by simp [listIts], by simp, by simp⟩, by simpa [ints] using Own.nil w B 3 1, by simp [blk], by simp [blk]⟩
theorem RdLC.l {w : World} {A : Option Addr} {ll : List (List Int)} (h : RdLC w A ll) : RdL w A ll :=
 ⟨h.1, fun i l hi => let ⟨b, o, Al, cl, h1, h2, h3, h4, _⟩ := h.2 i l hi; ⟨b, o, Al, cl, h1, h2, h3, h4⟩⟩
theorem OwnZ.rdL' {w : World} {B c1 c2 c3 : Nat} {A1 A2 A3 : Option Addr} {hs : List (Option Addr × Nat)} {v q : List Int} {r : List (List Int)} (h : OwnZ w B A1 c1 A2 c2 A3 c3 hs ⟨v, r, q⟩) (hb : r.length ≤ 1048576) (hl : ∀ l ∈ r, l.length ≤ 1048576) :
  ∀ W, Mod (fun b => blk A1 = some b ∨ blk A3 = some b) w W → RdL W A2 r := fun W m =>
 OwnL.rdL (OwnD.mod h.r m (fun b hb e => by
  rcases e with e | e
  ·exact (h.d b e).1 hb
  ·exact h.e b e hb)) hb hl
/-- a state of the call's own, after its values and colours were turned in place -/
theorem OwnZ.turn {w w' : World} {B gv gq c1 c2 c3 : Nat} {A2 : Option Addr} {hs : List (Option Addr × Nat)} {v q v' q' : List Int} {r : List (List Int)} (h : OwnZ w B (some ⟨gv, 0, none⟩) c1 A2 c2 (some ⟨gq, 0, none⟩) c3 hs ⟨v, r, q⟩)
  (hv : Own w' B 3 1 (some ⟨gv, 0, none⟩) v.length c1 (ints v')) (hq : Own w' B 3 1 (some ⟨gq, 0, none⟩) q.length c3 (ints q')) (m : Mod (fun b => b = gv ∨ b = gq) w w') (lv : v'.length = v.length) (lq : q'.length = q.length) :
  OwnZ w' B (some ⟨gv, 0, none⟩) c1 A2 c2 (some ⟨gq, 0, none⟩) c3 hs ⟨v', r, q'⟩ :=
 ⟨by show Own _ _ _ _ _ v'.length _ _; rw [lv]; exact hv, OwnD.mod h.r m (fun b hb e => by
  rcases e with rfl | rfl
  ·exact (h.d b rfl).1 hb
  ·exact h.e b rfl hb), by show Own _ _ _ _ _ q'.length _ _; rw [lq]; exact hq, h.d, h.e⟩
theorem gvq {w : World} {B gv gq c1 c2 c3 : Nat} {A2 : Option Addr} {hs : List (Option Addr × Nat)} {st : Sg.Lazy} (h : OwnZ w B (some ⟨gv, 0, none⟩) c1 A2 c2 (some ⟨gq, 0, none⟩) c3 hs st) : gv ≠ gq ∧ B ≤ gv ∧ gv < w.heap.size ∧ B ≤ gq ∧ gq < w.heap.size :=
 ⟨fun e => (h.d gv rfl).2 (by rw [e]; rfl), (h.v.lt (g := gv) rfl).1, (h.v.lt (g := gv) rfl).2, (h.q.lt (g := gq) rfl).1, (h.q.lt (g := gq) rfl).2⟩
theorem reads_small {g : Sg.Graph} {st : Sg.Lazy} (h : Sg.validL g st = true) : ∀ l ∈ st.reads, l.length ≤ 10 := by
 intro l hl
 obtain ⟨hs, hC⟩ := Sg.validL_iff.1 h
 obtain ⟨i, hi⟩ := List.getElem?_of_mem hl
 have hil := (List.getElem?_eq_some_iff.1 hi).1
 have hn : g[i]? = some g[i] := List.getElem?_eq_getElem (by omega)
 have hd : st.reads.getD i [] = l := by simp [hi]
 have hA := Sg.ahead_of h i
 rw [hd] at hA
 have h10 := Sg.validG_len10 hs.1
 have hk := hC i _ hn
 by_cases h0 : g[i].kind = 0
 ·rw [← hd, (hk.cell h0).2]; simp
 ·have hm := (hk.may hs.1 hn h0).2
  rw [hd] at hm
  exact Nat.le_trans (nodup_len 10 l hm (fun x hx => by have := hA x hx; omega)) (by omega)
end Go.Proofs.YtmkfjnkdaeoppaaGreat

/- What writing and forgetting do to a lazy state: definitions and small laws. Conditions: none. -/
namespace Sg
def mayWriteL (g : Graph) (st : Lazy) (n x : Int) : Bool := validL g st && isCell g n && inR x 0 999
noncomputable def writeLO (g : Graph) (st : Lazy) (n x : Int) : Lazy × Bool := if mayWriteL g st n x = true then (writeL st n.toNat x, true) else (⟨[], [], []⟩, false)
theorem writeL_len (st : Lazy) (n : Nat) (x : Int) : (writeL st n x).vals.length = st.vals.length ∧ (writeL st n x).reads = st.reads ∧ (writeL st n x).cols.length = st.cols.length := by
 unfold writeL
 split
 ·exact ⟨rfl, rfl, rfl⟩
 ·simp
theorem writeL_eq (st : Lazy) (n : Nat) (x : Int) : writeL st n x = ⟨(writeL st n x).vals, st.reads, (writeL st n x).cols⟩ := by
 unfold writeL
 split <;> rfl
end Sg
namespace Sg
def mayForgetL (g : Graph) (st : Lazy) (n : Int) : Bool := validL g st && inR n 0 ((g.length : Int) - 1) && !isCell g n
noncomputable def forgetLO (g : Graph) (st : Lazy) (n : Int) : Lazy × Bool := if mayForgetL g st n = true then (forgetL st n.toNat, true) else (⟨[], [], []⟩, false)
theorem ahead_none {r : List (List Int)} (h : Ahead r) (n : Nat) : Ahead (r.set n []) := by
 intro k x hx
 by_cases e : k = n
 ·subst e
  by_cases hk : k < r.length
  ·rw [getD_set _ _ _ _ _ hk, if_pos rfl] at hx
   cases hx
  ·rw [List.getD_eq_getElem?_getD, List.getElem?_eq_none (by simp; omega)] at hx
   cases hx
 ·rw [List.getD_eq_getElem?_getD, List.getElem?_set_ne (fun h => e h.symm), ← List.getD_eq_getElem?_getD] at hx
  exact h k x hx
end Sg
namespace Go.Proofs.YtmkfjnkdaeoppaaGreat
open Go.RowKit

/-- a state of the call's own, after a list of reads was struck and its colours were turned -/
theorem OwnZ.turn2 {w w1 w' : World} {B gr gq c1 c2 c3 i : Nat} {A1 : Option Addr} {hs : List (Option Addr × Nat)} {v q q' : List Int} {r : List (List Int)} (h : OwnZ w B A1 c1 (some ⟨gr, 0, none⟩) c2 (some ⟨gq, 0, none⟩) c3 hs ⟨v, r, q⟩) (hB : B ≤ w.heap.size)
  (e : Ext w w1) {A0 : Option Addr} {c0 : Nat} (own : Own w1 w.heap.size 3 1 A0 ([] : List Int).length c0 (ints [])) (hi : i < r.length)
  (hq : Own w' B 3 1 (some ⟨gq, 0, none⟩) q.length c3 (ints q')) (m : Mod (fun b => b = gq) (w1.setCell ⟨gr, i, none⟩ (.slice A0 0 c0)) w') (lq : q'.length = q.length) :
  OwnZ w' B A1 c1 (some ⟨gr, 0, none⟩) c2 (some ⟨gq, 0, none⟩) c3 (hs.set i (A0, c0)) ⟨v, r.set i [], q'⟩ := by
 have hput := OwnL.put h.r e hB hi [] own rfl
 have hfp : ∀ b, fpD (some ⟨gr, 0, none⟩) (hs.set i (A0, c0)) b → fpD (some ⟨gr, 0, none⟩) hs b ∨ w.heap.size ≤ b := by
  intro b hb
  rcases hb with hb | ⟨x, hx, hb⟩
  ·exact .inl (.inl hb)
  ·rcases List.mem_or_eq_of_mem_set hx with hx | rfl
   ·exact .inl (.inr ⟨x, hx, hb⟩)
   ·exact .inr (own.lt hb).1
 have hgq : gq < w.heap.size := (h.q.lt (g := gq) rfl).2
 have hm1 : Mod (fun b => b = gr) w (w1.setCell ⟨gr, i, none⟩ (.slice A0 0 c0)) := Mod.set (Mod.of (F := fun b => b = gr) e) (p := ⟨gr, i, none⟩) (.inl rfl) _
 refine ⟨(h.v.mod hm1 (fun b hb e => ?_)).mod m (fun b hb e => ?_), OwnD.mod hput m (fun b hb e => ?_), by show Own _ _ _ _ _ q'.length _ _; rw [lq]; exact hq, fun b hb => ⟨fun hf => ?_, (h.d b hb).2⟩, fun b hb hf => ?_⟩
 ·subst e; exact (h.d b hb).1 (.inl rfl)
 ·subst e; exact (h.d b hb).2 rfl
 ·subst e
  rcases hfp b hb with hb | hb
  ·exact h.e b rfl hb
  ·omega
 ·rcases hfp b hf with h1 | h1
  ·exact (h.d b hb).1 h1
  ·have := (h.v.lt hb).2; omega
 ·rcases hfp b hf with h1 | h1
  ·exact h.e b hb h1
  ·have := (h.q.lt hb).2; omega
theorem OwnZ.putRd {w w1 : World} {B gr gq c1 c2 c3 i : Nat} {A1 : Option Addr} {hs : List (Option Addr × Nat)} {v q : List Int} {r : List (List Int)} (h : OwnZ w B A1 c1 (some ⟨gr, 0, none⟩) c2 (some ⟨gq, 0, none⟩) c3 hs ⟨v, r, q⟩) (hB : B ≤ w.heap.size)
  (e : Ext w w1) {A0 : Option Addr} {c0 : Nat} (own : Own w1 w.heap.size 3 1 A0 ([] : List Int).length c0 (ints [])) (hi : i < r.length) (hb : r.length ≤ 1048576) (hl : ∀ l ∈ r.set i [], l.length ≤ 1048576) :
  ∀ W, Mod (fun b => b = gq) (w1.setCell ⟨gr, i, none⟩ (.slice A0 0 c0)) W → RdL W (some ⟨gr, 0, none⟩) (r.set i []) := fun W m => by
 have hput := OwnL.put h.r e hB hi [] own rfl
 have hgq : gq < w.heap.size := (h.q.lt (g := gq) rfl).2
 refine OwnL.rdL (OwnD.mod hput m (fun b hb e => ?_)) (by simpa using hb) hl
 subst e
 rcases hb with hb | ⟨x, hx, hb⟩
 ·exact h.e b rfl (.inl hb)
 ·rcases List.mem_or_eq_of_mem_set hx with hx | rfl
  ·exact h.e b rfl (.inr ⟨x, hx, hb⟩)
  ·have := (own.lt hb).1; omega
end Go.Proofs.YtmkfjnkdaeoppaaGreat
