/- A state of one's own in a box with the list of what ran, with any number of nodes. Conditions: none. -/
import Derived.Test.YtmkfjnkdaeoppaaGreatLazFour
namespace Go.Proofs.YtmkfjnkdaeoppaaGreat
open Go.RowKit

structure ZS (B Bl L : Nat) (pre : List Value) (A1 A2 A3 A6 : Option Addr) (c1 c2 c3 c6 : Nat) (hs : List (Option Addr × Nat)) (u : Sg.LR) (W : World) : Prop where
 z : OwnZ W B A1 c1 A2 c2 A3 c3 hs u.st
 o : Own W B 3 1 A6 u.ran.length c6 (ints u.ran)
 d : ∀ b, fpZ A1 A2 A3 hs b → ¬ blk A6 = some b
 b : Bx W Bl (pre ++ [.slice A6 u.ran.length c6])
 nb : ∀ b, fpZ A1 A2 A3 hs b → b ≠ Bl
 na : blk A6 ≠ some Bl
 hb : B ≤ Bl
 lv : u.st.vals.length = L
 lr : u.st.reads.length = L
 lq : u.st.cols.length = L
section
variable {B Bl L : Nat} {pre : List Value} {A1 A2 A3 A6 : Option Addr} {c1 c2 c3 c6 : Nat} {hs : List (Option Addr × Nat)} {u : Sg.LR} {W W' : World}
theorem ZS.ext (h : ZS B Bl L pre A1 A2 A3 A6 c1 c2 c3 c6 hs u W) (e : Ext W W') : ZS B Bl L pre A1 A2 A3 A6 c1 c2 c3 c6 hs u W' := ⟨h.z.ext e, h.o.ext e, h.d, h.b.ext e, h.nb, h.na, h.hb, h.lv, h.lr, h.lq⟩
theorem ZS.ls {w0 : World} {v q : List Int} {r : List (List Int)} (h : ZS w0.heap.size Bl L pre A1 A2 A3 A6 c1 c2 c3 c6 hs ⟨⟨v, r, q⟩, []⟩ W) (hL : 0 < L) (e : Ext w0 W) :
  ∃ gv gr gq, A1 = some ⟨gv, 0, none⟩ ∧ A2 = some ⟨gr, 0, none⟩ ∧ A3 = some ⟨gq, 0, none⟩ ∧ ∃ F, LS w0 L gv c1 gr c2 gq c3 Bl pre ⟨⟨v, r, q⟩, []⟩ F W ∧ ∀ b, F b → fpZ A1 A2 A3 hs b ∨ b = Bl ∨ blk A6 = some b := by
 obtain ⟨z, o, d, b, nb, na, hb, lv, lr, lq⟩ := h
 dsimp only at lv lr lq
 obtain ⟨gv, gr, gq, rfl, rfl, rfl⟩ := z.some3 (by omega) (by omega) (by omega)
 obtain ⟨F, hF, hF2⟩ := LS.of e z lv lr lq b o hb (fun b hb => ⟨nb b hb, d b hb⟩) na
 exact ⟨gv, gr, gq, rfl, rfl, rfl, F, hF, hF2⟩
end
theorem LS.zs {w0 W : World} {L gv cv gr cr gq cq Bl : Nat} {pre : List Value} {s : Sg.LR} {F : Nat → Prop} (h : LS w0 L gv cv gr cr gq cq Bl pre s F W) :
  ∃ hs A c, ZS w0.heap.size Bl L pre (some ⟨gv, 0, none⟩) (some ⟨gr, 0, none⟩) (some ⟨gq, 0, none⟩) A cv cr cq c hs s W := by
 obtain ⟨hs, A, c, hS, hF⟩ := h.ex
 obtain ⟨hs2, A2, c2, hZ, hB, hO, hD, lv, lr, lq⟩ := h.back
 have zv := h.v
 have zq := h.q
 rw [← h.vl] at zv
 rw [← h.ql] at zq
 have hdd : ∀ b, fpZ (some ⟨gv, 0, none⟩) (some ⟨gr, 0, none⟩) (some ⟨gq, 0, none⟩) hs b → ¬ blk A = some b := fun b hb hf => by
  rcases hb with hb | hb | hb
  ·exact hS.2.1 (Th.own w0.heap.size 3 1 A s.ran.length c (ints s.ran)) (by simp) b hb hf
  ·exact hS.2.2.2.1 (Th.own w0.heap.size 3 1 A s.ran.length c (ints s.ran)) (by simp) b hb hf
  ·exact hS.2.2.2.2.2.1 (Th.own w0.heap.size 3 1 A s.ran.length c (ints s.ran)) (by simp) b hb hf
 have hnb : ∀ b, fpZ (some ⟨gv, 0, none⟩) (some ⟨gr, 0, none⟩) (some ⟨gq, 0, none⟩) hs b → b ≠ Bl := fun b hb e => by
  rcases hb with hb | hb | hb
  ·exact hS.2.1 (Th.box w0.heap.size Bl (pre ++ [.slice A s.ran.length c])) (by simp) b hb e
  ·exact hS.2.2.2.1 (Th.box w0.heap.size Bl (pre ++ [.slice A s.ran.length c])) (by simp) b hb e
  ·exact hS.2.2.2.2.2.1 (Th.box w0.heap.size Bl (pre ++ [.slice A s.ran.length c])) (by simp) b hb e
 refine ⟨hs, A, c, ⟨zv, Sep.get hS 1 rfl, zq, fun b hb => ⟨fun hf => ?_, fun hf => ?_⟩, fun b hb hf => ?_⟩, Sep.get hS 4 rfl, hdd, (Sep.get hS 3 rfl).1, hnb, fun e => ?_, (Sep.get hS 3 rfl).2, lv, lr, lq⟩
 ·exact hS.2.1 (Th.ownL w0.heap.size (some ⟨gr, 0, none⟩) cr s.st.reads hs) (by simp) b hb hf
 ·exact hS.2.1 (Th.own w0.heap.size 3 1 (some ⟨gq, 0, none⟩) L cq (ints s.st.cols)) (by simp) b hb hf
 ·exact hS.2.2.2.1 (Th.own w0.heap.size 3 1 (some ⟨gq, 0, none⟩) L cq (ints s.st.cols)) (by simp) b hf hb
 ·exact hS.2.2.2.2.2.2.2.1 (Th.own w0.heap.size 3 1 A s.ran.length c (ints s.ran)) (by simp) Bl rfl e
end Go.Proofs.YtmkfjnkdaeoppaaGreat
