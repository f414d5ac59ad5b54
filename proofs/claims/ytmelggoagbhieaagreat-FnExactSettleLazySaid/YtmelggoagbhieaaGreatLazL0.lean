/- Lazy states that come out of one another; small laws of making clean. Conditions: none. -/
import Derived.Test.YtmelggoagbhieaaGreatLazK
import Derived.Test.YtmelggoagbhieaaGreatLazG0
namespace Sg
theorem loopS_snoc (c : Int → LR → LR) (n : Nat) (l : List Int) (x : Int) (s : LR) : loopS c n (l ++ [x]) s = if colOf (loopS c n l s) n = 1 then c x (loopS c n l s) else loopS c n l s := by
  unfold loopS
  rw [List.foldl_append]
  rfl
theorem loopS_rest (c : Int → LR → LR) (n : Nat) (l : List Int) (k : Nat) (s : LR) (h : colOf (loopS c n (l.take k) s) n ≠ 1) : loopS c n l s = loopS c n (l.take k) s := by
  conv => lhs; rw [← List.take_append_drop k l]
  have : loopS c n (l.take k ++ l.drop k) s = loopS c n (l.drop k) (loopS c n (l.take k) s) := by unfold loopS; rw [List.foldl_append]
  rw [this, loopS_skip c n _ _ h]
theorem ahead_set {r : List (List Int)} {n : Nat} {l : List Int} (h : Ahead r) (hl : ∀ x ∈ l, 0 ≤ x ∧ x < (n : Int)) : Ahead (r.set n l) := by
  intro k x hx
  by_cases e : k = n
  · subst e
    by_cases hk : k < r.length
    · rw [getD_set _ _ _ _ _ hk, if_pos rfl] at hx
      exact hl x hx
    · rw [List.getD_eq_getElem?_getD, List.getElem?_eq_none (by simp; omega)] at hx
      cases hx
  · rw [List.getD_eq_getElem?_getD, List.getElem?_set_ne (fun h => e h.symm), ← List.getD_eq_getElem?_getD] at hx
    exact h k x hx
/-- a node has run: all but the list of what ran -/
noncomputable def finish0 (s : LR) (n : Nat) (x : Int) (l : List Int) : LR :=
  ⟨if x = valOf s n then ⟨s.st.vals, s.st.reads.set n l, s.st.cols.set n 0⟩ else ⟨s.st.vals.set n x, s.st.reads.set n l, spoilC (s.st.reads.set n l) (s.st.cols.set n 0) n⟩, s.ran⟩
theorem finish0_ran (s : LR) (n : Nat) (x : Int) (l : List Int) : finishL s n x l = ⟨(finish0 s n x l).st, s.ran ++ [(n : Int)]⟩ := rfl
theorem val999 {g : Graph} {st : Lazy} (h : validL g st = true) (k : Nat) : 0 ≤ st.vals.getD k 0 ∧ st.vals.getD k 0 ≤ 999 := by
  have hr := inR999_range (validL_shape h).2.2.2.2
  rw [List.getD_eq_getElem?_getD]
  by_cases hk : k < st.vals.length
  · rw [List.getElem?_eq_getElem hk]; exact hr _ (List.getElem_mem hk)
  · rw [List.getElem?_eq_none (by omega)]; simp
theorem node_fod {g : Graph} (hG : validG g = true) {n : Nat} {nd : Node} (hn : g[n]? = some nd) (h0 : nd.kind ≠ 0) : FOD nd.f (fun k => 0 ≤ k ∧ k < (n : Int)) := by
  have hok := validG_fok hG n hn h0
  have hil := (List.getElem?_eq_some_iff.1 hn).1
  refine ⟨hok.good, hok.len, hok.one, fun p hp h1 => ?_⟩
  have hgn := validG_node hG n hil
  have hV : validF nd.f = true := by
    unfold goodNode at hgn
    rw [getD_of hn] at hgn
    dsimp only at hgn
    rw [if_neg h0] at hgn
    split at hgn
    · simp only [Bool.and_eq_true] at hgn; exact hgn.1
    · cases hgn
  exact may_lt hG hn h0 (mem_mayRead hV hp h1)
end Sg
namespace Go.Proofs.YtmelggoagbhieaaGreat
open Go.RowKit
section
variable {w0 : World} {L gv cv gr cr gq cq Br : Nat} {pre : List Value} {s t : Sg.LR} {F F0 : Nat → Prop} {W W' W0 W1 : World}
theorem LG.m (h : LG w0 L gv cv gr cr gq cq Br pre s F0 W0 W) : Mod F0 W0 W := by obtain ⟨F, _, m, _⟩ := h; exact m
theorem LG.pr (h : LG w0 L gv cv gr cr gq cq Br pre s F0 W1 W') (e : Ext W W1) : LG w0 L gv cv gr cr gq cq Br pre s F0 W W' := by
  obtain ⟨F, h1, m, hF⟩ := h
  have := e.size
  exact ⟨F, h1, (Mod.of e).tr' m, fun b hb => (hF b hb).imp id (fun e => by omega)⟩
theorem LG.tr1 (m : Mod F0 W0 W) (hF : ∀ b, F b → F0 b ∨ W0.heap.size ≤ b) (k : LG w0 L gv cv gr cr gq cq Br pre t F W W') : LG w0 L gv cv gr cr gq cq Br pre t F0 W0 W' := by
  obtain ⟨F', h2, m2, hF2⟩ := k
  refine ⟨F', h2, m.tr m2 hF, fun b hb => ?_⟩
  rcases hF2 b hb with e | e
  · exact hF b e
  · have := m.size; exact .inr (by omega)
theorem LG.cong (h : LG w0 L gv cv gr cr gq cq Br pre s F0 W0 W) (e : s = t) : LG w0 L gv cv gr cr gq cq Br pre t F0 W0 W := e ▸ h
theorem LS.rdL (h : LS w0 L gv cv gr cr gq cq Br pre s F W) (hL : L ≤ 1048576) (hl : ∀ l ∈ s.st.reads, l.length ≤ 1048576) : ∀ W', Mod (fun b => b = gq) W W' → RdL W' (some ⟨gr, 0, none⟩) s.st.reads := by
  intro W' m
  obtain ⟨hs, A, c, hS, hF⟩ := h.ex
  have hr : OwnL W w0.heap.size (some ⟨gr, 0, none⟩) cr s.st.reads hs := Sep.get hS 1 rfl
  have d2 := hS.2.2.2.1
  exact OwnL.rdL (OwnD.mod hr m (fun b hb e => d2 (Th.own w0.heap.size 3 1 (some ⟨gq, 0, none⟩) L cq (ints s.st.cols)) (by simp) b hb (show blk (some ⟨gq, 0, none⟩) = some b by rw [e]; rfl))) (by rw [h.rl]; exact hL) hl
/-- the cells of a node's colour, value and reads -/
theorem LS.col (h : LS w0 L gv cv gr cr gq cq Br pre s F W) {n : Nat} (hn : n < L) : W.cell? ⟨gq, n, none⟩ = some (.int .i64 (Sg.colOf s n)) ∧ W.frozen? ⟨gq, n, none⟩ = false ∧ gq < W.heap.size := by
  have hx : s.st.cols[n]? = some (Sg.colOf s n) := by
    have hl := h.ql
    unfold Sg.colOf
    rw [List.getD_eq_getElem?_getD, List.getElem?_eq_getElem (by omega), Option.getD_some]
  have hc := h.q.cell (j := n) (u := .int .i64 (Sg.colOf s n)) (by rw [ints_at, hx]; rfl)
  exact ⟨hc, h.q.free n, blt hc⟩
theorem LS.val (h : LS w0 L gv cv gr cr gq cq Br pre s F W) {n : Nat} (hn : n < L) : W.cell? ⟨gv, n, none⟩ = some (.int .i64 (Sg.valOf s n)) ∧ W.frozen? ⟨gv, n, none⟩ = false ∧ gv < W.heap.size := by
  have hx : s.st.vals[n]? = some (Sg.valOf s n) := by
    have hl := h.vl
    unfold Sg.valOf
    rw [List.getD_eq_getElem?_getD, List.getElem?_eq_getElem (by omega), Option.getD_some]
  have hc := h.v.cell (j := n) (u := .int .i64 (Sg.valOf s n)) (by rw [ints_at, hx]; rfl)
  exact ⟨hc, h.v.free n, blt hc⟩
theorem LS.rds (h : LS w0 L gv cv gr cr gq cq Br pre s F W) {n : Nat} (hn : n < L) : ∃ Al cl, W.cell? ⟨gr, n, none⟩ = some (.slice Al (Sg.rdsOf s n).length cl) ∧ Rd W 1 Al (Sg.rdsOf s n).length (ints (Sg.rdsOf s n)) ∧ W.frozen? ⟨gr, n, none⟩ = false ∧ gr < W.heap.size := by
  obtain ⟨hs, k⟩ := h.r
  have hx : s.st.reads[n]? = some (Sg.rdsOf s n) := by
    have hl := h.rl
    unfold Sg.rdsOf
    rw [List.getD_eq_getElem?_getD, List.getElem?_eq_getElem (by omega), Option.getD_some]
  obtain ⟨a, hh, ho⟩ := k.at_ (listIts_at hx)
  have hc := k.out.cell (j := n) (u := .slice a.1 (Sg.rdsOf s n).length a.2) (by
    have := at_dcells (listIts_pre s.st.reads) n 0 (by omega) (listIts_at hx) hh
    rw [Nat.mul_one, Nat.add_zero] at this
    rw [this]; rfl)
  exact ⟨a.1, a.2, hc, ho.rd, k.out.free n, blt hc⟩
end
end Go.Proofs.YtmelggoagbhieaaGreat
