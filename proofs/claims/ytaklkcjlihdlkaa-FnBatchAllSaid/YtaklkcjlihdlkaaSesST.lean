/- Parts of one proof, joined. The reference's sessions, their small parts: effects, a new session, one step, what is left, what is shown: contracts. Conditions: bounds on lengths. The reference's PlainSession: its contract. Conditions: bounds on lengths. -/
import Derived.Test.YtaklkcjlihdlkaaTy
import Derived.Test.YtaklkcjlihdlkaaSesAB
import Derived.Test.YtaklkcjlihdlkaaSesV
import Derived.Test.YtaklkcjlihdlkaaReg
import Derived.Test.YtaklkcjlihdlkaaPlT
import Derived.IntWalk
import Derived.Test.YtaklkcjlihdlkaaSesP
import Derived.Test.YtaklkcjlihdlkaaSpecTO
import Derived.Test.YtaklkcjlihdlkaaMeanAll
/- The reference's sessions, their small parts: effects, a new session, one step, what is left, what is shown: contracts. Conditions: bounds on lengths. -/
namespace Sg
def effN (g : Graph) (k : Nat) : List Int := whichL (fun i => decide (kindAt g (i : Int) = 2)) k
theorem effN_all (g : Graph) : effN g g.length = effs g (List.replicate g.length false) := (effs_none g).symm
theorem effN_succ (g : Graph) (k : Nat) : effN g (k + 1) = if kindAt g (k : Int) = 2 then effN g k ++ [(k : Int)] else effN g k := by
 unfold effN
 rw [whichL_succ]
 by_cases h : kindAt g (k : Int) = 2 <;> simp [h]
theorem live_filter (g : Graph) (s : List Bool) : (effN g g.length).filter (fun n => !(s.getD n.toNat false)) = effs g s := by
 have key : ∀ k, (effN g k).filter (fun n => !(s.getD n.toNat false)) = whichL (fun i => decide (kindAt g (i : Int) = 2) && !(s.getD i false)) k := by
  intro k
  induction k with
  | zero => rfl
  | succ k ih =>
   rw [effN_succ, whichL_succ, ← ih]
   by_cases h : kindAt g (k : Int) = 2
   ·cases hs : s.getD k false
    ·simp only [h, if_true, List.filter_append, List.filter_cons, List.filter_nil, Int.toNat_natCast, hs, decide_true, Bool.not_false, Bool.and_self]
    ·simp only [h, if_true, List.filter_append, List.filter_cons, List.filter_nil, Int.toNat_natCast, hs, decide_true, Bool.not_true, Bool.and_false, Bool.false_eq_true, if_false, List.append_nil]
   ·simp [h]
 exact key _
theorem effN_len (g : Graph) (k : Nat) : (effN g k).length ≤ k := whichL_len _ _
end Sg
namespace Go.Proofs.Ytaklkcjlihdlkaa
open Go.RowKit

set_option maxHeartbeats 1000000 in
theorem s_effects (A : Option Addr) (c : Nat) (g : Sg.Graph) (w : World) (h : RdN w A g) :
  Calls Try.prog 64 #[.agg #[.slice A g.length c]] w fun e w' => ∃ A' c', e = .returned (.slice A' (Sg.effs g (List.replicate g.length false)).length c') ∧ Own w' w.heap.size 3 1 A' (Sg.effs g (List.replicate g.length false)).length c' (ints (Sg.effs g (List.replicate g.length false))) ∧ Ext w w' := by
 have hgl := h.1
 have H := lh h
 have HE := lh (Sg.effN_all g)
 have HS := lh (Sg.effN_succ g)
 have HL := lh (Sg.effN_len g)
 have H0 := lh (show Sg.effN g 0 = [] from rfl)
 generalize Sg.effN g = V at *
 have e0 := ((Ext.rfl' w).al (.cells #[.slice A g.length c] 25)).al (.cells #[] 3)
 have q0 : World.cell? (World.alloc (World.alloc w (.cells #[.slice A g.length c] 25)) (.cells #[] 3)) ⟨w.heap.size, 0, none⟩ = some (.slice A g.length c) := by simp [go_sem]
 have hown := Own.new (World.alloc w (.cells #[.slice A g.length c] 25)) (B := w.heap.size + 1) 3 1 #[] 0 (by simp) (by unfold maxLen; omega) rfl
 simp only [World.size_alloc] at hown
 have EE := lh e0
 have Q0 := lh q0
 have HO := lh hown
 clear h e0 q0 hown
 go_enter Try.func64, Try.ntmps64
 go_wp2
 go_loopw [3, 4] (fun v i wr => ∃ (k : Nat) (A' : Option Addr) (c' : Nat), k ≤ g.length ∧ i = .int .i64 k ∧ v = .slice A' (V k).length c' ∧ Hid (Own wr (w.heap.size + 1) 3 1 A' (V k).length c' (ints (V k))) ∧ Hid (Ext w wr) ∧ Hid (wr.cell? ⟨w.heap.size, 0, none⟩ = some (.slice A g.length c))) (fun _ i _ => g.length - (intOf i).toNat)
 case atStart => exact ⟨0, _, _, Nat.zero_le _, rfl, by rw [H0.out]; rfl, lh (by rw [H0.out]; exact HO.out), EE, Q0⟩
 case round =>
  obtain ⟨k, A', c', hk, rfl, rfl, hO, hX, hQ⟩ := hrel
  have lg := hQ.out
  have hw1 : w.heap.size + 1 ≤ wr.heap.size := blt lg
  have bg := blt lg
  have hl := HL.out k
  by_cases hlt : k < g.length
  ·obtain ⟨⟨nk, nf⟩, b, oo, Ap, cp, hn, rfl, hkc, hsc, hf, hfl⟩ := (H.out.ext hX.out).at_ hlt
   dsimp only at *
   have HK := lh (show Sg.kindAt g (k : Int) = nk by unfold Sg.kindAt; simp [hn])
   have bk := blt hkc
   clear hn hsc hf hfl
   have hs := HS.out k
   rw [HK.out] at hs
   by_cases hz : nk = 2
   ·subst hz
    rw [if_pos rfl] at hs
    have Hs := lh hs
    clear hs
    go_wp2_with (at_builtin; refine wpList_app1 rfl rfl eiInt rfl hO.out rfl rfl (one_int _ _) (by omega) (by omega) (by omega) ?_; intro A2 c2 w2 hown2 hg2 hat2)
    go_roundw
    case rel => exact ⟨k + 1, A2, c2, by omega, by go_num, by rw [Hs.out]; simp, lh (by rw [Hs.out]; simpa using hown2), lh (hX.out.gr hg2 fun x hx => by have := (hO.out.lt hx).1; omega), lh (grown_cell hg2 lg (fun e => by have := (hO.out.lt e).1; omega))⟩
    case measure => simp [intOf]; omega
   ·rw [if_neg hz] at hs
    have Hs := lh hs
    have z1 : (nk == 2) = false := by simp [hz]
    clear hs hz
    go_wp2
    go_roundw
    case rel => exact ⟨k + 1, A', c', by omega, by go_num, by rw [Hs.out], lh (by rw [Hs.out]; exact hO.out), hX, hQ⟩
    case measure => simp [intOf]; omega
  ·obtain rfl : k = g.length := by omega
   go_wp2
   go_ret
   rw [← HE.out]
   exact ⟨A', c', rfl, hO.out.mono (by omega), hX.out⟩


/-- a session's things: its box, what is pending, what is stopped -/
def sesT {B : Nat} (Bs : Nat) (A : Option Addr) (c : Nat) (g : Sg.Graph) (x : Sg.Ses) (n m : Nat) (Ap : Option Addr) (cp : Nat) (As : Option Addr) (cs : Nat) (fl : Nat) : List (Th B) :=
 [Th.box B Bs [.slice A g.length c, .int .i64 (x.opn : Int), .slice Ap n cp, .slice As m cs, .int .i64 (fl : Int)], Th.own B 3 1 Ap n cp (ints x.pend), Th.own B 4 1 As m cs (bools x.stop)]
theorem boolsR2 (n : Nat) : (madeCells (Value.bool false).cells (n * 1)).toList = bools (List.replicate n false) := by rw [made_one _ _ rfl]; simp [bools]
end Go.Proofs.Ytaklkcjlihdlkaa

/- The reference's PlainSession: its contract. Conditions: bounds on lengths. -/
namespace Go.Proofs.Ytaklkcjlihdlkaa
open Go.RowKit

theorem perm_start {α : Type _} (w x a b c d : α) : [w, x, a, b, c, d].Perm [a, b, c, x, w, d] := ((List.Perm.swap x w _).trans ((List.perm_middle (l₁ := [a, b, c]) (l₂ := [d]) (a := w)).symm.cons x)).trans (List.perm_middle (l₁ := [a, b, c]) (l₂ := [w, d]) (a := x)).symm
end Go.Proofs.Ytaklkcjlihdlkaa
