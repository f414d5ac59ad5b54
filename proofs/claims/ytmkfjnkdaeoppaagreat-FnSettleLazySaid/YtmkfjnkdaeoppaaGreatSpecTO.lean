/- Parts of one proof, joined. The reference's cellsOf and CellsOf: contracts. Conditions: bounds on lengths. The reference's meets and MustRun: contracts. Conditions: bounds on lengths. -/
import Derived.Test.YtmkfjnkdaeoppaaGreatTy
import Derived.Test.YtmkfjnkdaeoppaaGreatLawAll
import Derived.Test.YtmkfjnkdaeoppaaGreatModelsA
import Derived.Test.YtmkfjnkdaeoppaaGreatSpecThree
/- The reference's cellsOf and CellsOf: contracts. Conditions: bounds on lengths. -/
namespace Go.Proofs.YtmkfjnkdaeoppaaGreat
open Go.RowKit

set_option maxRecDepth 100000 in
set_option maxHeartbeats 2000000 in
theorem s_cellsOf (A Av : Option Addr) (c cv : Nat) (g : Sg.Graph) (v : List Int) (w : World) (h : RdN w A g) (hv : Rd w 1 Av v.length (ints v)) (hl : v.length = g.length) :
  Calls Tryz.prog 88 #[.agg #[.slice A g.length c], .slice Av v.length cv] w fun e w' => ∃ A' c', e = .returned (.slice A' v.length c') ∧ Own w' w.heap.size 3 1 A' v.length c' (ints (Sg.cellsOf g v)) ∧ Ext w w' := by
 have hgl := h.1
 have e0 := (Ext.rfl' w).al (.cells #[.slice A g.length c] 25)
 have q0 : (w.alloc (.cells #[.slice A g.length c] 25)).cell? ⟨w.heap.size, 0, none⟩ = some (.slice A g.length c) := by simp [go_sem]
 have HCI := lh (fun w h => s_copyInts Av v.length cv v w h (by omega))
 have hvl : v.length ≤ 1048576 := by omega
 have Hl := lh hl
 have H := lh h
 have Hv := lh hv
 have HE := lh e0
 have Q0 := lh q0
 have HZ := lh (Sg.cellsTo_zero g v)
 clear h hv e0 q0 hl
 go_enter Tryz.func88, Tryz.ntmps88
 go_wp2_with fail
 refine (HCI.out _ (Hv.out.ext HE.out)).mono ?_
 rintro e w1 ⟨A1, c1, rfl, ho, he1⟩
 have k1 := he1.cellE Q0.out
 have E1 := lh (HE.out.tr he1)
 have hb : w.heap.size + 1 ≤ w1.heap.size := by have := he1.size; simpa using this
 rw [← HZ.out] at ho
 rw [Sg.length_cellsTo] at ho
 have Ho := lh (ho.mono (B' := w.heap.size + 1) (by simp))
 clear ho he1
 go_wp2
 go_loopw [6] (fun i wr => ∃ k : Nat, k ≤ v.length ∧ i = .int .i64 k ∧ Ext w wr ∧ wr.cell? ⟨w.heap.size, 0, none⟩ = some (.slice A g.length c) ∧ Own wr (w.heap.size + 1) 3 1 A1 v.length c1 (ints (Sg.cellsTo g v k))) (fun i _ => v.length - (intOf i).toNat)
 case atStart => exact ⟨0, Nat.zero_le _, rfl, E1.out, k1, Ho.out⟩
 case round =>
  obtain ⟨k, hk, rfl, he, kg, hown⟩ := hrel
  clear k1 hb
  have b1 := blt kg
  by_cases hlt : k < v.length
  ·obtain ⟨⟨nk, nf⟩, b, o, Ap, cp, hn, hA, hkc, hs, _, _⟩ := (H.out.ext he).at_ (show k < g.length by have := Hl.out; omega)
   subst hA
   dsimp only at hkc
   obtain ⟨g1, rfl, hg1⟩ := hown.at_ (by omega)
   have b2 := blt hkc
   have hkg : k < g.length := by have := Hl.out; omega
   by_cases hz : nk = 0
   ·have z1 : (nk != 0) = false := by simp [hz]
    have Hf := lh (Sg.cellsTo_keep g v k hn hz)
    have Ho2 := lh hown
    have HE2 := lh he
    clear hn hz hs hown he
    go_wp2
    go_roundw
    case rel => exact ⟨k + 1, by omega, by go_num, HE2.out, kg, by rw [Hf.out]; exact Ho2.out⟩
    case measure => simp [intOf]; omega
   ·have z1 : (nk != 0) = true := by simp [hz]
    obtain ⟨y, hy⟩ : ∃ y, (ints (Sg.cellsTo g v k))[k]? = some y := ⟨_, List.getElem?_eq_getElem (by simp; omega)⟩
    have hcy := hown.cell hy
    have hfy := hown.free k
    have b3 := blt hcy
    have Hf := lh (Sg.cellsTo_zap g v k hn hz)
    have Ho2 := lh hown
    have HE2 := lh he
    clear hn hz hs hown he hy
    go_wp2
    go_roundw
    case rel => exact ⟨k + 1, by omega, by go_num, HE2.out.set (show _ ≤ g1 by omega) _, by rw [co]; exact kg, by rw [Hf.out, ← ints_set]; exact Ho2.out.st k _⟩
    case measure => simp [intOf]; omega
  ·obtain rfl : k = v.length := by omega
   have Ho2 := lh hown
   have HE2 := lh he
   clear hown he
   go_wp2
   go_ret
   exact ⟨A1, c1, rfl, Ho2.out.mono (by omega), HE2.out⟩
end Go.Proofs.YtmkfjnkdaeoppaaGreat

/- The reference's meets and MustRun: contracts. Conditions: bounds on lengths. -/
namespace Go.Proofs.YtmkfjnkdaeoppaaGreat
open Go.RowKit

theorem s_meets (A B : Option Addr) (ca cb na nb : Nat) (a b : List Int) (w : World) (h : Rd w 1 A na (ints a)) (k : Rd w 1 B nb (ints b)) :
  Calls Tryz.prog 84 #[.slice A na ca, .slice B nb cb] w fun e w' => e = .returned (.bool (Sg.meets a b)) ∧ Ext w w' := by
 have hm := h.big
 obtain rfl := h.len
 have HP := lh (fun n => s_placeIn B nb cb b n w k)
 have HN := lh (fun n => placeIn_neg b n)
 go_enter Tryz.func84, Tryz.ntmps84
 go_wp2
 go_loop [5] (fun i => ∃ j : Nat, j ≤ a.length ∧ i = .int .i64 j ∧ ((a.drop j).any fun x => decide (x ∈ b)) = Sg.meets a b) (fun i => a.length - (intOf i).toNat)
 case atStart => exact ⟨0, Nat.zero_le _, rfl, rfl⟩
 case round =>
  obtain ⟨j, hj, rfl, hpl⟩ := hrel
  by_cases hlt : j < a.length
  ·obtain ⟨bb, o, x, rfl, hx, hc⟩ := h.at1 hlt
   rw [drop_cons a j hx, List.any_cons] at hpl
   have H := lh hpl
   clear hpl hx
   by_cases hr : x ∈ b
   ·have Hr := lh (show decide (x ∈ b) = true by simpa using hr)
    have hp : decide (placeIn b x ≥ 0) = true := by have := (HN.out x).1; simp only [decide_eq_true_eq]; by_cases h0 : placeIn b x < 0; exact absurd hr (this h0); omega
    clear hr
    go_wp2_with (go_at_call 131; refine (HP.out _).mono ?_; rintro e w' ⟨rfl, rfl⟩)
    go_ret
    exact ⟨ret_bool (by rw [← H.out, Hr.out]; rfl), Ext.rfl' _⟩
   ·have Hr := lh (show decide (x ∈ b) = false by simpa using hr)
    have hp : decide (placeIn b x ≥ 0) = false := by have := (HN.out x).2 hr; simp only [decide_eq_false_iff_not]; omega
    clear hr
    go_wp2_with (go_at_call 131; refine (HP.out _).mono ?_; rintro e w' ⟨rfl, rfl⟩)
    go_round
    case rel => exact ⟨j + 1, by omega, by go_num, by rw [← H.out, Hr.out, Bool.false_or]⟩
    case measure => simp [intOf]; omega
  ·have H := lh hpl
   clear hpl
   go_wp2
   go_ret
   exact ⟨ret_bool (by rw [← H.out, List.drop_eq_nil_of_le (by omega)]; rfl), Ext.rfl' _⟩
end Go.Proofs.YtmkfjnkdaeoppaaGreat
