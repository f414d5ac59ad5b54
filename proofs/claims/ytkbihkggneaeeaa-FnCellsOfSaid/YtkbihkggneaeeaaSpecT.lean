/- The reference's cellsOf and CellsOf: contracts. Conditions: bounds on lengths. -/
import Derived.Test.YtkbihkggneaeeaaLawOne
import Derived.Test.YtkbihkggneaeeaaModelC
namespace Go.Proofs.Ytkbihkggneaeeaa
open Go.RowKit

set_option maxRecDepth 100000 in
set_option maxHeartbeats 2000000 in
theorem s_cellsOf (A Av : Option Addr) (c cv : Nat) (g : Sg.Graph) (v : List Int) (w : World) (h : RdN w A g) (hv : Rd w 1 Av v.length (ints v)) (hl : v.length = g.length) :
    Calls Try.prog 59 #[.agg #[.slice A g.length c], .slice Av v.length cv] w fun e w' => ∃ A' c', e = .returned (.slice A' v.length c') ∧ Own w' w.heap.size 3 1 A' v.length c' (ints (Sg.cellsOf g v)) ∧ Ext w w' := by
  have hgl := h.1
  have e0 := (Ext.rfl' w).al (.cells #[.slice A g.length c] 25)
  have q0 : (w.alloc (.cells #[.slice A g.length c] 25)).cell? ⟨w.heap.size, 0, none⟩ = some (.slice A g.length c) := by simp [go_sem]
  have HCI := Lib.hid (fun w h => s_copyInts Av v.length cv v w h (by omega))
  have hvl : v.length ≤ 1048576 := by omega
  have Hl := Lib.hid hl
  have H := Lib.hid h
  have Hv := Lib.hid hv
  have HE := Lib.hid e0
  have Q0 := Lib.hid q0
  have HZ := Lib.hid (Sg.cellsTo_zero g v)
  clear h hv e0 q0 hl
  go_enter Try.func59, Try.ntmps59
  go_wp2_with fail
  refine (HCI.out _ (Hv.out.ext HE.out)).mono ?_
  rintro e w1 ⟨A1, c1, rfl, ho, he1⟩
  have k1 := he1.cellE Q0.out
  have E1 := Lib.hid (HE.out.tr he1)
  have hb : w.heap.size + 1 ≤ w1.heap.size := by have := he1.size; simpa using this
  rw [← HZ.out] at ho
  rw [Sg.length_cellsTo] at ho
  have Ho := Lib.hid (ho.mono (B' := w.heap.size + 1) (by simp))
  clear ho he1
  go_wp2
  go_loopw [6] (fun i wr => ∃ k : Nat, k ≤ v.length ∧ i = .int .i64 k ∧ Ext w wr ∧ wr.cell? ⟨w.heap.size, 0, none⟩ = some (.slice A g.length c) ∧ Own wr (w.heap.size + 1) 3 1 A1 v.length c1 (ints (Sg.cellsTo g v k))) (fun i _ => v.length - (intOf i).toNat)
  case atStart => exact ⟨0, Nat.zero_le _, rfl, E1.out, k1, Ho.out⟩
  case round =>
    obtain ⟨k, hk, rfl, he, kg, hown⟩ := hrel
    clear k1 hb
    have b1 := blt kg
    by_cases hlt : k < v.length
    · obtain ⟨⟨nk, nf⟩, b, o, Ap, cp, hn, hA, hkc, hs, _, _⟩ := (H.out.ext he).at_ (show k < g.length by have := Hl.out; omega)
      subst hA
      dsimp only at hkc
      obtain ⟨g1, rfl, hg1⟩ := hown.at_ (by omega)
      have b2 := blt hkc
      have hkg : k < g.length := by have := Hl.out; omega
      by_cases hz : nk = 0
      · have z1 : (nk != 0) = false := by simp [hz]
        have Hf := Lib.hid (Sg.cellsTo_keep g v k hn hz)
        have Ho2 := Lib.hid hown
        have HE2 := Lib.hid he
        clear hn hz hs hown he
        go_wp2
        go_roundw
        case rel => exact ⟨k + 1, by omega, by go_num, HE2.out, kg, by rw [Hf.out]; exact Ho2.out⟩
        case measure => simp [intOf]; omega
      · have z1 : (nk != 0) = true := by simp [hz]
        obtain ⟨y, hy⟩ : ∃ y, (ints (Sg.cellsTo g v k))[k]? = some y := ⟨_, List.getElem?_eq_getElem (by simp; omega)⟩
        have hcy := hown.cell hy
        have hfy := hown.free k
        have b3 := blt hcy
        have Hf := Lib.hid (Sg.cellsTo_zap g v k hn hz)
        have Ho2 := Lib.hid hown
        have HE2 := Lib.hid he
        clear hn hz hs hown he hy
        go_wp2
        go_roundw
        case rel => exact ⟨k + 1, by omega, by go_num, HE2.out.set (show _ ≤ g1 by omega) _, by rw [World.cell?_setCell_other _ _ _ _ (by intro e; injection e; omega)]; exact kg, by rw [Hf.out, ← ints_set]; exact Ho2.out.st k _⟩
        case measure => simp [intOf]; omega
    · obtain rfl : k = v.length := by omega
      have Ho2 := Lib.hid hown
      have HE2 := Lib.hid he
      clear hown he
      go_wp2
      go_ret
      exact ⟨A1, c1, rfl, Ho2.out.mono (by omega), HE2.out⟩
end Go.Proofs.Ytkbihkggneaeeaa
