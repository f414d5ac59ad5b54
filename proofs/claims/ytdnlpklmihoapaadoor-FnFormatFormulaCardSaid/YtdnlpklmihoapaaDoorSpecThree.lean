/- Parts of one proof, joined. The reference's validCells, meaning, deps: contracts. Conditions: bounds on lengths; valid graphs and cells for the meaning. The reference's startEager: its contract. Conditions: valid graphs and cells. -/
import Derived.Test.YtdnlpklmihoapaaDoorSpecTwo
import Derived.Test.YtdnlpklmihoapaaDoorCore
import Derived.Test.YtdnlpklmihoapaaDoorTy
import Derived.Handy
/- The reference's validCells, meaning, deps: contracts. Conditions: bounds on lengths; valid graphs and cells for the meaning. -/
namespace Go.Proofs.YtdnlpklmihoapaaDoor
open Go.RowKit

def CO (g : Sg.Graph) (cells : List Int) (k : Nat) : Bool := (List.range k).all (Sg.cellOk g cells)
theorem CO_succ (g : Sg.Graph) (cells : List Int) (k : Nat) : CO g cells (k + 1) = (CO g cells k && Sg.cellOk g cells k) := by unfold CO; rw [List.range_succ, List.all_append]; simp
theorem CO_bad (g : Sg.Graph) (cells : List Int) (k : Nat) (hk : k < cells.length) (h : Sg.cellOk g cells k = false) : Sg.validC g cells = false := by
 have : (List.range cells.length).all (Sg.cellOk g cells) = false := by
  rw [List.all_eq_false]; exact ⟨k, by rw [List.mem_range]; exact hk, by rw [h]; simp⟩
 unfold Sg.validC; rw [this]; simp
theorem cellOk_at {g : Sg.Graph} {cells : List Int} {k : Nat} {n : Sg.Node} {x : Int} (hn : g[k]? = some n) (hx : cells[k]? = some x) : Sg.cellOk g cells k = (Sg.inR x 0 999 && (decide (n.kind = 0) || decide (x = 0))) := by
 unfold Sg.cellOk Sg.kindAt
 simp [hn, hx]

set_option maxRecDepth 100000 in
set_option maxHeartbeats 1000000 in
theorem s_validCells (A Ac : Option Addr) (c cc : Nat) (g : Sg.Graph) (l : List Int) (w : World) (h : RdN w A g) (hc : Rd w 1 Ac l.length (ints l)) :
  Calls Tryd.prog 28 #[.agg #[.slice A g.length c], .slice Ac l.length cc] w fun e w' => e = .returned (.bool (Sg.validC g l)) ∧ Ext w w' := by
 have hgl := h.1
 have hll := hc.big
 have e0 := (Ext.rfl' w).al (.cells #[.slice A g.length c] 30)
 have h0 := h.ext e0
 have hc0 := hc.ext e0
 by_cases hlen : l.length = g.length
 case neg =>
  have b1 : ((l.length : Int) != (g.length : Int)) = true := by simp; omega
  have Hb := lh hlen
  clear hlen
  go_enter Tryd.func28, Tryd.ntmps28
  go_wp2
  go_ret
  exact ⟨ret_bool (by unfold Sg.validC; simp [Hb.out]), e0⟩
 have b1 : ((l.length : Int) != (g.length : Int)) = false := by simp; omega
 have Hlen := lh hlen
 have HE := lh e0
 clear hlen e0
 go_enter Tryd.func28, Tryd.ntmps28
 go_wp2
 go_loop [5] (fun i => ∃ k : Nat, k ≤ l.length ∧ i = .int .i64 k ∧ CO g l k = true) (fun i => l.length - (intOf i).toNat)
 case atStart => exact ⟨0, Nat.zero_le _, rfl, rfl⟩
 case round =>
  obtain ⟨k, hk, rfl, hco⟩ := hrel
  have HC := lh hco
  clear hco
  by_cases hlt : k < l.length
  ·have hkg : k < g.length := by have := Hlen.out; omega
   obtain ⟨⟨nk, nf⟩, b, o, Ap, cp, hn, rfl, hkc, hs, _, _⟩ := h0.at_ hkg
   obtain ⟨bc, oc, x, rfl, hx, hxc⟩ := hc0.at1 hlt
   have hok := lh (cellOk_at hn hx)
   dsimp only at *
   have hb1 := blt hkc
   have hb2 := blt hxc
   clear hn hx
   cases hin : Sg.inR x 0 999
   ·have Hin := lh hin
    clear hin
    go_wp2_with (go_at_call 62; refine (s_inRange _ _ _ _).mono ?_; rintro e w' ⟨rfl, rfl⟩; rw [Hin.out])
    go_ret
    exact ⟨ret_bool (CO_bad g l k hlt (by rw [hok.out, Hin.out]; rfl)).symm, HE.out⟩
   ·have Hin := lh hin
    clear hin
    by_cases hz : nk = 0
    ·have z1 : (nk != 0) = false := by simp [hz]
     have Hz := lh hz
     clear hz
     go_wp2_with (go_at_call 62; refine (s_inRange _ _ _ _).mono ?_; rintro e w' ⟨rfl, rfl⟩; rw [Hin.out])
     go_round
     case rel => exact ⟨k + 1, by omega, by go_num, by rw [CO_succ, HC.out, hok.out, Hin.out, Hz.out]; rfl⟩
     case measure => simp [intOf]; omega
    ·have z1 : (nk != 0) = true := by simp [hz]
     have Hz := lh hz
     clear hz
     by_cases hx0 : x = 0
     ·have z2 : (x != 0) = false := by simp [hx0]
      have Hx := lh hx0
      clear hx0
      go_wp2_with (go_at_call 62; refine (s_inRange _ _ _ _).mono ?_; rintro e w' ⟨rfl, rfl⟩; rw [Hin.out])
      go_round
      case rel => exact ⟨k + 1, by omega, by go_num, by rw [CO_succ, HC.out, hok.out, Hin.out, Hx.out]; simp⟩
      case measure => simp [intOf]; omega
     ·have z2 : (x != 0) = true := by simp [hx0]
      have Hx := lh hx0
      clear hx0
      go_wp2_with (go_at_call 62; refine (s_inRange _ _ _ _).mono ?_; rintro e w' ⟨rfl, rfl⟩; rw [Hin.out])
      go_ret
      exact ⟨ret_bool (CO_bad g l k hlt (by rw [hok.out]; simp [Hz.out, Hx.out])).symm, HE.out⟩
  ·obtain rfl : k = l.length := by omega
   go_wp2
   go_ret
   exact ⟨ret_bool (by unfold Sg.validC; have := HC.out; unfold CO at this; rw [this]; simp [Hlen.out]), HE.out⟩

theorem valAt_cell {g : Sg.Graph} {cells out : List Int} {k : Nat} {n : Sg.Node} {x : Int} (hn : g[k]? = some n) (hx : cells[k]? = some x) (h : n.kind = 0) : Sg.valAt g cells out k = x := by simp [Sg.valAt, hn, hx, h]
theorem valAt_form {g : Sg.Graph} {cells out : List Int} {k : Nat} {n : Sg.Node} (hn : g[k]? = some n) (h : ¬ n.kind = 0) : Sg.valAt g cells out k = (Sg.runF n.f out).1 := by simp [Sg.valAt, hn, h]
theorem depAt_cell {g : Sg.Graph} {v : List Int} {k : Nat} {n : Sg.Node} (hn : g[k]? = some n) (h : n.kind = 0) : Sg.depAt g v k = [] := by simp [Sg.depAt, hn, h]
theorem depAt_form {g : Sg.Graph} {v : List Int} {k : Nat} {n : Sg.Node} (hn : g[k]? = some n) (h : ¬ n.kind = 0) : Sg.depAt g v k = (Sg.runF n.f v).2 := by simp [Sg.depAt, hn, h]

end Go.Proofs.YtdnlpklmihoapaaDoor

/- The reference's startEager: its contract. Conditions: valid graphs and cells. -/
namespace Go.Proofs.YtdnlpklmihoapaaDoor
open Go.RowKit

theorem depsTo_its (g : Sg.Graph) (v : List Int) (k : Nat) : listIts (Sg.depsTo g v (k + 1)) = listIts (Sg.depsTo g v k) ++ [⟨[], (Sg.depAt g v k).length, ints (Sg.depAt g v k)⟩] := by rw [Sg.depsTo_succ]; simp [listIts]

end Go.Proofs.YtdnlpklmihoapaaDoor
