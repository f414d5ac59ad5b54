/- Parts of one proof, joined. The program's has, cell, ValidCells: contracts. Conditions: bounds on lengths. The program's clone, cellsOf, CellsOf: contracts. Conditions: bounds on lengths. -/
import Derived.Test.YtdnlpklmihoapaaGreatDoorImplTwo
import Derived.Test.YtdnlpklmihoapaaGreatDoorImplThree
import Derived.Test.YtdnlpklmihoapaaGreatDoorSpecThree
import Derived.Test.YtdnlpklmihoapaaGreatDoorTy
import Derived.Test.YtdnlpklmihoapaaGreatDoorImplMN
import Derived.Test.YtdnlpklmihoapaaGreatDoorModelsA
/- The program's has, cell, ValidCells: contracts. Conditions: bounds on lengths. -/
namespace Go.Proofs.YtdnlpklmihoapaaGreatDoor
open Go.RowKit

theorem i_has (A : Option Addr) (n c : Nat) (k : Int) (w : World) (hn : n ≤ 1048576) : Calls Tryz.prog 71 #[.agg #[.slice A n c], .int .i64 k] w fun e w' => e = .returned (.bool (Sg.inR k 0 ((n : Int) - 1))) ∧ Ext w w' := by
 go_enter Tryz.func71, Tryz.ntmps71
 go_wp2_with (go_at_call 42; refine (i_in _ _ _ _).mono ?_; rintro e w' ⟨rfl, rfl⟩)
 go_ret
 exact ⟨rfl, (Ext.rfl' w).al _⟩

set_option maxHeartbeats 1000000 in
theorem i_cell (A : Option Addr) (c : Nat) (g : Sg.Graph) (k : Nat) (n : Sg.Node) (w : World) (h : RdN w A g) (hn : g[k]? = some n) : Calls Tryz.prog 43 #[.agg #[.slice A g.length c], .int .i64 k] w fun e w' => e = .returned (.bool (decide (n.kind = 0))) ∧ Ext w w' := by
 have hk : k < g.length := (List.getElem?_eq_some_iff.1 hn).1
 have hgl := h.1
 have e0 := (Ext.rfl' w).al (.cells #[.slice A g.length c] 24)
 obtain ⟨n', b, o, Ap, cp, hn', rfl, hkc, hs, hf, hfl⟩ := (h.ext e0).at_ hk
 rw [hn] at hn'
 injection hn' with hn'
 subst hn'
 have hin : Sg.inR (k : Int) 0 ((g.length : Int) - 1) = true := by simp [Sg.inR]; omega
 have Hin := lh hin
 have HE := lh e0
 have q0 : (w.alloc (.cells #[.slice (some ⟨b, o, none⟩) g.length c] 24)).cell? ⟨w.heap.size, 0, none⟩ = some (.slice (some ⟨b, o, none⟩) g.length c) := by simp [go_sem]
 have Q0 := lh q0
 have Hk := lh hkc
 clear hin hn e0 q0 hkc
 by_cases hz : n.kind = 0
 ·have z : (n.kind == 0) = true := by simp [hz]
  have Hz := lh hz
  clear hz
  go_enter Tryz.func43, Tryz.ntmps43
  go_wp2_with (go_at_call 71; refine (i_has _ _ _ _ _ hgl).mono ?_; rintro e w1 ⟨rfl, he1⟩; rw [Hin.out]; have k1 := he1.cellE Hk.out; have k2 := he1.cellE Q0.out; have kb := blt k1)
  go_ret
  exact ⟨ret_bool (by simp [Hz.out]), HE.out.tr he1⟩
 ·have z : (n.kind == 0) = false := by simp [hz]
  have Hz := lh hz
  clear hz
  go_enter Tryz.func43, Tryz.ntmps43
  go_wp2_with (go_at_call 71; refine (i_has _ _ _ _ _ hgl).mono ?_; rintro e w1 ⟨rfl, he1⟩; rw [Hin.out]; have k1 := he1.cellE Hk.out; have k2 := he1.cellE Q0.out; have kb := blt k1)
  go_ret
  exact ⟨ret_bool (by simp [Hz.out]), HE.out.tr he1⟩
set_option maxRecDepth 100000 in
set_option maxHeartbeats 2000000 in
theorem i_ValidCells (A Ac : Option Addr) (c cc : Nat) (g : Sg.Graph) (l : List Int) (w : World) (h : RdN w A g) (hc : Rd w 1 Ac l.length (ints l)) :
  Calls Tryz.prog 18 #[.agg #[.slice A g.length c], .slice Ac l.length cc] w fun e w' => e = .returned (.bool (Sg.validG g && Sg.validC g l)) ∧ Ext w w' := by
 have hgl := h.1
 have hll := hc.big
 have e0 := (Ext.rfl' w).al (.cells #[.slice A g.length c] 24)
 have hbox : (w.alloc (.cells #[.slice A g.length c] 24)).cell? ⟨w.heap.size, 0, none⟩ = some (.slice A g.length c) := by simp [go_sem]
 have HVG := lh (i_ValidGraph A c g)
 have HSZ := lh (i_size A g.length c)
 have H := lh h
 have Hc := lh hc
 have HE := lh e0
 have HB := lh hbox
 clear h hc e0 hbox
 cases hG : Sg.validG g
 ·have HG := lh hG
  clear hG
  go_enter Tryz.func18, Tryz.ntmps18
  go_wp2_with (go_at_call 40; refine (HVG.out _ (H.out.ext HE.out)).mono ?_; rintro e w1 ⟨rfl, he1⟩; rw [HG.out])
  go_ret
  exact ⟨rfl, HE.out.tr he1⟩
 have HG := lh hG
 clear hG
 by_cases hlen : l.length = g.length
 case neg =>
  have b1 : ((l.length : Int) != (g.length : Int)) = true := by simp; omega
  have Hb := lh hlen
  clear hlen
  go_enter Tryz.func18, Tryz.ntmps18
  go_wp2_with (first
   | (go_at_call 40; refine (HVG.out _ (H.out.ext HE.out)).mono ?_; rintro e w1 ⟨rfl, he1⟩; rw [HG.out]; have k1 := he1.cellE HB.out)
   | (go_at_call 41; refine (HSZ.out _).mono ?_; rintro e w2 ⟨rfl, he2⟩))
  go_ret
  exact ⟨ret_bool (by unfold Sg.validC; simp [Hb.out]), (HE.out.tr he1).tr he2⟩
 have b1 : ((l.length : Int) != (g.length : Int)) = false := by simp; omega
 have Hlen := lh hlen
 clear hlen
 go_enter Tryz.func18, Tryz.ntmps18
 go_wp2_with (first
   | (go_at_call 40; refine (HVG.out _ (H.out.ext HE.out)).mono ?_; rintro e w1 ⟨rfl, he1⟩; rw [HG.out]; have k1 := he1.cellE HB.out)
   | (go_at_call 41; refine (HSZ.out _).mono ?_; rintro e w2 ⟨rfl, he2⟩))
 have k2 := he2.cellE k1
 have E2 := lh ((HE.out.tr he1).tr he2)
 clear k1 he1 he2
 go_loopw [19] (fun i wr => ∃ k : Nat, k ≤ l.length ∧ i = .int .i64 k ∧ CO g l k = true ∧ Ext w2 wr) (fun i _ => l.length - (intOf i).toNat)
 case atStart => exact ⟨0, Nat.zero_le _, rfl, rfl, Ext.rfl' _⟩
 case round =>
  obtain ⟨k, hk, rfl, hco, he⟩ := hrel
  have q0 := he.cellE k2
  have HC := lh hco
  have Er := lh (E2.out.tr he)
  have Ew := lh he
  have hbN := blt q0
  clear hco he k2
  by_cases hlt : k < l.length
  ·have hkg : k < g.length := by have := Hlen.out; omega
   obtain ⟨n, hn⟩ : ∃ n, g[k]? = some n := ⟨_, List.getElem?_eq_getElem hkg⟩
   obtain ⟨bc, oc, x, rfl, hx, hxc⟩ := (Hc.out.ext Er.out).at1 hlt
   have hok := lh (cellOk_at hn hx)
   have HCE := lh (fun w h => i_cell A c g k n w h hn)
   have hb2 := blt hxc
   clear hn hx
   cases hin : Sg.inR x 0 999
   ·have Hin := lh hin
    clear hin
    go_wp2_with (go_at_call 42; refine (i_in _ _ _ _).mono ?_; rintro e w' ⟨rfl, rfl⟩; rw [Hin.out])
    go_ret
    exact ⟨ret_bool (by rw [CO_bad g l k hlt (by rw [hok.out, Hin.out]; rfl)]; simp), Er.out⟩
   ·have Hin := lh hin
    clear hin
    by_cases hx0 : x = 0
    ·have z2 : (x != 0) = false := by simp [hx0]
     have Hx := lh hx0
     clear hx0
     go_wp2_with (go_at_call 42; refine (i_in _ _ _ _).mono ?_; rintro e w' ⟨rfl, rfl⟩; rw [Hin.out])
     go_roundw
     case rel => exact ⟨k + 1, by omega, by go_num, by rw [CO_succ, HC.out, hok.out, Hin.out, Hx.out]; simp, Ew.out⟩
     case measure => simp [intOf]; omega
    ·have z2 : (x != 0) = true := by simp [hx0]
     have Hx := lh hx0
     clear hx0
     by_cases hz : n.kind = 0
     ·have hd : decide (n.kind = 0) = true := by simp [hz]
      have Hd := lh hd
      clear hz hd
      go_wp2_with (first
       | (go_at_call 42; refine (i_in _ _ _ _).mono ?_; rintro e w' ⟨rfl, rfl⟩; rw [Hin.out])
       | (go_at_call 43; refine (HCE.out _ (H.out.ext Er.out)).mono ?_; rintro e w3 ⟨rfl, he3⟩; rw [Hd.out]))
      go_roundw
      case rel => exact ⟨k + 1, by omega, by go_num, by rw [CO_succ, HC.out, hok.out, Hin.out, Hd.out]; rfl, Ew.out.tr he3⟩
      case measure => simp [intOf]; omega
     ·have hd : decide (n.kind = 0) = false := by simp [hz]
      have Hd := lh hd
      clear hz hd
      go_wp2_with (first
       | (go_at_call 42; refine (i_in _ _ _ _).mono ?_; rintro e w' ⟨rfl, rfl⟩; rw [Hin.out])
       | (go_at_call 43; refine (HCE.out _ (H.out.ext Er.out)).mono ?_; rintro e w3 ⟨rfl, he3⟩; rw [Hd.out]))
      go_ret
      exact ⟨ret_bool (by rw [CO_bad g l k hlt (by rw [hok.out, Hd.out]; simp [Hx.out])]; simp), Er.out.tr he3⟩
  ·obtain rfl : k = l.length := by omega
   go_wp2
   go_ret
   exact ⟨ret_bool (by unfold Sg.validC; have := HC.out; unfold CO at this; rw [this]; simp [Hlen.out]), Er.out⟩
end Go.Proofs.YtdnlpklmihoapaaGreatDoor

/- The program's clone, cellsOf, CellsOf: contracts. Conditions: bounds on lengths. -/
namespace Go.Proofs.YtdnlpklmihoapaaGreatDoor
open Go.RowKit

end Go.Proofs.YtdnlpklmihoapaaGreatDoor
