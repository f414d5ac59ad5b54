/- The program's has, cell, ValidCells: contracts. Conditions: bounds on lengths. -/
import Derived.Test.YtkkegmimofmhpaaGreatImplTwo
import Derived.Test.YtkkegmimofmhpaaGreatImplThree
import Derived.Test.YtkkegmimofmhpaaGreatSpecThree
namespace Go.Proofs.YtkkegmimofmhpaaGreat
open Go.RowKit

theorem i_has (A : Option Addr) (n c : Nat) (k : Int) (w : World) (hn : n ≤ 1048576) : Calls Tryz.prog 64 #[.agg #[.slice A n c], .int .i64 k] w fun e w' => e = .returned (.bool (Sg.inR k 0 ((n : Int) - 1))) ∧ Ext w w' := by
  go_enter Tryz.func64, Tryz.ntmps64
  go_wp2_with (go_at_call 58; refine (i_in _ _ _ _).mono ?_; rintro e w' ⟨rfl, rfl⟩)
  go_ret
  exact ⟨rfl, (Ext.rfl' w).al _⟩

set_option maxHeartbeats 1000000 in
theorem i_cell (A : Option Addr) (c : Nat) (g : Sg.Graph) (k : Nat) (n : Sg.Node) (w : World) (h : RdN w A g) (hn : g[k]? = some n) : Calls Tryz.prog 43 #[.agg #[.slice A g.length c], .int .i64 k] w fun e w' => e = .returned (.bool (decide (n.kind = 0))) ∧ Ext w w' := by
  have hk : k < g.length := (List.getElem?_eq_some_iff.1 hn).1
  have hgl := h.1
  have e0 := (Ext.rfl' w).al (.cells #[.slice A g.length c] 34)
  obtain ⟨n', b, o, Ap, cp, hn', rfl, hkc, hs, hf, hfl⟩ := (h.ext e0).at_ hk
  rw [hn] at hn'
  injection hn' with hn'
  subst hn'
  have hin : Sg.inR (k : Int) 0 ((g.length : Int) - 1) = true := by simp [Sg.inR]; omega
  have Hin := Lib.hid hin
  have HE := Lib.hid e0
  have q0 : (w.alloc (.cells #[.slice (some ⟨b, o, none⟩) g.length c] 34)).cell? ⟨w.heap.size, 0, none⟩ = some (.slice (some ⟨b, o, none⟩) g.length c) := by simp [go_sem]
  have Q0 := Lib.hid q0
  have Hk := Lib.hid hkc
  clear hin hn e0 q0 hkc
  by_cases hz : n.kind = 0
  · have z : (n.kind == 0) = true := by simp [hz]
    have Hz := Lib.hid hz
    clear hz
    go_enter Tryz.func43, Tryz.ntmps43
    go_wp2_with (go_at_call 64; refine (i_has _ _ _ _ _ hgl).mono ?_; rintro e w1 ⟨rfl, he1⟩; rw [Hin.out]; have k1 := he1.cellE Hk.out; have k2 := he1.cellE Q0.out; have kb := blt k1)
    go_ret
    exact ⟨ret_bool (by simp [Hz.out]), HE.out.tr he1⟩
  · have z : (n.kind == 0) = false := by simp [hz]
    have Hz := Lib.hid hz
    clear hz
    go_enter Tryz.func43, Tryz.ntmps43
    go_wp2_with (go_at_call 64; refine (i_has _ _ _ _ _ hgl).mono ?_; rintro e w1 ⟨rfl, he1⟩; rw [Hin.out]; have k1 := he1.cellE Hk.out; have k2 := he1.cellE Q0.out; have kb := blt k1)
    go_ret
    exact ⟨ret_bool (by simp [Hz.out]), HE.out.tr he1⟩
theorem i_cell_no (A : Option Addr) (c : Nat) (g : Sg.Graph) (k : Int) (w : World) (h : RdN w A g) (hk : k < 0 ∨ (g.length : Int) ≤ k) : Calls Tryz.prog 43 #[.agg #[.slice A g.length c], .int .i64 k] w fun e w' => e = .returned (.bool false) ∧ Ext w w' := by
  have hgl := h.1
  have hin : Sg.inR k 0 ((g.length : Int) - 1) = false := by simp [Sg.inR]; omega
  have Hin := Lib.hid hin
  clear hin hk
  go_enter Tryz.func43, Tryz.ntmps43
  go_wp2_with (go_at_call 64; refine (i_has _ _ _ _ _ hgl).mono ?_; rintro e w1 ⟨rfl, he1⟩; rw [Hin.out])
  go_ret
  exact ⟨rfl, ((Ext.rfl' w).al _).tr he1⟩

end Go.Proofs.YtkkegmimofmhpaaGreat
