/- The reference's ParseFormula, in memory: its contract. Conditions: texts of at most 2^20 bytes. -/
import Derived.Test.YtdnlpklmihoapaaDoorTxK
namespace Sg
theorem split_sum (c : UInt8) : ∀ l : Txt, ((splitC c l).map List.length).sum + (splitC c l).length = l.length + 1
 | [] => rfl
 | b :: r => by
  have ih := split_sum c r
  by_cases h : b = c
  ·rw [splitC, if_pos h]
   simp only [List.map_cons, List.sum_cons, List.length_cons, List.length_nil]
   omega
  ·cases hr : splitC c r with
   | nil => exact absurd hr (splitC_ne c r)
   | cons p t =>
    rw [splitC_cons h hr]
    rw [hr] at ih
    simp only [List.map_cons, List.sum_cons, List.length_cons] at ih ⊢
    omega
theorem le_sum {l : List Txt} {p : Txt} (h : p ∈ l) : p.length ≤ (l.map List.length).sum := by
 induction l with
 | nil => cases h
 | cons q t ih =>
  rw [List.map_cons, List.sum_cons]
  rcases List.mem_cons.1 h with rfl | h
  ·omega
  ·have := ih h; omega
theorem sum_ge {l : List Txt} (h : ∀ p ∈ l, p ≠ []) : l.length ≤ (l.map List.length).sum := by
 induction l with
 | nil => simp
 | cons q t ih =>
  rw [List.map_cons, List.sum_cons, List.length_cons]
  have h1 := ih fun p hp => h p (by simp [hp])
  have h2 := List.length_pos_iff.2 (h q (by simp))
  omega
/-- what ParseFormula returns -/
def parsed (o : Option (List Part)) : List Part × Bool := match o with
 | none => ([], false)
 | some f => (f, true)
end Sg
namespace Go.Proofs.YtdnlpklmihoapaaDoor
open Go.RowKit
set_option maxRecDepth 100000 in
set_option maxHeartbeats 2000000 in
theorem s_ParseFormula (s : ByteArray) (w : World) (hs : s.size ≤ 1048576) :
  Calls Tryd.prog 21 #[.string s] w fun e w' => ∃ A1 c1, e = .returned (.tuple #[.agg #[.slice A1 (Sg.parsed (Sg.parseF (tx s))).1.length c1], .bool (Sg.parsed (Sg.parseF (tx s))).2]) ∧ Ext w w' ∧
   Own w' w.heap.size 73 5 A1 (Sg.parsed (Sg.parseF (tx s))).1.length c1 (parts (Sg.parsed (Sg.parseF (tx s))).1) := by
 have hsum := Sg.split_sum 32 (tx s)
 rw [← tx_size] at hsum
 have hmap : ((Sg.splitC 32 (tx s)).map ts).map tx = Sg.splitC 32 (tx s) := by rw [List.map_map]; exact List.map_id' _
 have hlen : ((Sg.splitC 32 (tx s)).map ts).length = (Sg.splitC 32 (tx s)).length := List.length_map ..
 have HRF := fun A c w' h => s_readFormula A c ((Sg.splitC 32 (tx s)).map ts) w' h (by rw [hlen]; omega)
  (fun y hy => by
   obtain ⟨p, hp, rfl⟩ := List.mem_map.1 hy
   have := Sg.le_sum hp
   rw [ts_size]; omega)
  (fun h => by
   have := Sg.sum_ge (l := Sg.splitC 32 (tx s)) (fun p hp => by have := h (ts p) (List.mem_map_of_mem hp); exact this)
   rw [hlen]; omega)
 rw [hmap, hlen] at HRF
 have HRF := lh HRF
 have HSP := lh fun w' => s_splitAt s 32 w' (by omega)
 have HB := lh (Bx.new w #[.slice none 0 0] 39)
 have E0 := lh ((Ext.rfl' w).al (.cells #[.slice none 0 0] 39))
 have HPF := lh (show Sg.parseF (tx s) = Sg.readFw (Sg.splitC 32 (tx s)) from rfl)
 clear hsum hmap hlen
 generalize Sg.splitC 32 (tx s) = l at *
 go_enter Tryd.func21, Tryd.ntmps21
 go_wp2_with fail
 refine (HSP.out _).mono ?_
 rintro e w2 ⟨A2, c2, rfl, he2, ho2⟩
 have E2 := lh (E0.out.tr he2)
 have B2 := lh (HB.out.ext he2)
 have HR2 := lh ho2.rd
 clear he2 ho2
 go_wp2_with fail
 refine (HRF.out A2 c2 _ HR2.out).mono ?_
 rintro e w3 ⟨f, ok, A3, c3, rfl, hf, he3, ho3⟩
 have E3 := lh ((E2.out.tr he3).al (.cells #[.slice A3 f.length c3] 39))
 have B3 := (B2.out.ext he3).al (.cells #[.slice A3 f.length c3] 39)
 have z0 := B3.cell (j := 0) rfl
 have zf := B3.free 0
 have zl := B3.lt
 have B3 := lh B3
 have O3 := lh ((ho3.mono E2.out.size).al (.cells #[.slice A3 f.length c3] 39))
 have HN3 := lh (show blk A3 ≠ some w.heap.size from fun e => by have h1 := ho3.lt e; have h2 := B2.out.lt; omega)
 have q0 : World.cell? (World.alloc w3 (.cells #[.slice A3 f.length c3] 39)) ⟨w3.heap.size, 0, none⟩ = some (.slice A3 f.length c3) := by simp [go_sem]
 have ql := blt q0
 go_upto_region 2 with fail
 generalize World.alloc w3 (.cells #[.slice A3 f.length c3] 39) = w4 at *
 clear he3 ho3
 cases ok
 ·have HP : Hid (Sg.parsed (Sg.parseF (tx s)) = ([], false)) := lh (by rw [HPF.out, hf]; rfl)
  clear hf
  go_wp2
  have s0 := (B3.out.set 0 (.slice none 0 0)).cell (j := 0) rfl
  refine bodyPost_ret (v := .tuple #[.agg #[.slice none 0 0], .bool false]) (by simp [results, Tryd.results21, go_sem, s0]; try rfl) rfl ?_
  rw [HP.out]
  exact ⟨none, 0, rfl, E3.out.set (p := ⟨w.heap.size, 0, none⟩) (Nat.le_refl _) _, Own.nil _ _ _ _⟩
 ·have HP : Hid (Sg.parsed (Sg.parseF (tx s)) = (f, true)) := lh (by rw [HPF.out, hf]; rfl)
  clear hf
  go_wp2
  have s0 := (B3.out.set 0 (.slice A3 f.length c3)).cell (j := 0) rfl
  refine bodyPost_ret (v := .tuple #[.agg #[.slice A3 f.length c3], .bool true]) (by simp [results, Tryd.results21, go_sem, s0]; try rfl) rfl ?_
  rw [HP.out]
  exact ⟨A3, c3, rfl, E3.out.set (p := ⟨w.heap.size, 0, none⟩) (Nat.le_refl _) _, O3.out.set HN3.out _⟩
end Go.Proofs.YtdnlpklmihoapaaDoor
