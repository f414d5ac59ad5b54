/- The reference's reading of a word, in memory: its contract. Conditions: texts of at most 2^20 bytes. -/
import Derived.Test.YtdnlpklmihoapaaDoorTxI
import Derived.Test.YtdnlpklmihoapaaDoorSepAll
namespace Sg
/-- the part that readPart returns: n is -1 where there is none -/
def readQ (s : Txt) : Part := if kindW s ≠ -1 then ⟨kindW s, -1, -1, -1, 0⟩ else if s.head? = some 114 then ⟨1, -1, -1, -1, readN s.tail⟩ else ⟨0, -1, -1, -1, readN s⟩
theorem readQ_P (s : Txt) : readP rnS s = if (readQ s).n < 0 then none else some (readQ s) := by
 have key : ∀ (k : Int) (t : Txt), (rnS t).map (fun (n : Nat) => (⟨k, -1, -1, -1, (n : Int)⟩ : Part)) = if readN t < 0 then none else some ⟨k, -1, -1, -1, readN t⟩ := by
  intro k t
  unfold rnS
  rcases readN_range t with h | ⟨n, h, -⟩
  ·rw [h]; rfl
  ·rw [h, if_neg (by omega), if_neg (by omega)]; rfl
 unfold readP readQ
 split
 ·rw [if_neg (by simp)]
 ·split
  ·exact key 1 s.tail
  ·exact key 0 s
theorem kindW_none {s : Txt} (h : ∀ k : Nat, 2 ≤ k → k ≤ 8 → s ≠ wordK k) : kindW s = -1 := by
 rcases kindW_cases s with e | ⟨h2, h8, e⟩
 ·exact e
 ·exfalso
  generalize kindW s = k at *
  obtain ⟨m, rfl⟩ := Int.eq_ofNat_of_zero_le (show 0 ≤ k by omega)
  exact h m (by omega) (by omega) e
theorem readQ_word {s : Txt} {k : Nat} (h2 : 2 ≤ k) (h8 : k ≤ 8) (h : s = wordK k) : readQ s = ⟨k, -1, -1, -1, 0⟩ := by
 have e : kindW s = k := by rw [h]; exact kindW_word (by omega) (by omega)
 unfold readQ
 rw [e, if_pos (by omega)]
theorem readQ_read {s : Txt} (h : kindW s = -1) (hh : s.head? = some 114) : readQ s = ⟨1, -1, -1, -1, readN s.tail⟩ := by
 unfold readQ
 rw [h, if_neg (by simp), if_pos hh]
theorem readQ_num {s : Txt} (h : kindW s = -1) (hh : s.head? ≠ some 114) : readQ s = ⟨0, -1, -1, -1, readN s⟩ := by
 unfold readQ
 rw [h, if_neg (by simp), if_neg hh]
end Sg
namespace Go.Proofs.YtdnlpklmihoapaaDoor
open Go.RowKit
set_option maxRecDepth 100000 in
set_option maxHeartbeats 4000000 in
theorem s_readPart (s : ByteArray) (w : World) (hs : s.size ≤ 2000000) :
  Calls Tryd.prog 81 #[.string s] w fun e w' => e = .returned (pv (Sg.readQ (tx s))) ∧ Ext w w' := by
 have B2 := lh (show Bx (World.alloc (World.alloc w (.cells #[.int .i64 0, .int .i64 0, .int .i64 0, .int .i64 0, .int .i64 0] 73)) (.cells #[.int .i64 (-1), .int .i64 (-1), .int .i64 (-1), .int .i64 (-1), .int .i64 0] 73)) w.heap.size [.int .i64 0, .int .i64 0, .int .i64 0, .int .i64 0, .int .i64 0] by
  have := (Bx.new w #[.int .i64 0, .int .i64 0, .int .i64 0, .int .i64 0, .int .i64 0] 73).al (.cells #[.int .i64 (-1), .int .i64 (-1), .int .i64 (-1), .int .i64 (-1), .int .i64 0] 73)
  simpa using this)
 have B3 := lh (show Bx (World.alloc (World.alloc w (.cells #[.int .i64 0, .int .i64 0, .int .i64 0, .int .i64 0, .int .i64 0] 73)) (.cells #[.int .i64 (-1), .int .i64 (-1), .int .i64 (-1), .int .i64 (-1), .int .i64 0] 73)) (w.heap.size + 1) [.int .i64 (-1), .int .i64 (-1), .int .i64 (-1), .int .i64 (-1), .int .i64 0] by
  have := Bx.new (World.alloc w (.cells #[.int .i64 0, .int .i64 0, .int .i64 0, .int .i64 0, .int .i64 0] 73)) #[.int .i64 (-1), .int .i64 (-1), .int .i64 (-1), .int .i64 (-1), .int .i64 0] 73
  simpa [go_sem] using this)
 have E0 := lh (((Ext.rfl' w).al (.cells #[.int .i64 0, .int .i64 0, .int .i64 0, .int .i64 0, .int .i64 0] 73)).al (.cells #[.int .i64 (-1), .int .i64 (-1), .int .i64 (-1), .int .i64 (-1), .int .i64 0] 73))
 go_enter Tryd.func81, Tryd.ntmps81
 go_wp2_with fail
 refine (s_partWords _).mono ?_
 rintro e wp ⟨bw, rfl, hw, he⟩
 have HW := lh hw
 have E1 := lh (E0.out.tr he)
 have C2 := lh (B2.out.ext he)
 have C3 := lh (B3.out.ext he)
 clear hw he E0 B2 B3
 go_wp2_with fail
 go_loopw [5] (fun s5 wr => ∃ k : Nat, 2 ≤ k ∧ k ≤ 9 ∧ s5 = .int .i64 k ∧ Hid (∀ m : Nat, 2 ≤ m → m < k → tx s ≠ Sg.wordK m) ∧ wr = wp) (fun s5 _ => 9 - (intOf s5).toNat)
 case atStart => exact ⟨2, Nat.le_refl _, by omega, rfl, lh (fun m h h' => by omega), rfl⟩
 case round =>
  obtain ⟨k, hk2, hk9, rfl, HN, rfl⟩ := hrel
  by_cases hlt : k < 9
  ·have hw := HW.out k hk2 (by omega)
   have bhw := blt hw
   have hkx : (k : Int) < 9 := by omega
   by_cases hm : tx s = Sg.wordK k
   ·have bm : (Sg.wordK k == s.toList) = true := by rw [Bool.beq_comm, beq_tl]; simp [hm]
    have HQ := lh (Sg.readQ_word hk2 (by omega) hm)
    clear hm

    have ca := C3.out.cell (j := 0) rfl
    have fa := C3.out.free 0
    have la := C3.out.lt
    have D3a := lh (C3.out.set 0 (.int .i64 (k : Int)))
    have D2a := lh (C2.out.oth (p := ⟨w.heap.size + 1, 0, none⟩) (by simp) (.int .i64 (k : Int)))
    have EQa := lh (E1.out.set (p := ⟨w.heap.size + 1, 0, none⟩) (by simp) (.int .i64 (k : Int)))
    go_upto_region 8 with fail
    generalize World.setCell wr ⟨w.heap.size + 1, 0, none⟩ (.int .i64 (k : Int)) = wq at *
    have D3 := D3a
    have D2 := D2a
    have EQ := EQa
    clear ca fa la D3a D2a EQa C2 C3 E1 hw bhw
    have x0 := D3.out.cell (j := 0) rfl
    have x1 := D3.out.cell (j := 1) rfl
    have x2 := D3.out.cell (j := 2) rfl
    have x3 := D3.out.cell (j := 3) rfl
    have x4 := D3.out.cell (j := 4) rfl
    have y0 := D2.out.cell (j := 0) rfl
    have y1 := D2.out.cell (j := 1) rfl
    have y2 := D2.out.cell (j := 2) rfl
    have y3 := D2.out.cell (j := 3) rfl
    have y4 := D2.out.cell (j := 4) rfl
    have g0 := D2.out.free 0
    have g1 := D2.out.free 1
    have g2 := D2.out.free 2
    have g3 := D2.out.free 3
    have g4 := D2.out.free 4
    have l2 := D2.out.lt
    have l3 := D3.out.lt
    go_wp2
    have s0 : ∀ u0 : Value, World.cell? (World.setCell wq ⟨w.heap.size, 0, none⟩ u0) ⟨w.heap.size, 0, none⟩ = some u0 := fun u0 => (D2.out.set 0 u0).cell (j := 0) rfl
    have s1 : ∀ u0 u1 : Value, World.cell? (World.setCell (World.setCell wq ⟨w.heap.size, 0, none⟩ u0) ⟨w.heap.size, 1, none⟩ u1) ⟨w.heap.size, 1, none⟩ = some u1 := fun u0 u1 => ((D2.out.set 0 u0).set 1 u1).cell (j := 1) rfl
    have s2 : ∀ u0 u1 u2 : Value, World.cell? (World.setCell (World.setCell (World.setCell wq ⟨w.heap.size, 0, none⟩ u0) ⟨w.heap.size, 1, none⟩ u1) ⟨w.heap.size, 2, none⟩ u2) ⟨w.heap.size, 2, none⟩ = some u2 := fun u0 u1 u2 => (((D2.out.set 0 u0).set 1 u1).set 2 u2).cell (j := 2) rfl
    have s3 : ∀ u0 u1 u2 u3 : Value, World.cell? (World.setCell (World.setCell (World.setCell (World.setCell wq ⟨w.heap.size, 0, none⟩ u0) ⟨w.heap.size, 1, none⟩ u1) ⟨w.heap.size, 2, none⟩ u2) ⟨w.heap.size, 3, none⟩ u3) ⟨w.heap.size, 3, none⟩ = some u3 := fun u0 u1 u2 u3 => ((((D2.out.set 0 u0).set 1 u1).set 2 u2).set 3 u3).cell (j := 3) rfl
    have s4 : ∀ u0 u1 u2 u3 u4 : Value, World.cell? (World.setCell (World.setCell (World.setCell (World.setCell (World.setCell wq ⟨w.heap.size, 0, none⟩ u0) ⟨w.heap.size, 1, none⟩ u1) ⟨w.heap.size, 2, none⟩ u2) ⟨w.heap.size, 3, none⟩ u3) ⟨w.heap.size, 4, none⟩ u4) ⟨w.heap.size, 4, none⟩ = some u4 := fun u0 u1 u2 u3 u4 => (((((D2.out.set 0 u0).set 1 u1).set 2 u2).set 3 u3).set 4 u4).cell (j := 4) rfl
    refine bodyPost_ret (v := pv ⟨(k : Int), -1, -1, -1, 0⟩) (by simp [results, Tryd.results81, go_sem, s0, s1, s2, s3, s4]; try rfl) rfl ?_
    exact ⟨by rw [HQ.out], (Ext.set (Ext.set (Ext.set (Ext.set (Ext.set EQ.out (p := ⟨w.heap.size, 0, none⟩) (Nat.le_refl _) (.int .i64 (k : Int))) (p := ⟨w.heap.size, 1, none⟩) (Nat.le_refl _) (.int .i64 (-1))) (p := ⟨w.heap.size, 2, none⟩) (Nat.le_refl _) (.int .i64 (-1))) (p := ⟨w.heap.size, 3, none⟩) (Nat.le_refl _) (.int .i64 (-1))) (p := ⟨w.heap.size, 4, none⟩) (Nat.le_refl _) (.int .i64 0))⟩
   ·have bm : (Sg.wordK k == s.toList) = false := by rw [Bool.beq_comm, beq_tl]; simp [hm]
    have HM := lh (show ∀ m : Nat, 2 ≤ m → m < k + 1 → tx s ≠ Sg.wordK m from fun m h h' => by by_cases e : m = k; rw [e]; exact hm; exact HN.out m h (by omega))
    clear hm
    go_wp2
    go_roundw
    case rel => exact ⟨k + 1, by omega, by omega, by go_num, HM, trivial⟩
    case measure => simp [intOf]; omega
  ·obtain rfl : k = 9 := by omega
   have HK := lh (Sg.kindW_none fun m h h' => HN.out m h (by omega))
   clear HN HW
   by_cases hh : (tx s).head? = some 114
   ·have hne : tx s ≠ [] := fun e => by rw [e] at hh; cases hh
    have h0 : 0 < s.size := by rw [tx_size]; exact List.length_pos_iff.2 hne
    have b0 : (s.toList == []) = false := by rw [beq_tl]; simp [hne]
    have hb : s[0]'h0 = 114 := by
     have := tx_at s 0
     rw [getElem?_pos s 0 h0, ← List.head?_eq_getElem?, hh] at this
     exact Option.some.inj this
    have b1 : (((s[0]'h0).toNat : Int) == 114) = true := by rw [hb]; rfl
    have h1x : (1 : Int) ≤ (s.size : Int) := by omega
    have HT : Hid (tx (s.extract 1 s.size) = (tx s).tail) := lh (by rw [tx_cut, List.take_of_length_le (by rw [List.length_drop, ← tx_size]; omega), List.drop_one])
    have hse : (s.extract 1 s.size).size ≤ 2000000 := by rw [ByteArray.size_extract]; omega
    have HQ := lh (Sg.readQ_read HK.out hh)
    have HRN := lh fun w' => s_readNumber (s.extract 1 s.size) w' hse
    rw [HT.out] at HRN
    clear hh hb hne
    have ca := C3.out.cell (j := 0) rfl
    have fa := C3.out.free 0
    have la := C3.out.lt
    have D3a := lh (C3.out.set 0 (.int .i64 1))
    have D2a := lh (C2.out.oth (p := ⟨w.heap.size + 1, 0, none⟩) (by simp) (.int .i64 1))
    have EQa := lh (E1.out.set (p := ⟨w.heap.size + 1, 0, none⟩) (by simp) (.int .i64 1))
    generalize Sg.readN (tx s).tail = n at *
    go_upto_region 11 with fail
    generalize World.setCell wr ⟨w.heap.size + 1, 0, none⟩ (.int .i64 1) = wa at *
    clear ca fa la C2 C3 E1
    have cb := D3a.out.cell (j := 4) rfl
    have fb := D3a.out.free 4
    have lb := D3a.out.lt
    have D3b := lh (D3a.out.set 4 (.int .i64 n))
    have D2b := lh (D2a.out.oth (p := ⟨w.heap.size + 1, 4, none⟩) (by simp) (.int .i64 n))
    have EQb := lh (EQa.out.set (p := ⟨w.heap.size + 1, 4, none⟩) (by simp) (.int .i64 n))
    go_wp2_with fail
    refine (HRN.out _).mono ?_
    rintro e w4 ⟨rfl, rfl⟩
    go_upto_region 12 with fail
    generalize World.setCell wa ⟨w.heap.size + 1, 4, none⟩ (.int .i64 n) = wq at *
    have D3 := D3b
    have D2 := D2b
    have EQ := EQb
    clear cb fb lb D3b D2b EQb D2a D3a EQa
    have x0 := D3.out.cell (j := 0) rfl
    have x1 := D3.out.cell (j := 1) rfl
    have x2 := D3.out.cell (j := 2) rfl
    have x3 := D3.out.cell (j := 3) rfl
    have x4 := D3.out.cell (j := 4) rfl
    have y0 := D2.out.cell (j := 0) rfl
    have y1 := D2.out.cell (j := 1) rfl
    have y2 := D2.out.cell (j := 2) rfl
    have y3 := D2.out.cell (j := 3) rfl
    have y4 := D2.out.cell (j := 4) rfl
    have g0 := D2.out.free 0
    have g1 := D2.out.free 1
    have g2 := D2.out.free 2
    have g3 := D2.out.free 3
    have g4 := D2.out.free 4
    have l2 := D2.out.lt
    have l3 := D3.out.lt
    go_wp2
    have s0 : ∀ u0 : Value, World.cell? (World.setCell wq ⟨w.heap.size, 0, none⟩ u0) ⟨w.heap.size, 0, none⟩ = some u0 := fun u0 => (D2.out.set 0 u0).cell (j := 0) rfl
    have s1 : ∀ u0 u1 : Value, World.cell? (World.setCell (World.setCell wq ⟨w.heap.size, 0, none⟩ u0) ⟨w.heap.size, 1, none⟩ u1) ⟨w.heap.size, 1, none⟩ = some u1 := fun u0 u1 => ((D2.out.set 0 u0).set 1 u1).cell (j := 1) rfl
    have s2 : ∀ u0 u1 u2 : Value, World.cell? (World.setCell (World.setCell (World.setCell wq ⟨w.heap.size, 0, none⟩ u0) ⟨w.heap.size, 1, none⟩ u1) ⟨w.heap.size, 2, none⟩ u2) ⟨w.heap.size, 2, none⟩ = some u2 := fun u0 u1 u2 => (((D2.out.set 0 u0).set 1 u1).set 2 u2).cell (j := 2) rfl
    have s3 : ∀ u0 u1 u2 u3 : Value, World.cell? (World.setCell (World.setCell (World.setCell (World.setCell wq ⟨w.heap.size, 0, none⟩ u0) ⟨w.heap.size, 1, none⟩ u1) ⟨w.heap.size, 2, none⟩ u2) ⟨w.heap.size, 3, none⟩ u3) ⟨w.heap.size, 3, none⟩ = some u3 := fun u0 u1 u2 u3 => ((((D2.out.set 0 u0).set 1 u1).set 2 u2).set 3 u3).cell (j := 3) rfl
    have s4 : ∀ u0 u1 u2 u3 u4 : Value, World.cell? (World.setCell (World.setCell (World.setCell (World.setCell (World.setCell wq ⟨w.heap.size, 0, none⟩ u0) ⟨w.heap.size, 1, none⟩ u1) ⟨w.heap.size, 2, none⟩ u2) ⟨w.heap.size, 3, none⟩ u3) ⟨w.heap.size, 4, none⟩ u4) ⟨w.heap.size, 4, none⟩ = some u4 := fun u0 u1 u2 u3 u4 => (((((D2.out.set 0 u0).set 1 u1).set 2 u2).set 3 u3).set 4 u4).cell (j := 4) rfl
    refine bodyPost_ret (v := pv ⟨1, -1, -1, -1, n⟩) (by simp [results, Tryd.results81, go_sem, s0, s1, s2, s3, s4]; try rfl) rfl ?_
    exact ⟨by rw [HQ.out], (Ext.set (Ext.set (Ext.set (Ext.set (Ext.set EQ.out (p := ⟨w.heap.size, 0, none⟩) (Nat.le_refl _) (.int .i64 1)) (p := ⟨w.heap.size, 1, none⟩) (Nat.le_refl _) (.int .i64 (-1))) (p := ⟨w.heap.size, 2, none⟩) (Nat.le_refl _) (.int .i64 (-1))) (p := ⟨w.heap.size, 3, none⟩) (Nat.le_refl _) (.int .i64 (-1))) (p := ⟨w.heap.size, 4, none⟩) (Nat.le_refl _) (.int .i64 n))⟩
   ·have HQ := lh (Sg.readQ_num HK.out hh)
    have HRN := lh fun w' => s_readNumber s w' hs
    have ca := C3.out.cell (j := 0) rfl
    have fa := C3.out.free 0
    have la := C3.out.lt
    have D3a := lh (C3.out.set 0 (.int .i64 0))
    have D2a := lh (C2.out.oth (p := ⟨w.heap.size + 1, 0, none⟩) (by simp) (.int .i64 0))
    have EQa := lh (E1.out.set (p := ⟨w.heap.size + 1, 0, none⟩) (by simp) (.int .i64 0))
    generalize Sg.readN (tx s) = n at *
    by_cases hne : tx s = []
    ·have b0 : (s.toList == []) = true := by rw [beq_tl]; simp [hne]
     clear hh hne
     go_upto_region 14 with fail
     generalize World.setCell wr ⟨w.heap.size + 1, 0, none⟩ (.int .i64 0) = wa at *
     clear ca fa la C2 C3 E1
     have cb := D3a.out.cell (j := 4) rfl
     have fb := D3a.out.free 4
     have lb := D3a.out.lt
     have D3b := lh (D3a.out.set 4 (.int .i64 n))
     have D2b := lh (D2a.out.oth (p := ⟨w.heap.size + 1, 4, none⟩) (by simp) (.int .i64 n))
     have EQb := lh (EQa.out.set (p := ⟨w.heap.size + 1, 4, none⟩) (by simp) (.int .i64 n))
     go_wp2_with fail
     refine (HRN.out _).mono ?_
     rintro e w4 ⟨rfl, rfl⟩
     go_upto_region 15 with fail
     generalize World.setCell wa ⟨w.heap.size + 1, 4, none⟩ (.int .i64 n) = wq at *
     have D3 := D3b
     have D2 := D2b
     have EQ := EQb
     clear cb fb lb D3b D2b EQb D2a D3a EQa
     have x0 := D3.out.cell (j := 0) rfl
     have x1 := D3.out.cell (j := 1) rfl
     have x2 := D3.out.cell (j := 2) rfl
     have x3 := D3.out.cell (j := 3) rfl
     have x4 := D3.out.cell (j := 4) rfl
     have y0 := D2.out.cell (j := 0) rfl
     have y1 := D2.out.cell (j := 1) rfl
     have y2 := D2.out.cell (j := 2) rfl
     have y3 := D2.out.cell (j := 3) rfl
     have y4 := D2.out.cell (j := 4) rfl
     have g0 := D2.out.free 0
     have g1 := D2.out.free 1
     have g2 := D2.out.free 2
     have g3 := D2.out.free 3
     have g4 := D2.out.free 4
     have l2 := D2.out.lt
     have l3 := D3.out.lt
     go_wp2
     have s0 : ∀ u0 : Value, World.cell? (World.setCell wq ⟨w.heap.size, 0, none⟩ u0) ⟨w.heap.size, 0, none⟩ = some u0 := fun u0 => (D2.out.set 0 u0).cell (j := 0) rfl
     have s1 : ∀ u0 u1 : Value, World.cell? (World.setCell (World.setCell wq ⟨w.heap.size, 0, none⟩ u0) ⟨w.heap.size, 1, none⟩ u1) ⟨w.heap.size, 1, none⟩ = some u1 := fun u0 u1 => ((D2.out.set 0 u0).set 1 u1).cell (j := 1) rfl
     have s2 : ∀ u0 u1 u2 : Value, World.cell? (World.setCell (World.setCell (World.setCell wq ⟨w.heap.size, 0, none⟩ u0) ⟨w.heap.size, 1, none⟩ u1) ⟨w.heap.size, 2, none⟩ u2) ⟨w.heap.size, 2, none⟩ = some u2 := fun u0 u1 u2 => (((D2.out.set 0 u0).set 1 u1).set 2 u2).cell (j := 2) rfl
     have s3 : ∀ u0 u1 u2 u3 : Value, World.cell? (World.setCell (World.setCell (World.setCell (World.setCell wq ⟨w.heap.size, 0, none⟩ u0) ⟨w.heap.size, 1, none⟩ u1) ⟨w.heap.size, 2, none⟩ u2) ⟨w.heap.size, 3, none⟩ u3) ⟨w.heap.size, 3, none⟩ = some u3 := fun u0 u1 u2 u3 => ((((D2.out.set 0 u0).set 1 u1).set 2 u2).set 3 u3).cell (j := 3) rfl
     have s4 : ∀ u0 u1 u2 u3 u4 : Value, World.cell? (World.setCell (World.setCell (World.setCell (World.setCell (World.setCell wq ⟨w.heap.size, 0, none⟩ u0) ⟨w.heap.size, 1, none⟩ u1) ⟨w.heap.size, 2, none⟩ u2) ⟨w.heap.size, 3, none⟩ u3) ⟨w.heap.size, 4, none⟩ u4) ⟨w.heap.size, 4, none⟩ = some u4 := fun u0 u1 u2 u3 u4 => (((((D2.out.set 0 u0).set 1 u1).set 2 u2).set 3 u3).set 4 u4).cell (j := 4) rfl
     refine bodyPost_ret (v := pv ⟨0, -1, -1, -1, n⟩) (by simp [results, Tryd.results81, go_sem, s0, s1, s2, s3, s4]; try rfl) rfl ?_
     exact ⟨by rw [HQ.out], (Ext.set (Ext.set (Ext.set (Ext.set (Ext.set EQ.out (p := ⟨w.heap.size, 0, none⟩) (Nat.le_refl _) (.int .i64 0)) (p := ⟨w.heap.size, 1, none⟩) (Nat.le_refl _) (.int .i64 (-1))) (p := ⟨w.heap.size, 2, none⟩) (Nat.le_refl _) (.int .i64 (-1))) (p := ⟨w.heap.size, 3, none⟩) (Nat.le_refl _) (.int .i64 (-1))) (p := ⟨w.heap.size, 4, none⟩) (Nat.le_refl _) (.int .i64 n))⟩
    ·have b0 : (s.toList == []) = false := by rw [beq_tl]; simp [hne]
     have h0 : 0 < s.size := by rw [tx_size]; exact List.length_pos_iff.2 hne
     have b1 : (((s[0]'h0).toNat : Int) == 114) = false := by
      rw [beq_eq_false_iff_ne]
      intro e
      apply hh
      rw [List.head?_eq_getElem?, ← tx_at, getElem?_pos s 0 h0]
      exact congrArg some (UInt8.toNat_inj.1 (show (s[0]'h0).toNat = (114 : UInt8).toNat from by have e2 : (114 : UInt8).toNat = 114 := rfl; omega))
     clear hh hne
     go_upto_region 14 with fail
     generalize World.setCell wr ⟨w.heap.size + 1, 0, none⟩ (.int .i64 0) = wa at *
     clear ca fa la C2 C3 E1
     have cb := D3a.out.cell (j := 4) rfl
     have fb := D3a.out.free 4
     have lb := D3a.out.lt
     have D3b := lh (D3a.out.set 4 (.int .i64 n))
     have D2b := lh (D2a.out.oth (p := ⟨w.heap.size + 1, 4, none⟩) (by simp) (.int .i64 n))
     have EQb := lh (EQa.out.set (p := ⟨w.heap.size + 1, 4, none⟩) (by simp) (.int .i64 n))
     go_wp2_with fail
     refine (HRN.out _).mono ?_
     rintro e w4 ⟨rfl, rfl⟩
     go_upto_region 15 with fail
     generalize World.setCell wa ⟨w.heap.size + 1, 4, none⟩ (.int .i64 n) = wq at *
     have D3 := D3b
     have D2 := D2b
     have EQ := EQb
     clear cb fb lb D3b D2b EQb D2a D3a EQa
     have x0 := D3.out.cell (j := 0) rfl
     have x1 := D3.out.cell (j := 1) rfl
     have x2 := D3.out.cell (j := 2) rfl
     have x3 := D3.out.cell (j := 3) rfl
     have x4 := D3.out.cell (j := 4) rfl
     have y0 := D2.out.cell (j := 0) rfl
     have y1 := D2.out.cell (j := 1) rfl
     have y2 := D2.out.cell (j := 2) rfl
     have y3 := D2.out.cell (j := 3) rfl
     have y4 := D2.out.cell (j := 4) rfl
     have g0 := D2.out.free 0
     have g1 := D2.out.free 1
     have g2 := D2.out.free 2
     have g3 := D2.out.free 3
     have g4 := D2.out.free 4
     have l2 := D2.out.lt
     have l3 := D3.out.lt
     go_wp2
     have s0 : ∀ u0 : Value, World.cell? (World.setCell wq ⟨w.heap.size, 0, none⟩ u0) ⟨w.heap.size, 0, none⟩ = some u0 := fun u0 => (D2.out.set 0 u0).cell (j := 0) rfl
     have s1 : ∀ u0 u1 : Value, World.cell? (World.setCell (World.setCell wq ⟨w.heap.size, 0, none⟩ u0) ⟨w.heap.size, 1, none⟩ u1) ⟨w.heap.size, 1, none⟩ = some u1 := fun u0 u1 => ((D2.out.set 0 u0).set 1 u1).cell (j := 1) rfl
     have s2 : ∀ u0 u1 u2 : Value, World.cell? (World.setCell (World.setCell (World.setCell wq ⟨w.heap.size, 0, none⟩ u0) ⟨w.heap.size, 1, none⟩ u1) ⟨w.heap.size, 2, none⟩ u2) ⟨w.heap.size, 2, none⟩ = some u2 := fun u0 u1 u2 => (((D2.out.set 0 u0).set 1 u1).set 2 u2).cell (j := 2) rfl
     have s3 : ∀ u0 u1 u2 u3 : Value, World.cell? (World.setCell (World.setCell (World.setCell (World.setCell wq ⟨w.heap.size, 0, none⟩ u0) ⟨w.heap.size, 1, none⟩ u1) ⟨w.heap.size, 2, none⟩ u2) ⟨w.heap.size, 3, none⟩ u3) ⟨w.heap.size, 3, none⟩ = some u3 := fun u0 u1 u2 u3 => ((((D2.out.set 0 u0).set 1 u1).set 2 u2).set 3 u3).cell (j := 3) rfl
     have s4 : ∀ u0 u1 u2 u3 u4 : Value, World.cell? (World.setCell (World.setCell (World.setCell (World.setCell (World.setCell wq ⟨w.heap.size, 0, none⟩ u0) ⟨w.heap.size, 1, none⟩ u1) ⟨w.heap.size, 2, none⟩ u2) ⟨w.heap.size, 3, none⟩ u3) ⟨w.heap.size, 4, none⟩ u4) ⟨w.heap.size, 4, none⟩ = some u4 := fun u0 u1 u2 u3 u4 => (((((D2.out.set 0 u0).set 1 u1).set 2 u2).set 3 u3).set 4 u4).cell (j := 4) rfl
     refine bodyPost_ret (v := pv ⟨0, -1, -1, -1, n⟩) (by simp [results, Tryd.results81, go_sem, s0, s1, s2, s3, s4]; try rfl) rfl ?_
     exact ⟨by rw [HQ.out], (Ext.set (Ext.set (Ext.set (Ext.set (Ext.set EQ.out (p := ⟨w.heap.size, 0, none⟩) (Nat.le_refl _) (.int .i64 0)) (p := ⟨w.heap.size, 1, none⟩) (Nat.le_refl _) (.int .i64 (-1))) (p := ⟨w.heap.size, 2, none⟩) (Nat.le_refl _) (.int .i64 (-1))) (p := ⟨w.heap.size, 3, none⟩) (Nat.le_refl _) (.int .i64 (-1))) (p := ⟨w.heap.size, 4, none⟩) (Nat.le_refl _) (.int .i64 n))⟩
end Go.Proofs.YtdnlpklmihoapaaDoor
