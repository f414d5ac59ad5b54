/- The draws' one, newReader, numberPart, readPartOf: contracts. Conditions: bounds on the number of draws. -/
import Derived.Test.YtmelggoagbhieaaGreatDrawA
import Derived.Handy
namespace Go.Proofs.YtmelggoagbhieaaGreat
open Go.RowKit

def Oned (R m : Nat) (l : List Int) (w : World) (e : Ending) (w' : World) : Prop := ∃ x : Int, e = .returned (.int .i64 x) ∧ x ∈ l ∧ Rdr w' R (m + 1) ∧ Mod (fun b => b = R) w w'
def Parted (R m : Nat) (w : World) (e : Ending) (w' : World) : Prop := ∃ p : Sg.Part, e = .returned (pv p) ∧ Rdr w' R m ∧ Mod (fun b => b = R) w w'

set_option maxHeartbeats 1000000 in
theorem s_one (R m : Nat) (A : Option Addr) (c : Nat) (l : List Int) (w : World) (h : Rdr w R m) (hl : Rd w 1 A l.length (ints l)) (hn : 0 < l.length) (hn2 : l.length ≤ 1000) (hoff : ∀ b, blk A = some b → b ≠ R) (hm : m ≤ 1000000) :
    Calls Tryz.prog 137 #[.pointer (some ⟨R, 0, none⟩), .slice A l.length c] w (Oned R m l w) := by
  have HP := Lib.hid (s_pick R m (l.length : Int) w h hm (by omega) (by omega))
  have HL := Lib.hid hl
  have HO := Lib.hid hoff
  clear hl hoff
  go_enter Tryz.func137, Tryz.ntmps137
  go_wp2_with fail
  refine HP.out.mono ?_
  rintro e w1 ⟨x, rfl, h0, h1, hr, hm1⟩
  obtain ⟨j, rfl⟩ := Int.eq_ofNat_of_zero_le h0
  have hj : j < l.length := by omega
  have HL1 := Lib.hid (HL.out.mod0 hm1 (fun _ b hb e => HO.out b hb e))
  obtain ⟨b, o, y, rfl, hy, hc⟩ := HL1.out.at1 hj
  have hb := blt hc
  have Hy := Lib.hid hy
  have Hr := Lib.hid hr
  have Hm := Lib.hid hm1
  clear hy hr hm1 h1 h0
  go_wp2
  go_ret
  exact ⟨y, rfl, List.mem_of_getElem? Hy.out, Hr.out, Hm.out⟩

theorem s_newReader (A : Option Addr) (c : Nat) (l : List Int) (w : World) (h : Rd w 1 A l.length (u8s l)) (hr : ∀ x ∈ l, 0 ≤ x ∧ x ≤ 255) (hc : l.length ≤ c) (hcm : c ≤ maxLen) :
    Calls Tryz.prog 75 #[.slice A l.length c] w fun e w' => e = .returned (.pointer (some ⟨w.heap.size, 0, none⟩)) ∧ Rdr w' w.heap.size 0 ∧ Ext w w' := by
  have hbig := h.big
  unfold maxLen at hcm
  have hlt : ∀ n : Nat, n ≤ l.length → 0 < n → ∀ b, blk A = some b → b < w.heap.size := fun n hn h0 b hb => by
    obtain ⟨b0, o0, rfl, hc0⟩ := h.2.2 (by omega)
    simp [blk] at hb
    subst hb
    have hx : l[0]? = some l[0] := List.getElem?_eq_getElem (by omega)
    exact blt (hc0 0 _ (by rw [u8s_at, hx]; rfl))
  have H := Lib.hid h
  have HR := Lib.hid hr
  have HL := Lib.hid hlt
  by_cases hg : 2000 < l.length
  · have hRd : Rd w 1 A 2000 (u8s (l.take 2000)) := by
      refine ⟨by simp; omega, by unfold maxLen; omega, fun h0 => ?_⟩
      obtain ⟨b0, o0, ha, hc0⟩ := h.2.2 (by omega)
      refine ⟨b0, o0, ha, fun j u hu => hc0 j u ?_⟩
      rw [u8s_at] at hu ⊢
      rw [List.getElem?_take] at hu
      split at hu
      · exact hu
      · simp at hu
    have HR2 := Lib.hid hRd
    obtain ⟨b0, o0, rfl, hc0⟩ := h.2.2 (by omega)
    have e2 : (l.take 2000).length = 2000 := by simp; omega
    have E2 := Lib.hid e2
    clear h hr hlt hRd hc0 e2
    go_enter Tryz.func75, Tryz.ntmps75
    go_wp2
    go_ret
    refine ⟨rfl, ⟨some ⟨b0, o0, none⟩, c, l.take 2000, 0, ?_, Nat.le_refl _, ?_, by rw [E2.out]; omega, fun x hx => HR.out x (List.mem_of_mem_take hx), ?_⟩, (Ext.rfl' _).al _⟩
    · have := Bx.new w #[.slice (some ⟨b0, o0, none⟩) (l.take 2000).length c, .int .i64 0] 145
      rw [E2.out] at this ⊢
      exact this
    · rw [E2.out]; exact HR2.out.ext ((Ext.rfl' _).al _)
    · intro h0 b hb; exact HL.out 2000 (by omega) (by omega) b hb
  · clear h hr hlt
    go_enter Tryz.func75, Tryz.ntmps75
    go_wp2
    go_ret
    exact ⟨rfl, ⟨A, c, l, 0, Bx.new w #[.slice A l.length c, .int .i64 0] 145, Nat.le_refl _, H.out.ext ((Ext.rfl' _).al _), by omega, HR.out, fun h0 b hb => HL.out l.length (Nat.le_refl _) h0 b hb⟩, (Ext.rfl' _).al _⟩

theorem s_numberPart (n : Int) (w : World) : Calls Tryz.prog 217 #[.int .i64 n] w fun e w' => e = .returned (pv ⟨0, -1, -1, -1, n⟩) ∧ Ext w w' := by
  go_enter Tryz.func217, Tryz.ntmps217
  go_wp2
  go_returns
  exact ⟨rfl, (Ext.rfl' _).al _⟩

set_option maxHeartbeats 2000000 in
theorem s_readPartOf (R m : Nat) (A : Option Addr) (c : Nat) (l : List Int) (w : World) (h : Rdr w R m) (hl : Rd w 1 A l.length (ints l)) (hn2 : l.length ≤ 1000) (hoff : ∀ b, blk A = some b → b ≠ R) (hm : m ≤ 1000000) :
    Calls Tryz.prog 216 #[.pointer (some ⟨R, 0, none⟩), .slice A l.length c] w (Parted R (m + 1) w) := by
  have hRl := h.lt
  have B0 := Lib.hid (Bx.new w #[.int .i64 0, .int .i64 0, .int .i64 0, .int .i64 0, .int .i64 0] 177)
  have E0 := Lib.hid ((Ext.rfl' w).al (.cells #[.int .i64 0, .int .i64 0, .int .i64 0, .int .i64 0, .int .i64 0] 177))
  have H := Lib.hid h
  have HL := Lib.hid hl
  have HO := Lib.hid hoff
  have HN := Lib.hid (fun n => s_numberPart n)
  clear h hl hoff
  by_cases h0 : l.length = 0
  · have b0 : ((l.length : Int) == 0) = true := by simp [h0]
    clear h0
    go_enter Tryz.func216, Tryz.ntmps216
    go_wp2_with fail
    refine (s_pick R m 10 _ (H.out.ext E0.out) hm (by omega) (by omega)).mono ?_
    rintro e w1 ⟨x, rfl, hx0, hx1, hr, hm1⟩
    have B1 := Lib.hid (B0.out.mod hm1 (by omega))
    have Hr := Lib.hid hr
    have Hm := Lib.hid hm1
    clear hx0 hx1 hr hm1
    go_wp2_with fail
    refine (HN.out x w1).mono ?_
    rintro e w2 ⟨rfl, he2⟩
    have B2 := Lib.hid (B1.out.ext he2)
    have c0 := B2.out.cell (j := 0) rfl
    have f0 := B2.out.free 0
    have c1 := B2.out.cell (j := 1) rfl
    have f1 := B2.out.free 1
    have c2 := B2.out.cell (j := 2) rfl
    have f2 := B2.out.free 2
    have c3 := B2.out.cell (j := 3) rfl
    have f3 := B2.out.free 3
    have c4 := B2.out.cell (j := 4) rfl
    have f4 := B2.out.free 4
    have bl := B2.out.lt
    have Hr2 := Lib.hid (Hr.out.ext he2)
    have M2 := Lib.hid (((Mod.of (F := fun b => b = R) E0.out).tr' Hm.out).tr' (Mod.of he2))
    go_wp2
    have s0 : ∀ u0 : Value, World.cell? (World.setCell w2 ⟨w.heap.size, 0, none⟩ u0) ⟨w.heap.size, 0, none⟩ = some u0 := fun u0 => (B2.out.set 0 u0).cell (j := 0) rfl
    have s1 : ∀ u0 u1 : Value, World.cell? (World.setCell (World.setCell w2 ⟨w.heap.size, 0, none⟩ u0) ⟨w.heap.size, 1, none⟩ u1) ⟨w.heap.size, 1, none⟩ = some u1 := fun u0 u1 => ((B2.out.set 0 u0).set 1 u1).cell (j := 1) rfl
    have s2 : ∀ u0 u1 u2 : Value, World.cell? (World.setCell (World.setCell (World.setCell w2 ⟨w.heap.size, 0, none⟩ u0) ⟨w.heap.size, 1, none⟩ u1) ⟨w.heap.size, 2, none⟩ u2) ⟨w.heap.size, 2, none⟩ = some u2 := fun u0 u1 u2 => (((B2.out.set 0 u0).set 1 u1).set 2 u2).cell (j := 2) rfl
    have s3 : ∀ u0 u1 u2 u3 : Value, World.cell? (World.setCell (World.setCell (World.setCell (World.setCell w2 ⟨w.heap.size, 0, none⟩ u0) ⟨w.heap.size, 1, none⟩ u1) ⟨w.heap.size, 2, none⟩ u2) ⟨w.heap.size, 3, none⟩ u3) ⟨w.heap.size, 3, none⟩ = some u3 := fun u0 u1 u2 u3 => ((((B2.out.set 0 u0).set 1 u1).set 2 u2).set 3 u3).cell (j := 3) rfl
    have s4 : ∀ u0 u1 u2 u3 u4 : Value, World.cell? (World.setCell (World.setCell (World.setCell (World.setCell (World.setCell w2 ⟨w.heap.size, 0, none⟩ u0) ⟨w.heap.size, 1, none⟩ u1) ⟨w.heap.size, 2, none⟩ u2) ⟨w.heap.size, 3, none⟩ u3) ⟨w.heap.size, 4, none⟩ u4) ⟨w.heap.size, 4, none⟩ = some u4 := fun u0 u1 u2 u3 u4 => (((((B2.out.set 0 u0).set 1 u1).set 2 u2).set 3 u3).set 4 u4).cell (j := 4) rfl
    refine bodyPost_ret (v := pv ⟨0, -1, -1, -1, x⟩) (by simp [results, Tryz.results216, go_sem, s0, s1, s2, s3, s4]; try rfl) rfl ?_
    have hz : ∀ j : Nat, w.heap.size ≤ (⟨w.heap.size, j, none⟩ : Addr).block := fun j => Nat.le_refl _
    have hs : Mod (fun b => b = w.heap.size) w2 (World.setCell (World.setCell (World.setCell (World.setCell (World.setCell w2 ⟨w.heap.size, 0, none⟩ (.int .i64 0)) ⟨w.heap.size, 1, none⟩ (.int .i64 (-1))) ⟨w.heap.size, 2, none⟩ (.int .i64 (-1))) ⟨w.heap.size, 3, none⟩ (.int .i64 (-1))) ⟨w.heap.size, 4, none⟩ (.int .i64 x)) :=
      (((((Mod.rfl' (fun b => b = w.heap.size) w2).set (p := ⟨w.heap.size, 0, none⟩) (.inl rfl) _).set (p := ⟨w.heap.size, 1, none⟩) (.inl rfl) _).set (p := ⟨w.heap.size, 2, none⟩) (.inl rfl) _).set (p := ⟨w.heap.size, 3, none⟩) (.inl rfl) _).set (p := ⟨w.heap.size, 4, none⟩) (.inl rfl) _
    exact ⟨⟨0, -1, -1, -1, x⟩, rfl, Hr2.out.mod hs (fun b e => by omega), M2.out.tr hs (fun b e => .inr (by omega))⟩
  · have b0 : ((l.length : Int) == 0) = false := by rw [beq_eq_false_iff_ne]; omega
    have hp0 : 0 < l.length := by omega
    clear h0
    go_enter Tryz.func216, Tryz.ntmps216
    go_wp2_with fail
    refine (s_pick R m (l.length : Int) _ (H.out.ext E0.out) hm (by omega) (by omega)).mono ?_
    rintro e w2 ⟨j0, rfl, hx0, hx1, hr, hm1⟩
    obtain ⟨j, rfl⟩ := Int.eq_ofNat_of_zero_le hx0
    have hj : j < l.length := by omega
    have B2 := Lib.hid (B0.out.mod hm1 (by omega))
    have Hr2 := Lib.hid hr
    have M2 := Lib.hid ((Mod.of (F := fun b => b = R) E0.out).tr' hm1)
    have HL1 := Lib.hid ((HL.out.ext E0.out).mod0 hm1 (fun _ b hb e => HO.out b hb e))
    obtain ⟨b, o, x, rfl, hy, hc⟩ := HL1.out.at1 hj
    have hb := blt hc
    clear hx0 hx1 hr hm1 hy
    have c0 := B2.out.cell (j := 0) rfl
    have f0 := B2.out.free 0
    have c1 := B2.out.cell (j := 1) rfl
    have f1 := B2.out.free 1
    have c2 := B2.out.cell (j := 2) rfl
    have f2 := B2.out.free 2
    have c3 := B2.out.cell (j := 3) rfl
    have f3 := B2.out.free 3
    have c4 := B2.out.cell (j := 4) rfl
    have f4 := B2.out.free 4
    have bl := B2.out.lt
    go_wp2
    have s0 : ∀ u0 : Value, World.cell? (World.setCell w2 ⟨w.heap.size, 0, none⟩ u0) ⟨w.heap.size, 0, none⟩ = some u0 := fun u0 => (B2.out.set 0 u0).cell (j := 0) rfl
    have s1 : ∀ u0 u1 : Value, World.cell? (World.setCell (World.setCell w2 ⟨w.heap.size, 0, none⟩ u0) ⟨w.heap.size, 1, none⟩ u1) ⟨w.heap.size, 1, none⟩ = some u1 := fun u0 u1 => ((B2.out.set 0 u0).set 1 u1).cell (j := 1) rfl
    have s2 : ∀ u0 u1 u2 : Value, World.cell? (World.setCell (World.setCell (World.setCell w2 ⟨w.heap.size, 0, none⟩ u0) ⟨w.heap.size, 1, none⟩ u1) ⟨w.heap.size, 2, none⟩ u2) ⟨w.heap.size, 2, none⟩ = some u2 := fun u0 u1 u2 => (((B2.out.set 0 u0).set 1 u1).set 2 u2).cell (j := 2) rfl
    have s3 : ∀ u0 u1 u2 u3 : Value, World.cell? (World.setCell (World.setCell (World.setCell (World.setCell w2 ⟨w.heap.size, 0, none⟩ u0) ⟨w.heap.size, 1, none⟩ u1) ⟨w.heap.size, 2, none⟩ u2) ⟨w.heap.size, 3, none⟩ u3) ⟨w.heap.size, 3, none⟩ = some u3 := fun u0 u1 u2 u3 => ((((B2.out.set 0 u0).set 1 u1).set 2 u2).set 3 u3).cell (j := 3) rfl
    have s4 : ∀ u0 u1 u2 u3 u4 : Value, World.cell? (World.setCell (World.setCell (World.setCell (World.setCell (World.setCell w2 ⟨w.heap.size, 0, none⟩ u0) ⟨w.heap.size, 1, none⟩ u1) ⟨w.heap.size, 2, none⟩ u2) ⟨w.heap.size, 3, none⟩ u3) ⟨w.heap.size, 4, none⟩ u4) ⟨w.heap.size, 4, none⟩ = some u4 := fun u0 u1 u2 u3 u4 => (((((B2.out.set 0 u0).set 1 u1).set 2 u2).set 3 u3).set 4 u4).cell (j := 4) rfl
    refine bodyPost_ret (v := pv ⟨1, -1, -1, -1, x⟩) (by simp [results, Tryz.results216, go_sem, s0, s1, s2, s3, s4]; try rfl) rfl ?_
    have hz : ∀ j : Nat, w.heap.size ≤ (⟨w.heap.size, j, none⟩ : Addr).block := fun j => Nat.le_refl _
    have hs : Mod (fun b => b = w.heap.size) w2 (World.setCell (World.setCell (World.setCell (World.setCell (World.setCell w2 ⟨w.heap.size, 0, none⟩ (.int .i64 1)) ⟨w.heap.size, 1, none⟩ (.int .i64 (-1))) ⟨w.heap.size, 2, none⟩ (.int .i64 (-1))) ⟨w.heap.size, 3, none⟩ (.int .i64 (-1))) ⟨w.heap.size, 4, none⟩ (.int .i64 x)) :=
      (((((Mod.rfl' (fun b => b = w.heap.size) w2).set (p := ⟨w.heap.size, 0, none⟩) (.inl rfl) _).set (p := ⟨w.heap.size, 1, none⟩) (.inl rfl) _).set (p := ⟨w.heap.size, 2, none⟩) (.inl rfl) _).set (p := ⟨w.heap.size, 3, none⟩) (.inl rfl) _).set (p := ⟨w.heap.size, 4, none⟩) (.inl rfl) _
    exact ⟨⟨1, -1, -1, -1, x⟩, rfl, Hr2.out.mod hs (fun b e => by omega), M2.out.tr hs (fun b e => .inr (by omega))⟩
end Go.Proofs.YtmelggoagbhieaaGreat
