/- The laws' sizes, copies and comparisons of lazy states: contracts. Conditions: bounds on lengths. -/
import Derived.Test.YtmelggoagbhieaaGreatLawOne
import Derived.Test.YtmelggoagbhieaaGreatLawTwo
import Derived.Test.YtmelggoagbhieaaGreatSepAll
import Derived.Test.YtmelggoagbhieaaGreatModelsA
namespace Sg
def szZ (v : List Int) (r : List (List Int)) (q : List Int) (L : Nat) : Int := if 0 ≤ szE v r L then szI q.length (szE v r L).toNat else -1
theorem szE_neg (v : List Int) (r : List (List Int)) (L : Nat) : szE v r L = -1 ∨ 0 ≤ szE v r L := by unfold szE; split <;> first | exact .inl rfl | exact szL_neg _ _
theorem szE_ok (v : List Int) (r : List (List Int)) (L : Nat) (h : 0 ≤ szE v r L) : v.length ≤ L ∧ r.length ≤ L ∧ (∀ l ∈ r, l.length ≤ L) ∧ ∃ M : Nat, M ≤ L ∧ szE v r L = M := by
  unfold szE at *
  split at h
  · omega
  · rename_i hv
    rw [if_neg hv]
    obtain ⟨h1, h2, M, h3, h4⟩ := szL_ok _ _ h
    refine ⟨by omega, by simp at h1; omega, fun l hl => ?_, M, by omega, h4⟩
    have := h2 l.length (List.mem_map.2 ⟨l, hl, rfl⟩)
    omega
theorem szZ_neg (v : List Int) (r : List (List Int)) (q : List Int) (L : Nat) : szZ v r q L = -1 ∨ 0 ≤ szZ v r q L := by
  unfold szZ szI
  split
  · split
    · exact .inl rfl
    · exact .inr (by omega)
  · exact .inl rfl
theorem szZ_ok (v : List Int) (r : List (List Int)) (q : List Int) (L : Nat) (h : 0 ≤ szZ v r q L) : v.length ≤ L ∧ r.length ≤ L ∧ (∀ l ∈ r, l.length ≤ L) ∧ q.length ≤ L ∧ ∃ M : Nat, M ≤ L ∧ szZ v r q L = M := by
  unfold szZ at *
  split at h
  · rename_i hE
    rw [if_pos hE]
    obtain ⟨h1, h2, h3, M, h4, h5⟩ := szE_ok v r L hE
    rw [h5] at h ⊢
    simp only [Int.toNat_natCast] at h ⊢
    unfold szI at *
    split at h
    · omega
    · rename_i hq
      rw [if_neg hq]
      exact ⟨h1, h2, h3, by omega, M - q.length, by omega, rfl⟩
  · omega
end Sg
namespace Go.Proofs.YtmelggoagbhieaaGreat
open Go.RowKit

/-- a lazy state of the call's own -/
structure OwnZ (w : World) (B : Nat) (A1 : Option Addr) (c1 : Nat) (A2 : Option Addr) (c2 : Nat) (A3 : Option Addr) (c3 : Nat) (hs : List (Option Addr × Nat)) (st : Sg.Lazy) : Prop where
  v : Own w B 3 1 A1 st.vals.length c1 (ints st.vals)
  r : OwnL w B A2 c2 st.reads hs
  q : Own w B 3 1 A3 st.cols.length c3 (ints st.cols)
  d : ∀ b, blk A1 = some b → ¬ fpD A2 hs b ∧ blk A3 ≠ some b
  e : ∀ b, blk A3 = some b → ¬ fpD A2 hs b
/-- its blocks -/
def fpZ (A1 A2 A3 : Option Addr) (hs : List (Option Addr × Nat)) (b : Nat) : Prop := blk A1 = some b ∨ fpD A2 hs b ∨ blk A3 = some b
section
variable {w w' : World} {B c1 c2 c3 : Nat} {A1 A2 A3 : Option Addr} {hs : List (Option Addr × Nat)} {st : Sg.Lazy}
theorem OwnZ.ext (k : OwnZ w B A1 c1 A2 c2 A3 c3 hs st) (e : Ext w w') : OwnZ w' B A1 c1 A2 c2 A3 c3 hs st := ⟨k.v.ext e, OwnD.ext k.r e, k.q.ext e, k.d, k.e⟩
theorem OwnZ.mono {B' : Nat} (k : OwnZ w B A1 c1 A2 c2 A3 c3 hs st) (h : B' ≤ B) : OwnZ w B' A1 c1 A2 c2 A3 c3 hs st := ⟨k.v.mono h, OwnD.mono k.r h, k.q.mono h, k.d, k.e⟩
theorem OwnZ.mod {F : Nat → Prop} (k : OwnZ w B A1 c1 A2 c2 A3 c3 hs st) (m : Mod F w w') (hF : ∀ b, fpZ A1 A2 A3 hs b → ¬ F b) : OwnZ w' B A1 c1 A2 c2 A3 c3 hs st :=
  ⟨k.v.mod m fun b hb => hF b (.inl hb), OwnD.mod k.r m fun b hb => hF b (.inr (.inl hb)), k.q.mod m fun b hb => hF b (.inr (.inr hb)), k.d, k.e⟩
theorem OwnZ.lt (k : OwnZ w B A1 c1 A2 c2 A3 c3 hs st) {b : Nat} (h : fpZ A1 A2 A3 hs b) : B ≤ b ∧ b < w.heap.size := by
  rcases h with h | h | h
  · exact k.v.lt h
  · exact OwnD.lt k.r h
  · exact k.q.lt h
end
theorem RdL0.up3 {w : World} {A : Option Addr} {ll : List (List Int)} (h : RdL0 w A ll) (hb : ll.length ≤ 1048576) (hl : ∀ l ∈ ll, l.length ≤ 1048576) : RdL w A ll :=
  ⟨hb, fun i l hi => let ⟨b, o, Al, cl, ha, h1, h2⟩ := h.2 i l hi; ⟨b, o, Al, cl, ha, h1, h2, hl l (List.mem_of_getElem? hi)⟩⟩
theorem OwnL.rdLC {w : World} {B c : Nat} {A : Option Addr} {ll : List (List Int)} {hs : List (Option Addr × Nat)} (k : OwnL w B A c ll hs) (hb : ll.length ≤ 1048576) (hl : ∀ l ∈ ll, l.length ≤ 1048576) : RdLC w A ll := by
  refine ⟨hb, fun i l hi => ?_⟩
  obtain ⟨h, hh, ho⟩ := OwnD.at_ k (listIts_at hi)
  have hil := (List.getElem?_eq_some_iff.1 hi).1
  have hout := k.out
  obtain ⟨g, rfl, _⟩ := hout.at_ (by simp; omega)
  have hc := hout.cell (j := i) (u := .slice h.1 l.length h.2) (by
    have := at_dcells (listIts_pre ll) i 0 (by omega) (listIts_at hi) hh
    rw [Nat.mul_one, Nat.add_zero] at this
    rw [this]; rfl)
  exact ⟨g, 0, h.1, h.2, rfl, by simpa using hc, ho.rd, hl l (List.mem_of_getElem? hi), ho.2.1, ho.2.2.1⟩

theorem l_szLazy (Av Ar Aq : Option Addr) (cv cr cq : Nat) (v q : List Int) (r : List (List Int)) (L : Nat) (w : World) (hv : v.length ≤ 9223372036854775807) (hq : q.length ≤ 9223372036854775807) (h : RdL0 w Ar r) (hL : L ≤ 1048576) :
    Calls Tryz.prog 29 #[.agg #[.slice Av v.length cv, .slice Ar r.length cr, .slice Aq q.length cq], .int .i64 (L : Int)] w fun e w' => e = .returned (.int .i64 (Sg.szZ v r q L)) ∧ Ext w w' := by
  have HC := Lib.hid (fun w => l_szIntS Av v.length cv L w hv hL)
  have H := Lib.hid h
  clear h
  have E0 := Lib.hid (((Ext.rfl' w).al (.cells #[.slice Av v.length cv, .slice Ar r.length cr, .slice Aq q.length cq] 48)) : Ext w (World.alloc w (.cells #[.slice Av v.length cv, .slice Ar r.length cr, .slice Aq q.length cq] 48)))
  have qlv : World.cell? (World.alloc w (.cells #[.slice Av v.length cv, .slice Ar r.length cr, .slice Aq q.length cq] 48)) ⟨w.heap.size, 0, none⟩ = some (.slice Av v.length cv) := by simp [go_sem]
  have Qlv := Lib.hid qlv
  clear qlv
  have qlr : World.cell? (World.alloc w (.cells #[.slice Av v.length cv, .slice Ar r.length cr, .slice Aq q.length cq] 48)) ⟨w.heap.size, 1, none⟩ = some (.slice Ar r.length cr) := by simp [go_sem]
  have Qlr := Lib.hid qlr
  clear qlr
  have qlq : World.cell? (World.alloc w (.cells #[.slice Av v.length cv, .slice Ar r.length cr, .slice Aq q.length cq] 48)) ⟨w.heap.size, 2, none⟩ = some (.slice Aq q.length cq) := by simp [go_sem]
  have Qlq := Lib.hid qlq
  clear qlq
  by_cases hl : L < v.length
  · have Hs := Lib.hid (show Sg.szI v.length L = -1 by unfold Sg.szI; rw [if_pos hl])
    have HZ := Lib.hid (show Sg.szZ v r q L = -1 by unfold Sg.szZ Sg.szE; rw [if_pos hl]; rfl)
    go_enter Tryz.func29, Tryz.ntmps29
    go_wp2_with fail
    refine (HC.out _).mono ?_
    rintro e w' ⟨rfl, rfl⟩
    rw [Hs.out]
    go_wp2
    go_ret
    exact ⟨ret_int HZ.out.symm, E0.out⟩
  have hs : Sg.szI v.length L = ((L - v.length : Nat) : Int) := by unfold Sg.szI; rw [if_neg hl]
  have hE : Sg.szE v r L = Sg.szL (r.map List.length) (L - v.length) := by unfold Sg.szE; rw [if_neg hl]
  have hK : L - v.length ≤ 1048576 := by omega
  generalize L - v.length = K at *
  have HD := Lib.hid (fun w h => l_szIntSS Ar cr r K w h hK)
  have Hs := Lib.hid hs
  clear hs
  rcases Sg.szL_neg (r.map List.length) K with hs | hs
  · have Hq := Lib.hid hs
    have HZ := Lib.hid (show Sg.szZ v r q L = -1 by unfold Sg.szZ; rw [hE, hs]; rfl)
    clear hs hE
    go_enter Tryz.func29, Tryz.ntmps29
    go_wp2_with fail
    refine (HC.out _).mono ?_
    rintro e w' ⟨rfl, rfl⟩
    rw [Hs.out]
    go_wp2_with fail
    refine (HD.out _ (H.out.ext E0.out)).mono ?_
    rintro e w1 ⟨rfl, he1⟩
    rw [Hq.out]
    have U1 := Lib.hid ((Ext.rfl' (World.alloc w (.cells #[.slice Av v.length cv, .slice Ar r.length cr, .slice Aq q.length cq] 48))).tr he1)
    have E1 := Lib.hid (E0.out.tr U1.out)
    have lv_1 := U1.out.cellE Qlv.out
    have lr_1 := U1.out.cellE Qlr.out
    have lq_1 := U1.out.cellE Qlq.out
    clear he1 
    have blv_1 := blt lv_1
    have blr_1 := blt lr_1
    have blq_1 := blt lq_1
    go_wp2
    go_ret
    exact ⟨ret_int HZ.out.symm, E1.out⟩
  obtain ⟨_, _, M, hMK, hM⟩ := Sg.szL_ok _ _ hs
  have HZ := Lib.hid (show Sg.szZ v r q L = Sg.szI q.length M by unfold Sg.szZ; rw [hE, hM, if_pos (by omega)]; rfl)
  have HQ := Lib.hid (fun w => l_szIntS Aq q.length cq M w hq (by omega))
  have Hq := Lib.hid hM
  clear hs hM hE
  by_cases hm : M < q.length
  · have Ht := Lib.hid (show Sg.szI q.length M = -1 by unfold Sg.szI; rw [if_pos hm])
    clear hm
    go_enter Tryz.func29, Tryz.ntmps29
    go_wp2_with fail
    refine (HC.out _).mono ?_
    rintro e w' ⟨rfl, rfl⟩
    rw [Hs.out]
    go_wp2_with fail
    refine (HD.out _ (H.out.ext E0.out)).mono ?_
    rintro e w1 ⟨rfl, he1⟩
    rw [Hq.out]
    have U1 := Lib.hid ((Ext.rfl' (World.alloc w (.cells #[.slice Av v.length cv, .slice Ar r.length cr, .slice Aq q.length cq] 48))).tr he1)
    have E1 := Lib.hid (E0.out.tr U1.out)
    have lv_1 := U1.out.cellE Qlv.out
    have lr_1 := U1.out.cellE Qlr.out
    have lq_1 := U1.out.cellE Qlq.out
    clear he1 
    have blv_1 := blt lv_1
    have blr_1 := blt lr_1
    have blq_1 := blt lq_1
    go_wp2_with fail
    refine (HQ.out _).mono ?_
    rintro e w' ⟨rfl, rfl⟩
    rw [Ht.out]
    go_wp2
    go_ret
    exact ⟨ret_int (by rw [HZ.out, Ht.out]), E1.out⟩
  · have Ht := Lib.hid (show Sg.szI q.length M = ((M - q.length : Nat) : Int) by unfold Sg.szI; rw [if_neg hm])
    have hz0 : decide (((M - q.length : Nat) : Int) < 0) = false := by simp
    clear hm
    go_enter Tryz.func29, Tryz.ntmps29
    go_wp2_with fail
    refine (HC.out _).mono ?_
    rintro e w' ⟨rfl, rfl⟩
    rw [Hs.out]
    go_wp2_with fail
    refine (HD.out _ (H.out.ext E0.out)).mono ?_
    rintro e w1 ⟨rfl, he1⟩
    rw [Hq.out]
    have U1 := Lib.hid ((Ext.rfl' (World.alloc w (.cells #[.slice Av v.length cv, .slice Ar r.length cr, .slice Aq q.length cq] 48))).tr he1)
    have E1 := Lib.hid (E0.out.tr U1.out)
    have lv_1 := U1.out.cellE Qlv.out
    have lr_1 := U1.out.cellE Qlr.out
    have lq_1 := U1.out.cellE Qlq.out
    clear he1 
    have blv_1 := blt lv_1
    have blr_1 := blt lr_1
    have blq_1 := blt lq_1
    go_wp2_with fail
    refine (HQ.out _).mono ?_
    rintro e w' ⟨rfl, rfl⟩
    rw [Ht.out]
    go_wp2
    go_ret
    exact ⟨ret_int (by rw [HZ.out, Ht.out]), E1.out⟩

set_option maxRecDepth 100000 in
set_option maxHeartbeats 4000000 in
theorem l_toLazy (Av Ar Aq : Option Addr) (cv cr cq : Nat) (v q : List Int) (r : List (List Int)) (w : World) (hv : Rd w 1 Av v.length (ints v)) (hvl : v.length ≤ 1048576) (hr : RdL w Ar r) (hq : Rd w 1 Aq q.length (ints q)) (hql : q.length ≤ 1048576) :
    Calls Tryz.prog 32 #[.agg #[.slice Av v.length cv, .slice Ar r.length cr, .slice Aq q.length cq]] w fun e w' => ∃ A1 A2 A3 hs, e = .returned (.agg #[.slice A1 v.length v.length, .slice A2 r.length r.length, .slice A3 q.length q.length]) ∧
      OwnZ w' w.heap.size A1 v.length A2 r.length A3 q.length hs ⟨v, r, q⟩ ∧ Ext w w' := by
  have HC := Lib.hid (fun w h => l_toIntS Av cv v w h hvl)
  have HD := Lib.hid (fun w h => l_toIntSS Ar cr r w h)
  have HQ := Lib.hid (fun w h => l_toIntS Aq cq q w h hql)
  have Hv := Lib.hid hv
  have Hr := Lib.hid hr
  have Hq := Lib.hid hq
  have HE := Lib.hid ((((Ext.rfl' w).al (.cells #[.slice Av v.length cv, .slice Ar r.length cr, .slice Aq q.length cq] 48)).al (.cells #[.slice none 0 0, .slice none 0 0, .slice none 0 0] 51)).al (.cells #[.slice none 0 0, .slice none 0 0, .slice none 0 0] 51))
  have B0 := Lib.hid ((Bx.new w #[.slice Av v.length cv, .slice Ar r.length cr, .slice Aq q.length cq] 48).al (.cells #[.slice none 0 0, .slice none 0 0, .slice none 0 0] 51) |>.al (.cells #[.slice none 0 0, .slice none 0 0, .slice none 0 0] 51))
  have B1 := Lib.hid ((Bx.new (w.alloc (.cells #[.slice Av v.length cv, .slice Ar r.length cr, .slice Aq q.length cq] 48)) #[.slice none 0 0, .slice none 0 0, .slice none 0 0] 51).al (.cells #[.slice none 0 0, .slice none 0 0, .slice none 0 0] 51))
  have B2 := Lib.hid (Bx.new ((w.alloc (.cells #[.slice Av v.length cv, .slice Ar r.length cr, .slice Aq q.length cq] 48)).alloc (.cells #[.slice none 0 0, .slice none 0 0, .slice none 0 0] 51)) #[.slice none 0 0, .slice none 0 0, .slice none 0 0] 51)
  simp only [World.size_alloc] at B1 B2
  clear hv hr hq
  go_enter Tryz.func32, Tryz.ntmps32
  go_wp2_with fail
  refine (HC.out _ (Hv.out.ext HE.out)).mono ?_
  rintro e w1 ⟨A1, rfl, ho1, he1⟩
  have C0 := Lib.hid (B0.out.ext he1)
  have C1 := Lib.hid (B1.out.ext he1)
  have C2 := Lib.hid (B2.out.ext he1)
  have hz1 : w.heap.size + 1 + 1 + 1 ≤ w1.heap.size := by have := he1.size; simpa using this
  have Ho1 := Lib.hid (ho1.mono (B' := w.heap.size + 1 + 1 + 1) (by simp))
  have E1 := Lib.hid (HE.out.tr he1)
  have k1 := C0.out.cell (j := 1) rfl
  have k20 := C2.out.cell (j := 0) rfl
  have f20 := C2.out.free 0
  have l2 := C2.out.lt
  clear ho1 he1 B0 B1 B2
  go_wp2_with fail
  have S1 := Lib.hid (E1.out.set (p := ⟨w.heap.size + 1 + 1, 0, none⟩) (show w.heap.size ≤ w.heap.size + 1 + 1 by omega) (.slice A1 v.length v.length))
  refine (HD.out _ (Hr.out.ext S1.out)).mono ?_
  rintro e w2 ⟨A2, hs, rfl, ho2, he2⟩
  have D0 := Lib.hid ((C0.out.oth (p := ⟨w.heap.size + 1 + 1, 0, none⟩) (show w.heap.size + 1 + 1 ≠ w.heap.size by omega) (.slice A1 v.length v.length)).ext he2)
  have D1 := Lib.hid ((C1.out.oth (p := ⟨w.heap.size + 1 + 1, 0, none⟩) (show w.heap.size + 1 + 1 ≠ w.heap.size + 1 by omega) (.slice A1 v.length v.length)).ext he2)
  have D2 := Lib.hid ((C2.out.set 0 (.slice A1 v.length v.length)).ext he2)
  have Hp1 := Lib.hid ((Ho1.out.set (p := ⟨w.heap.size + 1 + 1, 0, none⟩) (fun e => by have := (Ho1.out.lt e).1; simp at this; omega) (.slice A1 v.length v.length)).ext he2)
  have hz2 : w1.heap.size ≤ w2.heap.size := by have := he2.size; simpa using this
  have Ho2 := Lib.hid (OwnD.mono (B' := w1.heap.size) ho2 (by simp))
  have E2 := Lib.hid (S1.out.tr he2)
  have Hlt1 := Lib.hid (fun b hb => (Ho1.out.lt (g := b) hb).2)
  clear k1 k20 f20 l2 ho2 he2 C0 C1 C2 Ho1 S1
  have k2 := D0.out.cell (j := 2) rfl
  have k21 := D2.out.cell (j := 1) rfl
  have f21 := D2.out.free 1
  have l2 := D2.out.lt
  go_wp2_with fail
  have S2 := Lib.hid (E2.out.set (p := ⟨w.heap.size + 1 + 1, 1, none⟩) (show w.heap.size ≤ w.heap.size + 1 + 1 by omega) (.slice A2 r.length r.length))
  refine (HQ.out _ (Hq.out.ext S2.out)).mono ?_
  rintro e w3 ⟨A3, rfl, ho3, he3⟩
  have F1 := Lib.hid ((D1.out.oth (p := ⟨w.heap.size + 1 + 1, 1, none⟩) (show w.heap.size + 1 + 1 ≠ w.heap.size + 1 by omega) (.slice A2 r.length r.length)).ext he3)
  have F2 := Lib.hid ((D2.out.set 1 (.slice A2 r.length r.length)).ext he3)
  have Hq1 := Lib.hid ((Hp1.out.set (p := ⟨w.heap.size + 1 + 1, 1, none⟩) (fun e => by have := (Hp1.out.lt e).1; simp at this; omega) (.slice A2 r.length r.length)).ext he3)
  have Hq2 := Lib.hid (OwnD.ext (OwnD.below Ho2.out (p := ⟨w.heap.size + 1 + 1, 1, none⟩) (show w.heap.size + 1 + 1 < w1.heap.size by omega) (.slice A2 r.length r.length)) he3)
  have hz3 : w2.heap.size ≤ w3.heap.size := by have := he3.size; simpa using this
  have Ho3 := Lib.hid (Own.mono (B' := w2.heap.size) ho3 (by simp))
  have E3 := Lib.hid (S2.out.tr he3)
  have Hlt2 := Lib.hid (fun b (hb : fpD A2 hs b) => (OwnD.lt Ho2.out hb).2)
  clear k2 k21 f21 l2 ho3 he3 D0 D1 D2 Hp1 Ho2 S2
  have k1 := F1.out.cell (j := 0) rfl
  have k2 := F1.out.cell (j := 1) rfl
  have k3 := F1.out.cell (j := 2) rfl
  have g1 := F1.out.free 0
  have g2 := F1.out.free 1
  have g3 := F1.out.free 2
  have m1 := F2.out.cell (j := 0) rfl
  have m2 := F2.out.cell (j := 1) rfl
  have m3 := F2.out.cell (j := 2) rfl
  have n3 := F2.out.free 2
  have l1 := F1.out.lt
  have l2 := F2.out.lt
  go_wp2
  have Q := Lib.hid ((((F1.out.oth (p := ⟨w.heap.size + 1 + 1, 2, none⟩) (show w.heap.size + 1 + 1 ≠ w.heap.size + 1 by omega) (.slice A3 q.length q.length)).set 0 (.slice A1 v.length v.length)).set 1 (.slice A2 r.length r.length)).set 2 (.slice A3 q.length q.length))
  have c0 := Q.out.cell (j := 0) rfl
  have c1 := Q.out.cell (j := 1) rfl
  have c2 := Q.out.cell (j := 2) rfl
  refine bodyPost_ret (v := .agg #[.slice A1 v.length v.length, .slice A2 r.length r.length, .slice A3 q.length q.length]) (by simp [results, Tryz.results32, go_sem, c0, c1, c2]; try rfl) rfl ?_
  have sv := fun (p : Addr) (hp : p.block < w.heap.size + 1 + 1 + 1) (e : blk A1 = some p.block) => by have := (Hq1.out.lt e).1; omega
  refine ⟨A1, A2, A3, hs, rfl, ⟨?_, ?_, ?_, ?_, ?_⟩, ?_⟩
  · refine Own.mono (B := w.heap.size + 1 + 1 + 1) (Own.keep Hq1.out fun g hg => ?_) (by omega)
    have := (Hq1.out.lt hg).1
    rw [Below.heap_setCell _ _ _ _ (show g ≠ w.heap.size + 1 by omega), Below.heap_setCell _ _ _ _ (show g ≠ w.heap.size + 1 by omega), Below.heap_setCell _ _ _ _ (show g ≠ w.heap.size + 1 by omega), Below.heap_setCell _ _ _ _ (show g ≠ w.heap.size + 1 + 1 by omega)]
  · refine OwnD.mono (B := w1.heap.size) (OwnD.fr Hq2.out fun g hg => ?_) (by omega)
    have := (OwnD.lt Hq2.out hg).1
    rw [Below.heap_setCell _ _ _ _ (show g ≠ w.heap.size + 1 by omega), Below.heap_setCell _ _ _ _ (show g ≠ w.heap.size + 1 by omega), Below.heap_setCell _ _ _ _ (show g ≠ w.heap.size + 1 by omega), Below.heap_setCell _ _ _ _ (show g ≠ w.heap.size + 1 + 1 by omega)]
  · refine Own.mono (B := w2.heap.size) (Own.keep Ho3.out fun g hg => ?_) (by omega)
    have := (Ho3.out.lt hg).1
    rw [Below.heap_setCell _ _ _ _ (show g ≠ w.heap.size + 1 by omega), Below.heap_setCell _ _ _ _ (show g ≠ w.heap.size + 1 by omega), Below.heap_setCell _ _ _ _ (show g ≠ w.heap.size + 1 by omega), Below.heap_setCell _ _ _ _ (show g ≠ w.heap.size + 1 + 1 by omega)]
  · intro b hb
    have h1 := Hlt1.out b hb
    refine ⟨fun hf => ?_, fun hf => ?_⟩
    · have := (OwnD.lt Hq2.out hf).1; omega
    · have := (Ho3.out.lt hf).1; omega
  · intro b hb hf
    have h1 := Hlt2.out b hf
    have := (Ho3.out.lt hb).1
    omega
  · exact (((E3.out.set (show w.heap.size ≤ w.heap.size + 1 + 1 by omega) _).set (show w.heap.size ≤ w.heap.size + 1 by omega) _).set (show w.heap.size ≤ w.heap.size + 1 by omega) _).set (show w.heap.size ≤ w.heap.size + 1 by omega) _

theorem l_eqLazy (Av Bv Ar Br Aq Bq : Option Addr) (cv cw cr cs cq ct : Nat) (v q : List Int) (r : List (List Int)) (w : World) (hv : Rd w 1 Av v.length (ints v)) (kv : Rd w 1 Bv v.length (ints v)) (hr : RdL w Ar r) (kr : RdL w Br r) (hq : Rd w 1 Aq q.length (ints q)) (kq : Rd w 1 Bq q.length (ints q)) :
    Calls Tryz.prog 34 #[.agg #[.slice Av v.length cv, .slice Ar r.length cr, .slice Aq q.length cq], .agg #[.slice Bv v.length cw, .slice Br r.length cs, .slice Bq q.length ct]] w fun e w' => e = .returned (.bool true) ∧ Ext w w' := by
  have HC := Lib.hid (fun w h k => l_eqIntS Av Bv cv cw v w h k)
  have HD := Lib.hid (fun w h k => l_eqIntSS Ar Br cr cs r w h k)
  have HQ := Lib.hid (fun w h k => l_eqIntS Aq Bq cq ct q w h k)
  have Khv := Lib.hid hv
  have Kkv := Lib.hid kv
  have Khr := Lib.hid hr
  have Kkr := Lib.hid kr
  have Khq := Lib.hid hq
  have Kkq := Lib.hid kq
  clear hv kv hr kr hq kq
  have E0 := Lib.hid ((((Ext.rfl' w).al (.cells #[.slice Av v.length cv, .slice Ar r.length cr, .slice Aq q.length cq] 51)).al (.cells #[.slice Bv v.length cw, .slice Br r.length cs, .slice Bq q.length ct] 51)) : Ext w (World.alloc (World.alloc w (.cells #[.slice Av v.length cv, .slice Ar r.length cr, .slice Aq q.length cq] 51)) (.cells #[.slice Bv v.length cw, .slice Br r.length cs, .slice Bq q.length ct] 51)))
  have qav : World.cell? (World.alloc (World.alloc w (.cells #[.slice Av v.length cv, .slice Ar r.length cr, .slice Aq q.length cq] 51)) (.cells #[.slice Bv v.length cw, .slice Br r.length cs, .slice Bq q.length ct] 51)) ⟨w.heap.size, 0, none⟩ = some (.slice Av v.length cv) := by simp [go_sem]
  have Qav := Lib.hid qav
  clear qav
  have qar : World.cell? (World.alloc (World.alloc w (.cells #[.slice Av v.length cv, .slice Ar r.length cr, .slice Aq q.length cq] 51)) (.cells #[.slice Bv v.length cw, .slice Br r.length cs, .slice Bq q.length ct] 51)) ⟨w.heap.size, 1, none⟩ = some (.slice Ar r.length cr) := by simp [go_sem]
  have Qar := Lib.hid qar
  clear qar
  have qaq : World.cell? (World.alloc (World.alloc w (.cells #[.slice Av v.length cv, .slice Ar r.length cr, .slice Aq q.length cq] 51)) (.cells #[.slice Bv v.length cw, .slice Br r.length cs, .slice Bq q.length ct] 51)) ⟨w.heap.size, 2, none⟩ = some (.slice Aq q.length cq) := by simp [go_sem]
  have Qaq := Lib.hid qaq
  clear qaq
  have qbv : World.cell? (World.alloc (World.alloc w (.cells #[.slice Av v.length cv, .slice Ar r.length cr, .slice Aq q.length cq] 51)) (.cells #[.slice Bv v.length cw, .slice Br r.length cs, .slice Bq q.length ct] 51)) ⟨w.heap.size + 1, 0, none⟩ = some (.slice Bv v.length cw) := by simp [go_sem]
  have Qbv := Lib.hid qbv
  clear qbv
  have qbr : World.cell? (World.alloc (World.alloc w (.cells #[.slice Av v.length cv, .slice Ar r.length cr, .slice Aq q.length cq] 51)) (.cells #[.slice Bv v.length cw, .slice Br r.length cs, .slice Bq q.length ct] 51)) ⟨w.heap.size + 1, 1, none⟩ = some (.slice Br r.length cs) := by simp [go_sem]
  have Qbr := Lib.hid qbr
  clear qbr
  have qbq : World.cell? (World.alloc (World.alloc w (.cells #[.slice Av v.length cv, .slice Ar r.length cr, .slice Aq q.length cq] 51)) (.cells #[.slice Bv v.length cw, .slice Br r.length cs, .slice Bq q.length ct] 51)) ⟨w.heap.size + 1, 2, none⟩ = some (.slice Bq q.length ct) := by simp [go_sem]
  have Qbq := Lib.hid qbq
  clear qbq
  go_enter Tryz.func34, Tryz.ntmps34
  go_wp2_with fail
  refine (HC.out _ (Khv.out.ext E0.out) (Kkv.out.ext E0.out)).mono ?_
  rintro e w1 ⟨rfl, he1⟩
  have U1 := Lib.hid ((Ext.rfl' (World.alloc (World.alloc w (.cells #[.slice Av v.length cv, .slice Ar r.length cr, .slice Aq q.length cq] 51)) (.cells #[.slice Bv v.length cw, .slice Br r.length cs, .slice Bq q.length ct] 51))).tr he1)
  have E1 := Lib.hid (E0.out.tr U1.out)
  have av_1 := U1.out.cellE Qav.out
  have ar_1 := U1.out.cellE Qar.out
  have aq_1 := U1.out.cellE Qaq.out
  have bv_1 := U1.out.cellE Qbv.out
  have br_1 := U1.out.cellE Qbr.out
  have bq_1 := U1.out.cellE Qbq.out
  clear he1 
  have bav_1 := blt av_1
  have bar_1 := blt ar_1
  have baq_1 := blt aq_1
  have bbv_1 := blt bv_1
  have bbr_1 := blt br_1
  have bbq_1 := blt bq_1
  go_wp2_with fail
  refine (HD.out _ (Khr.out.ext E1.out) (Kkr.out.ext E1.out)).mono ?_
  rintro e w2 ⟨rfl, he2⟩
  have U2 := Lib.hid ((Ext.rfl' w1).tr he2)
  have E2 := Lib.hid (E1.out.tr U2.out)
  have av_2 := U2.out.cellE av_1
  have ar_2 := U2.out.cellE ar_1
  have aq_2 := U2.out.cellE aq_1
  have bv_2 := U2.out.cellE bv_1
  have br_2 := U2.out.cellE br_1
  have bq_2 := U2.out.cellE bq_1
  clear he2 av_1 ar_1 aq_1 bv_1 br_1 bq_1 bav_1 bar_1 baq_1 bbv_1 bbr_1 bbq_1
  have bav_2 := blt av_2
  have bar_2 := blt ar_2
  have baq_2 := blt aq_2
  have bbv_2 := blt bv_2
  have bbr_2 := blt br_2
  have bbq_2 := blt bq_2
  go_wp2_with fail
  refine (HQ.out _ (Khq.out.ext E2.out) (Kkq.out.ext E2.out)).mono ?_
  rintro e w3 ⟨rfl, he3⟩
  have U3 := Lib.hid ((Ext.rfl' w2).tr he3)
  have E3 := Lib.hid (E2.out.tr U3.out)
  have av_3 := U3.out.cellE av_2
  have ar_3 := U3.out.cellE ar_2
  have aq_3 := U3.out.cellE aq_2
  have bv_3 := U3.out.cellE bv_2
  have br_3 := U3.out.cellE br_2
  have bq_3 := U3.out.cellE bq_2
  clear he3 av_2 ar_2 aq_2 bv_2 br_2 bq_2 bav_2 bar_2 baq_2 bbv_2 bbr_2 bbq_2
  have bav_3 := blt av_3
  have bar_3 := blt ar_3
  have baq_3 := blt aq_3
  have bbv_3 := blt bv_3
  have bbr_3 := blt br_3
  have bbq_3 := blt bq_3
  go_wp2
  go_ret
  exact ⟨rfl, E3.out⟩
end Go.Proofs.YtmelggoagbhieaaGreat
