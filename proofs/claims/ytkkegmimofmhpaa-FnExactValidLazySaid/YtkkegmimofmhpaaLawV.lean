/- FnExactValidLazy: the law's walk, given the contracts of both functions. Conditions: the arguments can be read. -/
import Derived.Test.YtkkegmimofmhpaaLawP
import Derived.Test.YtkkegmimofmhpaaLawU
namespace Go.Proofs.Ytkkegmimofmhpaa
open Go.RowKit

set_option maxRecDepth 100000 in
set_option maxHeartbeats 16000000 in
theorem l_FnExactValidLazy (A0 : Option Addr) (c0 : Nat) (g : Sg.Graph) (A1 : Option Addr) (c1 : Nat) (v : List Int) (B1 : Option Addr) (k1 : Nat) (r : List (List Int)) (C1 : Option Addr) (m1 : Nat) (q : List Int) (s0 : Bool) 
    (hS : (∀ (B0 : Option Addr) (d0 : Nat) (B1 : Option Addr) (d1 : Nat) (E1 : Option Addr) (e1 : Nat) (F1 : Option Addr) (f1 : Nat) (w : World), RdN w B0 g → Rd w 1 B1 v.length (ints v) → RdLC w E1 r → Rd w 1 F1 q.length (ints q) → v.length ≤ 1048576 → q.length ≤ 1048576 → Calls Try.prog 56 #[.agg #[.slice B0 g.length d0], .agg #[.slice B1 v.length d1, .slice E1 r.length e1, .slice F1 q.length f1]] w fun e w' => e = .returned (.bool s0) ∧ Ext w w'))
    (hI : (∀ (B0 : Option Addr) (d0 : Nat) (B1 : Option Addr) (d1 : Nat) (E1 : Option Addr) (e1 : Nat) (F1 : Option Addr) (f1 : Nat) (w : World), RdN w B0 g → Rd w 1 B1 v.length (ints v) → RdLC w E1 r → Rd w 1 F1 q.length (ints q) → v.length ≤ 1048576 → q.length ≤ 1048576 → Calls Try.prog 58 #[.agg #[.slice B0 g.length d0], .agg #[.slice B1 v.length d1, .slice E1 r.length e1, .slice F1 q.length f1]] w fun e w' => e = .returned (.bool s0) ∧ Ext w w'))
    (w : World) (h0 : RdN0 w A0 g) (h1v : Rd w 1 A1 v.length (ints v)) (h1r : RdL0 w B1 r) (h1q : Rd w 1 C1 q.length (ints q)) :
    Calls Try.prog 11 #[.agg #[.slice A0 g.length c0], .agg #[.slice A1 v.length c1, .slice B1 r.length k1, .slice C1 q.length m1]] w fun e w' => e = .returned (.bool true) ∧ Ext w w' := by
  have E0 := Lib.hid ((((Ext.rfl' w).al (.cells #[.slice A0 g.length c0] 44)).al (.cells #[.slice A1 v.length c1, .slice B1 r.length k1, .slice C1 q.length m1] 79)) : Ext w (World.alloc (World.alloc w (.cells #[.slice A0 g.length c0] 44)) (.cells #[.slice A1 v.length c1, .slice B1 r.length k1, .slice C1 q.length m1] 79)))
  have bigv := h1v.big
  have bigq := h1q.big
  have HZG := Lib.hid (fun w h => l_szGraph A0 c0 g 1048576 w h (Nat.le_refl _))
  have H0 := Lib.hid h0
  have H1v := Lib.hid h1v
  have H1r := Lib.hid h1r
  have H1q := Lib.hid h1q
  clear h0 h1v h1r h1q
  rcases Sg.szL_neg (g.map (fun n => n.f.length)) 1048576 with hs | hs
  · have Hs := Lib.hid hs
    clear hs
    go_enter Try.func11, Try.ntmps11
    go_wp2_with (go_at_call 25; refine (HZG.out _ (H0.out.ext E0.out)).mono ?_; rintro e w1 ⟨rfl, he1⟩; rw [Hs.out])
    go_ret
    exact ⟨rfl, E0.out.tr he1⟩
  have hto := totN_le g 1048576 hs
  obtain ⟨hgl, hfl, M, hM, hs⟩ := Sg.szL_ok _ _ hs
  have HN := Lib.hid (H0.out.up2 (by simpa using hgl) (by simpa using hfl))
  have Hs := Lib.hid hs
  have hgl2 : g.length ≤ 1048576 := by simpa using hgl
  have Hfl : Hid (∀ n ∈ g, n.f.length ≤ 1048576) := Lib.hid (by simpa using hfl)
  clear hgl hfl hs H0
  have HZX := Lib.hid (fun w h => l_szLazy A1 B1 C1 c1 k1 m1 v q r M w bigv bigq h hM)
  rcases Sg.szZ_neg v r q M with hs | hs
  · have Ht := Lib.hid hs
    clear hs
    go_enter Try.func11, Try.ntmps11
    go_wp2_with fail
    refine (HZG.out _ (HN.out.to0.ext E0.out)).mono ?_
    rintro e w1 ⟨rfl, he1⟩
    rw [Hs.out]
    have q0 := he1.cellE (show World.cell? (World.alloc (World.alloc w (.cells #[.slice A0 g.length c0] 44)) (.cells #[.slice A1 v.length c1, .slice B1 r.length k1, .slice C1 q.length m1] 79)) ⟨w.heap.size, 0, none⟩ = some (.slice A0 g.length c0) by simp [go_sem])
    have q1 := he1.cellE (show World.cell? (World.alloc (World.alloc w (.cells #[.slice A0 g.length c0] 44)) (.cells #[.slice A1 v.length c1, .slice B1 r.length k1, .slice C1 q.length m1] 79)) ⟨w.heap.size + 1, 0, none⟩ = some (.slice A1 v.length c1) by simp [go_sem])
    have q2 := he1.cellE (show World.cell? (World.alloc (World.alloc w (.cells #[.slice A0 g.length c0] 44)) (.cells #[.slice A1 v.length c1, .slice B1 r.length k1, .slice C1 q.length m1] 79)) ⟨w.heap.size + 1, 1, none⟩ = some (.slice B1 r.length k1) by simp [go_sem])
    have q3 := he1.cellE (show World.cell? (World.alloc (World.alloc w (.cells #[.slice A0 g.length c0] 44)) (.cells #[.slice A1 v.length c1, .slice B1 r.length k1, .slice C1 q.length m1] 79)) ⟨w.heap.size + 1, 2, none⟩ = some (.slice C1 q.length m1) by simp [go_sem])
    go_wp2_with fail
    refine (HZX.out _ (H1r.out.ext (E0.out.tr he1))).mono ?_
    rintro e w2 ⟨rfl, he2⟩
    rw [Ht.out]
    go_wp2
    go_ret
    exact ⟨rfl, (E0.out.tr he1).tr he2⟩
  have htr : totL r ≤ 1099511627776 := by
    have h3 := Sg.szZ_ok v r q M hs
    have h4 := totL_small r 1048576 (fun l hl => by have := h3.2.2.1 l hl; omega)
    have h5 : r.length ≤ 1048576 := by have := h3.2.1; omega
    clear h3
    omega
  obtain ⟨hvl, hrl, hrr, hql, M3, hM3, hs3⟩ := Sg.szZ_ok v r q M hs
  have hvl2 : v.length ≤ 1048576 := by omega
  have hrl2 : r.length ≤ 1048576 := by omega
  have Hrr : Hid (∀ l ∈ r, l.length ≤ 1048576) := Lib.hid (fun l hl => by have := hrr l hl; omega)
  have hql2 : q.length ≤ 1048576 := by omega
  have HR := Lib.hid (H1r.out.up3 hrl2 Hrr.out)
  have Ht := Lib.hid hs3
  clear hs hs3 hrr H1r
  have HS := Lib.hid hS
  have HI := Lib.hid hI
  clear hS hI 
  have HT0 := Lib.hid (fun w h => l_toGraph A0 c0 g w h)
  have HE0 := Lib.hid (fun A B w h k => l_eqGraph A B g.length g.length g w h k)
  have HT1 := Lib.hid (fun w hv hr hq => l_toLazy A1 B1 C1 c1 k1 m1 v q r w hv hvl2 hr hq hql2)
  have HE1 := Lib.hid (fun Av Bv Ar Br Aq Bq w hv kv hr kr hq kq => l_eqLazy Av Bv Ar Br Aq Bq v.length v.length r.length r.length q.length q.length v q r w hv kv hr kr hq kq)
  have hne0 : (s0 != s0) = false := by simp
  go_enter Try.func11, Try.ntmps11
  go_wp2_with fail
  refine (HZG.out _ (HN.out.to0.ext E0.out)).mono ?_
  rintro e w1 ⟨rfl, hX1⟩
  have u1 := Lib.hid ((Ext.rfl' (World.alloc (World.alloc w (.cells #[.slice A0 g.length c0] 44)) (.cells #[.slice A1 v.length c1, .slice B1 r.length k1, .slice C1 q.length m1] 79))).tr hX1)
  have q1_0 := u1.out.cellE (show World.cell? (World.alloc (World.alloc w (.cells #[.slice A0 g.length c0] 44)) (.cells #[.slice A1 v.length c1, .slice B1 r.length k1, .slice C1 q.length m1] 79)) ⟨w.heap.size, 0, none⟩ = some (.slice A0 g.length c0) by simp [go_sem])
  have q1_1 := u1.out.cellE (show World.cell? (World.alloc (World.alloc w (.cells #[.slice A0 g.length c0] 44)) (.cells #[.slice A1 v.length c1, .slice B1 r.length k1, .slice C1 q.length m1] 79)) ⟨w.heap.size + 1, 0, none⟩ = some (.slice A1 v.length c1) by simp [go_sem])
  have q1_2 := u1.out.cellE (show World.cell? (World.alloc (World.alloc w (.cells #[.slice A0 g.length c0] 44)) (.cells #[.slice A1 v.length c1, .slice B1 r.length k1, .slice C1 q.length m1] 79)) ⟨w.heap.size + 1, 1, none⟩ = some (.slice B1 r.length k1) by simp [go_sem])
  have q1_3 := u1.out.cellE (show World.cell? (World.alloc (World.alloc w (.cells #[.slice A0 g.length c0] 44)) (.cells #[.slice A1 v.length c1, .slice B1 r.length k1, .slice C1 q.length m1] 79)) ⟨w.heap.size + 1, 2, none⟩ = some (.slice C1 q.length m1) by simp [go_sem])
  have z1 := u1.out.size
  simp only [World.size_alloc] at z1
  clear hX1 
  have b1_0 := blt q1_0
  have b1_1 := blt q1_1
  rw [Hs.out]
  go_wp2_with fail
  refine (HZX.out _ (HR.out.to0.ext (E0.out.tr u1.out))).mono ?_
  rintro e w2 ⟨rfl, hX2⟩
  have u2 := Lib.hid ((Ext.rfl' w1).tr hX2)
  have q2_0 := u2.out.cellE q1_0
  have q2_1 := u2.out.cellE q1_1
  have q2_2 := u2.out.cellE q1_2
  have q2_3 := u2.out.cellE q1_3
  have z2 := u2.out.size
  clear hX2 q1_0 q1_1 q1_2 q1_3 b1_0 b1_1
  have b2_0 := blt q2_0
  have b2_1 := blt q2_1
  rw [Ht.out]
  go_wp2_with fail
  refine wp_region_held_drew (S := (fun W => W.cell? ⟨w.heap.size, 0, none⟩ = some (.slice A0 g.length c0) ∧ W.cell? ⟨w.heap.size + 1, 0, none⟩ = some (.slice A1 v.length c1) ∧ W.cell? ⟨w.heap.size + 1, 1, none⟩ = some (.slice B1 r.length k1) ∧ W.cell? ⟨w.heap.size + 1, 2, none⟩ = some (.slice C1 q.length m1))) (by kernel_rfl) ?_ (fun hHeld => ?_)
  · exact ⟨((Ext.rfl' _).dr).cellE q2_0, ((Ext.rfl' _).dr).cellE q2_1, ((Ext.rfl' _).dr).cellE q2_2, ((Ext.rfl' _).dr).cellE q2_3⟩
  refine wpAnyH_take (i := 0) (v := ?_) (by simp only [List.getElem?_toArray, List.getElem?_cons_zero]; rfl) (by kernel_rfl) (by kernel_rfl) (by kernel_rfl) (by exact fun _ _ _ h => h) (Or.inl ⟨by kernel_rfl, ?_⟩) (by assumption) ?_
  rotate_left
  · intro w hSw; (try dsimp only at hSw); go_simp; try with_reducible rfl
  try simp only [Act.put, List.setIfInBounds_toArray, List.set_cons_zero, List.set_cons_succ]
  refine wpAnyH_take (i := 2) (v := ?_) (by simp only [List.getElem?_toArray, List.getElem?_cons_succ, List.getElem?_cons_zero]; rfl) (by kernel_rfl) (by kernel_rfl) (by kernel_rfl) (by exact fun _ _ _ h => h) (Or.inl ⟨by kernel_rfl, ?_⟩) (by assumption) ?_
  rotate_left
  · intro w hSw; (try dsimp only at hSw); go_simp; try with_reducible rfl
  try simp only [Act.put, List.setIfInBounds_toArray, List.set_cons_zero, List.set_cons_succ]
  refine wpAnyH_ready (rs := [1]) (by kernel_rfl) (by simp) ?_
  refine AllReadyH.cons rfl (fun K hK => ?_) AllReadyH.nil
  go_simp
  refine (HT0.out _ (HN.out.ext (((E0.out.tr u1.out).tr u2.out).dr))).mono ?_
  rintro e w3 ⟨Xs0, hs0, rfl, ho, hX3⟩
  have u3 := Lib.hid (((Ext.rfl' w2).dr).tr hX3)
  have q3_0 := u3.out.cellE q2_0
  have q3_1 := u3.out.cellE q2_1
  have q3_2 := u3.out.cellE q2_2
  have q3_3 := u3.out.cellE q2_3
  have z3 := u3.out.size
  clear hX3 q2_0 q2_1 q2_2 q2_3 b2_0 b2_1
  have b3_0 := blt q3_0
  have b3_1 := blt q3_1
  have Os0 := Lib.hid (ho)
  clear ho
  try go_wp2_with fail
  refine hK.out _ _ ?_ (fun hHeld2 => ?_)
  · exact ⟨q3_0, q3_1, q3_2, q3_3⟩
  clear hK K hHeld
  have hHeld := hHeld2
  clear hHeld2
  try simp only [Act.put, List.setIfInBounds_toArray, List.set_cons_zero, List.set_cons_succ]
  refine wpAnyH_ready (rs := [3]) (by kernel_rfl) (by simp) ?_
  refine AllReadyH.cons rfl (fun K hK => ?_) AllReadyH.nil
  go_simp
  refine (HT1.out _ (H1v.out.ext (((E0.out.tr u1.out).tr u2.out).tr u3.out)) (HR.out.ext (((E0.out.tr u1.out).tr u2.out).tr u3.out)) (H1q.out.ext (((E0.out.tr u1.out).tr u2.out).tr u3.out))).mono ?_
  rintro e w4 ⟨Xs1, Ys1, Zs1, hs1, rfl, ho, hX4⟩
  have u4 := Lib.hid ((Ext.rfl' w3).tr hX4)
  have q4_0 := u4.out.cellE q3_0
  have q4_1 := u4.out.cellE q3_1
  have q4_2 := u4.out.cellE q3_2
  have q4_3 := u4.out.cellE q3_3
  have z4 := u4.out.size
  clear hX4 q3_0 q3_1 q3_2 q3_3 b3_0 b3_1
  have b4_0 := blt q4_0
  have b4_1 := blt q4_1
  have Os1 := Lib.hid (ho)
  clear ho
  try go_wp2_with fail
  refine hK.out _ _ ?_ (fun hHeld2 => ?_)
  · exact ⟨q4_0, q4_1, q4_2, q4_3⟩
  clear hK K hHeld
  have hHeld := hHeld2
  clear hHeld2
  try simp only [Act.put, List.setIfInBounds_toArray, List.set_cons_zero, List.set_cons_succ]
  refine wpAnyH_ready (rs := [4]) (by kernel_rfl) (by simp) ?_
  refine AllReadyH.cons rfl (fun K hK => ?_) AllReadyH.nil
  go_simp
  refine (HS.out Xs0 g.length Xs1 v.length Ys1 r.length Zs1 q.length _ (OwnN.rdN (OwnD.ext Os0.out ((Ext.rfl' w3).tr u4.out)) hgl2 Hfl.out) (OwnZ.ext Os1.out (Ext.rfl' w4)).v.rd (OwnL.rdLC (OwnZ.ext Os1.out (Ext.rfl' w4)).r hrl2 Hrr.out) (OwnZ.ext Os1.out (Ext.rfl' w4)).q.rd hvl2 hql2).mono ?_
  rintro e w5 ⟨rfl, hX5⟩
  have u5 := Lib.hid ((Ext.rfl' w4).tr hX5)
  have q5_0 := u5.out.cellE q4_0
  have q5_1 := u5.out.cellE q4_1
  have q5_2 := u5.out.cellE q4_2
  have q5_3 := u5.out.cellE q4_3
  have z5 := u5.out.size
  clear hX5 q4_0 q4_1 q4_2 q4_3 b4_0 b4_1
  have b5_0 := blt q5_0
  have b5_1 := blt q5_1
  try go_wp2_with fail
  refine hK.out _ _ ?_ (fun hHeld2 => ?_)
  · exact ⟨q5_0, q5_1, q5_2, q5_3⟩
  clear hK K hHeld
  have hHeld := hHeld2
  clear hHeld2
  try simp only [Act.put, List.setIfInBounds_toArray, List.set_cons_zero, List.set_cons_succ]
  refine wpAnyH_take (i := 5) (v := ?_) (by simp only [List.getElem?_toArray, List.getElem?_cons_succ, List.getElem?_cons_zero]; rfl) (by kernel_rfl) (by kernel_rfl) (by kernel_rfl) (by exact fun _ _ _ h => h) (Or.inl ⟨by kernel_rfl, ?_⟩) (by assumption) ?_
  rotate_left
  · intro w hSw; (try dsimp only at hSw); go_simp; try with_reducible rfl
  try simp only [Act.put, List.setIfInBounds_toArray, List.set_cons_zero, List.set_cons_succ]
  refine wpAnyH_done (by kernel_rfl) ?_ _
  go_wp2_with fail
  refine (HT0.out _ (HN.out.ext (((((E0.out.tr u1.out).tr u2.out).tr u3.out).tr u4.out).tr u5.out))).mono ?_
  rintro e w6 ⟨Xx0, hx0, rfl, ho, hX6⟩
  have u6 := Lib.hid ((Ext.rfl' w5).tr hX6)
  have q6_0 := u6.out.cellE q5_0
  have q6_1 := u6.out.cellE q5_1
  have q6_2 := u6.out.cellE q5_2
  have q6_3 := u6.out.cellE q5_3
  have z6 := u6.out.size
  clear hX6 q5_0 q5_1 q5_2 q5_3 b5_0 b5_1
  have b6_0 := blt q6_0
  have b6_1 := blt q6_1
  have Ox0 := Lib.hid (ho)
  clear ho
  go_wp2_with fail
  refine (HT1.out _ (H1v.out.ext (((((((E0.out.tr u1.out).tr u2.out).tr u3.out).tr u4.out).tr u5.out).tr u6.out).al (.cells #[.slice Xx0 g.length g.length] 25))) (HR.out.ext (((((((E0.out.tr u1.out).tr u2.out).tr u3.out).tr u4.out).tr u5.out).tr u6.out).al (.cells #[.slice Xx0 g.length g.length] 25))) (H1q.out.ext (((((((E0.out.tr u1.out).tr u2.out).tr u3.out).tr u4.out).tr u5.out).tr u6.out).al (.cells #[.slice Xx0 g.length g.length] 25)))).mono ?_
  rintro e w7 ⟨Xx1, Yx1, Zx1, hx1, rfl, ho, hX7⟩
  have u7 := Lib.hid (((Ext.rfl' w6).al (.cells #[.slice Xx0 g.length g.length] 25)).tr hX7)
  have q7_0 := u7.out.cellE q6_0
  have q7_1 := u7.out.cellE q6_1
  have q7_2 := u7.out.cellE q6_2
  have q7_3 := u7.out.cellE q6_3
  have q7_4 := hX7.cellE (show World.cell? (World.alloc w6 (.cells #[.slice Xx0 g.length g.length] 25)) ⟨w6.heap.size, 0, none⟩ = some (.slice Xx0 g.length g.length) by simp [go_sem])
  have z7 := u7.out.size
  have y7 : w6.heap.size + 1 ≤ w7.heap.size := by have := hX7.size; simpa using this
  clear hX7 q6_0 q6_1 q6_2 q6_3 b6_0 b6_1
  have b7_0 := blt q7_0
  have b7_1 := blt q7_1
  have b7_2 := blt q7_4
  have Ox1 := Lib.hid (ho)
  clear ho
  go_wp2_with fail
  refine (HI.out Xx0 g.length Xx1 v.length Yx1 r.length Zx1 q.length _ (OwnN.rdN (OwnD.ext Ox0.out (((Ext.rfl' w6).tr u7.out).al (.cells #[.slice Xx1 v.length v.length, .slice Yx1 r.length r.length, .slice Zx1 q.length q.length] 82))) hgl2 Hfl.out) (OwnZ.ext Ox1.out ((Ext.rfl' w7).al (.cells #[.slice Xx1 v.length v.length, .slice Yx1 r.length r.length, .slice Zx1 q.length q.length] 82))).v.rd (OwnL.rdLC (OwnZ.ext Ox1.out ((Ext.rfl' w7).al (.cells #[.slice Xx1 v.length v.length, .slice Yx1 r.length r.length, .slice Zx1 q.length q.length] 82))).r hrl2 Hrr.out) (OwnZ.ext Ox1.out ((Ext.rfl' w7).al (.cells #[.slice Xx1 v.length v.length, .slice Yx1 r.length r.length, .slice Zx1 q.length q.length] 82))).q.rd hvl2 hql2).mono ?_
  rintro e w8 ⟨rfl, hX8⟩
  have u8 := Lib.hid (((Ext.rfl' w7).al (.cells #[.slice Xx1 v.length v.length, .slice Yx1 r.length r.length, .slice Zx1 q.length q.length] 82)).tr hX8)
  have q8_0 := u8.out.cellE q7_0
  have q8_1 := u8.out.cellE q7_1
  have q8_2 := u8.out.cellE q7_2
  have q8_3 := u8.out.cellE q7_3
  have q8_4 := u8.out.cellE q7_4
  have q8_5 := hX8.cellE (show World.cell? (World.alloc w7 (.cells #[.slice Xx1 v.length v.length, .slice Yx1 r.length r.length, .slice Zx1 q.length q.length] 82)) ⟨w7.heap.size, 0, none⟩ = some (.slice Xx1 v.length v.length) by simp [go_sem])
  have q8_6 := hX8.cellE (show World.cell? (World.alloc w7 (.cells #[.slice Xx1 v.length v.length, .slice Yx1 r.length r.length, .slice Zx1 q.length q.length] 82)) ⟨w7.heap.size, 1, none⟩ = some (.slice Yx1 r.length r.length) by simp [go_sem])
  have q8_7 := hX8.cellE (show World.cell? (World.alloc w7 (.cells #[.slice Xx1 v.length v.length, .slice Yx1 r.length r.length, .slice Zx1 q.length q.length] 82)) ⟨w7.heap.size, 2, none⟩ = some (.slice Zx1 q.length q.length) by simp [go_sem])
  have z8 := u8.out.size
  have y8 : w7.heap.size + 1 ≤ w8.heap.size := by have := hX8.size; simpa using this
  clear hX8 q7_0 q7_1 q7_2 q7_3 q7_4 b7_0 b7_1 b7_2
  have b8_0 := blt q8_0
  have b8_1 := blt q8_1
  have b8_2 := blt q8_4
  have b8_3 := blt q8_5
  go_wp2_with fail
  have ec := Lib.hid ((Ext.rfl' w8).dr)
  go_region_held3 (fun W => W.cell? ⟨w.heap.size, 0, none⟩ = some (.slice A0 g.length c0) ∧ W.cell? ⟨w6.heap.size, 0, none⟩ = some (.slice Xx0 g.length g.length))
    (first | exact ⟨ec.out.cellE q8_0, ec.out.cellE q8_4⟩ | go_keep)
    (first
      | (go_at_call 28; refine (HT0.out _ (HN.out.ext (((((((((E0.out.tr u1.out).tr u2.out).tr u3.out).tr u4.out).tr u5.out).tr u6.out).tr u7.out).tr u8.out).tr ec.out))).mono ?_; rintro e wy0 ⟨Xy0, hy0, rfl, hoy0, hey0⟩; have ed := Lib.hid (ec.out.tr hey0); clear ec; have ec := ed; clear ed)
      | (go_at_call 30; refine (HE0.out Xx0 Xy0 _ (OwnN.rdN (OwnD.ext Ox0.out ((((Ext.rfl' w6).tr u7.out).tr u8.out).tr ec.out)) hgl2 Hfl.out) (OwnN.rdN hoy0 hgl2 Hfl.out)).mono ?_; rintro e w9 ⟨rfl, hez⟩; have ed := Lib.hid (ec.out.tr hez); clear ec; have ec := ed; clear ed))
  have u9 := Lib.hid ec.out
  clear ec hey0 hez hoy0
  have q9_0 := u9.out.cellE q8_0
  have q9_1 := u9.out.cellE q8_1
  have q9_2 := u9.out.cellE q8_2
  have q9_3 := u9.out.cellE q8_3
  have q9_4 := u9.out.cellE q8_4
  have q9_5 := u9.out.cellE q8_5
  have q9_6 := u9.out.cellE q8_6
  have q9_7 := u9.out.cellE q8_7
  have z9 := u9.out.size
  clear q8_0 q8_1 q8_2 q8_3 q8_4 q8_5 q8_6 q8_7 b8_0 b8_1 b8_2 b8_3
  have b9_0 := blt q9_0
  have b9_1 := blt q9_1
  have b9_2 := blt q9_4
  have b9_3 := blt q9_5
  go_wp2_with fail
  have ec := Lib.hid ((Ext.rfl' w9).dr)
  go_region_held3 (fun W => W.cell? ⟨w.heap.size + 1, 0, none⟩ = some (.slice A1 v.length c1) ∧ W.cell? ⟨w.heap.size + 1, 1, none⟩ = some (.slice B1 r.length k1) ∧ W.cell? ⟨w.heap.size + 1, 2, none⟩ = some (.slice C1 q.length m1) ∧ W.cell? ⟨w7.heap.size, 0, none⟩ = some (.slice Xx1 v.length v.length) ∧ W.cell? ⟨w7.heap.size, 1, none⟩ = some (.slice Yx1 r.length r.length) ∧ W.cell? ⟨w7.heap.size, 2, none⟩ = some (.slice Zx1 q.length q.length))
    (first | exact ⟨ec.out.cellE q9_1, ec.out.cellE q9_2, ec.out.cellE q9_3, ec.out.cellE q9_5, ec.out.cellE q9_6, ec.out.cellE q9_7⟩ | go_keep)
    (first
      | (go_at_call 57; refine (HT1.out _ (H1v.out.ext ((((((((((E0.out.tr u1.out).tr u2.out).tr u3.out).tr u4.out).tr u5.out).tr u6.out).tr u7.out).tr u8.out).tr u9.out).tr ec.out)) (HR.out.ext ((((((((((E0.out.tr u1.out).tr u2.out).tr u3.out).tr u4.out).tr u5.out).tr u6.out).tr u7.out).tr u8.out).tr u9.out).tr ec.out)) (H1q.out.ext ((((((((((E0.out.tr u1.out).tr u2.out).tr u3.out).tr u4.out).tr u5.out).tr u6.out).tr u7.out).tr u8.out).tr u9.out).tr ec.out))).mono ?_; rintro e wy1 ⟨Xy1, Yy1, Zy1, hy1, rfl, hoy1, hey1⟩; have ed := Lib.hid (ec.out.tr hey1); clear ec; have ec := ed; clear ed)
      | (go_at_call 59; refine (HE1.out Xx1 Xy1 Yx1 Yy1 Zx1 Zy1 _ (OwnZ.ext Ox1.out ((((Ext.rfl' w7).tr u8.out).tr u9.out).tr ec.out)).v.rd hoy1.v.rd (OwnL.rdL (OwnZ.ext Ox1.out ((((Ext.rfl' w7).tr u8.out).tr u9.out).tr ec.out)).r hrl2 Hrr.out) (OwnL.rdL hoy1.r hrl2 Hrr.out) (OwnZ.ext Ox1.out ((((Ext.rfl' w7).tr u8.out).tr u9.out).tr ec.out)).q.rd hoy1.q.rd).mono ?_; rintro e w10 ⟨rfl, hez⟩; have ed := Lib.hid (ec.out.tr hez); clear ec; have ec := ed; clear ed))
  have u10 := Lib.hid ec.out
  clear ec hey1 hez hoy1
  have q10_0 := u10.out.cellE q9_0
  have q10_1 := u10.out.cellE q9_1
  have q10_2 := u10.out.cellE q9_2
  have q10_3 := u10.out.cellE q9_3
  have q10_4 := u10.out.cellE q9_4
  have q10_5 := u10.out.cellE q9_5
  have q10_6 := u10.out.cellE q9_6
  have q10_7 := u10.out.cellE q9_7
  have z10 := u10.out.size
  clear q9_0 q9_1 q9_2 q9_3 q9_4 q9_5 q9_6 q9_7 b9_0 b9_1 b9_2 b9_3
  have b10_0 := blt q10_0
  have b10_1 := blt q10_1
  have b10_2 := blt q10_4
  have b10_3 := blt q10_5
  go_wp2
  go_ret
  exact ⟨rfl, ((((((((((E0.out.tr u1.out).tr u2.out).tr u3.out).tr u4.out).tr u5.out).tr u6.out).tr u7.out).tr u8.out).tr u9.out).tr u10.out)⟩
end Go.Proofs.Ytkkegmimofmhpaa
