/- FnExactLazyCells: the law's walk, given the contracts of both functions. Conditions: the arguments can be read. -/
import Derived.Test.YtkbihkggneaeeaaGreatLawP
import Derived.Test.YtkbihkggneaeeaaGreatLawU
import Derived.Test.YtkbihkggneaeeaaGreatMarksC
namespace Go.Proofs.YtkbihkggneaeeaaGreat
open Go.RowKit

theorem held_FnExactLazyCells (A : Option Addr) (c n : Nat) (k : Int) (w : World) (h : Rd w 1 A n (ints (num k n))) (hk : 0 ≤ k) (hb : k + (n : Int) ≤ 1000000000000) :
    Calls Tryz.prog 28 #[.slice A n c, .int .i64 k] w fun e w' => e = .returned (.int .i64 (k + (n : Int))) ∧ Ext w w' :=
  (l_heldIntS A c n k w h hk hb).mono fun e w' hh => ⟨hh.1, by have h2 := hh.2; subst h2; exact Ext.rfl' _⟩

set_option maxRecDepth 100000 in
set_option maxHeartbeats 16000000 in
theorem l_FnExactLazyCells (A0 : Option Addr) (c0 : Nat) (g : Sg.Graph) (A1 : Option Addr) (c1 : Nat) (v : List Int) (B1 : Option Addr) (k1 : Nat) (r : List (List Int)) (C1 : Option Addr) (m1 : Nat) (q : List Int) (s0 : List Int) (hsm0 : s0.length ≤ 1048576)
    (hS : (∀ (B0 : Option Addr) (d0 : Nat) (B1 : Option Addr) (d1 : Nat) (E1 : Option Addr) (e1 : Nat) (F1 : Option Addr) (f1 : Nat) (w : World), RdN w B0 g → Rd w 1 B1 v.length (ints v) → RdLC w E1 r → Rd w 1 F1 q.length (ints q) → v.length ≤ 1048576 → q.length ≤ 1048576 → Calls Tryz.prog 36 #[.agg #[.slice B0 g.length d0], .agg #[.slice B1 v.length d1, .slice E1 r.length e1, .slice F1 q.length f1]] w fun e w' => ∃ R00 d00, e = .returned (.slice R00 s0.length d00) ∧ Own w' w.heap.size 3 1 R00 s0.length d00 (ints s0) ∧ Ext w w'))
    (hI : (∀ (B0 : Option Addr) (d0 : Nat) (B1 : Option Addr) (d1 : Nat) (E1 : Option Addr) (e1 : Nat) (F1 : Option Addr) (f1 : Nat) (w : World), RdN w B0 g → Rd w 1 B1 v.length (ints v) → RdLC w E1 r → Rd w 1 F1 q.length (ints q) → v.length ≤ 1048576 → q.length ≤ 1048576 → Calls Tryz.prog 37 #[.agg #[.slice B0 g.length d0], .agg #[.slice B1 v.length d1, .slice E1 r.length e1, .slice F1 q.length f1]] w fun e w' => ∃ R00 d00, e = .returned (.slice R00 s0.length d00) ∧ Own w' w.heap.size 3 1 R00 s0.length d00 (ints s0) ∧ Ext w w'))
    (w : World) (h0 : RdN0 w A0 g) (h1v : Rd w 1 A1 v.length (ints v)) (h1r : RdL0 w B1 r) (h1q : Rd w 1 C1 q.length (ints q)) :
    Calls Tryz.prog 6 #[.agg #[.slice A0 g.length c0], .agg #[.slice A1 v.length c1, .slice B1 r.length k1, .slice C1 q.length m1]] w fun e w' => e = .returned (.bool true) ∧ Ext w w' := by
  have E0 := Lib.hid ((((Ext.rfl' w).al (.cells #[.slice A0 g.length c0] 40)).al (.cells #[.slice A1 v.length c1, .slice B1 r.length k1, .slice C1 q.length m1] 42)) : Ext w (World.alloc (World.alloc w (.cells #[.slice A0 g.length c0] 40)) (.cells #[.slice A1 v.length c1, .slice B1 r.length k1, .slice C1 q.length m1] 42)))
  have bigv := h1v.big
  have bigq := h1q.big
  have HZG := Lib.hid (fun w h => l_szGraph A0 c0 g 1048576 w h (Nat.le_refl _))
  have H0 := Lib.hid h0
  have H1v := Lib.hid h1v
  have H1r := Lib.hid h1r
  have H1q := Lib.hid h1q
  clear h0 h1v h1r h1q
  rcases Sg.szL_neg (g.map (fun n => n.f.length)) 1048576 with hs | hs
  · have Hs := Lib.hid hs
    clear hs
    go_enter Tryz.func6, Tryz.ntmps6
    go_wp2_with (go_at_call 16; refine (HZG.out _ (H0.out.ext E0.out)).mono ?_; rintro e w1 ⟨rfl, he1⟩; rw [Hs.out])
    go_ret
    exact ⟨rfl, E0.out.tr he1⟩
  have hto := totN_le g 1048576 hs
  obtain ⟨hgl, hfl, M, hM, hs⟩ := Sg.szL_ok _ _ hs
  have HN := Lib.hid (H0.out.up2 (by simpa using hgl) (by simpa using hfl))
  have Hs := Lib.hid hs
  have hgl2 : g.length ≤ 1048576 := by simpa using hgl
  have Hfl : Hid (∀ n ∈ g, n.f.length ≤ 1048576) := Lib.hid (by simpa using hfl)
  clear hgl hfl hs H0
  have HZX := Lib.hid (fun w h => l_szLazy A1 B1 C1 c1 k1 m1 v q r M w bigv bigq h hM)
  rcases Sg.szZ_neg v r q M with hs | hs
  · have Ht := Lib.hid hs
    clear hs
    go_enter Tryz.func6, Tryz.ntmps6
    go_wp2_with fail
    refine (HZG.out _ (HN.out.to0.ext E0.out)).mono ?_
    rintro e w1 ⟨rfl, he1⟩
    rw [Hs.out]
    have q0 := he1.cellE (show World.cell? (World.alloc (World.alloc w (.cells #[.slice A0 g.length c0] 40)) (.cells #[.slice A1 v.length c1, .slice B1 r.length k1, .slice C1 q.length m1] 42)) ⟨w.heap.size, 0, none⟩ = some (.slice A0 g.length c0) by simp [go_sem])
    have q1 := he1.cellE (show World.cell? (World.alloc (World.alloc w (.cells #[.slice A0 g.length c0] 40)) (.cells #[.slice A1 v.length c1, .slice B1 r.length k1, .slice C1 q.length m1] 42)) ⟨w.heap.size + 1, 0, none⟩ = some (.slice A1 v.length c1) by simp [go_sem])
    have q2 := he1.cellE (show World.cell? (World.alloc (World.alloc w (.cells #[.slice A0 g.length c0] 40)) (.cells #[.slice A1 v.length c1, .slice B1 r.length k1, .slice C1 q.length m1] 42)) ⟨w.heap.size + 1, 1, none⟩ = some (.slice B1 r.length k1) by simp [go_sem])
    have q3 := he1.cellE (show World.cell? (World.alloc (World.alloc w (.cells #[.slice A0 g.length c0] 40)) (.cells #[.slice A1 v.length c1, .slice B1 r.length k1, .slice C1 q.length m1] 42)) ⟨w.heap.size + 1, 2, none⟩ = some (.slice C1 q.length m1) by simp [go_sem])
    go_wp2_with fail
    refine (HZX.out _ (H1r.out.ext (E0.out.tr he1))).mono ?_
    rintro e w2 ⟨rfl, he2⟩
    rw [Ht.out]
    go_wp2
    go_ret
    exact ⟨rfl, (E0.out.tr he1).tr he2⟩
  have htr : totL r ≤ 1048576 := by
    have h3 : 0 ≤ Sg.szE v r M := by
      unfold Sg.szZ at hs
      split at hs
      · assumption
      · omega
    unfold Sg.szE at h3
    split at h3
    · omega
    · have h4 := Sg.szL_sum _ _ h3
      simp only [totL]
      simp only [List.length_map] at h4
      omega
  obtain ⟨hvl, hrl, hrr, hql, M3, hM3, hs3⟩ := Sg.szZ_ok v r q M hs
  have hvl2 : v.length ≤ 1048576 := by omega
  have hrl2 : r.length ≤ 1048576 := by omega
  have Hrr : Hid (∀ l ∈ r, l.length ≤ 1048576) := Lib.hid (fun l hl => by have := hrr l hl; omega)
  have hql2 : q.length ≤ 1048576 := by omega
  have HR := Lib.hid (H1r.out.up3 hrl2 Hrr.out)
  have Ht := Lib.hid hs3
  clear hs hs3 hrr H1r
  have Hsm0 := Lib.hid hsm0
  have HS := Lib.hid hS
  have HI := Lib.hid hI
  clear hS hI hsm0
  have HT0 := Lib.hid (fun w h => l_toGraph A0 c0 g w h)
  have HE0 := Lib.hid (fun A B w h k => l_eqGraph A B g.length g.length g w h k)
  have HM0 := Lib.hid (fun B A hs k w h hk hb => l_markGraph (B := B) A g.length g hs k w h hk hb hgl2)
  have HT1 := Lib.hid (fun w hv hr hq => l_toLazy A1 B1 C1 c1 k1 m1 v q r w hv hvl2 hr hq hql2)
  have HE1 := Lib.hid (fun Av Bv Ar Br Aq Bq w hv kv hr kr hq kq => l_eqLazy Av Bv Ar Br Aq Bq v.length v.length r.length r.length q.length q.length v q r w hv kv hr kr hq kq)
  have HM1 := Lib.hid (fun B A1 A2 A3 hs k w h hk hb => l_markLazy (B := B) A1 A2 A3 v.length r.length q.length v q r hs k w h hk hb hrl2)
  have sm0 := Hsm0.out
  have HRE0 := Lib.hid (fun A B ca cb w h k => l_eqIntS A B ca cb s0 w h k)
  have HRM0 := Lib.hid (fun B A c k w h hk hb => l_markIntS (B := B) A c s0 k w h hk hb)
  have HRH0 := Lib.hid (fun A c k w h hk hb => held_FnExactLazyCells A c s0.length k w h hk hb)
  go_enter Tryz.func6, Tryz.ntmps6
  go_wp2_with fail
  refine (HZG.out _ (HN.out.to0.ext E0.out)).mono ?_
  rintro e w1 ⟨rfl, hX1⟩
  have u1 := Lib.hid ((Ext.rfl' (World.alloc (World.alloc w (.cells #[.slice A0 g.length c0] 40)) (.cells #[.slice A1 v.length c1, .slice B1 r.length k1, .slice C1 q.length m1] 42))).tr hX1)
  have q1_0 := u1.out.cellE (show World.cell? (World.alloc (World.alloc w (.cells #[.slice A0 g.length c0] 40)) (.cells #[.slice A1 v.length c1, .slice B1 r.length k1, .slice C1 q.length m1] 42)) ⟨w.heap.size, 0, none⟩ = some (.slice A0 g.length c0) by simp [go_sem])
  have q1_1 := u1.out.cellE (show World.cell? (World.alloc (World.alloc w (.cells #[.slice A0 g.length c0] 40)) (.cells #[.slice A1 v.length c1, .slice B1 r.length k1, .slice C1 q.length m1] 42)) ⟨w.heap.size + 1, 0, none⟩ = some (.slice A1 v.length c1) by simp [go_sem])
  have q1_2 := u1.out.cellE (show World.cell? (World.alloc (World.alloc w (.cells #[.slice A0 g.length c0] 40)) (.cells #[.slice A1 v.length c1, .slice B1 r.length k1, .slice C1 q.length m1] 42)) ⟨w.heap.size + 1, 1, none⟩ = some (.slice B1 r.length k1) by simp [go_sem])
  have q1_3 := u1.out.cellE (show World.cell? (World.alloc (World.alloc w (.cells #[.slice A0 g.length c0] 40)) (.cells #[.slice A1 v.length c1, .slice B1 r.length k1, .slice C1 q.length m1] 42)) ⟨w.heap.size + 1, 2, none⟩ = some (.slice C1 q.length m1) by simp [go_sem])
  have z1 := u1.out.size
  simp only [World.size_alloc] at z1
  clear hX1 
  have b1_0 := blt q1_0
  have b1_1 := blt q1_1
  rw [Hs.out]
  go_wp2_with fail
  refine (HZX.out _ (HR.out.to0.ext (E0.out.tr u1.out))).mono ?_
  rintro e w2 ⟨rfl, hX2⟩
  have u2 := Lib.hid ((Ext.rfl' w1).tr hX2)
  have q2_0 := u2.out.cellE q1_0
  have q2_1 := u2.out.cellE q1_1
  have q2_2 := u2.out.cellE q1_2
  have q2_3 := u2.out.cellE q1_3
  have z2 := u2.out.size
  clear hX2 q1_0 q1_1 q1_2 q1_3 b1_0 b1_1
  have b2_0 := blt q2_0
  have b2_1 := blt q2_1
  rw [Ht.out]
  go_wp2_with fail
  refine wp_region_held_drew (S := (fun W => W.cell? ⟨w.heap.size, 0, none⟩ = some (.slice A0 g.length c0) ∧ W.cell? ⟨w.heap.size + 1, 0, none⟩ = some (.slice A1 v.length c1) ∧ W.cell? ⟨w.heap.size + 1, 1, none⟩ = some (.slice B1 r.length k1) ∧ W.cell? ⟨w.heap.size + 1, 2, none⟩ = some (.slice C1 q.length m1))) (by kernel_rfl) ?_ (fun hHeld => ?_)
  · exact ⟨((Ext.rfl' _).dr).cellE q2_0, ((Ext.rfl' _).dr).cellE q2_1, ((Ext.rfl' _).dr).cellE q2_2, ((Ext.rfl' _).dr).cellE q2_3⟩
  refine wpAnyH_take (i := 0) (v := ?_) (by simp only [List.getElem?_toArray, List.getElem?_cons_zero]; rfl) (by kernel_rfl) (by kernel_rfl) (by kernel_rfl) (by exact fun _ _ _ h => h) (Or.inl ⟨by kernel_rfl, ?_⟩) (by assumption) ?_
  rotate_left
  · intro w hSw; (try dsimp only at hSw); go_simp; try with_reducible rfl
  try simp only [Act.put, List.setIfInBounds_toArray, List.set_cons_zero, List.set_cons_succ]
  refine wpAnyH_take (i := 2) (v := ?_) (by simp only [List.getElem?_toArray, List.getElem?_cons_succ, List.getElem?_cons_zero]; rfl) (by kernel_rfl) (by kernel_rfl) (by kernel_rfl) (by exact fun _ _ _ h => h) (Or.inl ⟨by kernel_rfl, ?_⟩) (by assumption) ?_
  rotate_left
  · intro w hSw; (try dsimp only at hSw); go_simp; try with_reducible rfl
  try simp only [Act.put, List.setIfInBounds_toArray, List.set_cons_zero, List.set_cons_succ]
  refine wpAnyH_ready (rs := [1]) (by kernel_rfl) (by simp) ?_
  refine AllReadyH.cons rfl (fun K hK => ?_) AllReadyH.nil
  go_simp
  refine (HT0.out _ (HN.out.ext (((E0.out.tr u1.out).tr u2.out).dr))).mono ?_
  rintro e w3 ⟨Xs0, hs0, rfl, ho, hX3⟩
  have u3 := Lib.hid (((Ext.rfl' w2).dr).tr hX3)
  have q3_0 := u3.out.cellE q2_0
  have q3_1 := u3.out.cellE q2_1
  have q3_2 := u3.out.cellE q2_2
  have q3_3 := u3.out.cellE q2_3
  have z3 := u3.out.size
  clear hX3 q2_0 q2_1 q2_2 q2_3 b2_0 b2_1
  have b3_0 := blt q3_0
  have b3_1 := blt q3_1
  have Os0 := Lib.hid (ho)
  clear ho
  try go_wp2_with fail
  refine hK.out _ _ ?_ (fun hHeld2 => ?_)
  · exact ⟨q3_0, q3_1, q3_2, q3_3⟩
  clear hK K hHeld
  have hHeld := hHeld2
  clear hHeld2
  try simp only [Act.put, List.setIfInBounds_toArray, List.set_cons_zero, List.set_cons_succ]
  refine wpAnyH_ready (rs := [3]) (by kernel_rfl) (by simp) ?_
  refine AllReadyH.cons rfl (fun K hK => ?_) AllReadyH.nil
  go_simp
  refine (HT1.out _ (H1v.out.ext (((E0.out.tr u1.out).tr u2.out).tr u3.out)) (HR.out.ext (((E0.out.tr u1.out).tr u2.out).tr u3.out)) (H1q.out.ext (((E0.out.tr u1.out).tr u2.out).tr u3.out))).mono ?_
  rintro e w4 ⟨Xs1, Ys1, Zs1, hs1, rfl, ho, hX4⟩
  have u4 := Lib.hid ((Ext.rfl' w3).tr hX4)
  have q4_0 := u4.out.cellE q3_0
  have q4_1 := u4.out.cellE q3_1
  have q4_2 := u4.out.cellE q3_2
  have q4_3 := u4.out.cellE q3_3
  have z4 := u4.out.size
  clear hX4 q3_0 q3_1 q3_2 q3_3 b3_0 b3_1
  have b4_0 := blt q4_0
  have b4_1 := blt q4_1
  have Os1 := Lib.hid (ho)
  clear ho
  try go_wp2_with fail
  refine hK.out _ _ ?_ (fun hHeld2 => ?_)
  · exact ⟨q4_0, q4_1, q4_2, q4_3⟩
  clear hK K hHeld
  have hHeld := hHeld2
  clear hHeld2
  try simp only [Act.put, List.setIfInBounds_toArray, List.set_cons_zero, List.set_cons_succ]
  refine wpAnyH_ready (rs := [4]) (by kernel_rfl) (by simp) ?_
  refine AllReadyH.cons rfl (fun K hK => ?_) AllReadyH.nil
  go_simp
  refine (HS.out Xs0 g.length Xs1 v.length Ys1 r.length Zs1 q.length _ (OwnN.rdN (OwnD.ext Os0.out ((Ext.rfl' w3).tr u4.out)) hgl2 Hfl.out) (OwnZ.ext Os1.out (Ext.rfl' w4)).v.rd (OwnL.rdLC (OwnZ.ext Os1.out (Ext.rfl' w4)).r hrl2 Hrr.out) (OwnZ.ext Os1.out (Ext.rfl' w4)).q.rd hvl2 hql2).mono ?_
  rintro e w5 ⟨Rw00, dw00, rfl, ho0, hX5⟩
  have u5 := Lib.hid ((Ext.rfl' w4).tr hX5)
  have q5_0 := u5.out.cellE q4_0
  have q5_1 := u5.out.cellE q4_1
  have q5_2 := u5.out.cellE q4_2
  have q5_3 := u5.out.cellE q4_3
  have z5 := u5.out.size
  clear hX5 q4_0 q4_1 q4_2 q4_3 b4_0 b4_1
  have b5_0 := blt q5_0
  have b5_1 := blt q5_1
  have Ow0 := Lib.hid (ho0)
  clear ho0
  try go_wp2_with fail
  refine hK.out _ _ ?_ (fun hHeld2 => ?_)
  · exact ⟨q5_0, q5_1, q5_2, q5_3⟩
  clear hK K hHeld
  have hHeld := hHeld2
  clear hHeld2
  try simp only [Act.put, List.setIfInBounds_toArray, List.set_cons_zero, List.set_cons_succ]
  refine wpAnyH_take (i := 5) (v := ?_) (by simp only [List.getElem?_toArray, List.getElem?_cons_succ, List.getElem?_cons_zero]; rfl) (by kernel_rfl) (by kernel_rfl) (by kernel_rfl) (by exact fun _ _ _ h => h) (Or.inl ⟨by kernel_rfl, ?_⟩) (by assumption) ?_
  rotate_left
  · intro w hSw; (try dsimp only at hSw); go_simp; try with_reducible rfl
  try simp only [Act.put, List.setIfInBounds_toArray, List.set_cons_zero, List.set_cons_succ]
  refine wpAnyH_done (by kernel_rfl) ?_ _
  go_wp2_with fail
  refine (HT0.out _ (HN.out.ext (((((E0.out.tr u1.out).tr u2.out).tr u3.out).tr u4.out).tr u5.out))).mono ?_
  rintro e w6 ⟨Xx0, hx0, rfl, ho, hX6⟩
  have u6 := Lib.hid ((Ext.rfl' w5).tr hX6)
  have q6_0 := u6.out.cellE q5_0
  have q6_1 := u6.out.cellE q5_1
  have q6_2 := u6.out.cellE q5_2
  have q6_3 := u6.out.cellE q5_3
  have z6 := u6.out.size
  clear hX6 q5_0 q5_1 q5_2 q5_3 b5_0 b5_1
  have b6_0 := blt q6_0
  have b6_1 := blt q6_1
  have Ox0 := Lib.hid (ho)
  clear ho
  go_wp2_with fail
  refine (HT1.out _ (H1v.out.ext (((((((E0.out.tr u1.out).tr u2.out).tr u3.out).tr u4.out).tr u5.out).tr u6.out).al (.cells #[.slice Xx0 g.length g.length] 25))) (HR.out.ext (((((((E0.out.tr u1.out).tr u2.out).tr u3.out).tr u4.out).tr u5.out).tr u6.out).al (.cells #[.slice Xx0 g.length g.length] 25))) (H1q.out.ext (((((((E0.out.tr u1.out).tr u2.out).tr u3.out).tr u4.out).tr u5.out).tr u6.out).al (.cells #[.slice Xx0 g.length g.length] 25)))).mono ?_
  rintro e w7 ⟨Xx1, Yx1, Zx1, hx1, rfl, ho, hX7⟩
  have u7 := Lib.hid (((Ext.rfl' w6).al (.cells #[.slice Xx0 g.length g.length] 25)).tr hX7)
  have q7_0 := u7.out.cellE q6_0
  have q7_1 := u7.out.cellE q6_1
  have q7_2 := u7.out.cellE q6_2
  have q7_3 := u7.out.cellE q6_3
  have q7_4 := hX7.cellE (show World.cell? (World.alloc w6 (.cells #[.slice Xx0 g.length g.length] 25)) ⟨w6.heap.size, 0, none⟩ = some (.slice Xx0 g.length g.length) by simp [go_sem])
  have z7 := u7.out.size
  have y7 : w6.heap.size + 1 ≤ w7.heap.size := by have := hX7.size; simpa using this
  clear hX7 q6_0 q6_1 q6_2 q6_3 b6_0 b6_1
  have b7_0 := blt q7_0
  have b7_1 := blt q7_1
  have b7_2 := blt q7_4
  have Ox1 := Lib.hid (ho)
  clear ho
  go_wp2_with fail
  refine (HI.out Xx0 g.length Xx1 v.length Yx1 r.length Zx1 q.length _ (OwnN.rdN (OwnD.ext Ox0.out (((Ext.rfl' w6).tr u7.out).al (.cells #[.slice Xx1 v.length v.length, .slice Yx1 r.length r.length, .slice Zx1 q.length q.length] 47))) hgl2 Hfl.out) (OwnZ.ext Ox1.out ((Ext.rfl' w7).al (.cells #[.slice Xx1 v.length v.length, .slice Yx1 r.length r.length, .slice Zx1 q.length q.length] 47))).v.rd (OwnL.rdLC (OwnZ.ext Ox1.out ((Ext.rfl' w7).al (.cells #[.slice Xx1 v.length v.length, .slice Yx1 r.length r.length, .slice Zx1 q.length q.length] 47))).r hrl2 Hrr.out) (OwnZ.ext Ox1.out ((Ext.rfl' w7).al (.cells #[.slice Xx1 v.length v.length, .slice Yx1 r.length r.length, .slice Zx1 q.length q.length] 47))).q.rd hvl2 hql2).mono ?_
  rintro e w8 ⟨Rg00, dg00, rfl, ho0, hX8⟩
  have u8 := Lib.hid (((Ext.rfl' w7).al (.cells #[.slice Xx1 v.length v.length, .slice Yx1 r.length r.length, .slice Zx1 q.length q.length] 47)).tr hX8)
  have q8_0 := u8.out.cellE q7_0
  have q8_1 := u8.out.cellE q7_1
  have q8_2 := u8.out.cellE q7_2
  have q8_3 := u8.out.cellE q7_3
  have q8_4 := u8.out.cellE q7_4
  have q8_5 := hX8.cellE (show World.cell? (World.alloc w7 (.cells #[.slice Xx1 v.length v.length, .slice Yx1 r.length r.length, .slice Zx1 q.length q.length] 47)) ⟨w7.heap.size, 0, none⟩ = some (.slice Xx1 v.length v.length) by simp [go_sem])
  have q8_6 := hX8.cellE (show World.cell? (World.alloc w7 (.cells #[.slice Xx1 v.length v.length, .slice Yx1 r.length r.length, .slice Zx1 q.length q.length] 47)) ⟨w7.heap.size, 1, none⟩ = some (.slice Yx1 r.length r.length) by simp [go_sem])
  have q8_7 := hX8.cellE (show World.cell? (World.alloc w7 (.cells #[.slice Xx1 v.length v.length, .slice Yx1 r.length r.length, .slice Zx1 q.length q.length] 47)) ⟨w7.heap.size, 2, none⟩ = some (.slice Zx1 q.length q.length) by simp [go_sem])
  have z8 := u8.out.size
  have y8 : w7.heap.size + 1 ≤ w8.heap.size := by have := hX8.size; simpa using this
  clear hX8 q7_0 q7_1 q7_2 q7_3 q7_4 b7_0 b7_1 b7_2
  have b8_0 := blt q8_0
  have b8_1 := blt q8_1
  have b8_2 := blt q8_4
  have b8_3 := blt q8_5
  have Og0 := Lib.hid (ho0)
  clear ho0
  go_wp2_with fail
  refine (HRE0.out Rg00 Rw00 dg00 dw00 _ ((Own.ext Og0.out (Ext.rfl' w8))).rd ((Own.ext Ow0.out ((((Ext.rfl' w5).tr u6.out).tr u7.out).tr u8.out))).rd).mono ?_
  rintro e w9 ⟨rfl, hX9⟩
  have u9 := Lib.hid ((Ext.rfl' w8).tr hX9)
  have q9_0 := u9.out.cellE q8_0
  have q9_1 := u9.out.cellE q8_1
  have q9_2 := u9.out.cellE q8_2
  have q9_3 := u9.out.cellE q8_3
  have q9_4 := u9.out.cellE q8_4
  have q9_5 := u9.out.cellE q8_5
  have q9_6 := u9.out.cellE q8_6
  have q9_7 := u9.out.cellE q8_7
  have z9 := u9.out.size
  clear hX9 q8_0 q8_1 q8_2 q8_3 q8_4 q8_5 q8_6 q8_7 b8_0 b8_1 b8_2 b8_3
  have b9_0 := blt q9_0
  have b9_1 := blt q9_1
  have b9_2 := blt q9_4
  have b9_3 := blt q9_5
  go_wp2_with fail
  have ec := Lib.hid ((Ext.rfl' w9).dr)
  go_region_held3 (fun W => W.cell? ⟨w.heap.size, 0, none⟩ = some (.slice A0 g.length c0) ∧ W.cell? ⟨w6.heap.size, 0, none⟩ = some (.slice Xx0 g.length g.length))
    (first | exact ⟨ec.out.cellE q9_0, ec.out.cellE q9_4⟩ | go_keep)
    (first
      | (go_at_call 19; refine (HT0.out _ (HN.out.ext ((((((((((E0.out.tr u1.out).tr u2.out).tr u3.out).tr u4.out).tr u5.out).tr u6.out).tr u7.out).tr u8.out).tr u9.out).tr ec.out))).mono ?_; rintro e wy0 ⟨Xy0, hy0, rfl, hoy0, hey0⟩; have ed := Lib.hid (ec.out.tr hey0); clear ec; have ec := ed; clear ed)
      | (go_at_call 23; refine (HE0.out Xx0 Xy0 _ (OwnN.rdN (OwnD.ext Ox0.out (((((Ext.rfl' w6).tr u7.out).tr u8.out).tr u9.out).tr ec.out)) hgl2 Hfl.out) (OwnN.rdN hoy0 hgl2 Hfl.out)).mono ?_; rintro e w10 ⟨rfl, hez⟩; have ed := Lib.hid (ec.out.tr hez); clear ec; have ec := ed; clear ed))
  have u10 := Lib.hid ec.out
  clear ec hey0 hez hoy0
  have q10_0 := u10.out.cellE q9_0
  have q10_1 := u10.out.cellE q9_1
  have q10_2 := u10.out.cellE q9_2
  have q10_3 := u10.out.cellE q9_3
  have q10_4 := u10.out.cellE q9_4
  have q10_5 := u10.out.cellE q9_5
  have q10_6 := u10.out.cellE q9_6
  have q10_7 := u10.out.cellE q9_7
  have z10 := u10.out.size
  clear q9_0 q9_1 q9_2 q9_3 q9_4 q9_5 q9_6 q9_7 b9_0 b9_1 b9_2 b9_3
  have b10_0 := blt q10_0
  have b10_1 := blt q10_1
  have b10_2 := blt q10_4
  have b10_3 := blt q10_5
  go_wp2_with fail
  have ec := Lib.hid ((Ext.rfl' w10).dr)
  go_region_held3 (fun W => W.cell? ⟨w.heap.size + 1, 0, none⟩ = some (.slice A1 v.length c1) ∧ W.cell? ⟨w.heap.size + 1, 1, none⟩ = some (.slice B1 r.length k1) ∧ W.cell? ⟨w.heap.size + 1, 2, none⟩ = some (.slice C1 q.length m1) ∧ W.cell? ⟨w7.heap.size, 0, none⟩ = some (.slice Xx1 v.length v.length) ∧ W.cell? ⟨w7.heap.size, 1, none⟩ = some (.slice Yx1 r.length r.length) ∧ W.cell? ⟨w7.heap.size, 2, none⟩ = some (.slice Zx1 q.length q.length))
    (first | exact ⟨ec.out.cellE q10_1, ec.out.cellE q10_2, ec.out.cellE q10_3, ec.out.cellE q10_5, ec.out.cellE q10_6, ec.out.cellE q10_7⟩ | go_keep)
    (first
      | (go_at_call 20; refine (HT1.out _ (H1v.out.ext (((((((((((E0.out.tr u1.out).tr u2.out).tr u3.out).tr u4.out).tr u5.out).tr u6.out).tr u7.out).tr u8.out).tr u9.out).tr u10.out).tr ec.out)) (HR.out.ext (((((((((((E0.out.tr u1.out).tr u2.out).tr u3.out).tr u4.out).tr u5.out).tr u6.out).tr u7.out).tr u8.out).tr u9.out).tr u10.out).tr ec.out)) (H1q.out.ext (((((((((((E0.out.tr u1.out).tr u2.out).tr u3.out).tr u4.out).tr u5.out).tr u6.out).tr u7.out).tr u8.out).tr u9.out).tr u10.out).tr ec.out))).mono ?_; rintro e wy1 ⟨Xy1, Yy1, Zy1, hy1, rfl, hoy1, hey1⟩; have ed := Lib.hid (ec.out.tr hey1); clear ec; have ec := ed; clear ed)
      | (go_at_call 24; refine (HE1.out Xx1 Xy1 Yx1 Yy1 Zx1 Zy1 _ (OwnZ.ext Ox1.out (((((Ext.rfl' w7).tr u8.out).tr u9.out).tr u10.out).tr ec.out)).v.rd hoy1.v.rd (OwnL.rdL (OwnZ.ext Ox1.out (((((Ext.rfl' w7).tr u8.out).tr u9.out).tr u10.out).tr ec.out)).r hrl2 Hrr.out) (OwnL.rdL hoy1.r hrl2 Hrr.out) (OwnZ.ext Ox1.out (((((Ext.rfl' w7).tr u8.out).tr u9.out).tr u10.out).tr ec.out)).q.rd hoy1.q.rd).mono ?_; rintro e w11 ⟨rfl, hez⟩; have ed := Lib.hid (ec.out.tr hez); clear ec; have ec := ed; clear ed))
  have u11 := Lib.hid ec.out
  clear ec hey1 hez hoy1
  have q11_0 := u11.out.cellE q10_0
  have q11_1 := u11.out.cellE q10_1
  have q11_2 := u11.out.cellE q10_2
  have q11_3 := u11.out.cellE q10_3
  have q11_4 := u11.out.cellE q10_4
  have q11_5 := u11.out.cellE q10_5
  have q11_6 := u11.out.cellE q10_6
  have q11_7 := u11.out.cellE q10_7
  have z11 := u11.out.size
  clear q10_0 q10_1 q10_2 q10_3 q10_4 q10_5 q10_6 q10_7 b10_0 b10_1 b10_2 b10_3
  have b11_0 := blt q11_0
  have b11_1 := blt q11_1
  have b11_2 := blt q11_4
  have b11_3 := blt q11_5
  have Hlo0 : Hid (∀ b, (fpD Xx0 hx0 b) → w5.heap.size ≤ b ∧ b < w6.heap.size) := Lib.hid (fun b hb => by have := (Ox0.out.lt hb); (try simp only [World.size_alloc] at this); exact this)
  have Hlo1 : Hid (∀ b, (fpZ Xx1 Yx1 Zx1 hx1 b) → w6.heap.size + 1 ≤ b ∧ b < w7.heap.size) := Lib.hid (fun b hb => by have := (Ox1.out.lt hb); (try simp only [World.size_alloc] at this); exact this)
  have HloG0 : Hid (∀ b, (blk Rg00 = some b) → w7.heap.size + 1 ≤ b ∧ b < w8.heap.size) := Lib.hid (fun b hb => by have := (Og0.out.lt hb); (try simp only [World.size_alloc] at this); exact this)
  have Ox1_a0 := Lib.hid (OwnZ.ext Ox1.out (((((Ext.rfl' w7).tr u8.out).tr u9.out).tr u10.out).tr u11.out))
  have Og0_a0 := Lib.hid (Own.ext Og0.out ((((Ext.rfl' w8).tr u9.out).tr u10.out).tr u11.out))
  go_wp2_with fail
  refine (HM0.out _ Xx0 hx0 (1) _ (OwnD.ext Ox0.out ((((((Ext.rfl' w6).tr u7.out).tr u8.out).tr u9.out).tr u10.out).tr u11.out)) (by omega) (by omega)).mono ?_
  rintro e w12 ⟨rfl, ho, hX12⟩
  have u12 := Lib.hid hX12
  have v12 := Lib.hid (fun b hb => Hlo0.out b hb)
  have q12_0 := u12.out.cellE q11_0 (by intro e; have := v12.out _ e; omega)
  have q12_1 := u12.out.cellE q11_1 (by intro e; have := v12.out _ e; omega)
  have q12_2 := u12.out.cellE q11_2 (by intro e; have := v12.out _ e; omega)
  have q12_3 := u12.out.cellE q11_3 (by intro e; have := v12.out _ e; omega)
  have q12_4 := u12.out.cellE q11_4 (by intro e; have := v12.out _ e; omega)
  have q12_5 := u12.out.cellE q11_5 (by intro e; have := v12.out _ e; omega)
  have q12_6 := u12.out.cellE q11_6 (by intro e; have := v12.out _ e; omega)
  have q12_7 := u12.out.cellE q11_7 (by intro e; have := v12.out _ e; omega)
  have z12 := u12.out.size
  clear hX12 q11_0 q11_1 q11_2 q11_3 q11_4 q11_5 q11_6 q11_7 b11_0 b11_1 b11_2 b11_3
  have b12_0 := blt q12_0
  have b12_1 := blt q12_1
  have b12_2 := blt q12_4
  have b12_3 := blt q12_5
  clear ho
  have Ox1_a0_m0 := Lib.hid (OwnZ.mod Ox1_a0.out u12.out (fun b hb e => by have h1 := v12.out b e; have h2 := (Ox1_a0.out.lt hb); (try simp only [World.size_alloc] at h2); omega))
  have Og0_a0_m0 := Lib.hid (Own.mod Og0_a0.out u12.out (fun b hb e => by have h1 := v12.out b e; have h2 := (HloG0.out b hb); (try simp only [World.size_alloc] at h2); omega))
  have Og0_a0_m0_a1 := Lib.hid (Own.ext Og0_a0_m0.out (Ext.rfl' w12))
  go_wp2_with fail
  refine (HM1.out _ Xx1 Yx1 Zx1 hx1 (1 + (totN g : Int)) _ (OwnZ.ext Ox1_a0_m0.out (Ext.rfl' w12)) (by omega) (by omega)).mono ?_
  rintro e w13 ⟨rfl, ho, ho2, ho3, hX13⟩
  have u13 := Lib.hid hX13
  have v13 := Lib.hid (fun b hb => Hlo1.out b hb)
  have q13_0 := u13.out.cellE q12_0 (by intro e; have := v13.out _ e; omega)
  have q13_1 := u13.out.cellE q12_1 (by intro e; have := v13.out _ e; omega)
  have q13_2 := u13.out.cellE q12_2 (by intro e; have := v13.out _ e; omega)
  have q13_3 := u13.out.cellE q12_3 (by intro e; have := v13.out _ e; omega)
  have q13_4 := u13.out.cellE q12_4 (by intro e; have := v13.out _ e; omega)
  have q13_5 := u13.out.cellE q12_5 (by intro e; have := v13.out _ e; omega)
  have q13_6 := u13.out.cellE q12_6 (by intro e; have := v13.out _ e; omega)
  have q13_7 := u13.out.cellE q12_7 (by intro e; have := v13.out _ e; omega)
  have z13 := u13.out.size
  clear hX13 q12_0 q12_1 q12_2 q12_3 q12_4 q12_5 q12_6 q12_7 b12_0 b12_1 b12_2 b12_3
  have b13_0 := blt q13_0
  have b13_1 := blt q13_1
  have b13_2 := blt q13_4
  have b13_3 := blt q13_5
  clear ho ho2 ho3
  have Og0_a0_m0_a1_m1 := Lib.hid (Own.mod Og0_a0_m0_a1.out u13.out (fun b hb e => by have h1 := v13.out b e; have h2 := (HloG0.out b hb); (try simp only [World.size_alloc] at h2); omega))
  have kneg : decide (1 + (totN g : Int) + (v.length : Int) + (totL r : Int) + (q.length : Int) < 0) = false := by simp; omega
  go_wp2_with fail
  refine (HRE0.out Rg00 Rw00 dg00 dw00 _ ((Own.ext Og0_a0_m0_a1_m1.out (Ext.rfl' w13))).rd ((Own.ext Ow0.out (Ext.md (Ext.md (((((((Ext.rfl' w5).tr u6.out).tr u7.out).tr u8.out).tr u9.out).tr u10.out).tr u11.out) u12.out (fun b hb => by have := v12.out b hb; omega)) u13.out (fun b hb => by have := v13.out b hb; omega)))).rd).mono ?_
  rintro e w14 ⟨rfl, hX14⟩
  have u14 := Lib.hid ((Ext.rfl' w13).tr hX14)
  have q14_0 := u14.out.cellE q13_0
  have q14_1 := u14.out.cellE q13_1
  have q14_2 := u14.out.cellE q13_2
  have q14_3 := u14.out.cellE q13_3
  have q14_4 := u14.out.cellE q13_4
  have q14_5 := u14.out.cellE q13_5
  have q14_6 := u14.out.cellE q13_6
  have q14_7 := u14.out.cellE q13_7
  have z14 := u14.out.size
  clear hX14 q13_0 q13_1 q13_2 q13_3 q13_4 q13_5 q13_6 q13_7 b13_0 b13_1 b13_2 b13_3
  have b14_0 := blt q14_0
  have b14_1 := blt q14_1
  have b14_2 := blt q14_4
  have b14_3 := blt q14_5
  have Og0_a0_m0_a1_m1_b0 := Lib.hid (Own.ext Og0_a0_m0_a1_m1.out ((Ext.rfl' w13).tr u14.out))
  go_wp2_with fail
  refine (HRM0.out _ Rg00 dg00 (1) _ Og0_a0_m0_a1_m1_b0.out (by omega) (by omega)).mono ?_
  rintro e w15 ⟨rfl, hv0, hX15⟩
  have u15 := Lib.hid hX15
  have v15 := Lib.hid (HloG0.out)
  have q15_0 := u15.out.cellE q14_0 (by intro e; have := v15.out _ e; omega)
  have q15_1 := u15.out.cellE q14_1 (by intro e; have := v15.out _ e; omega)
  have q15_2 := u15.out.cellE q14_2 (by intro e; have := v15.out _ e; omega)
  have q15_3 := u15.out.cellE q14_3 (by intro e; have := v15.out _ e; omega)
  have q15_4 := u15.out.cellE q14_4 (by intro e; have := v15.out _ e; omega)
  have q15_5 := u15.out.cellE q14_5 (by intro e; have := v15.out _ e; omega)
  have q15_6 := u15.out.cellE q14_6 (by intro e; have := v15.out _ e; omega)
  have q15_7 := u15.out.cellE q14_7 (by intro e; have := v15.out _ e; omega)
  have z15 := u15.out.size
  clear hX15 q14_0 q14_1 q14_2 q14_3 q14_4 q14_5 q14_6 q14_7 b14_0 b14_1 b14_2 b14_3
  have b15_0 := blt q15_0
  have b15_1 := blt q15_1
  have b15_2 := blt q15_4
  have b15_3 := blt q15_5
  have Mv0 := Lib.hid hv0
  clear hv0
  have mne : ((1 + (s0.length : Int)) != (1 + (s0.length : Int))) = false := by simp
  have mge : decide ((1 + (s0.length : Int)) < 0) = false := by simp; omega
  go_wp2_with fail
  refine (HRH0.out Rg00 dg00 (1) _ (Own.ext Mv0.out (Ext.rfl' w15)).rd (by omega) (by omega)).mono ?_
  rintro e w16 ⟨rfl, hX16⟩
  have u16 := Lib.hid ((Ext.rfl' w15).tr hX16)
  have q16_0 := u16.out.cellE q15_0
  have q16_1 := u16.out.cellE q15_1
  have q16_2 := u16.out.cellE q15_2
  have q16_3 := u16.out.cellE q15_3
  have q16_4 := u16.out.cellE q15_4
  have q16_5 := u16.out.cellE q15_5
  have q16_6 := u16.out.cellE q15_6
  have q16_7 := u16.out.cellE q15_7
  have z16 := u16.out.size
  clear hX16 q15_0 q15_1 q15_2 q15_3 q15_4 q15_5 q15_6 q15_7 b15_0 b15_1 b15_2 b15_3
  have b16_0 := blt q16_0
  have b16_1 := blt q16_1
  have b16_2 := blt q16_4
  have b16_3 := blt q16_5
  go_wp2_with fail
  refine wp_region_held_drew (S := (fun W => W.cell? ⟨w.heap.size, 0, none⟩ = some (.slice A0 g.length c0) ∧ W.cell? ⟨w.heap.size + 1, 0, none⟩ = some (.slice A1 v.length c1) ∧ W.cell? ⟨w.heap.size + 1, 1, none⟩ = some (.slice B1 r.length k1) ∧ W.cell? ⟨w.heap.size + 1, 2, none⟩ = some (.slice C1 q.length m1))) (by kernel_rfl) ?_ (fun hHeld => ?_)
  · exact ⟨((Ext.rfl' _).dr).cellE q16_0, ((Ext.rfl' _).dr).cellE q16_1, ((Ext.rfl' _).dr).cellE q16_2, ((Ext.rfl' _).dr).cellE q16_3⟩
  refine wpAnyH_take (i := 0) (v := ?_) (by simp only [List.getElem?_toArray, List.getElem?_cons_zero]; rfl) (by kernel_rfl) (by kernel_rfl) (by kernel_rfl) (by exact fun _ _ _ h => h) (Or.inl ⟨by kernel_rfl, ?_⟩) (by assumption) ?_
  rotate_left
  · intro w hSw; (try dsimp only at hSw); go_simp; try with_reducible rfl
  try simp only [Act.put, List.setIfInBounds_toArray, List.set_cons_zero, List.set_cons_succ]
  refine wpAnyH_take (i := 2) (v := ?_) (by simp only [List.getElem?_toArray, List.getElem?_cons_succ, List.getElem?_cons_zero]; rfl) (by kernel_rfl) (by kernel_rfl) (by kernel_rfl) (by exact fun _ _ _ h => h) (Or.inl ⟨by kernel_rfl, ?_⟩) (by assumption) ?_
  rotate_left
  · intro w hSw; (try dsimp only at hSw); go_simp; try with_reducible rfl
  try simp only [Act.put, List.setIfInBounds_toArray, List.set_cons_zero, List.set_cons_succ]
  refine wpAnyH_ready (rs := [1]) (by kernel_rfl) (by simp) ?_
  refine AllReadyH.cons rfl (fun K hK => ?_) AllReadyH.nil
  go_simp
  refine (HT0.out _ (HN.out.ext (((Ext.md ((Ext.md (Ext.md (((((((((((E0.out.tr u1.out).tr u2.out).tr u3.out).tr u4.out).tr u5.out).tr u6.out).tr u7.out).tr u8.out).tr u9.out).tr u10.out).tr u11.out) u12.out (fun b hb => by have := v12.out b hb; omega)) u13.out (fun b hb => by have := v13.out b hb; omega)).tr u14.out) u15.out (fun b hb => by have := v15.out b hb; omega)).tr u16.out).dr))).mono ?_
  rintro e w17 ⟨Xz0, hz0, rfl, ho, hX17⟩
  have u17 := Lib.hid (((Ext.rfl' w16).dr).tr hX17)
  have q17_0 := u17.out.cellE q16_0
  have q17_1 := u17.out.cellE q16_1
  have q17_2 := u17.out.cellE q16_2
  have q17_3 := u17.out.cellE q16_3
  have q17_4 := u17.out.cellE q16_4
  have q17_5 := u17.out.cellE q16_5
  have q17_6 := u17.out.cellE q16_6
  have q17_7 := u17.out.cellE q16_7
  have z17 := u17.out.size
  clear hX17 q16_0 q16_1 q16_2 q16_3 q16_4 q16_5 q16_6 q16_7 b16_0 b16_1 b16_2 b16_3
  have b17_0 := blt q17_0
  have b17_1 := blt q17_1
  have b17_2 := blt q17_4
  have b17_3 := blt q17_5
  have Oz0 := Lib.hid (ho)
  clear ho
  try go_wp2_with fail
  refine hK.out _ _ ?_ (fun hHeld2 => ?_)
  · exact ⟨q17_0, q17_1, q17_2, q17_3⟩
  clear hK K hHeld
  have hHeld := hHeld2
  clear hHeld2
  try simp only [Act.put, List.setIfInBounds_toArray, List.set_cons_zero, List.set_cons_succ]
  refine wpAnyH_ready (rs := [3]) (by kernel_rfl) (by simp) ?_
  refine AllReadyH.cons rfl (fun K hK => ?_) AllReadyH.nil
  go_simp
  refine (HT1.out _ (H1v.out.ext (((Ext.md ((Ext.md (Ext.md (((((((((((E0.out.tr u1.out).tr u2.out).tr u3.out).tr u4.out).tr u5.out).tr u6.out).tr u7.out).tr u8.out).tr u9.out).tr u10.out).tr u11.out) u12.out (fun b hb => by have := v12.out b hb; omega)) u13.out (fun b hb => by have := v13.out b hb; omega)).tr u14.out) u15.out (fun b hb => by have := v15.out b hb; omega)).tr u16.out).tr u17.out)) (HR.out.ext (((Ext.md ((Ext.md (Ext.md (((((((((((E0.out.tr u1.out).tr u2.out).tr u3.out).tr u4.out).tr u5.out).tr u6.out).tr u7.out).tr u8.out).tr u9.out).tr u10.out).tr u11.out) u12.out (fun b hb => by have := v12.out b hb; omega)) u13.out (fun b hb => by have := v13.out b hb; omega)).tr u14.out) u15.out (fun b hb => by have := v15.out b hb; omega)).tr u16.out).tr u17.out)) (H1q.out.ext (((Ext.md ((Ext.md (Ext.md (((((((((((E0.out.tr u1.out).tr u2.out).tr u3.out).tr u4.out).tr u5.out).tr u6.out).tr u7.out).tr u8.out).tr u9.out).tr u10.out).tr u11.out) u12.out (fun b hb => by have := v12.out b hb; omega)) u13.out (fun b hb => by have := v13.out b hb; omega)).tr u14.out) u15.out (fun b hb => by have := v15.out b hb; omega)).tr u16.out).tr u17.out))).mono ?_
  rintro e w18 ⟨Xz1, Yz1, Zz1, hz1, rfl, ho, hX18⟩
  have u18 := Lib.hid ((Ext.rfl' w17).tr hX18)
  have q18_0 := u18.out.cellE q17_0
  have q18_1 := u18.out.cellE q17_1
  have q18_2 := u18.out.cellE q17_2
  have q18_3 := u18.out.cellE q17_3
  have q18_4 := u18.out.cellE q17_4
  have q18_5 := u18.out.cellE q17_5
  have q18_6 := u18.out.cellE q17_6
  have q18_7 := u18.out.cellE q17_7
  have z18 := u18.out.size
  clear hX18 q17_0 q17_1 q17_2 q17_3 q17_4 q17_5 q17_6 q17_7 b17_0 b17_1 b17_2 b17_3
  have b18_0 := blt q18_0
  have b18_1 := blt q18_1
  have b18_2 := blt q18_4
  have b18_3 := blt q18_5
  have Oz1 := Lib.hid (ho)
  clear ho
  try go_wp2_with fail
  refine hK.out _ _ ?_ (fun hHeld2 => ?_)
  · exact ⟨q18_0, q18_1, q18_2, q18_3⟩
  clear hK K hHeld
  have hHeld := hHeld2
  clear hHeld2
  try simp only [Act.put, List.setIfInBounds_toArray, List.set_cons_zero, List.set_cons_succ]
  refine wpAnyH_ready (rs := [4]) (by kernel_rfl) (by simp) ?_
  refine AllReadyH.cons rfl (fun K hK => ?_) AllReadyH.nil
  go_simp
  refine (HI.out Xz0 g.length Xz1 v.length Yz1 r.length Zz1 q.length _ (OwnN.rdN (OwnD.ext Oz0.out ((Ext.rfl' w17).tr u18.out)) hgl2 Hfl.out) (OwnZ.ext Oz1.out (Ext.rfl' w18)).v.rd (OwnL.rdLC (OwnZ.ext Oz1.out (Ext.rfl' w18)).r hrl2 Hrr.out) (OwnZ.ext Oz1.out (Ext.rfl' w18)).q.rd hvl2 hql2).mono ?_
  rintro e w19 ⟨Rh00, dh00, rfl, ho0, hX19⟩
  have u19 := Lib.hid ((Ext.rfl' w18).tr hX19)
  have q19_0 := u19.out.cellE q18_0
  have q19_1 := u19.out.cellE q18_1
  have q19_2 := u19.out.cellE q18_2
  have q19_3 := u19.out.cellE q18_3
  have q19_4 := u19.out.cellE q18_4
  have q19_5 := u19.out.cellE q18_5
  have q19_6 := u19.out.cellE q18_6
  have q19_7 := u19.out.cellE q18_7
  have z19 := u19.out.size
  clear hX19 q18_0 q18_1 q18_2 q18_3 q18_4 q18_5 q18_6 q18_7 b18_0 b18_1 b18_2 b18_3
  have b19_0 := blt q19_0
  have b19_1 := blt q19_1
  have b19_2 := blt q19_4
  have b19_3 := blt q19_5
  have Oh0 := Lib.hid (ho0)
  clear ho0
  try go_wp2_with fail
  refine hK.out _ _ ?_ (fun hHeld2 => ?_)
  · exact ⟨q19_0, q19_1, q19_2, q19_3⟩
  clear hK K hHeld
  have hHeld := hHeld2
  clear hHeld2
  try simp only [Act.put, List.setIfInBounds_toArray, List.set_cons_zero, List.set_cons_succ]
  refine wpAnyH_take (i := 5) (v := ?_) (by simp only [List.getElem?_toArray, List.getElem?_cons_succ, List.getElem?_cons_zero]; rfl) (by kernel_rfl) (by kernel_rfl) (by kernel_rfl) (by exact fun _ _ _ h => h) (Or.inl ⟨by kernel_rfl, ?_⟩) (by assumption) ?_
  rotate_left
  · intro w hSw; (try dsimp only at hSw); go_simp; try with_reducible rfl
  try simp only [Act.put, List.setIfInBounds_toArray, List.set_cons_zero, List.set_cons_succ]
  refine wpAnyH_done (by kernel_rfl) ?_ _
  go_wp2_with fail
  refine (HRE0.out Rh00 Rw00 dh00 dw00 _ ((Own.ext Oh0.out (Ext.rfl' w19))).rd ((Own.ext Ow0.out (((((Ext.md ((Ext.md (Ext.md (((((((Ext.rfl' w5).tr u6.out).tr u7.out).tr u8.out).tr u9.out).tr u10.out).tr u11.out) u12.out (fun b hb => by have := v12.out b hb; omega)) u13.out (fun b hb => by have := v13.out b hb; omega)).tr u14.out) u15.out (fun b hb => by have := v15.out b hb; omega)).tr u16.out).tr u17.out).tr u18.out).tr u19.out))).rd).mono ?_
  rintro e w20 ⟨rfl, hX20⟩
  have u20 := Lib.hid ((Ext.rfl' w19).tr hX20)
  have q20_0 := u20.out.cellE q19_0
  have q20_1 := u20.out.cellE q19_1
  have q20_2 := u20.out.cellE q19_2
  have q20_3 := u20.out.cellE q19_3
  have q20_4 := u20.out.cellE q19_4
  have q20_5 := u20.out.cellE q19_5
  have q20_6 := u20.out.cellE q19_6
  have q20_7 := u20.out.cellE q19_7
  have z20 := u20.out.size
  clear hX20 q19_0 q19_1 q19_2 q19_3 q19_4 q19_5 q19_6 q19_7 b19_0 b19_1 b19_2 b19_3
  have b20_0 := blt q20_0
  have b20_1 := blt q20_1
  have b20_2 := blt q20_4
  have b20_3 := blt q20_5
  go_wp2_with fail
  refine (HRH0.out Rg00 dg00 (1) _ (Own.ext Mv0.out ((((((Ext.rfl' w15).tr u16.out).tr u17.out).tr u18.out).tr u19.out).tr u20.out)).rd (by omega) (by omega)).mono ?_
  rintro e w21 ⟨rfl, hX21⟩
  have u21 := Lib.hid ((Ext.rfl' w20).tr hX21)
  have q21_0 := u21.out.cellE q20_0
  have q21_1 := u21.out.cellE q20_1
  have q21_2 := u21.out.cellE q20_2
  have q21_3 := u21.out.cellE q20_3
  have q21_4 := u21.out.cellE q20_4
  have q21_5 := u21.out.cellE q20_5
  have q21_6 := u21.out.cellE q20_6
  have q21_7 := u21.out.cellE q20_7
  have z21 := u21.out.size
  clear hX21 q20_0 q20_1 q20_2 q20_3 q20_4 q20_5 q20_6 q20_7 b20_0 b20_1 b20_2 b20_3
  have b21_0 := blt q21_0
  have b21_1 := blt q21_1
  have b21_2 := blt q21_4
  have b21_3 := blt q21_5
  go_wp2
  go_ret
  exact ⟨rfl, (((((((Ext.md ((Ext.md (Ext.md (((((((((((E0.out.tr u1.out).tr u2.out).tr u3.out).tr u4.out).tr u5.out).tr u6.out).tr u7.out).tr u8.out).tr u9.out).tr u10.out).tr u11.out) u12.out (fun b hb => by have := v12.out b hb; omega)) u13.out (fun b hb => by have := v13.out b hb; omega)).tr u14.out) u15.out (fun b hb => by have := v15.out b hb; omega)).tr u16.out).tr u17.out).tr u18.out).tr u19.out).tr u20.out).tr u21.out)⟩
end Go.Proofs.YtkbihkggneaeeaaGreat
