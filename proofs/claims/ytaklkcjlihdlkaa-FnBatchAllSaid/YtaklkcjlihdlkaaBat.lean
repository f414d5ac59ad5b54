/- FnBatchAll: sessions in one batch, on both sides; the law's walk. Conditions: the code can be read. -/
import Derived.Test.YtaklkcjlihdlkaaDrawX
import Derived.Test.YtaklkcjlihdlkaaSesP
import Derived.Test.YtaklkcjlihdlkaaPlB
import Derived.Deep.DeepCutAuto
namespace Go.Proofs.Ytaklkcjlihdlkaa
open Go.RowKit

theorem i_ClipA (A : Option Addr) (n c : Nat) (w : World) (h : n ≤ c) (_hm : c ≤ maxLen) : Calls Try.prog 11 #[.slice A n c] w fun e w' => e = .returned (.slice A n n) ∧ w = w' := by
 unfold maxLen at _hm
 go_enter Try.func11, Try.ntmps11
 go_wp2
 go_ret
 exact ⟨rfl, rfl⟩
/-- the session in one batch, up to the k-th act -/
def batTo (l : List Sg.Act) (k : Nat) : List Sg.Act := (⟨2, 0, 0⟩ : Sg.Act) :: Sg.midB (l.take k)
theorem batTo_succ (l : List Sg.Act) {k : Nat} {a : Sg.Act} (h : l[k]? = some a) : batTo l (k + 1) = if a.kind ≠ 2 ∧ a.kind ≠ 3 then batTo l k ++ [a] else batTo l k := by
 unfold batTo Sg.midB
 rw [take_snoc l k h, List.filter_append]
 by_cases h2 : a.kind = 2 <;> by_cases h3 : a.kind = 3 <;> simp [h2, h3]
theorem batTo_len (l : List Sg.Act) (k : Nat) : (batTo l k).length ≤ k + 1 := by
 unfold batTo Sg.midB
 have := List.length_filter_le (fun a : Sg.Act => decide (a.kind ≠ 2) && decide (a.kind ≠ 3)) (l.take k)
 rw [List.length_take] at this
 simp only [List.length_cons]
 omega
theorem batTo_all (l : List Sg.Act) : batTo l l.length ++ [⟨3, 0, 0⟩] = Sg.wholeB l := by unfold batTo Sg.wholeB; rw [List.take_length, List.cons_append]
theorem own_one (w : World) (B : Nat) (hB : B ≤ w.heap.size) : Own (w.alloc (.cells #[.int .i64 2, .int .i64 0, .int .i64 0] 39)) B 39 3 (some ⟨w.heap.size, 0, none⟩) 1 1 (acts [⟨2, 0, 0⟩]) := Own.new w (B := B) 39 3 #[.int .i64 2, .int .i64 0, .int .i64 0] 1 hB (by unfold maxLen; omega) rfl

set_option maxRecDepth 100000 in
set_option maxHeartbeats 8000000 in
theorem i_BatchAll (A Al : Option Addr) (c cl : Nat) (g : Sg.Graph) (l : List Sg.Act) (w : World) (h : RdN w A g) (hl : Rd w 3 Al l.length (acts l)) :
  Calls Try.prog 5 #[.agg #[.slice A g.length c], .slice Al l.length cl] w fun e w' => ∃ A1 c1, e = .returned (.slice A1 (Sg.batchS g l).length c1) ∧ Own w' w.heap.size 39 3 A1 (Sg.batchS g l).length c1 (acts (Sg.batchS g l)) ∧ Ext w w' := by
 have H := lh h
 have HL := lh hl
 have EB := lh ((Ext.rfl' w).al (.cells #[.slice A g.length c] 25))
 have q0 : World.cell? (World.alloc w (.cells #[.slice A g.length c] 25)) ⟨w.heap.size, 0, none⟩ = some (.slice A g.length c) := by simp [go_sem]
 have HV := lh (i_ValidActs A Al c cl g l)
 have hbl := hl.big
 clear h hl
 go_enter Try.func5, Try.ntmps5
 cases hA : Sg.validA g l
 ·have HA := lh hA
  have HE := lh (show Sg.batchS g l = [] by unfold Sg.batchS; rw [hA]; rfl)
  clear hA
  rw [HE.out]
  go_wp2_with fail
  refine (HV.out _ (H.out.ext EB.out) (HL.out.ext EB.out)).mono ?_
  rintro e w1 ⟨rfl, he1⟩
  rw [HA.out]
  go_wp2
  go_ret
  exact ⟨none, 0, rfl, Own.nil _ _ _ _, EB.out.tr he1⟩
 have HA := lh hA
 have hl30 : l.length ≤ 30 := by unfold Sg.validA at hA; simp only [Bool.and_eq_true, decide_eq_true_eq] at hA; exact hA.2
 clear hA
 go_wp2_with fail
 refine (HV.out _ (H.out.ext EB.out) (HL.out.ext EB.out)).mono ?_
 rintro e w1 ⟨rfl, he1⟩
 rw [HA.out]
 have E1 := lh (EB.out.tr he1)
 have O1 := lh (own_one w1 w.heap.size E1.out.size)
 have X1 := lh (E1.out.al (.cells #[.int .i64 2, .int .i64 0, .int .i64 0] 39))
 have HS := lh (fun k a h => batTo_succ l (k := k) (a := a) h)
 have HN := lh (batTo_len l)
 have HW := lh (batTo_all l)
 have H0 := lh (show batTo l 0 = [⟨2, 0, 0⟩] from rfl)
 generalize batTo l = V at *
 clear he1 EB q0 E1
 go_wp2_with fail
 go_loopw [5, 16] (fun s5 i wr => ∃ (k : Nat) (A1 : Option Addr) (c1 : Nat), k ≤ l.length ∧ i = .int .i64 k ∧ s5 = .slice A1 (V k).length c1 ∧ Hid (Own wr w.heap.size 39 3 A1 (V k).length c1 (acts (V k))) ∧ Hid (Ext w wr)) (fun _ i _ => l.length - (intOf i).toNat)
 case atStart => exact ⟨0, _, 1, Nat.zero_le _, rfl, by rw [H0.out]; rfl, lh (by rw [H0.out]; exact O1.out), X1⟩
 case round =>
  clear O1 X1 H0
  obtain ⟨k, A1, c1, hk, rfl, rfl, hO, hX⟩ := hrel
  have hn := HN.out k
  have hsz := hX.out.size
  by_cases hlt : k < l.length
  ·obtain ⟨bo, oo, ⟨ak, an, av⟩, rfl, ha, hc0, hc1, hc2⟩ := (HL.out.ext hX.out).atA hlt
   dsimp only at *
   have hs := HS.out k _ ha
   dsimp only at hs
   have bc0 := blt hc0
   have bc1 := blt hc1
   have bc2 := blt hc2
   have hkx : (k : Int) < (l.length : Int) := by omega
   clear ha
   have EA := lh ((Ext.rfl' wr).al (.cells #[.int .i64 ak, .int .i64 an, .int .i64 av] 39))
   by_cases h2 : ak = 2
   ·subst h2
    rw [if_neg (by simp)] at hs
    have Hs := lh hs
    clear hs
    go_wp2
    go_roundw
    case rel => exact ⟨k + 1, A1, c1, by omega, by go_num, by rw [Hs.out], lh (by rw [Hs.out]; exact hO.out.ext EA.out), lh (hX.out.tr EA.out)⟩
    case measure => simp [intOf]; omega
   by_cases h3 : ak = 3
   ·subst h3
    rw [if_neg (by simp)] at hs
    have Hs := lh hs
    clear hs
    go_wp2
    go_roundw
    case rel => exact ⟨k + 1, A1, c1, by omega, by go_num, by rw [Hs.out], lh (by rw [Hs.out]; exact hO.out.ext EA.out), lh (hX.out.tr EA.out)⟩
    case measure => simp [intOf]; omega
   rw [if_pos ⟨h2, h3⟩] at hs
   have Hs := lh hs
   have y2 : (ak != 2) = true := by simp [h2]
   have y3 : (ak != 3) = true := by simp [h3]
   clear hs
   go_wp2_with (at_builtin; refine wpList_app1 (cs := [.int .i64 ak, .int .i64 an, .int .i64 av]) rfl rfl eiAct rfl (hO.out.ext EA.out) (Eq.trans (b := .slice (some ⟨wr.heap.size + 1, 0, none⟩) 1 1) rfl (by simp [go_sem])) rfl (one_acs ⟨ak, an, av⟩) (by omega) (by omega) (by have := EA.out.size; omega) ?_; intro A9 c9 w9 ho9 hg9 hat9; have X9 := lh ((hX.out.tr EA.out).gr hg9 fun x hx => (hO.out.lt hx).1); have H9 := lh ho9; clear ho9 hg9 hat9)
   have O9 := lh (show Own w9 w.heap.size 39 3 A9 (V (k + 1)).length c9 (acts (V (k + 1))) from by rw [Hs.out, List.length_append, ← acts_snoc]; exact H9.out)
   go_roundw
   case rel => exact ⟨k + 1, A9, c9, by omega, by go_num, by rw [Hs.out]; simp, O9, X9⟩
   case measure => simp [intOf]; omega
  ·obtain rfl : k = l.length := by omega
   have hw := HW.out
   obtain ⟨wz, rfl⟩ : ∃ wz : World, wz = wr := ⟨_, rfl⟩
   have hwl : (Sg.wholeB l).length = (V l.length).length + 1 := by rw [← hw]; simp
   have HWL := lh hwl
   clear hw hwl
   by_cases h30 : (V l.length).length + 1 ≤ 30
   ·have z0 : ¬ (30 : Int) < ((V l.length).length : Int) + 1 := by omega
    have HB := lh (show Sg.batchS g l = Sg.wholeB l by unfold Sg.batchS; rw [if_pos ⟨HA.out, by rw [HWL.out]; exact h30⟩])
    go_upto_region 11 with (at_builtin; refine wpList_app1 (cs := [.int .i64 3, .int .i64 0, .int .i64 0]) rfl rfl eiAct rfl hO.out rfl rfl (one_acs ⟨3, 0, 0⟩) (by omega) (by omega) (by omega) ?_; intro A9 c9 w9 ho9 hg9 hat9)
    have X9 := lh (hX.out.gr hg9 fun x hx => (hO.out.lt hx).1)
    have O9 := lh (show Own w9 w.heap.size 39 3 A9 (Sg.wholeB l).length c9 (acts (Sg.wholeB l)) from by rw [HWL.out, ← HW.out, ← acts_snoc]; exact ho9)
    have hcap := And.intro O9.out.2.1 O9.out.2.2.1
    rw [HWL.out] at hcap
    clear ho9 hg9 hat9
    go_wp2_with fail
    refine (i_ClipA _ _ _ _ hcap.1 hcap.2).mono ?_
    rintro e w' ⟨rfl, rfl⟩
    go_wp2
    go_ret
    rw [HB.out]
    exact ⟨A9, (V l.length).length + 1, by rw [HWL.out]; rfl, by have := O9.out.clip; rw [HWL.out] at this ⊢; exact this, X9.out⟩
   ·have z0 : (30 : Int) < ((V l.length).length : Int) + 1 := by omega
    have HB := lh (show Sg.batchS g l = [] by unfold Sg.batchS; rw [if_neg (fun e => h30 (by have := e.2; rw [HWL.out] at this; exact this))])
    go_upto_region 11 with (at_builtin; refine wpList_app1 (cs := [.int .i64 3, .int .i64 0, .int .i64 0]) rfl rfl eiAct rfl hO.out rfl rfl (one_acs ⟨3, 0, 0⟩) (by omega) (by omega) (by omega) ?_; intro A9 c9 w9 ho9 hg9 hat9)
    have X9 := lh (hX.out.gr hg9 fun x hx => (hO.out.lt hx).1)
    clear ho9 hg9 hat9
    go_wp2
    go_ret
    rw [HB.out]
    exact ⟨none, 0, rfl, Own.nil _ _ _ _, X9.out⟩

set_option maxRecDepth 100000 in
set_option maxHeartbeats 8000000 in
theorem s_BatchAll (A Al : Option Addr) (c cl : Nat) (g : Sg.Graph) (l : List Sg.Act) (w : World) (h : RdN w A g) (hl : Rd w 3 Al l.length (acts l)) :
  Calls Try.prog 7 #[.agg #[.slice A g.length c], .slice Al l.length cl] w fun e w' => ∃ A1 c1, e = .returned (.slice A1 (Sg.batchS g l).length c1) ∧ Own w' w.heap.size 39 3 A1 (Sg.batchS g l).length c1 (acts (Sg.batchS g l)) ∧ Ext w w' := by
 have H := lh h
 have HL := lh hl
 have EB := lh ((Ext.rfl' w).al (.cells #[.slice A g.length c] 25))
 have q0 : World.cell? (World.alloc w (.cells #[.slice A g.length c] 25)) ⟨w.heap.size, 0, none⟩ = some (.slice A g.length c) := by simp [go_sem]
 have HV := lh (s_validActs A Al c cl g l)
 have hbl := hl.big
 clear h hl
 go_enter Try.func7, Try.ntmps7
 cases hA : Sg.validA g l
 ·have HA := lh hA
  have HE := lh (show Sg.batchS g l = [] by unfold Sg.batchS; rw [hA]; rfl)
  clear hA
  rw [HE.out]
  go_wp2_with fail
  refine (HV.out _ (H.out.ext EB.out) (HL.out.ext EB.out)).mono ?_
  rintro e w1 ⟨rfl, he1⟩
  rw [HA.out]
  go_wp2
  go_ret
  exact ⟨none, 0, rfl, Own.nil _ _ _ _, EB.out.tr he1⟩
 have HA := lh hA
 have hl30 : l.length ≤ 30 := by unfold Sg.validA at hA; simp only [Bool.and_eq_true, decide_eq_true_eq] at hA; exact hA.2
 clear hA
 go_wp2_with fail
 refine (HV.out _ (H.out.ext EB.out) (HL.out.ext EB.out)).mono ?_
 rintro e w1 ⟨rfl, he1⟩
 rw [HA.out]
 have E1 := lh (EB.out.tr he1)
 have O1 := lh (own_one w1 w.heap.size E1.out.size)
 have X1 := lh (E1.out.al (.cells #[.int .i64 2, .int .i64 0, .int .i64 0] 39))
 have HS := lh (fun k a h => batTo_succ l (k := k) (a := a) h)
 have HN := lh (batTo_len l)
 have HW := lh (batTo_all l)
 have H0 := lh (show batTo l 0 = [⟨2, 0, 0⟩] from rfl)
 generalize batTo l = V at *
 clear he1 EB q0 E1
 go_wp2_with fail
 go_loopw [5, 6] (fun s5 i wr => ∃ (k : Nat) (A1 : Option Addr) (c1 : Nat), k ≤ l.length ∧ i = .int .i64 k ∧ s5 = .slice A1 (V k).length c1 ∧ Hid (Own wr w.heap.size 39 3 A1 (V k).length c1 (acts (V k))) ∧ Hid (Ext w wr)) (fun _ i _ => l.length - (intOf i).toNat)
 case atStart => exact ⟨0, _, 1, Nat.zero_le _, rfl, by rw [H0.out]; rfl, lh (by rw [H0.out]; exact O1.out), X1⟩
 case round =>
  clear O1 X1 H0
  obtain ⟨k, A1, c1, hk, rfl, rfl, hO, hX⟩ := hrel
  have hn := HN.out k
  have hsz := hX.out.size
  by_cases hlt : k < l.length
  ·obtain ⟨bo, oo, ⟨ak, an, av⟩, rfl, ha, hc0, hc1, hc2⟩ := (HL.out.ext hX.out).atA hlt
   dsimp only at *
   have hs := HS.out k _ ha
   dsimp only at hs
   have bc0 := blt hc0
   have bc1 := blt hc1
   have bc2 := blt hc2
   have hkx : (k : Int) < (l.length : Int) := by omega
   clear ha
   have EA := lh ((Ext.rfl' wr).al (.cells #[.int .i64 ak, .int .i64 an, .int .i64 av] 39))
   by_cases h2 : ak = 2
   ·subst h2
    rw [if_neg (by simp)] at hs
    have Hs := lh hs
    clear hs
    go_wp2
    go_roundw
    case rel => exact ⟨k + 1, A1, c1, by omega, by go_num, by rw [Hs.out], lh (by rw [Hs.out]; exact hO.out), lh (hX.out)⟩
    case measure => simp [intOf]; omega
   by_cases h3 : ak = 3
   ·subst h3
    rw [if_neg (by simp)] at hs
    have Hs := lh hs
    clear hs
    go_wp2
    go_roundw
    case rel => exact ⟨k + 1, A1, c1, by omega, by go_num, by rw [Hs.out], lh (by rw [Hs.out]; exact hO.out), lh (hX.out)⟩
    case measure => simp [intOf]; omega
   rw [if_pos ⟨h2, h3⟩] at hs
   have Hs := lh hs
   have y2 : (ak != 2) = true := by simp [h2]
   have y3 : (ak != 3) = true := by simp [h3]
   clear hs
   go_wp2_with (at_builtin; refine wpList_app1 (cs := [.int .i64 ak, .int .i64 an, .int .i64 av]) rfl rfl eiAct rfl hO.out rfl rfl (one_acs ⟨ak, an, av⟩) (by omega) (by omega) (by omega) ?_; intro A9 c9 w9 ho9 hg9 hat9; have X9 := lh (hX.out.gr hg9 fun x hx => (hO.out.lt hx).1); have H9 := lh ho9; clear ho9 hg9 hat9)
   have O9 := lh (show Own w9 w.heap.size 39 3 A9 (V (k + 1)).length c9 (acts (V (k + 1))) from by rw [Hs.out, List.length_append, ← acts_snoc]; exact H9.out)
   go_roundw
   case rel => exact ⟨k + 1, A9, c9, by omega, by go_num, by rw [Hs.out]; simp, O9, X9⟩
   case measure => simp [intOf]; omega
  ·obtain rfl : k = l.length := by omega
   have hw := HW.out
   obtain ⟨wz, rfl⟩ : ∃ wz : World, wz = wr := ⟨_, rfl⟩
   have hwl : (Sg.wholeB l).length = (V l.length).length + 1 := by rw [← hw]; simp
   have HWL := lh hwl
   clear hw hwl
   by_cases h30 : (V l.length).length + 1 ≤ 30
   ·have z0 : ¬ (30 : Int) < ((V l.length).length : Int) + 1 := by omega
    have HB := lh (show Sg.batchS g l = Sg.wholeB l by unfold Sg.batchS; rw [if_pos ⟨HA.out, by rw [HWL.out]; exact h30⟩])
    go_upto_region 10 with (at_builtin; refine wpList_app1 (cs := [.int .i64 3, .int .i64 0, .int .i64 0]) rfl rfl eiAct rfl hO.out rfl rfl (one_acs ⟨3, 0, 0⟩) (by omega) (by omega) (by omega) ?_; intro A9 c9 w9 ho9 hg9 hat9)
    have X9 := lh (hX.out.gr hg9 fun x hx => (hO.out.lt hx).1)
    have O9 := lh (show Own w9 w.heap.size 39 3 A9 (Sg.wholeB l).length c9 (acts (Sg.wholeB l)) from by rw [HWL.out, ← HW.out, ← acts_snoc]; exact ho9)
    have hcap := And.intro O9.out.2.1 O9.out.2.2.1
    rw [HWL.out] at hcap
    clear ho9 hg9 hat9
    go_wp2
    go_ret
    rw [HB.out]
    exact ⟨A9, c9, by rw [HWL.out]; rfl, O9.out, X9.out⟩
   ·have z0 : (30 : Int) < ((V l.length).length : Int) + 1 := by omega
    have HB := lh (show Sg.batchS g l = [] by unfold Sg.batchS; rw [if_neg (fun e => h30 (by have := e.2; rw [HWL.out] at this; exact this))])
    go_upto_region 10 with (at_builtin; refine wpList_app1 (cs := [.int .i64 3, .int .i64 0, .int .i64 0]) rfl rfl eiAct rfl hO.out rfl rfl (one_acs ⟨3, 0, 0⟩) (by omega) (by omega) (by omega) ?_; intro A9 c9 w9 ho9 hg9 hat9)
    have X9 := lh (hX.out.gr hg9 fun x hx => (hO.out.lt hx).1)
    clear ho9 hg9 hat9
    go_wp2
    go_ret
    rw [HB.out]
    exact ⟨none, 0, rfl, Own.nil _ _ _ _, X9.out⟩

set_option maxRecDepth 100000 in
set_option maxHeartbeats 1000000 in
theorem l_equalActs (A B : Option Addr) (ca cb n : Nat) (f : List Sg.Act) (w : World) (h : Rd w 3 A n (acts f)) (k : Rd w 3 B n (acts f)) :
  Calls Try.prog 6 #[.slice A n ca, .slice B n cb] w fun e w' => e = .returned (.bool true) ∧ Ext w w' := by
 have hb := h.big
 have H := lh h
 have K := lh k
 clear h k
 go_enter Try.func6, Try.ntmps6
 go_wp2_with fail
 go_loopw [5] (fun i wr => ∃ j : Nat, j ≤ n ∧ i = .int .i64 j ∧ Hid (Ext w wr)) (fun i _ => n - (intOf i).toNat)
 case atStart => exact ⟨0, Nat.zero_le _, rfl, lh (Ext.rfl' w)⟩
 case round =>
  obtain ⟨j, hj, rfl, hX⟩ := hrel
  by_cases hlt : j < n
  ·obtain ⟨ba, oa, x, rfl, hx, h0, h1, h2⟩ := (H.out.ext hX.out).atA hlt
   obtain ⟨bb, ob, y, rfl, hy, g0, g1, g2⟩ := (K.out.ext hX.out).atA hlt
   rw [hx] at hy
   injection hy with hy
   subst hy
   have b0 := blt h0
   have b1 := blt h1
   have b2 := blt h2
   have c0 := blt g0
   have c1 := blt g1
   have c2 := blt g2
   have hjx : (j : Int) < (n : Int) := by omega
   have E0 := lh ((Ext.rfl' wr).dr)
   clear hx
   obtain ⟨x0, x1, x2⟩ := x
   dsimp only at *
   go_wp2_with fail
   refine wp_region_held_drew (S := (fun W => W.cell? ⟨ba, oa + j * 3, none⟩ = some (.int .i64 x0) ∧ W.cell? ⟨ba, oa + j * 3 + 1, none⟩ = some (.int .i64 x1) ∧ W.cell? ⟨ba, oa + j * 3 + 2, none⟩ = some (.int .i64 x2) ∧ W.cell? ⟨bb, ob + j * 3, none⟩ = some (.int .i64 x0) ∧ W.cell? ⟨bb, ob + j * 3 + 1, none⟩ = some (.int .i64 x1) ∧ W.cell? ⟨bb, ob + j * 3 + 2, none⟩ = some (.int .i64 x2))) (by kernel_rfl) ?_ (fun hHeld => ?_)
   ·exact ⟨E0.out.cellE h0, E0.out.cellE h1, E0.out.cellE h2, E0.out.cellE g0, E0.out.cellE g1, E0.out.cellE g2⟩
   refine ty 0 ?_
   refine ty 1 ?_
   refine ty 2 ?_
   refine ty 3 ?_
   refine ty 4 ?_
   refine ty 5 ?_
   refine ty 6 ?_
   refine ty 7 ?_
   refine ty 8 ?_
   refine dn ?_
   skip
   go_wp2
   go_roundw
   case rel => exact ⟨j + 1, by omega, by go_num, lh (hX.out.tr E0.out)⟩
   case measure => simp [intOf]; omega
  ·obtain rfl : j = n := by omega
   go_wp2
   go_ret
   exact ⟨rfl, hX.out⟩

set_option maxRecDepth 100000 in
set_option maxHeartbeats 1000000 in
theorem s_DrawValidActs (A : Option Addr) (c : Nat) (l : List Int) (w : World) (h : Rd w 1 A l.length (u8s l)) (hr : ∀ x ∈ l, 0 ≤ x ∧ x ≤ 255) (hc : l.length ≤ c) (hcm : c ≤ maxLen) :
  Calls Try.prog 10 #[.slice A l.length c] w fun e w' => ∃ (g : Sg.Graph) (Ag : Option Addr) (cg : Nat) (ac : List Sg.Act) (A3 : Option Addr) (c3 : Nat), e = .returned (.tuple #[.agg #[.slice Ag g.length cg], .slice A3 ac.length c3]) ∧
   g.length ≤ 10 ∧ ac.length ≤ 12 ∧ (∀ X, Mod (fun b => b < w.heap.size + 1) w' X → RdN X Ag g ∧ Rd X 3 A3 ac.length (acts ac)) ∧ Ext w w' := by
 have e0 : Ext w (World.alloc w (.cells #[.slice none 0 0] 25)) := (Ext.rfl' w).al _
 have HN := lh (s_newReader A c l _ (h.ext e0) hr hc hcm)
 have B0 := lh (Bx.new w #[.slice none 0 0] 25)
 have E0 := lh e0
 clear h e0
 go_enter Try.func10, Try.ntmps10
 go_wp2_with fail
 refine HN.out.mono ?_
 rintro e w1 ⟨rfl, hr1, he1⟩
 have B1 := lh (B0.out.ext he1)
 have E1 := lh (E0.out.tr he1)
 have R1 := lh hr1
 have hw1 := hr1.lt
 simp only [World.size_alloc] at hw1 hr1
 clear hr1 he1 HN B0
 go_wp2_with fail
 refine (s_sessionOf _ 0 _ (by have := R1.out; simpa using this) (by omega)).mono ?_
 rintro e w2 ⟨g, Ag, cg, x, A2, c2, ac, A3, c3, rfl, hg, hx, hac, hc3, hcm3, hok, hm2⟩
 have HOK := lh hok
 have B2 := lh ((B1.out.mod hm2 (by omega)).al (.cells #[.slice Ag g.length cg] 25))
 have EA := lh ((Ext.rfl' w2).al (.cells #[.slice Ag g.length cg] 25))
 have E2 := lh ((Ext.md E1.out hm2 (fun b e => by omega)).tr EA.out)
 have hs2 := hm2.size
 have q0 : World.cell? (World.alloc w2 (.cells #[.slice Ag g.length cg] 25)) ⟨w2.heap.size, 0, none⟩ = some (.slice Ag g.length cg) := by simp [go_sem]
 have bq := blt q0
 clear hok hm2 R1
 go_upto_region 2 with fail
 have hne : w2.heap.size ≠ w.heap.size := by omega
 have HO2 := lh (fun X (hX : Mod (fun b => b < w.heap.size + 1) (World.alloc w2 (.cells #[.slice Ag g.length cg] 25)) X) => HOK.out X ((Mod.of EA.out).tr' (hX.mono (fun b _ e => by omega))))
 generalize World.alloc w2 (.cells #[.slice Ag g.length cg] 25) = w3 at *
 generalize w2.heap.size = bg at *
 have f0 := B2.out.free 0
 have qr := B2.out.cell (j := 0) rfl
 have bl := B2.out.lt
 go_wp2
 have s0 : ∀ u0 : Value, World.cell? (World.setCell w3 ⟨w.heap.size, 0, none⟩ u0) ⟨w.heap.size, 0, none⟩ = some u0 := fun u0 => (B2.out.set 0 u0).cell (j := 0) rfl
 refine bodyPost_ret (v := .tuple #[.agg #[.slice Ag g.length cg], .slice A3 ac.length c3]) (by simp [results, Try.results10, go_sem, s0]; try rfl) rfl ?_
 have hS := lh (Mod.set (F := fun b => b = w.heap.size) (Mod.rfl' (fun b => b = w.heap.size) w3) (p := ⟨w.heap.size, 0, none⟩) (.inl rfl) (.slice Ag g.length cg))
 refine ⟨g, Ag, cg, ac, A3, c3, rfl, hg, hac, fun X hX => ?_, Ext.md E2.out hS.out (fun b e => by omega)⟩
 obtain ⟨x1, -, x3⟩ := HO2.out X ((hS.out.mono (F' := fun b => b < w.heap.size + 1) (fun b _ e => by omega)).tr' hX)
 exact ⟨x1, x3⟩
set_option maxRecDepth 100000 in
set_option maxHeartbeats 1000000 in
theorem s_DrawBatchAll (A : Option Addr) (c : Nat) (l : List Int) (w : World) (h : Rd w 1 A l.length (u8s l)) (hr : ∀ x ∈ l, 0 ≤ x ∧ x ≤ 255) (hc : l.length ≤ c) (hcm : c ≤ maxLen) :
  Calls Try.prog 4 #[.slice A l.length c] w fun e w' => ∃ (g : Sg.Graph) (Ag : Option Addr) (cg : Nat) (ac : List Sg.Act) (A3 : Option Addr) (c3 : Nat), e = .returned (.tuple #[.agg #[.slice Ag g.length cg], .slice A3 ac.length c3]) ∧
   g.length ≤ 10 ∧ ac.length ≤ 12 ∧ RdN w' Ag g ∧ Rd w' 3 A3 ac.length (acts ac) ∧ Ext w w' := by
 have e0 : Ext w (World.alloc w (.cells #[.slice none 0 0] 25)) := (Ext.rfl' w).al _
 have HN := lh (s_DrawValidActs A c l _ (h.ext e0) hr hc hcm)
 have B0 := lh (Bx.new w #[.slice none 0 0] 25)
 have E0 := lh e0
 clear h e0
 go_enter Try.func4, Try.ntmps4
 go_wp2_with fail
 refine HN.out.mono ?_
 rintro e w2 ⟨g, Ag, cg, ac, A3, c3, rfl, hg, hac, hok, he2⟩
 have HOK := lh hok
 have B2 := lh (B0.out.ext he2)
 have E2 := lh (E0.out.tr he2)
 have f0 := B2.out.free 0
 have qr := B2.out.cell (j := 0) rfl
 have bl := B2.out.lt
 clear hok he2
 go_wp2
 have s0 : ∀ u0 : Value, World.cell? (World.setCell w2 ⟨w.heap.size, 0, none⟩ u0) ⟨w.heap.size, 0, none⟩ = some u0 := fun u0 => (B2.out.set 0 u0).cell (j := 0) rfl
 refine bodyPost_ret (v := .tuple #[.agg #[.slice Ag g.length cg], .slice A3 ac.length c3]) (by simp [results, Try.results4, go_sem, s0]; try rfl) rfl ?_
 have hS := lh (Mod.set (F := fun b => b = w.heap.size) (Mod.rfl' (fun b => b = w.heap.size) w2) (p := ⟨w.heap.size, 0, none⟩) (.inl rfl) (.slice Ag g.length cg))
 obtain ⟨x1, x3⟩ := HOK.out _ (hS.out.mono (fun b _ e => by simp only [World.size_alloc]; omega))
 exact ⟨g, Ag, cg, ac, A3, c3, rfl, hg, hac, x1, x3, Ext.md E2.out hS.out (fun b e => by omega)⟩

theorem i_PlainZ (Ag Az A4 : Option Addr) (cg cz c4 n4 : Nat) (g : Sg.Graph) (l4 : List Sg.Act) (w : World) (hl4 : l4.length = n4) (h1 : RdN w Ag g) (h2 : Rd w 1 Az g.length (ints (List.replicate g.length 0))) (h3 : Rd w 3 A4 n4 (acts l4)) :
  Calls Try.prog 8 #[.agg #[.slice Ag g.length cg], .slice Az g.length cz, .slice A4 n4 c4] w fun e w' => ∃ A1 c1, e = .returned (.slice A1 (Sg.plainS g (List.replicate g.length 0) l4).length c1) ∧ Own w' w.heap.size 35 2 A1 (Sg.plainS g (List.replicate g.length 0) l4).length c1 (shs (Sg.plainS g (List.replicate g.length 0) l4)) ∧ Ext w w' := by
 subst hl4
 have := i_PlainSession Ag Az A4 cg cz c4 g (List.replicate g.length 0) l4 w h1 (by rw [List.length_replicate]; exact h2) h3
 rw [List.length_replicate] at this
 exact this
theorem madeZ (n : Nat) : (madeCells (Value.int .i64 0).cells (n * 1)).toList = ints (List.replicate n 0) := by rw [made_one _ _ rfl]; simp [ints]
theorem apart_of {f m all : List Sg.Show} (e : all = f ++ m) (hp : m.Pairwise (fun a b => a.node ≠ b.node)) {i k : Nat} {x y : Sg.Show} (hk : f.length ≤ k) (hki : k < i) (hx : all[k]? = some x) (hy : all[i]? = some y) : x.node ≠ y.node := by
 subst e
 rw [List.getElem?_append_right (by omega)] at hx hy
 obtain ⟨h1, e1⟩ := List.getElem?_eq_some_iff.1 hx
 obtain ⟨h2, e2⟩ := List.getElem?_eq_some_iff.1 hy
 have := List.pairwise_iff_getElem.1 hp _ _ h1 h2 (by omega)
 rw [e1, e2] at this
 exact this
set_option maxRecDepth 100000 in
set_option maxHeartbeats 8000000 in
theorem ex_FnBatchAll (A : Option Addr) (c : Nat) (l : List Int) (w : World) (h : Rd w 1 A l.length (u8s l)) (hr : ∀ x ∈ l, 0 ≤ x ∧ x ≤ 255) (hc : l.length ≤ c) (hcm : c ≤ maxLen) :
  Calls Try.prog 3 #[.slice A l.length c] w fun e w' => e = .returned (.bool true) ∧ Ext w w' := by
 have hbig := h.big
 have HD := lh (s_DrawBatchAll A c l w h hr hc hcm)
 clear h hr hc hcm
 by_cases hb : 1048576 < l.length
 ·have hb2 : (1048576 : Int) < (l.length : Int) := by omega
  go_enter Try.func3, Try.ntmps3
  go_wp2
  go_ret
  exact ⟨rfl, Ext.rfl' _⟩
 have hb2 : ¬ (1048576 : Int) < (l.length : Int) := by omega
 clear hb
 go_enter Try.func3, Try.ntmps3
 go_wp2_with fail
 refine (HD.out).mono ?_
 rintro e w1 ⟨g, Ag, cg, ac, A3, c3, rfl, hg, hac, hN, hA, he1⟩
 go_upto_region 4 with fail
 have EA := lh ((Ext.rfl' w1).al (.cells #[.slice Ag g.length cg] 25))
 have q0 : World.cell? (World.alloc w1 (.cells #[.slice Ag g.length cg] 25)) ⟨w1.heap.size, 0, none⟩ = some (.slice Ag g.length cg) := by simp [go_sem]
 have RG := lh (hN.ext EA.out)
 have RA := lh (hA.ext EA.out)
 have EW := lh (he1.tr EA.out)
 clear hN hA he1 EA HD
 generalize World.alloc w1 (.cells #[.slice Ag g.length cg] 25) = v0 at *
 generalize w1.heap.size = bg at *
 have E0 := lh (Ext.rfl' v0)
 have b0 := blt q0
 go_wp2_with fail
 refine (i_BatchAll Ag A3 cg c3 g ac _ (RG.out.ext E0.out) (RA.out.ext E0.out)).mono ?_
 rintro e v1 ⟨BO1, dO1, rfl, hO1, he1⟩
 have O1 := lh hO1.rd
 have E1 := lh (E0.out.tr he1)
 have q1 := he1.cellE q0
 have b1 := blt q1
 clear he1 q0 b0 hO1
 go_wp2_with fail
 refine (s_BatchAll Ag A3 cg c3 g ac _ (RG.out.ext E1.out) (RA.out.ext E1.out)).mono ?_
 rintro e v2 ⟨BO2, dO2, rfl, hO2, he2⟩
 have O1 := lh (O1.out.ext he2)
 have O2 := lh hO2.rd
 have E2 := lh (E1.out.tr he2)
 have q2 := he2.cellE q1
 have b2 := blt q2
 clear he2 q1 b1 hO2
 go_wp2_with fail
 refine (l_equalActs BO1 BO2 dO1 dO2 _ (Sg.batchS g ac) _ O1.out O2.out).mono ?_
 rintro e v3 ⟨rfl, he3⟩
 have O1 := lh (O1.out.ext he3)
 have O2 := lh (O2.out.ext he3)
 have E3 := lh (E2.out.tr he3)
 have q3 := he3.cellE q2
 have b3 := blt q3
 clear he3 q2 b2
 by_cases hz : (Sg.batchS g ac).length = 0
 ·have z0 : (((Sg.batchS g ac).length : Int) == 0) = true := by simp [hz]
  clear hz
  go_wp2_with fail
  refine (s_BatchAll Ag A3 cg c3 g ac _ (RG.out.ext E3.out) (RA.out.ext E3.out)).mono ?_
  rintro e v4 ⟨BO3, dO3, rfl, hO3, he4⟩
  have O1 := lh (O1.out.ext he4)
  have O2 := lh (O2.out.ext he4)
  have O3 := lh hO3.rd
  have E4 := lh (E3.out.tr he4)
  have q4 := he4.cellE q3
  have b4 := blt q4
  clear he4 q3 b3 hO3
  go_wp2_with fail
  refine (l_equalActs BO1 BO3 dO1 dO3 _ (Sg.batchS g ac) _ O1.out O3.out).mono ?_
  rintro e v5 ⟨rfl, he5⟩
  have O1 := lh (O1.out.ext he5)
  have O2 := lh (O2.out.ext he5)
  have O3 := lh (O3.out.ext he5)
  have E5 := lh (E4.out.tr he5)
  have q5 := he5.cellE q4
  have b5 := blt q5
  clear he5 q4 b4
  go_wp2
  go_ret
  exact ⟨rfl, EW.out.tr E5.out⟩
 have z0 : (((Sg.batchS g ac).length : Int) == 0) = false := beq_eq_false_iff_ne.2 (by omega)
 have hne : Sg.batchS g ac ≠ [] := fun e => hz (by rw [e]; rfl)
 obtain ⟨-, -, hvw⟩ := Sg.batch_ok hne
 have hvo : Sg.validA g (Sg.batchS g ac) = true := by rw [(Sg.batch_ok hne).1]; exact hvw
 have HVO := lh hvo
 obtain ⟨m, hm1, hm2⟩ := Sg.batch_law hne
 have HM1 := lh hm1
 have HM2 := lh hm2
 clear hz hne hvw hvo hm1 hm2
 go_upto_region 8 with (at_make; refine wpList_mk rfl rfl eiInt (B := v3.heap.size) rfl rfl (by omega) (by omega) (Nat.le_refl _) ?_; intro va hown hext; rw [madeZ] at hown; have OZ := lh hown.rd; have EZ := lh hext; clear hown hext)
 have O1 := lh (O1.out.ext EZ.out)
 have EY := lh (E3.out.tr EZ.out)
 have qa := EZ.out.cellE q3
 have ba := blt qa
 clear EZ q3 b3 O2
 go_wp2_with fail
 refine (i_PlainZ Ag _ none cg _ 0 0 g [] va rfl (RG.out.ext EY.out) OZ.out (by simpa [acts] using Rd.nil va 3 none)).mono ?_
 rintro e vb ⟨B5, d5, rfl, h5, heb⟩
 have O5 := lh h5.rd
 have O1 := lh (O1.out.ext heb)
 have OZ := lh (OZ.out.ext heb)
 have EY := lh (EY.out.tr heb)
 have qb := heb.cellE qa
 have bb := blt qb
 clear h5 heb qa ba
 go_wp2_with fail
 refine (i_PlainZ Ag _ BO1 cg _ dO1 _ g (Sg.batchS g ac) vb rfl (RG.out.ext EY.out) OZ.out O1.out).mono ?_
 rintro e vc ⟨B6, d6, rfl, h6, hec⟩
 have O6 := lh h6.rd
 have O1 := lh (O1.out.ext hec)
 have EY := lh (EY.out.tr hec)
 have qc := hec.cellE qb
 have bc := blt qc
 have hps := Sg.plainS_small g (List.replicate g.length 0) (Sg.batchS g ac)
 clear h6 hec qb bb OZ O5
 generalize Sg.plainS g (List.replicate g.length 0) [] = first at *
 generalize Sg.plainS g (List.replicate g.length 0) (Sg.batchS g ac) = all at *
 have hfl : first.length ≤ all.length := by rw [HM1.out, List.length_append]; omega
 go_wp2_with fail
 go_loopw [9] (fun s9 wr => ∃ i : Nat, first.length ≤ i ∧ i ≤ all.length ∧ s9 = .int .i64 i ∧ Hid (Ext vc wr)) (fun s9 _ => all.length - (intOf s9).toNat)
 case atStart => exact ⟨first.length, Nat.le_refl _, hfl, rfl, lh (Ext.rfl' vc)⟩
 case round =>
  obtain ⟨i, hi1, hi2, rfl, hX⟩ := hrel
  by_cases hlt : i < all.length
  ·obtain ⟨wi, rfl⟩ : ∃ wi : World, wi = wr := ⟨_, rfl⟩
   go_wp2_with fail
   go_loopw [10] (fun s10 wr => ∃ k : Nat, first.length ≤ k ∧ k ≤ i ∧ s10 = .int .i64 k ∧ Hid (Ext vc wr)) (fun s10 _ => i - (intOf s10).toNat)
   case atStart => exact ⟨first.length, Nat.le_refl _, hi1, rfl, hX⟩
   case round =>
    obtain ⟨k, hk1, hk2, rfl, hY⟩ := hrel
    by_cases hkl : k < i
    ·obtain ⟨bp, op, x, hAx, hx, x0, x1⟩ := (O6.out.ext hY.out).atS (show k < all.length by omega)
     obtain ⟨bq, oq, y, hAy, hy, y0, y1⟩ := (O6.out.ext hY.out).atS hlt
     subst hAx
     obtain ⟨rfl, rfl⟩ : bp = bq ∧ op = oq := by simpa using hAy
     have hne := apart_of HM1.out HM2.out hk1 hkl hx hy
     have z1 : (x.node == y.node) = false := by simp [hne]
     have bx0 := blt x0
     have by0 := blt y0
     have E9 := lh ((Ext.rfl' wr).dr)
     have hkx : (k : Int) < (all.length : Int) := by omega
     have hix : (i : Int) < (all.length : Int) := by omega
     obtain ⟨xn, xv⟩ := x
     obtain ⟨yn, yv⟩ := y
     dsimp only at *
     clear hx hy hne hAy
     go_wp2_with fail
     refine wp_region_held_drew (S := (fun W => W.cell? ⟨bp, op + k * 2, none⟩ = some (.int .i64 xn) ∧ W.cell? ⟨bp, op + i * 2, none⟩ = some (.int .i64 yn))) (by kernel_rfl) ?_ (fun hHeld => ?_)
     ·exact ⟨E9.out.cellE x0, E9.out.cellE y0⟩
     refine ty 0 ?_
     refine ty 1 ?_
     refine ty 2 ?_
     refine ty 3 ?_
     refine ty 4 ?_
     refine ty 5 ?_
     refine ty 6 ?_
     refine ty 7 ?_
     refine ty 8 ?_
     refine ty 9 ?_
     refine ty 10 ?_
     refine dn ?_
     skip
     go_wp2
     go_roundw
     case rel => exact ⟨k + 1, by omega, by omega, by go_num, lh (hY.out.tr E9.out)⟩
     case measure => simp [intOf]; omega
    ·obtain rfl : k = i := by omega
     go_wp2
     go_roundw
     case rel => exact ⟨k + 1, by omega, by omega, by go_num, hY⟩
     case measure => simp [intOf]; omega
  ·obtain rfl : i = all.length := by omega
   obtain ⟨wz, rfl⟩ : ∃ wz : World, wz = wr := ⟨_, rfl⟩
   have qz := hX.out.cellE qc
   have bz := blt qz
   go_wp2_with fail
   refine (i_ValidActs Ag BO1 cg dO1 g (Sg.batchS g ac) _ (RG.out.ext (EY.out.tr hX.out)) (O1.out.ext hX.out)).mono ?_
   rintro e vz ⟨rfl, hez⟩
   rw [HVO.out]
   go_wp2
   go_ret
   exact ⟨rfl, (EW.out.tr (EY.out.tr hX.out)).tr hez⟩
end Go.Proofs.Ytaklkcjlihdlkaa
