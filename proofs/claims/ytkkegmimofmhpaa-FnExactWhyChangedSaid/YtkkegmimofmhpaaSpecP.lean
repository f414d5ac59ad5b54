/- The reference's MustRun: its contract. Conditions: bounds on lengths. -/
import Derived.Test.YtkkegmimofmhpaaSpecO
namespace Go.Proofs.Ytkkegmimofmhpaa
open Go.RowKit

set_option maxHeartbeats 1000000 in
theorem s_MustRun (A Aa Ab : Option Addr) (c ca cb : Nat) (g : Sg.Graph) (a b : List Int) (w : World) (h : RdN w A g) (ha : Rd w 1 Aa a.length (ints a)) (hb : Rd w 1 Ab b.length (ints b)) :
    Calls Try.prog 37 #[.agg #[.slice A g.length c], .slice Aa a.length ca, .slice Ab b.length cb] w fun e w' => ∃ A1 c1, e = .returned (.slice A1 (Sg.mustOr g a b).length c1) ∧ Own w' w.heap.size 3 1 A1 (Sg.mustOr g a b).length c1 (ints (Sg.mustOr g a b)) ∧ Ext w w' := by
  have hgl := h.1
  have e0 := (Ext.rfl' w).al (.cells #[.slice A g.length c] 25)
  have HVG := Lib.hid (s_validGraph A c g)
  have HVA := Lib.hid (s_validCells A Aa c ca g a)
  have HVB := Lib.hid (s_validCells A Ab c cb g b)
  have q0 : (w.alloc (.cells #[.slice A g.length c] 25)).cell? ⟨w.heap.size, 0, none⟩ = some (.slice A g.length c) := by simp [go_sem]
  have HE := Lib.hid e0
  have H := Lib.hid h
  have Ha := Lib.hid ha
  have Hb := Lib.hid hb
  have Q0 := Lib.hid q0
  clear e0 h ha hb q0

  cases hG : Sg.validG g
  · have HG := Lib.hid hG
    have hS : Sg.mustOr g a b = [] := by unfold Sg.mustOr; rw [hG]; rfl
    have HS := Lib.hid hS
    clear hS hG
    go_enter Try.func37, Try.ntmps37
    go_wp2_with fail
    refine (HVG.out _ (H.out.ext HE.out)).mono ?_
    rintro e w1 ⟨rfl, he1⟩
    rw [HG.out]
    have k1 := (he1).cellE Q0.out
    go_wp2
    go_ret
    rw [HS.out]
    exact ⟨none, 0, rfl, Own.nil _ _ _ _, (HE.out.tr he1)⟩
  have HG := Lib.hid hG
  cases hA : Sg.validC g a
  · have HA := Lib.hid hA
    have hS : Sg.mustOr g a b = [] := by unfold Sg.mustOr; rw [hG, hA]; rfl
    have HS := Lib.hid hS
    clear hS hG hA
    go_enter Try.func37, Try.ntmps37
    go_wp2_with fail
    refine (HVG.out _ (H.out.ext HE.out)).mono ?_
    rintro e w1 ⟨rfl, he1⟩
    rw [HG.out]
    have k1 := (he1).cellE Q0.out
    go_wp2_with fail
    refine (HVA.out _ (H.out.ext (HE.out.tr he1)) (Ha.out.ext (HE.out.tr he1))).mono ?_
    rintro e w2 ⟨rfl, he2⟩
    rw [HA.out]
    have k2 := ((he1.tr he2)).cellE Q0.out
    go_wp2
    go_ret
    rw [HS.out]
    exact ⟨none, 0, rfl, Own.nil _ _ _ _, ((HE.out.tr he1).tr he2)⟩
  have HA := Lib.hid hA
  cases hB : Sg.validC g b
  · have HB := Lib.hid hB
    have hS : Sg.mustOr g a b = [] := by unfold Sg.mustOr; rw [hG, hA, hB]; rfl
    have HS := Lib.hid hS
    clear hS hG hA hB
    go_enter Try.func37, Try.ntmps37
    go_wp2_with fail
    refine (HVG.out _ (H.out.ext HE.out)).mono ?_
    rintro e w1 ⟨rfl, he1⟩
    rw [HG.out]
    have k1 := (he1).cellE Q0.out
    go_wp2_with fail
    refine (HVA.out _ (H.out.ext (HE.out.tr he1)) (Ha.out.ext (HE.out.tr he1))).mono ?_
    rintro e w2 ⟨rfl, he2⟩
    rw [HA.out]
    have k2 := ((he1.tr he2)).cellE Q0.out
    go_wp2_with fail
    refine (HVB.out _ (H.out.ext ((HE.out.tr he1).tr he2)) (Hb.out.ext ((HE.out.tr he1).tr he2))).mono ?_
    rintro e w3 ⟨rfl, he3⟩
    rw [HB.out]
    have k3 := (((he1.tr he2).tr he3)).cellE Q0.out
    go_wp2
    go_ret
    rw [HS.out]
    exact ⟨none, 0, rfl, Own.nil _ _ _ _, (((HE.out.tr he1).tr he2).tr he3)⟩
  have HB := Lib.hid hB
  have hS : Sg.mustOr g a b = Sg.whichL (Sg.mustS g (Sg.mean g a) (Sg.mean g b)) g.length := by
    unfold Sg.mustOr
    rw [hG, hA, hB]
    exact (Sg.whichL_congr fun i hi => Sg.must_same hG a b hi).symm
  have HS := Lib.hid hS
  have HMA := Lib.hid (fun w h hc => s_meaning A Aa c ca g a w h hc hG hA)
  have HMB := Lib.hid (fun w h hc => s_meaning A Ab c cb g b w h hc hG hB)
  have hran : Sg.inRange (Sg.mean g a) := Sg.meanTo_range hG hA g.length (Nat.le_refl _)
  have HDP0 := (fun (Av : Option Addr) (cv : Nat) (k : Nat) (w : World) (h : RdN w A g) (hv : Rd w 1 Av (Sg.mean g a).length (ints (Sg.mean g a))) (hk : k < g.length) => s_deps A Av c cv g (Sg.mean g a) k w h hv hG hk (Sg.length_mean g a) hran)
  have HDF0 := (fun (X Y : Option Addr) (cx cy : Nat) (w : World) h k => s_differing X Y cx cy g.length (Sg.mean g a) (Sg.mean g b) w h k (by rw [Sg.length_mean]; exact Nat.le_refl _) (by rw [Sg.length_mean]; omega))
  have hdf : DF (Sg.mean g a) (Sg.mean g b) (Sg.mean g a).length = Sg.diffL (Sg.mean g a) (Sg.mean g b) := rfl
  rw [hdf] at HDF0
  simp only [Sg.length_mean] at HDF0 HDP0
  have HDF := Lib.hid HDF0
  have HDP := Lib.hid HDP0
  clear HDF0 HDP0
  have hla := Sg.length_mean g a
  have hlb := Sg.length_mean g b
  have hsu : ∀ k n, g[k]? = some n → Sg.mustS g (Sg.mean g a) (Sg.mean g b) k = ((n.kind != 0) && Sg.meets (Sg.depAt g (Sg.mean g a) k) (Sg.diffL (Sg.mean g a) (Sg.mean g b))) := fun k n hn => by unfold Sg.mustS Sg.kindAt; rw [Int.toNat_natCast]; simp [hn]
  have HSU := Lib.hid hsu
  generalize Sg.mean g a = X at *
  generalize Sg.mean g b = Y at *
  clear hG hA hB hS hran hdf hsu
  go_enter Try.func37, Try.ntmps37
  go_wp2_with fail
  refine (HVG.out _ (H.out.ext HE.out)).mono ?_
  rintro e w1 ⟨rfl, he1⟩
  rw [HG.out]
  have k1 := (he1).cellE Q0.out
  go_wp2_with fail
  refine (HVA.out _ (H.out.ext (HE.out.tr he1)) (Ha.out.ext (HE.out.tr he1))).mono ?_
  rintro e w2 ⟨rfl, he2⟩
  rw [HA.out]
  have k2 := ((he1.tr he2)).cellE Q0.out
  go_wp2_with fail
  refine (HVB.out _ (H.out.ext ((HE.out.tr he1).tr he2)) (Hb.out.ext ((HE.out.tr he1).tr he2))).mono ?_
  rintro e w3 ⟨rfl, he3⟩
  rw [HB.out]
  have k3 := (((he1.tr he2).tr he3)).cellE Q0.out
  go_wp2_with fail
  refine (HMA.out _ (H.out.ext (((HE.out.tr he1).tr he2).tr he3)) (Ha.out.ext (((HE.out.tr he1).tr he2).tr he3))).mono ?_
  rintro e w4 ⟨Ax, cx, rfl, hox, he4⟩
  have k4 := he4.cellE k3
  have E4 := Lib.hid (((((HE.out.tr he1).tr he2).tr he3).tr he4))
  have Hox := Lib.hid hox
  clear he1 he2 he3 k1 k2 k3 hox
  have he4' := he4
  clear he4
  go_wp2_with fail
  refine (HMB.out _ (H.out.ext E4.out) (Hb.out.ext E4.out)).mono ?_
  rintro e w5 ⟨Ay, cy, rfl, hoy, he5⟩
  have k5 := he5.cellE k4
  have E5 := Lib.hid (E4.out.tr he5)
  have Hrx := Lib.hid (Hox.out.rd.ext he5)
  have Hry := Lib.hid hoy.rd
  clear he4' k4 hoy he5 Hox
  go_wp2_with fail
  refine (HDF.out Ax Ay cx cy _ Hrx.out Hry.out).mono ?_
  rintro e w6 ⟨Ad, cd, rfl, hod, he6⟩
  have k6 := he6.cellE k5
  have E6 := Lib.hid (E5.out.tr he6)
  have Hrx6 := Lib.hid (Hrx.out.ext he6)
  have Hrd := Lib.hid hod.rd
  have hd6 := hod.rd.big
  have z6 : w.heap.size + 1 ≤ w6.heap.size := blt k6
  clear k5 hod he6 Hrx Hry
  go_wp2
  go_loopw [9, 10] (fun v i wr => ∃ (k : Nat) (A' : Option Addr) (c' : Nat), k ≤ g.length ∧ i = .int .i64 k ∧ v = .slice A' (Sg.whichL (Sg.mustS g X Y) k).length c' ∧ Own wr w6.heap.size 3 1 A' (Sg.whichL (Sg.mustS g X Y) k).length c' (ints (Sg.whichL (Sg.mustS g X Y) k)) ∧ Ext w6 wr) (fun _ i _ => g.length - (intOf i).toNat)
  case atStart => exact ⟨0, _, _, Nat.zero_le _, rfl, rfl, Own.new w6 3 1 #[] 0 (Nat.le_refl _) (by unfold maxLen; omega) rfl, (Ext.rfl' w6).al _⟩
  case round =>
    obtain ⟨k, A', c', hk, rfl, rfl, hown, he⟩ := hrel
    have hwl := Sg.whichL_len (Sg.mustS g X Y) k
    have hbx := he.cellE k6
    have hbl := blt hbx
    have He := Lib.hid he
    have Ho := Lib.hid hown
    clear he hown
    by_cases hlt : k < g.length
    · obtain ⟨⟨nk, nf⟩, bn, on, Ap, cp, hn, rfl, hkc, hsc, hf, hfl⟩ := (H.out.ext (E6.out.tr He.out)).at_ hlt
      dsimp only at *
      have hb1 := blt hkc
      have hu := HSU.out k _ hn
      have HW := Lib.hid (Sg.whichL_succ (Sg.mustS g X Y) k)
      clear hsc hf hfl hn
      by_cases hz : nk = 0
      · have z1 : (nk != 0) = false := by simp [hz]
        have hw := HW.out
        rw [hu] at hw
        simp only [z1, Bool.false_and, Bool.false_eq_true, if_false] at hw
        have HWW := Lib.hid hw
        clear hu hz hw HW
        go_wp2
        go_roundw
        case rel => exact ⟨k + 1, A', c', by omega, by go_num, by rw [HWW.out], by rw [HWW.out]; exact Ho.out, He.out⟩
        case measure => simp [intOf]; omega
      · have z1 : (nk != 0) = true := by simp [hz]
        have hw := HW.out
        rw [hu] at hw
        simp only [z1, Bool.true_and] at hw
        have HD := Lib.hid (fun w h hv => HDP.out Ax cx k w h hv hlt)
        have HM := Lib.hid (fun (D : Option Addr) (cdp : Nat) (w : World) (h : Rd w 1 D (Sg.depAt g X k).length (ints (Sg.depAt g X k))) (kk : Rd w 1 Ad (Sg.diffL X Y).length (ints (Sg.diffL X Y))) => s_meets D Ad cdp cd _ _ (Sg.depAt g X k) (Sg.diffL X Y) w h kk)
        cases hm : Sg.meets (Sg.depAt g X k) (Sg.diffL X Y)
        · rw [hm] at hw
          simp only [Bool.false_eq_true, if_false] at hw
          have Hm := Lib.hid hm
          have HWW := Lib.hid hw
          clear hu hz hw hm HW
          go_wp2_with fail
          refine (HD.out _ (H.out.ext (E6.out.tr He.out)) (Hrx6.out.ext He.out)).mono ?_
          rintro e w7 ⟨Ae, ce, rfl, hoe, he7⟩
          have r7 := blt (he7.cellE hbx)
          go_wp2_with fail
          refine (HM.out Ae ce _ hoe.rd ((Hrd.out.ext He.out).ext he7)).mono ?_
          rintro e w8 ⟨rfl, he8⟩
          rw [Hm.out]
          have e8 := Lib.hid (he7.tr he8)
          clear hoe he7 he8
          go_wp2
          go_roundw
          case rel => exact ⟨k + 1, A', c', by omega, by go_num, by rw [HWW.out], by rw [HWW.out]; exact Ho.out.ext e8.out, He.out.tr e8.out⟩
          case measure => simp [intOf]; omega
        · rw [hm] at hw
          simp only [if_true] at hw
          have Hm := Lib.hid hm
          have HWW := Lib.hid hw
          clear hu hz hw hm HW
          go_wp2_with fail
          refine (HD.out _ (H.out.ext (E6.out.tr He.out)) (Hrx6.out.ext He.out)).mono ?_
          rintro e w7 ⟨Ae, ce, rfl, hoe, he7⟩
          have r7 := blt (he7.cellE hbx)
          go_wp2_with fail
          refine (HM.out Ae ce _ hoe.rd ((Hrd.out.ext He.out).ext he7)).mono ?_
          rintro e w8 ⟨rfl, he8⟩
          rw [Hm.out]
          have e8 := Lib.hid (he7.tr he8)
          clear hoe he7 he8
          have s8 := (He.out.tr e8.out).size
          have Ho8 := Lib.hid (Ho.out.ext e8.out)
          go_wp2_with (at_builtin; refine wpList_app1 rfl rfl eiInt rfl Ho8.out rfl rfl (one_int _ _) (by omega) (by omega) (by omega) ?_; intro A2 c2 w9 hown2 hg2 hat2)
          go_roundw
          case rel => exact ⟨k + 1, A2, c2, by omega, by go_num, by rw [HWW.out]; simp, by rw [HWW.out]; simpa using hown2, (He.out.tr e8.out).gr hg2 fun x hx => (by have := (Ho8.out.lt hx).1; omega)⟩
          case measure => simp [intOf]; omega
    · obtain rfl : k = g.length := by omega
      go_wp2
      go_ret
      rw [HS.out]
      exact ⟨A', c', rfl, Ho.out.mono (by omega), E6.out.tr He.out⟩
end Go.Proofs.Ytkkegmimofmhpaa
