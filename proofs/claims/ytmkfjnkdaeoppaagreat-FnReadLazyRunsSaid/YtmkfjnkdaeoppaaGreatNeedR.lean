/- The program's NeedOf: its contract. Conditions: bounds on lengths. -/
import Derived.Test.YtmkfjnkdaeoppaaGreatTy
import Derived.Test.YtmkfjnkdaeoppaaGreatMayR
import Derived.Test.YtmkfjnkdaeoppaaGreatPlAll
namespace Sg
theorem Use.front {g : Graph} {a m b : Nat} (h : (a : Int) ∈ mayRead (g.getD m default).f) (k : Use g m b) : Use g a b := by
 induction k with
 | self => exact .more .self h
 | more _ h2 ih => exact .more ih h2
theorem Need.use {g : Graph} {n k : Nat} (h : Need g n k) : Use g k n := by
 induction h with
 | self => exact .self
 | more _ hx ih => exact Use.front hx ih
noncomputable def needL (g : Graph) (n : Int) : List Int := if (validG g && inR n 0 ((g.length : Int) - 1)) = true then whichL (fun i => useB g i n.toNat) g.length else []
theorem mem_needL {g : Graph} (hG : validG g = true) {k : Nat} (hk : k < g.length) {x : Int} {j : Nat} (e : x = j) (hj : j < g.length) (h : Need g k j) : x ∈ needL g (k : Int) := by
 unfold needL
 rw [hG, inR_iff.2 ⟨k, rfl, hk⟩]
 rw [Bool.and_true, if_pos rfl, mem_whichL]
 exact ⟨j, e, hj, by rw [Int.toNat_natCast]; exact useB_iff.2 h.use⟩
end Sg
namespace Go.Proofs.YtmkfjnkdaeoppaaGreat
open Go.RowKit

set_option maxHeartbeats 1000000 in
theorem prd_need1 (Bg Bi : Nat) (A : Option Addr) (c : Nat) (g : Sg.Graph) (i : Nat) (hG : Sg.validG g = true) (hi : i < g.length) : Prd Tryz.prog 94 [.pointer (some ⟨Bg, 0, none⟩), .pointer (some ⟨Bi, 0, none⟩)] (RInv Bg Bi A c g i) (fun x => Sg.useB g x.toNat i) (fun x => 0 ≤ x ∧ x < g.length) where
 ent := ent_of Tryz.func94 rfl (by kernel_rfl)
 call := fun w x h hx => by
  obtain ⟨h1, h2, h3⟩ := h
  obtain ⟨n, rfl⟩ := Int.eq_ofNat_of_zero_le hx.1
  have hgl := h3.1
  have HR := lh (fun w h => i_reach A c g n w h hG (by omega))
  have HI := lh hi
  have H3 := lh h3
  have hb1 := blt h1
  have hb2 := blt h2
  have ed := lh (Ext.rfl' w).dr
  have higl : (i : Int) < (g.length : Int) := by omega
  clear hG h3 hx
  go_enter Tryz.func94, Tryz.ntmps94
  go_wp2_with fail
  refine wp_region_held_drew (S := (fun W => W.cell? ⟨Bg, 0, none⟩ = some (.slice A g.length c) ∧ W.cell? ⟨Bi, 0, none⟩ = some (.int .i64 i))) (by kernel_rfl) ?_ (fun hHeld => ?_)
  ·exact ⟨ed.out.cellE h1, ed.out.cellE h2⟩
  refine ty 0 ?_
  refine ty 1 ?_
  refine ty 3 ?_
  refine rd1 2 rfl fun K hK => ?_
  go_simp
  refine (HR.out _ (H3.out.ext ed.out)).mono ?_
  rintro e w1 ⟨M, rfl, ho, he1⟩
  have k1 := he1.cellE (ed.out.cellE h1)
  have k2 := he1.cellE (ed.out.cellE h2)
  have kc := ho.cell (j := i) (u := .bool (Sg.useB g n i)) (by rw [bools_at, Sg.marksTo_at g n _ i HI.out]; simp [HI.out])
  have he2 := lh (ed.out.tr he1)
  have bM := blt kc
  clear ho he1
  generalize hz : Sg.useB g n i = z at *
  have HZ := lh hz
  clear hz
  try go_wp2_with fail
  refine hK.out _ _ (by exact ⟨k1, k2⟩) fun hh2 => ?_; clear hK K hHeld; have hHeld := hh2; clear hh2
  try simp only [Act.put, pu]
  refine ty 4 ?_
  refine rd1 5 rfl fun K hK => ?_
  go_simp
  refine hK.out _ _ (by exact ⟨k1, k2⟩) fun hh2 => ?_; clear hK K hHeld; have hHeld := hh2; clear hh2
  try simp only [Act.put, pu]
  refine ty 6 ?_
  refine dn ?_
  go_wp2
  go_ret
  exact ⟨ret_bool (by rw [Int.toNat_natCast, HZ.out]), he2.out⟩
 ext := fun _ _ h e => h.ext e

set_option maxHeartbeats 2000000 in
theorem i_NeedOf (A : Option Addr) (c : Nat) (g : Sg.Graph) (n : Int) (w : World) (h : RdN w A g) :
  Calls Tryz.prog 48 #[.agg #[.slice A g.length c], .int .i64 n] w fun e w' => ∃ A1, e = .returned (.slice A1 (Sg.needL g n).length (Sg.needL g n).length) ∧ Own w' w.heap.size 3 1 A1 (Sg.needL g n).length (Sg.needL g n).length (ints (Sg.needL g n)) ∧ Ext w w' := by
 have hgl := h.1
 have e0 := lh (((Ext.rfl' w).al (.cells #[.slice A g.length c] 25)).al (.cells #[.int .i64 n] 3))
 have HVG := lh (i_ValidGraph A c g)
 have HH := lh (fun w => i_has A g.length c n w hgl)
 have q0 := lh (show ((w.alloc (.cells #[.slice A g.length c] 25)).alloc (.cells #[.int .i64 n] 3)).cell? ⟨w.heap.size, 0, none⟩ = some (.slice A g.length c) by simp [go_sem])
 have q1 := lh (show ((w.alloc (.cells #[.slice A g.length c] 25)).alloc (.cells #[.int .i64 n] 3)).cell? ⟨w.heap.size + 1, 0, none⟩ = some (.int .i64 n) by simp [go_sem])
 have H := lh h
 clear h
 cases hG : Sg.validG g
 ·have HS := lh (show Sg.needL g n = [] by unfold Sg.needL; rw [hG]; rfl)
  have HG := lh hG
  clear hG
  go_enter Tryz.func48, Tryz.ntmps48
  go_wp2_with fail
  refine (HVG.out _ (H.out.ext e0.out)).mono ?_
  rintro e w1 ⟨rfl, he1⟩
  rw [HG.out]
  have E1 := lh (e0.out.tr he1)
  clear he1
  go_wp2
  go_ret
  rw [HS.out]
  exact ⟨none, rfl, Own.nil _ _ _ _, E1.out⟩
 ·have HG := lh hG
  cases hD : Sg.inR n 0 ((g.length : Int) - 1)
  ·have HS := lh (show Sg.needL g n = [] by unfold Sg.needL; rw [hG, hD]; rfl)
   have HD := lh hD
   clear hG hD
   go_enter Tryz.func48, Tryz.ntmps48
   go_wp2_with fail
   refine (HVG.out _ (H.out.ext e0.out)).mono ?_
   rintro e w1 ⟨rfl, he1⟩
   rw [HG.out]
   have p0 := he1.cellE q0.out
   have p1 := he1.cellE q1.out
   have E1 := lh (e0.out.tr he1)
   clear he1
   go_wp2_with fail
   refine (HH.out _).mono ?_
   rintro e w2 ⟨rfl, he2⟩
   rw [HD.out]
   have E2 := lh (E1.out.tr he2)
   clear he2
   go_wp2
   go_ret
   rw [HS.out]
   exact ⟨none, rfl, Own.nil _ _ _ _, E2.out⟩
  ·have HS := lh (show Sg.needL g n = Sg.whichL (fun i => Sg.useB g i n.toNat) g.length by unfold Sg.needL; rw [hG, hD]; rfl)
   have HD := lh hD
   obtain ⟨k, rfl, hk⟩ := Sg.inR_iff.1 hD
   rw [Int.toNat_natCast] at HS
   clear hG hD
   go_enter Tryz.func48, Tryz.ntmps48
   go_wp2_with fail
   refine (HVG.out _ (H.out.ext e0.out)).mono ?_
   rintro e w1 ⟨rfl, he1⟩
   rw [HG.out]
   have p0 := he1.cellE q0.out
   have p1 := he1.cellE q1.out
   have E1 := lh (e0.out.tr he1)
   clear he1
   go_wp2_with fail
   refine (HH.out _).mono ?_
   rintro e w2 ⟨rfl, he2⟩
   rw [HD.out]
   have p0 := he2.cellE p0
   have p1 := he2.cellE p1
   have E2 := lh (E1.out.tr he2)
   clear he2
   have HWH := i_which (prd_need1 w.heap.size (w.heap.size + 1) A c g k HG.out hk) A g.length c w2 ⟨p0, p1, H.out.ext E2.out⟩ (fun k hk => ⟨by omega, by omega⟩) hgl
   simp only [Int.toNat_natCast] at HWH
   have HWW := lh HWH
   have z2 := E2.out.size
   clear HWH
   go_wp2_with fail
   refine HWW.out.mono ?_
   rintro e w7 ⟨A7, rfl, ho7, he7⟩
   have Ho7 := lh ho7
   have E7 := lh (E2.out.tr he7)
   clear ho7 he7
   go_wp2
   go_ret
   rw [HS.out]
   exact ⟨A7, rfl, Ho7.out.mono z2, E7.out⟩
end Go.Proofs.YtmkfjnkdaeoppaaGreat
