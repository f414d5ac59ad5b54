/- SettleLazy of the program: its contract. Conditions: bounds on lengths. -/
import Derived.Test.YtmkfjnkdaeoppaaGreatTy
import Derived.Test.YtmkfjnkdaeoppaaGreatLazR
import Derived.Test.YtmkfjnkdaeoppaaGreatImplS
namespace Go.Proofs.YtmkfjnkdaeoppaaGreat
open Go.RowKit

theorem prd_settle1 : Prd Tryz.prog 89 [] (fun _ => True) (fun _ => true) (fun _ => True) where
 ent := ent_of Tryz.func89 rfl (by kernel_rfl)
 call := fun w k h hk => by
  clear h hk
  go_enter Tryz.func89, Tryz.ntmps89
  go_wp2
  go_ret
  exact ⟨rfl, Ext.rfl' _⟩
 ext := fun _ _ _ _ => trivial

set_option maxRecDepth 100000 in
set_option maxHeartbeats 8000000 in
theorem i_SettleLazy (A Av Ar Aq : Option Addr) (c cv cr cq : Nat) (g : Sg.Graph) (v q : List Int) (r : List (List Int)) (w : World) (h : RdN w A g) (hv : Rd w 1 Av v.length (ints v)) (hr : RdLC w Ar r) (hq : Rd w 1 Aq q.length (ints q)) (hvl : v.length ≤ 1048576) (hql : q.length ≤ 1048576) :
  Calls Tryz.prog 40 #[.agg #[.slice A g.length c], .agg #[.slice Av v.length cv, .slice Ar r.length cr, .slice Aq q.length cq]] w (ZR w (Sg.settleO g ⟨v, r, q⟩).1 (Sg.settleO g ⟨v, r, q⟩).2) := by
 have hgl := h.1
 have HRA0 := fun An cn w h hv hr hq hn => i_ReadAll A Av Ar Aq c cv cr cq g v q r An cn (Sg.allL g.length) w h hv hr hq hvl hql hn
 rw [Sg.length_allL] at HRA0
 have HRA := lh HRA0
 clear HRA0
 have HWH := lh (fun w => i_which prd_settle1 A g.length c w trivial (fun _ _ => trivial) hgl)
 have HSA := lh (Sg.settle_all g ⟨v, r, q⟩)
 have H := lh h
 have Hv := lh hv
 have Hr := lh hr
 have Hq := lh hq
 clear h hv hr hq
 obtain ⟨W1, hW1⟩ : ∃ W1, W1 = World.alloc (World.alloc (World.alloc w (.cells #[.slice A g.length c] 25)) (.cells #[.slice Av v.length cv, .slice Ar r.length cr, .slice Aq q.length cq] 29)) (.cells #[.slice none 0 0, .slice none 0 0, .slice none 0 0] 29) := ⟨_, rfl⟩
 have e1 : Ext w W1 := by rw [hW1]; exact (((Ext.rfl' w).al _).al _).al _
 have z1 : W1.heap.size = w.heap.size + 1 + 1 + 1 := by rw [hW1]; simp
 have BG := lh (show Bx W1 w.heap.size [.slice A g.length c] by rw [hW1]; exact ((Bx.new w _ _).al _).al _)
 have BS := lh (show Bx W1 (w.heap.size + 1) [.slice Av v.length cv, .slice Ar r.length cr, .slice Aq q.length cq] by
  have h1 := (Bx.new (World.alloc w (.cells #[.slice A g.length c] 25)) #[.slice Av v.length cv, .slice Ar r.length cr, .slice Aq q.length cq] 29).al (.cells #[.slice none 0 0, .slice none 0 0, .slice none 0 0] 29)
  simp only [World.size_alloc] at h1
  rw [hW1]; exact h1)
 have BR := lh (show Bx W1 (w.heap.size + 1 + 1) [.slice none 0 0, .slice none 0 0, .slice none 0 0] by
  have h1 := Bx.new (World.alloc (World.alloc w (.cells #[.slice A g.length c] 25)) (.cells #[.slice Av v.length cv, .slice Ar r.length cr, .slice Aq q.length cq] 29)) #[.slice none 0 0, .slice none 0 0, .slice none 0 0] 29
  simp only [World.size_alloc] at h1
  rw [hW1]; exact h1)
 have E1 := lh e1
 have Z1 := lh z1
 clear e1 z1
 go_enter Tryz.func40, Tryz.ntmps40
 go_upto_region 1 with fail
 rw [← hW1]
 clear hW1
 obtain ⟨N, hN⟩ : ∃ N, w.heap.size = N := ⟨_, rfl⟩
 have HN := lh hN
 rw [hN] at BG BS BR Z1
 simp only [hN]
 clear hN
 have g0 := (BG.out.ext (Ext.rfl' W1)).cell (j := 0) rfl
 have s0 := (BS.out.ext (Ext.rfl' W1)).cell (j := 0) rfl
 have s1 := (BS.out.ext (Ext.rfl' W1)).cell (j := 1) rfl
 have s2 := (BS.out.ext (Ext.rfl' W1)).cell (j := 2) rfl
 have bg0 := blt g0
 have bs0 := blt s0
 have hz1 := Z1.out
 go_cut [5] (fun s5 wx => ∃ (R00 : Option Addr) (d00 : Nat) (R01 : Option Addr) (d01 : Nat) (R02 : Option Addr) (d02 : Nat) (z0 : List (Option Addr × Nat)) (R10 : Option Addr) (d10 : Nat), s5 = .slice R10 (Sg.settleO g ⟨v, r, q⟩).2.length d10 ∧ Hid (Bx wx (N + 1 + 1) [.slice R00 (Sg.settleO g ⟨v, r, q⟩).1.vals.length d00, .slice R01 (Sg.settleO g ⟨v, r, q⟩).1.reads.length d01, .slice R02 (Sg.settleO g ⟨v, r, q⟩).1.cols.length d02]) ∧ Hid (OwnZ wx W1.heap.size R00 d00 R01 d01 R02 d02 z0 (Sg.settleO g ⟨v, r, q⟩).1) ∧ Hid (Own wx W1.heap.size 3 1 R10 (Sg.settleO g ⟨v, r, q⟩).2.length d10 (ints (Sg.settleO g ⟨v, r, q⟩).2)) ∧ Hid (∀ b, (fpZ R00 R01 R02 z0 b) → ¬ (blk R10 = some b)) ∧ Hid (Ext w wx))
 case first =>
  refine wp_region_held_drew (S := (fun W => W.cell? ⟨N, 0, none⟩ = some (.slice A g.length c) ∧ W.cell? ⟨N + 1, 0, none⟩ = some (.slice Av v.length cv) ∧ W.cell? ⟨N + 1, 1, none⟩ = some (.slice Ar r.length cr) ∧ W.cell? ⟨N + 1, 2, none⟩ = some (.slice Aq q.length cq))) (by kernel_rfl) ?_ (fun hHeld => ?_)
  ·exact ⟨((Ext.rfl' _).dr).cellE g0, ((Ext.rfl' _).dr).cellE s0, ((Ext.rfl' _).dr).cellE s1, ((Ext.rfl' _).dr).cellE s2⟩
  refine ty 0 ?_
  refine ty 1 ?_
  refine ty 2 ?_
  refine rd1 3 rfl fun K hK => ?_
  go_simp
  refine (HWH.out _).mono ?_
  rintro e w3 ⟨A7, rfl, ho7, he7⟩
  have E7 := lh ((Ext.rfl' W1).dr.tr he7)
  have O7 := lh ho7
  clear ho7 he7
  rw [show Sg.whichL (fun _ => true) g.length = Sg.allL g.length from rfl, Sg.length_allL] at O7 ⊢
  try go_wp2_with fail
  refine hK.out _ _ (by exact ⟨E7.out.cellE g0, E7.out.cellE s0, E7.out.cellE s1, E7.out.cellE s2⟩) fun hh2 => ?_; clear hK K hHeld; have hHeld := hh2; clear hh2
  try simp only [Act.put, pu]
  refine rd1 4 rfl fun K hK => ?_
  go_simp
  refine (HRA.out A7 g.length w3 (H.out.ext (E1.out.tr E7.out)) (Hv.out.ext (E1.out.tr E7.out)) (Hr.out.ext (E1.out.tr E7.out)) (Hq.out.ext (E1.out.tr E7.out)) O7.out.rd).mono ?_
  rw [HSA.out]
  rintro e w4 ⟨R00, d00, R01, d01, R02, d02, z0, R10, d10, rfl, hz, ho, hd, he4⟩
  have E8 := lh (E7.out.tr he4)
  have hs7 := E7.out.size
  have ZZ := lh (hz.mono hs7)
  have OO := lh (ho.mono hs7)
  have DD := lh hd
  clear hz ho hd he4
  have BRf := lh (BR.out.ext E8.out)
  have f0 := BRf.out.free 0
  have f1 := BRf.out.free 1
  have f2 := BRf.out.free 2
  have x0 := BRf.out.cell (j := 0) rfl
  have x1 := BRf.out.cell (j := 1) rfl
  have x2 := BRf.out.cell (j := 2) rfl
  have bl := BRf.out.lt
  try go_wp2_with fail
  refine hK.out _ _ (by exact ⟨E8.out.cellE g0, E8.out.cellE s0, E8.out.cellE s1, E8.out.cellE s2⟩) fun hh2 => ?_; clear hK K hHeld; have hHeld := hh2; clear hh2
  try simp only [Act.put, pu]
  refine ty 5 ?_
  refine ty 6 ?_
  refine rd1 7 rfl fun K hK => ?_
  go_simp
  refine hK.out _ _ (by exact ⟨(Mod.set3 _ _ _ _ _).cellE (E8.out.cellE g0) (by omega), (Mod.set3 _ _ _ _ _).cellE (E8.out.cellE s0) (by omega), (Mod.set3 _ _ _ _ _).cellE (E8.out.cellE s1) (by omega), (Mod.set3 _ _ _ _ _).cellE (E8.out.cellE s2) (by omega)⟩) fun hh2 => ?_; clear hK K hHeld; have hHeld := hh2; clear hh2
  try simp only [Act.put]
  refine ty 8 ?_
  refine dn ?_
  go_wp2_with fail
  go_meet
  exact ⟨R00, d00, R01, d01, R02, d02, z0, R10, d10, rfl, lh (BRf.out.set3 _ _ _), lh (ZZ.out.mod (Mod.set3 _ _ _ _ _) (fun b hb e => by have := (ZZ.out.lt hb).1; omega)), lh (OO.out.mod (Mod.set3 _ _ _ _ _) (fun b hb e => by have := (OO.out.lt hb).1; omega)), DD, lh (Ext.md (E1.out.tr E8.out) (Mod.set3 _ _ _ _ _) (fun b e => by have := HN.out; omega))⟩
 case rest =>
  obtain ⟨R00, d00, R01, d01, R02, d02, z0, R10, d10, rfl, hBf, hZ, hO, hD, hE⟩ := hcut
  have r0 := hBf.out.cell (j := 0) rfl
  have r1 := hBf.out.cell (j := 1) rfl
  have r2 := hBf.out.cell (j := 2) rfl
  generalize Sg.settleO g ⟨v, r, q⟩ = u at *
  clear g0 s0 s1 s2 bg0 bs0
  go_wp2
  refine bodyPost_ret (v := .tuple #[.agg #[.slice R00 u.1.vals.length d00, .slice R01 u.1.reads.length d01, .slice R02 u.1.cols.length d02], .slice R10 u.2.length d10]) (by simp [results, Tryz.results40, go_sem, r0, r1, r2]; try rfl) rfl ?_
  have e3 := E1.out.size
  exact ⟨R00, d00, R01, d01, R02, d02, z0, R10, d10, rfl, hZ.out.mono e3, hO.out.mono e3, hD.out, hE.out⟩
end Go.Proofs.YtmkfjnkdaeoppaaGreat
