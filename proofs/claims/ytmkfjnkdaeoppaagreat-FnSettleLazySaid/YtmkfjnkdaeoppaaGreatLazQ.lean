/- ReadLazy of the reference: its contract. Conditions: bounds on lengths. -/
import Derived.Test.YtmkfjnkdaeoppaaGreatTy
import Derived.Test.YtmkfjnkdaeoppaaGreatLazFour
import Derived.Test.YtmkfjnkdaeoppaaGreatLazFive
import Derived.Test.YtmkfjnkdaeoppaaGreatLazE
import Derived.Test.YtmkfjnkdaeoppaaGreatSpecQRS
import Derived.Deep.DeepCutAuto
namespace Go.Proofs.YtmkfjnkdaeoppaaGreat
open Go.RowKit

set_option maxRecDepth 100000 in
set_option maxHeartbeats 8000000 in
theorem s_ReadLazy (A Av Ar Aq : Option Addr) (c cv cr cq : Nat) (g : Sg.Graph) (v q : List Int) (r : List (List Int)) (n : Int) (w : World) (h : RdN w A g) (hv : Rd w 1 Av v.length (ints v)) (hr : RdLC w Ar r) (hq : Rd w 1 Aq q.length (ints q)) (hvl : v.length ≤ 1048576) (hql : q.length ≤ 1048576) :
  Calls Tryz.prog 30 #[.agg #[.slice A g.length c], .agg #[.slice Av v.length cv, .slice Ar r.length cr, .slice Aq q.length cq], .int .i64 n] w (ZN w (Sg.readLO g ⟨v, r, q⟩ n).1 (Sg.readLO g ⟨v, r, q⟩ n).2.1 (Sg.readLO g ⟨v, r, q⟩ n).2.2) := by
 have hgl := h.1
 have HV := lh (fun w h hv hr hq => s_validLazy A Av Ar Aq c cv cr cq g v q r w h hv hr hq hvl hql)
 have HSM := lh (Sg.validL_same g ⟨v, r, q⟩)
 have H := lh h
 have Hv := lh hv
 have Hr := lh hr
 have Hq := lh hq
 clear h hv hr hq
 have HI := lh (fun w => s_inRange n 0 ((g.length : Int) - 1) w)
 obtain ⟨W1, hW1⟩ : ∃ W1, W1 = World.alloc (World.alloc (World.alloc w (.cells #[.slice A g.length c] 25)) (.cells #[.slice Av v.length cv, .slice Ar r.length cr, .slice Aq q.length cq] 29)) (.cells #[.slice none 0 0, .slice none 0 0, .slice none 0 0] 29) := ⟨_, rfl⟩
 have e1 : Ext w W1 := by rw [hW1]; exact (((Ext.rfl' w).al _).al _).al _
 have z1 : W1.heap.size = w.heap.size + 1 + 1 + 1 := by rw [hW1]; simp
 have BG := lh (show Bx W1 w.heap.size [.slice A g.length c] by rw [hW1]; exact ((Bx.new w _ _).al _).al _)
 have BS := lh (show Bx W1 (w.heap.size + 1) [.slice Av v.length cv, .slice Ar r.length cr, .slice Aq q.length cq] by
  have h1 := (Bx.new (World.alloc w (.cells #[.slice A g.length c] 25)) #[.slice Av v.length cv, .slice Ar r.length cr, .slice Aq q.length cq] 29).al (.cells #[.slice none 0 0, .slice none 0 0, .slice none 0 0] 29)
  simp only [World.size_alloc] at h1
  rw [hW1]; exact h1)
 have BR := lh (show Bx W1 (w.heap.size + 1 + 1) [.slice none 0 0, .slice none 0 0, .slice none 0 0] by
  have h1 := Bx.new (World.alloc (World.alloc w (.cells #[.slice A g.length c] 25)) (.cells #[.slice Av v.length cv, .slice Ar r.length cr, .slice Aq q.length cq] 29)) #[.slice none 0 0, .slice none 0 0, .slice none 0 0] 29
  simp only [World.size_alloc] at h1
  rw [hW1]; exact h1)
 have E1 := lh e1
 have Z1 := lh z1
 clear e1 z1
 go_enter Tryz.func30, Tryz.ntmps30
 go_upto_region 1 with fail
 rw [← hW1]
 clear hW1
 obtain ⟨N, hN⟩ : ∃ N, w.heap.size = N := ⟨_, rfl⟩
 have HN := lh hN
 rw [hN] at BG BS BR Z1
 simp only [hN]
 clear hN
 have g0 := (BG.out.ext (Ext.rfl' W1)).cell (j := 0) rfl
 have s0 := (BS.out.ext (Ext.rfl' W1)).cell (j := 0) rfl
 have s1 := (BS.out.ext (Ext.rfl' W1)).cell (j := 1) rfl
 have s2 := (BS.out.ext (Ext.rfl' W1)).cell (j := 2) rfl
 have bg0 := blt g0
 have bs0 := blt s0
 go_wp2_with fail
 refine (HV.out _ (H.out.ext E1.out) (Hv.out.ext E1.out) (RdLC.l (Hr.out.ext E1.out)) (Hq.out.ext E1.out)).mono ?_
 rw [HSM.out]
 rintro e w2 ⟨rfl, he2⟩
 have U2 := lh he2
 clear he2 g0 s0 s1 s2 bg0 bs0
 have g0 := (BG.out.ext U2.out).cell (j := 0) rfl
 have s0 := (BS.out.ext U2.out).cell (j := 0) rfl
 have s1 := (BS.out.ext U2.out).cell (j := 1) rfl
 have s2 := (BS.out.ext U2.out).cell (j := 2) rfl
 have bg0 := blt g0
 have bs0 := blt s0
 cases hE : Sg.validL g ⟨v, r, q⟩
 ·have HS := lh (show Sg.readLO g ⟨v, r, q⟩ n = (⟨[], [], []⟩, 0, []) by unfold Sg.readLO; rw [hE]; rfl)
  clear hE
  have BRf := lh (BR.out.ext U2.out)
  have f0 := BRf.out.free 0
  have f1 := BRf.out.free 1
  have f2 := BRf.out.free 2
  have x0 := BRf.out.cell (j := 0) rfl
  have x1 := BRf.out.cell (j := 1) rfl
  have x2 := BRf.out.cell (j := 2) rfl
  have bl := BRf.out.lt
  have r0 := (BRf.out.set3 (.slice none 0 0) (.slice none 0 0) (.slice none 0 0)).cell (j := 0) rfl
  have r1 := (BRf.out.set3 (.slice none 0 0) (.slice none 0 0) (.slice none 0 0)).cell (j := 1) rfl
  have r2 := (BRf.out.set3 (.slice none 0 0) (.slice none 0 0) (.slice none 0 0)).cell (j := 2) rfl
  clear g0 s0 s1 s2 bg0 bs0
  go_wp2
  refine bodyPost_ret (v := .tuple #[.agg #[.slice none 0 0, .slice none 0 0, .slice none 0 0], .int .i64 0, .slice none 0 0]) (by simp [results, Tryz.results30, go_sem, r0, r1, r2]; try rfl) rfl ?_
  rw [HS.out]
  exact ⟨none, 0, none, 0, none, 0, [], none, 0, rfl, OwnZ.nil _ _, by simpa [ints] using Own.nil _ _ 3 1, by simp [blk], Ext.md (E1.out.tr U2.out) (Mod.set3 w2 (N + 1 + 1) _ _ _) (fun b e => by have := HN.out; omega)⟩
 have HE := lh hE
 go_wp2_with fail
 refine (HI.out _).mono ?_
 rintro e w' ⟨rfl, rfl⟩
 cases hR : Sg.inR n 0 ((g.length : Int) - 1)
 ·have HS := lh (show Sg.readLO g ⟨v, r, q⟩ n = (⟨[], [], []⟩, 0, []) by unfold Sg.readLO; rw [hE, hR]; rfl)
  clear hE hR
  have BRf := lh (BR.out.ext U2.out)
  have f0 := BRf.out.free 0
  have f1 := BRf.out.free 1
  have f2 := BRf.out.free 2
  have x0 := BRf.out.cell (j := 0) rfl
  have x1 := BRf.out.cell (j := 1) rfl
  have x2 := BRf.out.cell (j := 2) rfl
  have bl := BRf.out.lt
  have r0 := (BRf.out.set3 (.slice none 0 0) (.slice none 0 0) (.slice none 0 0)).cell (j := 0) rfl
  have r1 := (BRf.out.set3 (.slice none 0 0) (.slice none 0 0) (.slice none 0 0)).cell (j := 1) rfl
  have r2 := (BRf.out.set3 (.slice none 0 0) (.slice none 0 0) (.slice none 0 0)).cell (j := 2) rfl
  clear g0 s0 s1 s2 bg0 bs0
  go_wp2
  refine bodyPost_ret (v := .tuple #[.agg #[.slice none 0 0, .slice none 0 0, .slice none 0 0], .int .i64 0, .slice none 0 0]) (by simp [results, Tryz.results30, go_sem, r0, r1, r2]; try rfl) rfl ?_
  rw [HS.out]
  exact ⟨none, 0, none, 0, none, 0, [], none, 0, rfl, OwnZ.nil _ _, by simpa [ints] using Own.nil _ _ 3 1, by simp [blk], Ext.md (E1.out.tr U2.out) (Mod.set3 w2 (N + 1 + 1) _ _ _) (fun b e => by have := HN.out; omega)⟩
 have HS := lh (show Sg.readLO g ⟨v, r, q⟩ n = ((Sg.readS g ⟨v, r, q⟩ n).st, Sg.valOf (Sg.readS g ⟨v, r, q⟩ n) n.toNat, (Sg.readS g ⟨v, r, q⟩ n).ran) by unfold Sg.readLO; rw [hE, hR]; rfl)
 have hrn : 0 ≤ n ∧ n < (g.length : Int) := by
  unfold Sg.inR at hR
  simp only [Bool.and_eq_true, decide_eq_true_eq] at hR
  omega
 obtain ⟨k, rfl⟩ := Int.eq_ofNat_of_zero_le hrn.1
 have hkg : k < g.length := by omega
 obtain ⟨nd, bn, on, Ap, cp, _, hAe, _⟩ := H.out.at_ hkg
 subst hAe
 clear hE hR hrn
 obtain ⟨hG, hvg, hrg, hqg, _⟩ := Sg.validL_shape HE.out
 have HG := lh hG
 have HLN := lh (And.intro hvg (And.intro hrg hqg))
 have hg10 := Sg.validG_len10 hG
 clear hG hvg hrg hqg
 go_upto_region 3 with fail
 go_cut [9] (fun s9 wx => ∃ (Bl gv gr gq c1 c2 c3 : Nat) (F : Nat → Prop), s9 = .pointer (some ⟨Bl, 0, none⟩) ∧ Hid (Ext w2 wx) ∧ Hid (LS w2 g.length gv c1 gr c2 gq c3 Bl (preS bn on g.length c g.length gv c1 gr c2 gq c3) ⟨⟨v, r, q⟩, []⟩ F wx))
 case first =>
  refine wp_region_held_drew (S := (fun W => W.cell? ⟨N, 0, none⟩ = some (.slice (some ⟨bn, on, none⟩) g.length c) ∧ W.cell? ⟨N + 1, 0, none⟩ = some (.slice Av v.length cv) ∧ W.cell? ⟨N + 1, 1, none⟩ = some (.slice Ar r.length cr) ∧ W.cell? ⟨N + 1, 2, none⟩ = some (.slice Aq q.length cq))) (by kernel_rfl) ?_ (fun hHeld => ?_)
  ·exact ⟨((Ext.rfl' _).dr).cellE g0, ((Ext.rfl' _).dr).cellE s0, ((Ext.rfl' _).dr).cellE s1, ((Ext.rfl' _).dr).cellE s2⟩
  refine ty 0 ?_
  refine ty 1 ?_
  refine wpAnyH_ready (rs := [2, 3]) (by kernel_rfl) (by simp) ?_
  refine AllReadyH.cons rfl (fun K hK => ?_) ?_
  ·go_simp
   refine (s_copyZ Av Ar Aq cv cr cq v q r _ (Hv.out.ext ((E1.out.tr U2.out).tr ((Ext.rfl' w2).dr))) (RdLC.l (Hr.out.ext ((E1.out.tr U2.out).tr ((Ext.rfl' w2).dr)))) (Hq.out.ext ((E1.out.tr U2.out).tr ((Ext.rfl' w2).dr))) hvl hql).mono ?_
   rintro e w4 ⟨A1, c1, A2, c2, A3, c3, hs, rfl, hoz, he4⟩
   obtain ⟨gv, gr, gq, rfl, rfl, rfl⟩ := hoz.some3 (by have := HLN.out.1; (try dsimp only at this); omega) (by have := HLN.out.2.1; (try dsimp only at this); omega) (by have := HLN.out.2.2; (try dsimp only at this); omega)
   have h4 := ((Ext.rfl' w2).dr).tr he4
   have hs4 := he4.size
   try simp only [World.size_alloc] at hs4
   try go_wp2_with fail
   refine hK.out _ _ (by exact (by first | exact ⟨((Ext.rfl' _).dr).cellE g0, ((Ext.rfl' _).dr).cellE s0, ((Ext.rfl' _).dr).cellE s1, ((Ext.rfl' _).dr).cellE s2⟩ | exact ⟨(((Ext.rfl' _).dr).al _).cellE g0, (((Ext.rfl' _).dr).al _).cellE s0, (((Ext.rfl' _).dr).al _).cellE s1, (((Ext.rfl' _).dr).al _).cellE s2⟩ | exact ⟨h4.cellE g0, h4.cellE s0, h4.cellE s1, h4.cellE s2⟩ | exact ⟨(h4.al _).cellE g0, (h4.al _).cellE s0, (h4.al _).cellE s1, (h4.al _).cellE s2⟩ | exact ⟨((h4.al _).al _).cellE g0, ((h4.al _).al _).cellE s0, ((h4.al _).al _).cellE s1, ((h4.al _).al _).cellE s2⟩)) fun hh2 => ?_; clear hK K hHeld; have hHeld := hh2; clear hh2
   try simp only [Act.put, pu]
   refine rd1 3 rfl fun K hK => ?_
   go_simp
   try simp only [pg]
   refine hK.out _ _ (by exact (by first | exact ⟨((Ext.rfl' _).dr).cellE g0, ((Ext.rfl' _).dr).cellE s0, ((Ext.rfl' _).dr).cellE s1, ((Ext.rfl' _).dr).cellE s2⟩ | exact ⟨(((Ext.rfl' _).dr).al _).cellE g0, (((Ext.rfl' _).dr).al _).cellE s0, (((Ext.rfl' _).dr).al _).cellE s1, (((Ext.rfl' _).dr).al _).cellE s2⟩ | exact ⟨h4.cellE g0, h4.cellE s0, h4.cellE s1, h4.cellE s2⟩ | exact ⟨(h4.al _).cellE g0, (h4.al _).cellE s0, (h4.al _).cellE s1, (h4.al _).cellE s2⟩ | exact ⟨((h4.al _).al _).cellE g0, ((h4.al _).al _).cellE s0, ((h4.al _).al _).cellE s1, ((h4.al _).al _).cellE s2⟩)) fun hh2 => ?_; clear hK K hHeld; have hHeld := hh2; clear hh2
   try simp only [Act.put, pu]
   refine ty 4 ?_
   refine rd1 5 rfl fun K hK => ?_
   go_simp
   refine hK.out _ _ (by exact (by first | exact ⟨((Ext.rfl' _).dr).cellE g0, ((Ext.rfl' _).dr).cellE s0, ((Ext.rfl' _).dr).cellE s1, ((Ext.rfl' _).dr).cellE s2⟩ | exact ⟨(((Ext.rfl' _).dr).al _).cellE g0, (((Ext.rfl' _).dr).al _).cellE s0, (((Ext.rfl' _).dr).al _).cellE s1, (((Ext.rfl' _).dr).al _).cellE s2⟩ | exact ⟨h4.cellE g0, h4.cellE s0, h4.cellE s1, h4.cellE s2⟩ | exact ⟨(h4.al _).cellE g0, (h4.al _).cellE s0, (h4.al _).cellE s1, (h4.al _).cellE s2⟩ | exact ⟨((h4.al _).al _).cellE g0, ((h4.al _).al _).cellE s0, ((h4.al _).al _).cellE s1, ((h4.al _).al _).cellE s2⟩)) fun hh2 => ?_; clear hK K hHeld; have hHeld := hh2; clear hh2
   try simp only [Act.put, pu]
   refine ty 6 ?_
   refine dn ?_
   have hw3 : w2.heap.size ≤ w4.heap.size := h4.size
   go_wp2_with fail
   go_meet
   have hbx := Bx.new (World.alloc w4 (.cells #[] 3)) #[.slice (some ⟨bn, on, none⟩) g.length c, .slice (some ⟨gv, 0, none⟩) v.length c1, .slice (some ⟨gr, 0, none⟩) r.length c2, .slice (some ⟨gq, 0, none⟩) q.length c3, .slice (some ⟨w4.heap.size, 0, none⟩) 0 0] 94
   simp only [World.size_alloc] at hbx
   have hl : ([.slice (some ⟨bn, on, none⟩) g.length c, .slice (some ⟨gv, 0, none⟩) v.length c1, .slice (some ⟨gr, 0, none⟩) r.length c2, .slice (some ⟨gq, 0, none⟩) q.length c3, .slice (some ⟨w4.heap.size, 0, none⟩) 0 0] : List Value) = preS bn on g.length c g.length gv c1 gr c2 gq c3 ++ [.slice (some ⟨w4.heap.size, 0, none⟩) 0 0] := by rw [show v.length = g.length from HLN.out.1, show r.length = g.length from HLN.out.2.1, show q.length = g.length from HLN.out.2.2]; rfl
   have hbx2 : Bx (World.alloc (World.alloc w4 (.cells #[] 3)) (.cells #[.slice (some ⟨bn, on, none⟩) g.length c, .slice (some ⟨gv, 0, none⟩) v.length c1, .slice (some ⟨gr, 0, none⟩) r.length c2, .slice (some ⟨gq, 0, none⟩) q.length c3, .slice (some ⟨w4.heap.size, 0, none⟩) 0 0] 94)) (w4.heap.size + 1) (preS bn on g.length c g.length gv c1 gr c2 gq c3 ++ [.slice (some ⟨w4.heap.size, 0, none⟩) 0 0]) := by rw [← hl]; exact hbx
   obtain ⟨F, hF, _⟩ := LS.of (w0 := w2) (L := g.length) (pre := preS bn on g.length c g.length gv c1 gr c2 gq c3) (A := some ⟨w4.heap.size, 0, none⟩) (c := 0) (h4.tr (((Ext.rfl' w4).al _).al _)) ((hoz.ext (((Ext.rfl' w4).al _).al _)).mono (by first | exact Nat.le_refl _ | simp)) HLN.out.1 HLN.out.2.1 HLN.out.2.2 hbx2 (((Own.new w4 (B := w2.heap.size) 3 1 #[] 0 (by omega) (by unfold maxLen; omega) rfl)).ext ((Ext.rfl' _).al _)) (by omega) (fun b hb => ⟨fun e => by have := (hoz.lt hb).2; omega, fun e => by have h1 := hoz.lt hb; (try simp only [World.size_alloc] at h1); have h0 : (World.drew w2).heap.size = w2.heap.size := rfl; have e2 := Option.some.inj e; dsimp only at e2; omega⟩) (fun e => by have h0 : (World.drew w2).heap.size = w2.heap.size := rfl; have e2 := Option.some.inj e; dsimp only at e2; omega)
   exact ⟨_, gv, gr, gq, c1, c2, c3, F, rfl, lh (h4.tr (((Ext.rfl' w4).al _).al _)), lh hF⟩
  refine AllReadyH.cons rfl (fun K hK => ?_) ?_
  ·go_simp
   try simp only [pg]
   refine hK.out _ _ (by exact (by first | exact ⟨((Ext.rfl' _).dr).cellE g0, ((Ext.rfl' _).dr).cellE s0, ((Ext.rfl' _).dr).cellE s1, ((Ext.rfl' _).dr).cellE s2⟩ | exact ⟨(((Ext.rfl' _).dr).al _).cellE g0, (((Ext.rfl' _).dr).al _).cellE s0, (((Ext.rfl' _).dr).al _).cellE s1, (((Ext.rfl' _).dr).al _).cellE s2⟩ | exact ⟨h4.cellE g0, h4.cellE s0, h4.cellE s1, h4.cellE s2⟩ | exact ⟨(h4.al _).cellE g0, (h4.al _).cellE s0, (h4.al _).cellE s1, (h4.al _).cellE s2⟩ | exact ⟨((h4.al _).al _).cellE g0, ((h4.al _).al _).cellE s0, ((h4.al _).al _).cellE s1, ((h4.al _).al _).cellE s2⟩)) fun hh2 => ?_; clear hK K hHeld; have hHeld := hh2; clear hh2
   try simp only [Act.put, pu]
   refine rd1 2 rfl fun K hK => ?_
   go_simp
   refine (s_copyZ Av Ar Aq cv cr cq v q r _ (Hv.out.ext ((E1.out.tr U2.out).tr (((Ext.rfl' w2).dr).al (.cells #[] 3)))) (RdLC.l (Hr.out.ext ((E1.out.tr U2.out).tr (((Ext.rfl' w2).dr).al (.cells #[] 3))))) (Hq.out.ext ((E1.out.tr U2.out).tr (((Ext.rfl' w2).dr).al (.cells #[] 3)))) hvl hql).mono ?_
   rintro e w4 ⟨A1, c1, A2, c2, A3, c3, hs, rfl, hoz, he4⟩
   obtain ⟨gv, gr, gq, rfl, rfl, rfl⟩ := hoz.some3 (by have := HLN.out.1; (try dsimp only at this); omega) (by have := HLN.out.2.1; (try dsimp only at this); omega) (by have := HLN.out.2.2; (try dsimp only at this); omega)
   have h4 := (((Ext.rfl' w2).dr).al (.cells #[] 3)).tr he4
   have hs4 := he4.size
   try simp only [World.size_alloc] at hs4
   try go_wp2_with fail
   refine hK.out _ _ (by exact (by first | exact ⟨((Ext.rfl' _).dr).cellE g0, ((Ext.rfl' _).dr).cellE s0, ((Ext.rfl' _).dr).cellE s1, ((Ext.rfl' _).dr).cellE s2⟩ | exact ⟨(((Ext.rfl' _).dr).al _).cellE g0, (((Ext.rfl' _).dr).al _).cellE s0, (((Ext.rfl' _).dr).al _).cellE s1, (((Ext.rfl' _).dr).al _).cellE s2⟩ | exact ⟨h4.cellE g0, h4.cellE s0, h4.cellE s1, h4.cellE s2⟩ | exact ⟨(h4.al _).cellE g0, (h4.al _).cellE s0, (h4.al _).cellE s1, (h4.al _).cellE s2⟩ | exact ⟨((h4.al _).al _).cellE g0, ((h4.al _).al _).cellE s0, ((h4.al _).al _).cellE s1, ((h4.al _).al _).cellE s2⟩)) fun hh2 => ?_; clear hK K hHeld; have hHeld := hh2; clear hh2
   try simp only [Act.put, pu]
   refine ty 4 ?_
   refine rd1 5 rfl fun K hK => ?_
   go_simp
   refine hK.out _ _ (by exact (by first | exact ⟨((Ext.rfl' _).dr).cellE g0, ((Ext.rfl' _).dr).cellE s0, ((Ext.rfl' _).dr).cellE s1, ((Ext.rfl' _).dr).cellE s2⟩ | exact ⟨(((Ext.rfl' _).dr).al _).cellE g0, (((Ext.rfl' _).dr).al _).cellE s0, (((Ext.rfl' _).dr).al _).cellE s1, (((Ext.rfl' _).dr).al _).cellE s2⟩ | exact ⟨h4.cellE g0, h4.cellE s0, h4.cellE s1, h4.cellE s2⟩ | exact ⟨(h4.al _).cellE g0, (h4.al _).cellE s0, (h4.al _).cellE s1, (h4.al _).cellE s2⟩ | exact ⟨((h4.al _).al _).cellE g0, ((h4.al _).al _).cellE s0, ((h4.al _).al _).cellE s1, ((h4.al _).al _).cellE s2⟩)) fun hh2 => ?_; clear hK K hHeld; have hHeld := hh2; clear hh2
   try simp only [Act.put, pu]
   refine ty 6 ?_
   refine dn ?_
   have hw3 : w2.heap.size ≤ w4.heap.size := h4.size
   go_wp2_with fail
   go_meet
   have hbx := Bx.new w4 #[.slice (some ⟨bn, on, none⟩) g.length c, .slice (some ⟨gv, 0, none⟩) v.length c1, .slice (some ⟨gr, 0, none⟩) r.length c2, .slice (some ⟨gq, 0, none⟩) q.length c3, .slice (some ⟨w2.heap.size, 0, none⟩) 0 0] 94
   have hl : ([.slice (some ⟨bn, on, none⟩) g.length c, .slice (some ⟨gv, 0, none⟩) v.length c1, .slice (some ⟨gr, 0, none⟩) r.length c2, .slice (some ⟨gq, 0, none⟩) q.length c3, .slice (some ⟨w2.heap.size, 0, none⟩) 0 0] : List Value) = preS bn on g.length c g.length gv c1 gr c2 gq c3 ++ [.slice (some ⟨w2.heap.size, 0, none⟩) 0 0] := by rw [show v.length = g.length from HLN.out.1, show r.length = g.length from HLN.out.2.1, show q.length = g.length from HLN.out.2.2]; rfl
   have hbx2 : Bx (World.alloc w4 (.cells #[.slice (some ⟨bn, on, none⟩) g.length c, .slice (some ⟨gv, 0, none⟩) v.length c1, .slice (some ⟨gr, 0, none⟩) r.length c2, .slice (some ⟨gq, 0, none⟩) q.length c3, .slice (some ⟨w2.heap.size, 0, none⟩) 0 0] 94)) (w4.heap.size) (preS bn on g.length c g.length gv c1 gr c2 gq c3 ++ [.slice (some ⟨w2.heap.size, 0, none⟩) 0 0]) := by rw [← hl]; exact hbx
   obtain ⟨F, hF, _⟩ := LS.of (w0 := w2) (L := g.length) (pre := preS bn on g.length c g.length gv c1 gr c2 gq c3) (A := some ⟨w2.heap.size, 0, none⟩) (c := 0) (h4.tr ((Ext.rfl' w4).al _)) ((hoz.ext ((Ext.rfl' w4).al _)).mono (by first | exact Nat.le_refl _ | simp)) HLN.out.1 HLN.out.2.1 HLN.out.2.2 hbx2 ((Own.new (World.drew w2) (B := w2.heap.size) 3 1 #[] 0 (Nat.le_refl _) (by unfold maxLen; omega) rfl).ext (he4.al _)) (by omega) (fun b hb => ⟨fun e => by have := (hoz.lt hb).2; omega, fun e => by have h1 := hoz.lt hb; (try simp only [World.size_alloc] at h1); have h0 : (World.drew w2).heap.size = w2.heap.size := rfl; have e2 := Option.some.inj e; dsimp only at e2; omega⟩) (fun e => by have h0 : (World.drew w2).heap.size = w2.heap.size := rfl; have e2 := Option.some.inj e; dsimp only at e2; omega)
   exact ⟨_, gv, gr, gq, c1, c2, c3, F, rfl, lh (h4.tr ((Ext.rfl' w4).al _)), lh hF⟩
  exact AllReadyH.nil
 case rest =>
  obtain ⟨Bl, gv, gr, gq, c1, c2, c3, F5, rfl, hE5, hL5⟩ := hcut
  go_wp2_with fail
  refine (c_update w2 g.length gv c1 gr c2 gq c3 Bl c bn on g (H.out.ext (E1.out.tr U2.out)) HG.out rfl 10 k ⟨⟨v, r, q⟩, []⟩ F5 wc (by omega) hkg HE.out (by simp) hL5.out).mono ?_
  rintro e w6 ⟨rfl, hG6⟩
  have HRS := lh (show Sg.cleanS g 10 (k : Int) ⟨⟨v, r, q⟩, []⟩ = Sg.readS g ⟨v, r, q⟩ (k : Int) from rfl)
  rw [HRS.out] at hG6
  generalize Sg.readS g ⟨v, r, q⟩ (k : Int) = u at *
  obtain ⟨F6, hS6, hm6, hF6⟩ := hG6
  obtain ⟨hs6, A6, c6, hZ6, hB6, ho6, hd6, lv6, lr6, lq6⟩ := hS6.back
  have p0 := hB6.cell (j := 1) rfl
  have p1 := hB6.cell (j := 2) rfl
  have p2 := hB6.cell (j := 3) rfl
  have y0 := hB6.cell (j := 4) rfl
  have by0 := blt y0
  have hz1 := Z1.out
  have hw2 := U2.out.size
  have hFB := (hS6.lt hS6.Fb).1
  have hFv := (hS6.lt hS6.Fv).1
  have nN : ¬ F5 (N + 1 + 1) := fun hf => by have := (hL5.out.lt hf).1; omega
  have M6 := lh hm6
  have Z6 := lh hZ6
  have O6 := lh ho6
  have D6 := lh hd6
  have LV := lh (And.intro lv6 (And.intro lr6 lq6))
  obtain ⟨cv6, fv6, bv6⟩ := hS6.val hkg
  clear hS6 hm6 hF6 hB6 hZ6 ho6 hd6 lv6 lr6 lq6 g0 s0 s1 s2 bg0 bs0
  have BRf := lh ((BR.out.ext (U2.out.tr hE5.out)).mod M6.out nN)
  have f0 := BRf.out.free 0
  have f1 := BRf.out.free 1
  have f2 := BRf.out.free 2
  have x0 := BRf.out.cell (j := 0) rfl
  have x1 := BRf.out.cell (j := 1) rfl
  have x2 := BRf.out.cell (j := 2) rfl
  have bl := BRf.out.lt
  go_upto_region 5 with fail
  go_cut [7, 8] (fun s7 s8 wx => s7 = .int .i64 (Sg.valOf u k) ∧ s8 = .slice A6 u.ran.length c6 ∧ Hid (Bx wx (N + 1 + 1) [.slice (some ⟨gv, 0, none⟩) g.length c1, .slice (some ⟨gr, 0, none⟩) g.length c2, .slice (some ⟨gq, 0, none⟩) g.length c3]) ∧ Hid (Mod (fun b => b = N + 1 + 1) w6 wx))
  case first =>
   refine wp_region_held_drew (S := (fun W => W.cell? ⟨Bl, 1, none⟩ = some (.slice (some ⟨gv, 0, none⟩) g.length c1) ∧ W.cell? ⟨Bl, 2, none⟩ = some (.slice (some ⟨gr, 0, none⟩) g.length c2) ∧ W.cell? ⟨Bl, 3, none⟩ = some (.slice (some ⟨gq, 0, none⟩) g.length c3) ∧ W.cell? ⟨Bl, 4, none⟩ = some (.slice A6 u.ran.length c6) ∧ W.cell? ⟨gv, k, none⟩ = some (.int .i64 (Sg.valOf u k)))) (by kernel_rfl) ?_ (fun hHeld => ?_)
   ·exact ⟨((Ext.rfl' _).dr).cellE p0, ((Ext.rfl' _).dr).cellE p1, ((Ext.rfl' _).dr).cellE p2, ((Ext.rfl' _).dr).cellE y0, ((Ext.rfl' _).dr).cellE cv6⟩
   refine ty 0 ?_
   refine ty 1 ?_
   refine ty 2 ?_
   refine ty 3 ?_
   refine ty 4 ?_
   refine ty 5 ?_
   refine ty 6 ?_
   refine ty 7 ?_
   refine ty 8 ?_
   refine ty 9 ?_
   refine ty 10 ?_
   refine ty 11 ?_
   refine ty 12 ?_
   refine ty 13 ?_
   refine ty 14 ?_
   refine ty 15 ?_
   refine rd1 16 rfl fun K hK => ?_
   go_simp
   refine hK.out _ _ (by exact (by first | exact ⟨(Mod.set3 _ _ _ _ _).cellE p0 (by omega), (Mod.set3 _ _ _ _ _).cellE p1 (by omega), (Mod.set3 _ _ _ _ _).cellE p2 (by omega), (Mod.set3 _ _ _ _ _).cellE y0 (by omega), (Mod.set3 _ _ _ _ _).cellE cv6 (by omega)⟩ | exact ⟨((Ext.rfl' _).dr).cellE ((Mod.set3 _ _ _ _ _).cellE p0 (by omega)), ((Ext.rfl' _).dr).cellE ((Mod.set3 _ _ _ _ _).cellE p1 (by omega)), ((Ext.rfl' _).dr).cellE ((Mod.set3 _ _ _ _ _).cellE p2 (by omega)), ((Ext.rfl' _).dr).cellE ((Mod.set3 _ _ _ _ _).cellE y0 (by omega)), ((Ext.rfl' _).dr).cellE ((Mod.set3 _ _ _ _ _).cellE cv6 (by omega))⟩ | exact ⟨(Mod.set3 _ _ _ _ _).cellE (((Ext.rfl' _).dr).cellE p0) (by omega), (Mod.set3 _ _ _ _ _).cellE (((Ext.rfl' _).dr).cellE p1) (by omega), (Mod.set3 _ _ _ _ _).cellE (((Ext.rfl' _).dr).cellE p2) (by omega), (Mod.set3 _ _ _ _ _).cellE (((Ext.rfl' _).dr).cellE y0) (by omega), (Mod.set3 _ _ _ _ _).cellE (((Ext.rfl' _).dr).cellE cv6) (by omega)⟩)) fun hh2 => ?_; clear hK K hHeld; have hHeld := hh2; clear hh2
   try simp only [Act.put]
   refine ty 17 ?_
   refine ty 18 ?_
   refine dn ?_
   go_wp2_with fail
   go_meet
   exact ⟨rfl, rfl, lh (by first | exact BRf.out.set3 _ _ _ | exact (BRf.out.set3 _ _ _).ext ((Ext.rfl' _).dr) | exact (BRf.out.ext ((Ext.rfl' _).dr)).set3 _ _ _), lh (by first | exact Mod.set3 _ _ _ _ _ | exact (Mod.set3 _ _ _ _ _).dr | exact (Mod.of ((Ext.rfl' _).dr)).tr' (Mod.set3 _ _ _ _ _))⟩
  case rest =>
   obtain ⟨rfl, rfl, hBf, hMf⟩ := hcut
   have r0 := hBf.out.cell (j := 0) rfl
   have r1 := hBf.out.cell (j := 1) rfl
   have r2 := hBf.out.cell (j := 2) rfl
   clear p0 p1 p2 y0 cv6 x0 x1 x2 f0 f1 f2
   go_wp2
   refine bodyPost_ret (v := .tuple #[.agg #[.slice (some ⟨gv, 0, none⟩) g.length c1, .slice (some ⟨gr, 0, none⟩) g.length c2, .slice (some ⟨gq, 0, none⟩) g.length c3], .int .i64 (Sg.valOf u k), .slice A6 u.ran.length c6]) (by simp [results, Tryz.results30, go_sem, r0, r1, r2]; try rfl) rfl ?_
   rw [HS.out]
   have hwn := HN.out
   have e3 := E1.out.size
   refine ⟨some ⟨gv, 0, none⟩, c1, some ⟨gr, 0, none⟩, c2, some ⟨gq, 0, none⟩, c3, hs6, A6, c6, ?_, (Z6.out.mod hMf.out (fun b hb e => by have := (Z6.out.lt hb).1; omega)).mono (by omega), (O6.out.mod hMf.out (fun b hb e => by have := (O6.out.lt hb).1; omega)).mono (by omega), D6.out, ?_⟩
   ·dsimp only
    rw [show u.st.vals.length = g.length from LV.out.1, show u.st.reads.length = g.length from LV.out.2.1, show u.st.cols.length = g.length from LV.out.2.2]
    try rfl
   ·refine Ext.md (Ext.md (E1.out.tr (U2.out.tr hE5.out)) M6.out (fun b hb => ?_)) hMf.out (fun b e => by omega)
    have := (hL5.out.lt hb).1
    omega
end Go.Proofs.YtmkfjnkdaeoppaaGreat
