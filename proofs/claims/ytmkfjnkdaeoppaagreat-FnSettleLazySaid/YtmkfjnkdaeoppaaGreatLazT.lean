/- ReadAll and SettleLazy of the reference: contracts. Conditions: bounds on lengths. -/
import Derived.Test.YtmkfjnkdaeoppaaGreatTy
import Derived.Test.YtmkfjnkdaeoppaaGreatLazO2
import Derived.Test.YtmkfjnkdaeoppaaGreatLazFive
import Derived.Test.YtmkfjnkdaeoppaaGreatLazE
import Derived.Test.YtmkfjnkdaeoppaaGreatSpecQRS
import Derived.Deep.DeepCutAuto
namespace Go.Proofs.YtmkfjnkdaeoppaaGreat
open Go.RowKit

end Go.Proofs.YtmkfjnkdaeoppaaGreat
namespace Go.Proofs.YtmkfjnkdaeoppaaGreat
open Go.RowKit

set_option maxRecDepth 100000 in
set_option maxHeartbeats 8000000 in
theorem s_SettleLazy (A Av Ar Aq : Option Addr) (c cv cr cq : Nat) (g : Sg.Graph) (v q : List Int) (r : List (List Int))  (w : World) (h : RdN w A g) (hv : Rd w 1 Av v.length (ints v)) (hr : RdLC w Ar r) (hq : Rd w 1 Aq q.length (ints q)) (hvl : v.length ≤ 1048576) (hql : q.length ≤ 1048576) :
  Calls Tryz.prog 50 #[.agg #[.slice A g.length c], .agg #[.slice Av v.length cv, .slice Ar r.length cr, .slice Aq q.length cq]] w (ZR w (Sg.settleO g ⟨v, r, q⟩).1 (Sg.settleO g ⟨v, r, q⟩).2) := by
 have hgl := h.1
 have HV := lh (fun w h hv hr hq => s_validLazy A Av Ar Aq c cv cr cq g v q r w h hv hr hq hvl hql)
 have HSM := lh (Sg.validL_same g ⟨v, r, q⟩)
 have H := lh h
 have Hv := lh hv
 have Hr := lh hr
 have Hq := lh hq
 clear h hv hr hq
 obtain ⟨W1, hW1⟩ : ∃ W1, W1 = World.alloc (World.alloc (World.alloc w (.cells #[.slice A g.length c] 25)) (.cells #[.slice Av v.length cv, .slice Ar r.length cr, .slice Aq q.length cq] 29)) (.cells #[.slice none 0 0, .slice none 0 0, .slice none 0 0] 29) := ⟨_, rfl⟩
 have e1 : Ext w W1 := by rw [hW1]; exact (((Ext.rfl' w).al _).al _).al _
 have z1 : W1.heap.size = w.heap.size + 1 + 1 + 1 := by rw [hW1]; simp
 have BG := lh (show Bx W1 w.heap.size [.slice A g.length c] by rw [hW1]; exact ((Bx.new w _ _).al _).al _)
 have BS := lh (show Bx W1 (w.heap.size + 1) [.slice Av v.length cv, .slice Ar r.length cr, .slice Aq q.length cq] by
  have h1 := (Bx.new (World.alloc w (.cells #[.slice A g.length c] 25)) #[.slice Av v.length cv, .slice Ar r.length cr, .slice Aq q.length cq] 29).al (.cells #[.slice none 0 0, .slice none 0 0, .slice none 0 0] 29)
  simp only [World.size_alloc] at h1
  rw [hW1]; exact h1)
 have BR := lh (show Bx W1 (w.heap.size + 1 + 1) [.slice none 0 0, .slice none 0 0, .slice none 0 0] by
  have h1 := Bx.new (World.alloc (World.alloc w (.cells #[.slice A g.length c] 25)) (.cells #[.slice Av v.length cv, .slice Ar r.length cr, .slice Aq q.length cq] 29)) #[.slice none 0 0, .slice none 0 0, .slice none 0 0] 29
  simp only [World.size_alloc] at h1
  rw [hW1]; exact h1)
 have E1 := lh e1
 have Z1 := lh z1
 clear e1 z1
 go_enter Tryz.func50, Tryz.ntmps50
 go_upto_region 1 with fail
 rw [← hW1]
 clear hW1
 obtain ⟨N, hN⟩ : ∃ N, w.heap.size = N := ⟨_, rfl⟩
 have HN := lh hN
 rw [hN] at BG BS BR Z1
 simp only [hN]
 clear hN
 have g0 := (BG.out.ext (Ext.rfl' W1)).cell (j := 0) rfl
 have s0 := (BS.out.ext (Ext.rfl' W1)).cell (j := 0) rfl
 have s1 := (BS.out.ext (Ext.rfl' W1)).cell (j := 1) rfl
 have s2 := (BS.out.ext (Ext.rfl' W1)).cell (j := 2) rfl
 have bg0 := blt g0
 have bs0 := blt s0
 go_wp2_with fail
 refine (HV.out _ (H.out.ext E1.out) (Hv.out.ext E1.out) (RdLC.l (Hr.out.ext E1.out)) (Hq.out.ext E1.out)).mono ?_
 rw [HSM.out]
 rintro e w2 ⟨rfl, he2⟩
 have U2 := lh he2
 clear he2 g0 s0 s1 s2 bg0 bs0
 have g0 := (BG.out.ext U2.out).cell (j := 0) rfl
 have s0 := (BS.out.ext U2.out).cell (j := 0) rfl
 have s1 := (BS.out.ext U2.out).cell (j := 1) rfl
 have s2 := (BS.out.ext U2.out).cell (j := 2) rfl
 have bg0 := blt g0
 have bs0 := blt s0
 cases hE : Sg.validL g ⟨v, r, q⟩
 ·have HS := lh (show Sg.settleO g ⟨v, r, q⟩ = (⟨[], [], []⟩, []) by unfold Sg.settleO; rw [hE]; rfl)
  clear hE
  have BRf := lh (BR.out.ext U2.out)
  have f0 := BRf.out.free 0
  have f1 := BRf.out.free 1
  have f2 := BRf.out.free 2
  have x0 := BRf.out.cell (j := 0) rfl
  have x1 := BRf.out.cell (j := 1) rfl
  have x2 := BRf.out.cell (j := 2) rfl
  have bl := BRf.out.lt
  have r0 := (BRf.out.set3 (.slice none 0 0) (.slice none 0 0) (.slice none 0 0)).cell (j := 0) rfl
  have r1 := (BRf.out.set3 (.slice none 0 0) (.slice none 0 0) (.slice none 0 0)).cell (j := 1) rfl
  have r2 := (BRf.out.set3 (.slice none 0 0) (.slice none 0 0) (.slice none 0 0)).cell (j := 2) rfl
  clear g0 s0 s1 s2 bg0 bs0
  go_wp2
  refine bodyPost_ret (v := .tuple #[.agg #[.slice none 0 0, .slice none 0 0, .slice none 0 0], .slice none 0 0]) (by simp [results, Tryz.results50, go_sem, r0, r1, r2]; try rfl) rfl ?_
  rw [HS.out]
  exact ⟨none, 0, none, 0, none, 0, [], none, 0, rfl, OwnZ.nil _ _, by simpa [ints] using Own.nil _ _ 3 1, by simp [blk], Ext.md (E1.out.tr U2.out) (Mod.set3 w2 (N + 1 + 1) _ _ _) (fun b e => by have := HN.out; omega)⟩
 have HE := lh hE
 have HS := lh (show Sg.settleO g ⟨v, r, q⟩ = ((Sg.readsL g (Sg.allL g.length) ⟨⟨v, r, q⟩, []⟩).st, (Sg.readsL g (Sg.allL g.length) ⟨⟨v, r, q⟩, []⟩).ran) by unfold Sg.settleO; rw [hE]; rfl)
 clear hE
 obtain ⟨hG, hvg, hrg, hqg, _⟩ := Sg.validL_shape HE.out
 have HG := lh hG
 have HLN := lh (And.intro hvg (And.intro hrg hqg))
 have hg10 := Sg.validG_len10 hG
 clear hG hvg hrg hqg
 go_upto_region 3 with fail
 go_cut [6] (fun s9 wx => ∃ (Bl RA : Nat) (A1 : Option Addr) (c1 : Nat) (A2 : Option Addr) (c2 : Nat) (A3 : Option Addr) (c3 : Nat) (hs : List (Option Addr × Nat)), s9 = .pointer (some ⟨Bl, 0, none⟩) ∧ Hid (Ext w2 wx) ∧ Hid (ZS w2.heap.size Bl g.length [.slice A g.length c, .slice A1 g.length c1, .slice A2 g.length c2, .slice A3 g.length c3] A1 A2 A3 (some ⟨RA, 0, none⟩) c1 c2 c3 0 hs ⟨⟨v, r, q⟩, []⟩ wx))
 case first =>
  refine wp_region_held_drew (S := (fun W => W.cell? ⟨N, 0, none⟩ = some (.slice A g.length c) ∧ W.cell? ⟨N + 1, 0, none⟩ = some (.slice Av v.length cv) ∧ W.cell? ⟨N + 1, 1, none⟩ = some (.slice Ar r.length cr) ∧ W.cell? ⟨N + 1, 2, none⟩ = some (.slice Aq q.length cq))) (by kernel_rfl) ?_ (fun hHeld => ?_)
  ·exact ⟨((Ext.rfl' _).dr).cellE g0, ((Ext.rfl' _).dr).cellE s0, ((Ext.rfl' _).dr).cellE s1, ((Ext.rfl' _).dr).cellE s2⟩
  refine ty 0 ?_
  refine ty 1 ?_
  refine wpAnyH_ready (rs := [2, 3]) (by kernel_rfl) (by simp) ?_
  refine AllReadyH.cons rfl (fun K hK => ?_) ?_
  ·go_simp
   refine (s_copyZ Av Ar Aq cv cr cq v q r _ (Hv.out.ext ((E1.out.tr U2.out).tr ((Ext.rfl' w2).dr))) (RdLC.l (Hr.out.ext ((E1.out.tr U2.out).tr ((Ext.rfl' w2).dr)))) (Hq.out.ext ((E1.out.tr U2.out).tr ((Ext.rfl' w2).dr))) hvl hql).mono ?_
   rintro e w4 ⟨A1, c1, A2, c2, A3, c3, hs, rfl, hoz, he4⟩
   have h4 := ((Ext.rfl' w2).dr).tr he4
   have hs4 := he4.size
   try simp only [World.size_alloc] at hs4
   try go_wp2_with fail
   refine hK.out _ _ (by exact (by first | exact ⟨((Ext.rfl' _).dr).cellE g0, ((Ext.rfl' _).dr).cellE s0, ((Ext.rfl' _).dr).cellE s1, ((Ext.rfl' _).dr).cellE s2⟩ | exact ⟨(((Ext.rfl' _).dr).al _).cellE g0, (((Ext.rfl' _).dr).al _).cellE s0, (((Ext.rfl' _).dr).al _).cellE s1, (((Ext.rfl' _).dr).al _).cellE s2⟩ | exact ⟨h4.cellE g0, h4.cellE s0, h4.cellE s1, h4.cellE s2⟩ | exact ⟨(h4.al _).cellE g0, (h4.al _).cellE s0, (h4.al _).cellE s1, (h4.al _).cellE s2⟩ | exact ⟨((h4.al _).al _).cellE g0, ((h4.al _).al _).cellE s0, ((h4.al _).al _).cellE s1, ((h4.al _).al _).cellE s2⟩)) fun hh2 => ?_; clear hK K hHeld; have hHeld := hh2; clear hh2
   try simp only [Act.put, pu]
   refine rd1 3 rfl fun K hK => ?_
   go_simp
   try simp only [pg]
   refine hK.out _ _ (by exact (by first | exact ⟨((Ext.rfl' _).dr).cellE g0, ((Ext.rfl' _).dr).cellE s0, ((Ext.rfl' _).dr).cellE s1, ((Ext.rfl' _).dr).cellE s2⟩ | exact ⟨(((Ext.rfl' _).dr).al _).cellE g0, (((Ext.rfl' _).dr).al _).cellE s0, (((Ext.rfl' _).dr).al _).cellE s1, (((Ext.rfl' _).dr).al _).cellE s2⟩ | exact ⟨h4.cellE g0, h4.cellE s0, h4.cellE s1, h4.cellE s2⟩ | exact ⟨(h4.al _).cellE g0, (h4.al _).cellE s0, (h4.al _).cellE s1, (h4.al _).cellE s2⟩ | exact ⟨((h4.al _).al _).cellE g0, ((h4.al _).al _).cellE s0, ((h4.al _).al _).cellE s1, ((h4.al _).al _).cellE s2⟩)) fun hh2 => ?_; clear hK K hHeld; have hHeld := hh2; clear hh2
   try simp only [Act.put, pu]
   refine ty 4 ?_
   refine rd1 5 rfl fun K hK => ?_
   go_simp
   refine hK.out _ _ (by exact (by first | exact ⟨((Ext.rfl' _).dr).cellE g0, ((Ext.rfl' _).dr).cellE s0, ((Ext.rfl' _).dr).cellE s1, ((Ext.rfl' _).dr).cellE s2⟩ | exact ⟨(((Ext.rfl' _).dr).al _).cellE g0, (((Ext.rfl' _).dr).al _).cellE s0, (((Ext.rfl' _).dr).al _).cellE s1, (((Ext.rfl' _).dr).al _).cellE s2⟩ | exact ⟨h4.cellE g0, h4.cellE s0, h4.cellE s1, h4.cellE s2⟩ | exact ⟨(h4.al _).cellE g0, (h4.al _).cellE s0, (h4.al _).cellE s1, (h4.al _).cellE s2⟩ | exact ⟨((h4.al _).al _).cellE g0, ((h4.al _).al _).cellE s0, ((h4.al _).al _).cellE s1, ((h4.al _).al _).cellE s2⟩)) fun hh2 => ?_; clear hK K hHeld; have hHeld := hh2; clear hh2
   try simp only [Act.put, pu]
   refine ty 6 ?_
   refine dn ?_
   have hw3 : w2.heap.size ≤ w4.heap.size := h4.size
   go_wp2_with fail
   go_meet
   have hbx := Bx.new (World.alloc w4 (.cells #[] 3)) #[.slice A g.length c, .slice A1 v.length c1, .slice A2 r.length c2, .slice A3 q.length c3, .slice (some ⟨w4.heap.size, 0, none⟩) 0 0] 94
   simp only [World.size_alloc] at hbx
   have hl : ([.slice A g.length c, .slice A1 v.length c1, .slice A2 r.length c2, .slice A3 q.length c3, .slice (some ⟨w4.heap.size, 0, none⟩) 0 0] : List Value) = [.slice A g.length c, .slice A1 g.length c1, .slice A2 g.length c2, .slice A3 g.length c3] ++ [.slice (some ⟨w4.heap.size, 0, none⟩) 0 0] := by rw [show v.length = g.length from HLN.out.1, show r.length = g.length from HLN.out.2.1, show q.length = g.length from HLN.out.2.2]; rfl
   have hbx2 : Bx (World.alloc (World.alloc w4 (.cells #[] 3)) (.cells #[.slice A g.length c, .slice A1 v.length c1, .slice A2 r.length c2, .slice A3 q.length c3, .slice (some ⟨w4.heap.size, 0, none⟩) 0 0] 94)) (w4.heap.size + 1) ([.slice A g.length c, .slice A1 g.length c1, .slice A2 g.length c2, .slice A3 g.length c3] ++ [.slice (some ⟨w4.heap.size, 0, none⟩) 0 0]) := by rw [← hl]; exact hbx
   have h0 : (World.drew w2).heap.size = w2.heap.size := rfl
   exact ⟨_, _, A1, c1, A2, c2, A3, c3, hs, rfl, lh (h4.tr (((Ext.rfl' w4).al _).al _)), lh ⟨(hoz.ext (((Ext.rfl' w4).al _).al _)).mono (by first | exact Nat.le_refl _ | simp), (((Own.new w4 (B := w2.heap.size) 3 1 #[] 0 (by omega) (by unfold maxLen; omega) rfl)).ext ((Ext.rfl' _).al _)), fun b hb e => by have h1 := hoz.lt hb; (try simp only [World.size_alloc] at h1); have e2 := Option.some.inj e; dsimp only at e2; omega, hbx2, fun b hb e => by have := (hoz.lt hb).2; omega, fun e => by have e2 := Option.some.inj e; dsimp only at e2; omega, by omega, HLN.out.1, HLN.out.2.1, HLN.out.2.2⟩⟩
  refine AllReadyH.cons rfl (fun K hK => ?_) ?_
  ·go_simp
   try simp only [pg]
   refine hK.out _ _ (by exact (by first | exact ⟨((Ext.rfl' _).dr).cellE g0, ((Ext.rfl' _).dr).cellE s0, ((Ext.rfl' _).dr).cellE s1, ((Ext.rfl' _).dr).cellE s2⟩ | exact ⟨(((Ext.rfl' _).dr).al _).cellE g0, (((Ext.rfl' _).dr).al _).cellE s0, (((Ext.rfl' _).dr).al _).cellE s1, (((Ext.rfl' _).dr).al _).cellE s2⟩ | exact ⟨h4.cellE g0, h4.cellE s0, h4.cellE s1, h4.cellE s2⟩ | exact ⟨(h4.al _).cellE g0, (h4.al _).cellE s0, (h4.al _).cellE s1, (h4.al _).cellE s2⟩ | exact ⟨((h4.al _).al _).cellE g0, ((h4.al _).al _).cellE s0, ((h4.al _).al _).cellE s1, ((h4.al _).al _).cellE s2⟩)) fun hh2 => ?_; clear hK K hHeld; have hHeld := hh2; clear hh2
   try simp only [Act.put, pu]
   refine rd1 2 rfl fun K hK => ?_
   go_simp
   refine (s_copyZ Av Ar Aq cv cr cq v q r _ (Hv.out.ext ((E1.out.tr U2.out).tr (((Ext.rfl' w2).dr).al (.cells #[] 3)))) (RdLC.l (Hr.out.ext ((E1.out.tr U2.out).tr (((Ext.rfl' w2).dr).al (.cells #[] 3))))) (Hq.out.ext ((E1.out.tr U2.out).tr (((Ext.rfl' w2).dr).al (.cells #[] 3)))) hvl hql).mono ?_
   rintro e w4 ⟨A1, c1, A2, c2, A3, c3, hs, rfl, hoz, he4⟩
   have h4 := (((Ext.rfl' w2).dr).al (.cells #[] 3)).tr he4
   have hs4 := he4.size
   try simp only [World.size_alloc] at hs4
   try go_wp2_with fail
   refine hK.out _ _ (by exact (by first | exact ⟨((Ext.rfl' _).dr).cellE g0, ((Ext.rfl' _).dr).cellE s0, ((Ext.rfl' _).dr).cellE s1, ((Ext.rfl' _).dr).cellE s2⟩ | exact ⟨(((Ext.rfl' _).dr).al _).cellE g0, (((Ext.rfl' _).dr).al _).cellE s0, (((Ext.rfl' _).dr).al _).cellE s1, (((Ext.rfl' _).dr).al _).cellE s2⟩ | exact ⟨h4.cellE g0, h4.cellE s0, h4.cellE s1, h4.cellE s2⟩ | exact ⟨(h4.al _).cellE g0, (h4.al _).cellE s0, (h4.al _).cellE s1, (h4.al _).cellE s2⟩ | exact ⟨((h4.al _).al _).cellE g0, ((h4.al _).al _).cellE s0, ((h4.al _).al _).cellE s1, ((h4.al _).al _).cellE s2⟩)) fun hh2 => ?_; clear hK K hHeld; have hHeld := hh2; clear hh2
   try simp only [Act.put, pu]
   refine ty 4 ?_
   refine rd1 5 rfl fun K hK => ?_
   go_simp
   refine hK.out _ _ (by exact (by first | exact ⟨((Ext.rfl' _).dr).cellE g0, ((Ext.rfl' _).dr).cellE s0, ((Ext.rfl' _).dr).cellE s1, ((Ext.rfl' _).dr).cellE s2⟩ | exact ⟨(((Ext.rfl' _).dr).al _).cellE g0, (((Ext.rfl' _).dr).al _).cellE s0, (((Ext.rfl' _).dr).al _).cellE s1, (((Ext.rfl' _).dr).al _).cellE s2⟩ | exact ⟨h4.cellE g0, h4.cellE s0, h4.cellE s1, h4.cellE s2⟩ | exact ⟨(h4.al _).cellE g0, (h4.al _).cellE s0, (h4.al _).cellE s1, (h4.al _).cellE s2⟩ | exact ⟨((h4.al _).al _).cellE g0, ((h4.al _).al _).cellE s0, ((h4.al _).al _).cellE s1, ((h4.al _).al _).cellE s2⟩)) fun hh2 => ?_; clear hK K hHeld; have hHeld := hh2; clear hh2
   try simp only [Act.put, pu]
   refine ty 6 ?_
   refine dn ?_
   have hw3 : w2.heap.size ≤ w4.heap.size := h4.size
   go_wp2_with fail
   go_meet
   have hbx := Bx.new w4 #[.slice A g.length c, .slice A1 v.length c1, .slice A2 r.length c2, .slice A3 q.length c3, .slice (some ⟨w2.heap.size, 0, none⟩) 0 0] 94
   have hl : ([.slice A g.length c, .slice A1 v.length c1, .slice A2 r.length c2, .slice A3 q.length c3, .slice (some ⟨w2.heap.size, 0, none⟩) 0 0] : List Value) = [.slice A g.length c, .slice A1 g.length c1, .slice A2 g.length c2, .slice A3 g.length c3] ++ [.slice (some ⟨w2.heap.size, 0, none⟩) 0 0] := by rw [show v.length = g.length from HLN.out.1, show r.length = g.length from HLN.out.2.1, show q.length = g.length from HLN.out.2.2]; rfl
   have hbx2 : Bx (World.alloc w4 (.cells #[.slice A g.length c, .slice A1 v.length c1, .slice A2 r.length c2, .slice A3 q.length c3, .slice (some ⟨w2.heap.size, 0, none⟩) 0 0] 94)) (w4.heap.size) ([.slice A g.length c, .slice A1 g.length c1, .slice A2 g.length c2, .slice A3 g.length c3] ++ [.slice (some ⟨w2.heap.size, 0, none⟩) 0 0]) := by rw [← hl]; exact hbx
   have h0 : (World.drew w2).heap.size = w2.heap.size := rfl
   exact ⟨_, _, A1, c1, A2, c2, A3, c3, hs, rfl, lh (h4.tr ((Ext.rfl' w4).al _)), lh ⟨(hoz.ext ((Ext.rfl' w4).al _)).mono (by first | exact Nat.le_refl _ | simp), ((Own.new (World.drew w2) (B := w2.heap.size) 3 1 #[] 0 (Nat.le_refl _) (by unfold maxLen; omega) rfl).ext (he4.al _)), fun b hb e => by have h1 := hoz.lt hb; (try simp only [World.size_alloc] at h1); have e2 := Option.some.inj e; dsimp only at e2; omega, hbx2, fun b hb e => by have := (hoz.lt hb).2; omega, fun e => by have e2 := Option.some.inj e; dsimp only at e2; omega, by omega, HLN.out.1, HLN.out.2.1, HLN.out.2.2⟩⟩
  exact AllReadyH.nil
 case rest =>
  obtain ⟨Bl, RA, A1, c1, A2, c2, A3, c3, hs, rfl, hE5, hZ5⟩ := hcut
  obtain ⟨w5, rfl⟩ : ∃ w5 : World, w5 = wc := ⟨_, rfl⟩
  go_upto_block 0 with fail
  go_cut [] (fun wx => ∃ (hs6 : List (Option Addr × Nat)) (A6 : Option Addr) (c6 : Nat), Hid (ZS w2.heap.size Bl g.length [.slice A g.length c, .slice A1 g.length c1, .slice A2 g.length c2, .slice A3 g.length c3] A1 A2 A3 A6 c1 c2 c3 c6 hs6 (Sg.readsL g (Sg.allL g.length) ⟨⟨v, r, q⟩, []⟩) wx) ∧ Hid (Ext w2 wx))
  case first =>
   by_cases hg0 : g.length = 0
   ·have hz9 : g.length ≤ 0 := by omega
    have hz8 : ¬ 0 < g.length := by omega
    have hz7 : decide (0 < g.length) = false := decide_eq_false (by omega)
    have hz6 := lh hg0
    clear hg0
    go_wp2_with fail
    go_loopw [7] (fun i wr => i = .int .i64 (0 : Nat) ∧ wr = w5) (fun i _ => 1)
    case atStart => exact ⟨by first | rfl | simp, rfl⟩
    case round =>
     obtain ⟨rfl, rfl⟩ := hrel
     have g0 := (BG.out.ext (U2.out.tr hE5.out)).cell (j := 0) rfl
     have bg := blt g0
     go_wp2_with fail
     go_meet
     exact ⟨hs, _, 0, lh (by have h9 := hZ5.out; have h8 := hz6.out; rw [show Sg.allL g.length = [] from by rw [h8]; rfl]; exact h9), hE5⟩
   ·obtain ⟨nd, bn, on, Ap, cp, _, hAe, _⟩ := H.out.at_ (show 0 < g.length by omega)
    subst hAe
    obtain ⟨gv, gr, gq, rfl, rfl, rfl, F5, hS5, hF5⟩ := hZ5.out.ls (w0 := w2) (by omega) hE5.out
    have nN : ¬ F5 N := fun hf => by have := (hS5.lt hf).1; have := U2.out.size; have := Z1.out; omega
    have HL5 := lh (show LS w2 g.length gv c1 gr c2 gq c3 Bl (preS bn on g.length c g.length gv c1 gr c2 gq c3) ⟨⟨v, r, q⟩, []⟩ F5 w5 from hS5)
    have NN := lh nN
    clear hS5 hF5 nN
    have HCL := lh (fun (k : Nat) (h : k ≤ g.length) => Sg.readsL_cleaned (s := ⟨⟨v, r, q⟩, []⟩) HE.out (Sg.allL k) (fun x hx => by have := (List.all_eq_true.1 (Sg.allL_all k)) x hx; unfold Sg.inR at this ⊢; simp only [Bool.and_eq_true, decide_eq_true_eq] at this ⊢; omega))
    go_wp2_with fail
    go_loopw [7] (fun i wr => ∃ k : Nat, k ≤ g.length ∧ i = .int .i64 k ∧ Hid (LG w2 g.length gv c1 gr c2 gq c3 Bl (preS bn on g.length c g.length gv c1 gr c2 gq c3) (Sg.readsL g (Sg.allL k) ⟨⟨v, r, q⟩, []⟩) F5 w5 wr)) (fun i _ => g.length - (intOf i).toNat)
    case atStart => exact ⟨0, Nat.zero_le _, by first | rfl | simp, lh (by skip; exact HL5.out.start)⟩
    case round =>
     obtain ⟨k, hk, rfl, hT⟩ := hrel
     have b2 := (BG.out.ext (U2.out.tr hE5.out)).mod hT.out.m NN.out
     have g0 := b2.cell (j := 0) rfl
     have bg := blt g0
     clear b2
     by_cases hlt : k < g.length
     ·have hmg : k < g.length := hlt
      have HSN := lh (show Sg.readsL g (Sg.allL (k + 1)) ⟨⟨v, r, q⟩, []⟩ = Sg.cleanS g 10 (k : Int) (Sg.readsL g (Sg.allL k) ⟨⟨v, r, q⟩, []⟩) by rw [Sg.allL_succ]; exact Sg.readsL_snoc g (Sg.allL k) (k : Int) ⟨⟨v, r, q⟩, []⟩)
      have hCL := HCL.out k (by omega)
      have hrn := hCL.ran_len
      have HVT := lh hCL.ok
      generalize htt : Sg.readsL g (Sg.allL k) ⟨⟨v, r, q⟩, []⟩ = t at *
      obtain ⟨F', hS', hm', hF'⟩ := hT.out
      have HS' := lh (And.intro hS' (And.intro hm' hF'))
      simp at hrn
      clear hCL htt hS' hm' hF'
      go_wp2_with fail
      refine (c_update w2 g.length gv c1 gr c2 gq c3 Bl c bn on g (H.out.ext (E1.out.tr U2.out)) HG.out rfl 10 k t F' wr (by omega) hmg HVT.out (by omega) HS'.out.1).mono ?_
      rintro e w6 ⟨rfl, hG6⟩
      have G6 := lh hG6
      clear hG6
      go_wp2
      go_roundw
      case rel => exact ⟨k + 1, by omega, by go_num, lh (by rw [HSN.out]; exact LG.tr1 HS'.out.2.1 HS'.out.2.2 G6.out)⟩
      case measure => simp [intOf]; omega
     ·obtain rfl : k = g.length := by omega
      go_wp2_with fail
      go_meet
      obtain ⟨F', hS', hm', hF'⟩ := hT.out
      obtain ⟨hs6, A6, c6, hZ6⟩ := hS'.zs
      skip
      exact ⟨hs6, A6, c6, lh hZ6, lh (Ext.md hE5.out hm' (fun b hb => (HL5.out.lt hb).1))⟩
  case rest =>
   obtain ⟨hs6, A6, c6, hZ6, hE6⟩ := hcut
   generalize Sg.readsL g (Sg.allL g.length) ⟨⟨v, r, q⟩, []⟩ = u at *
   have ZZ := lh hZ6.out
   obtain ⟨w6, rfl⟩ : ∃ w6 : World, w6 = wc := ⟨_, rfl⟩
   have p0 := hZ6.out.b.cell (j := 1) rfl
   have p1 := hZ6.out.b.cell (j := 2) rfl
   have p2 := hZ6.out.b.cell (j := 3) rfl
   have y0 := hZ6.out.b.cell (j := 4) rfl
   have by0 := blt y0
   have hz1 := Z1.out
   have hw2 := U2.out.size
   have hBl := hZ6.out.hb
   clear hZ6
   have BRf := lh (BR.out.ext (U2.out.tr hE6.out))
   have f0 := BRf.out.free 0
   have f1 := BRf.out.free 1
   have f2 := BRf.out.free 2
   have x0 := BRf.out.cell (j := 0) rfl
   have x1 := BRf.out.cell (j := 1) rfl
   have x2 := BRf.out.cell (j := 2) rfl
   have bl := BRf.out.lt
   go_upto_region 8 with fail
   go_cut [5] (fun s8 wx => s8 = .slice A6 u.ran.length c6 ∧ Hid (Bx wx (N + 1 + 1) [.slice A1 g.length c1, .slice A2 g.length c2, .slice A3 g.length c3]) ∧ Hid (Mod (fun b => b = N + 1 + 1) w6 wx))
   case first =>
    refine wp_region_held_drew (S := (fun W => W.cell? ⟨Bl, 1, none⟩ = some (.slice A1 g.length c1) ∧ W.cell? ⟨Bl, 2, none⟩ = some (.slice A2 g.length c2) ∧ W.cell? ⟨Bl, 3, none⟩ = some (.slice A3 g.length c3) ∧ W.cell? ⟨Bl, 4, none⟩ = some (.slice A6 u.ran.length c6))) (by kernel_rfl) ?_ (fun hHeld => ?_)
    ·exact ⟨((Ext.rfl' _).dr).cellE p0, ((Ext.rfl' _).dr).cellE p1, ((Ext.rfl' _).dr).cellE p2, ((Ext.rfl' _).dr).cellE y0⟩
    refine ty 0 ?_
    refine ty 1 ?_
    refine ty 2 ?_
    refine ty 3 ?_
    refine ty 4 ?_
    refine ty 5 ?_
    refine ty 6 ?_
    refine ty 7 ?_
    refine rd1 8 rfl fun K hK => ?_
    go_simp
    refine hK.out _ _ (by exact (by first | exact ⟨(Mod.set3 _ _ _ _ _).cellE p0 (by omega), (Mod.set3 _ _ _ _ _).cellE p1 (by omega), (Mod.set3 _ _ _ _ _).cellE p2 (by omega), (Mod.set3 _ _ _ _ _).cellE y0 (by omega)⟩ | exact ⟨((Ext.rfl' _).dr).cellE ((Mod.set3 _ _ _ _ _).cellE p0 (by omega)), ((Ext.rfl' _).dr).cellE ((Mod.set3 _ _ _ _ _).cellE p1 (by omega)), ((Ext.rfl' _).dr).cellE ((Mod.set3 _ _ _ _ _).cellE p2 (by omega)), ((Ext.rfl' _).dr).cellE ((Mod.set3 _ _ _ _ _).cellE y0 (by omega))⟩ | exact ⟨(Mod.set3 _ _ _ _ _).cellE (((Ext.rfl' _).dr).cellE p0) (by omega), (Mod.set3 _ _ _ _ _).cellE (((Ext.rfl' _).dr).cellE p1) (by omega), (Mod.set3 _ _ _ _ _).cellE (((Ext.rfl' _).dr).cellE p2) (by omega), (Mod.set3 _ _ _ _ _).cellE (((Ext.rfl' _).dr).cellE y0) (by omega)⟩)) fun hh2 => ?_; clear hK K hHeld; have hHeld := hh2; clear hh2
    try simp only [Act.put]
    refine ty 9 ?_
    refine dn ?_
    go_wp2_with fail
    go_meet
    exact ⟨rfl, lh (by first | exact BRf.out.set3 _ _ _ | exact (BRf.out.set3 _ _ _).ext ((Ext.rfl' _).dr) | exact (BRf.out.ext ((Ext.rfl' _).dr)).set3 _ _ _), lh (by first | exact Mod.set3 _ _ _ _ _ | exact (Mod.set3 _ _ _ _ _).dr | exact (Mod.of ((Ext.rfl' _).dr)).tr' (Mod.set3 _ _ _ _ _))⟩
   case rest =>
    obtain ⟨rfl, hBf, hMf⟩ := hcut
    have r0 := hBf.out.cell (j := 0) rfl
    have r1 := hBf.out.cell (j := 1) rfl
    have r2 := hBf.out.cell (j := 2) rfl
    clear p0 p1 p2 y0 x0 x1 x2 f0 f1 f2
    go_wp2
    refine bodyPost_ret (v := .tuple #[.agg #[.slice A1 g.length c1, .slice A2 g.length c2, .slice A3 g.length c3], .slice A6 u.ran.length c6]) (by simp [results, Tryz.results50, go_sem, r0, r1, r2]; try rfl) rfl ?_
    rw [HS.out]
    have hwn := HN.out
    have e3 := E1.out.size
    refine ⟨A1, c1, A2, c2, A3, c3, hs6, A6, c6, ?_, (ZZ.out.z.mod hMf.out (fun b hb e => by have := (ZZ.out.z.lt hb).1; omega)).mono (by omega), (ZZ.out.o.mod hMf.out (fun b hb e => by have := (ZZ.out.o.lt hb).1; omega)).mono (by omega), ZZ.out.d, Ext.md (E1.out.tr (U2.out.tr hE6.out)) hMf.out (fun b e => by omega)⟩
    dsimp only
    rw [show u.st.vals.length = g.length from ZZ.out.lv, show u.st.reads.length = g.length from ZZ.out.lr, show u.st.cols.length = g.length from ZZ.out.lq]
    try rfl
end Go.Proofs.YtmkfjnkdaeoppaaGreat
