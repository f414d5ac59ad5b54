/- WriteHasty of the reference: its contract. Conditions: bounds on lengths. -/
import Derived.Test.YtmkfjnkdaeoppaaGreatHasD
import Derived.Test.YtmkfjnkdaeoppaaGreatSpecThree
import Derived.Deep.DeepCutAuto
namespace Go.Proofs.YtmkfjnkdaeoppaaGreat
open Go.RowKit

set_option maxRecDepth 100000 in
set_option maxHeartbeats 8000000 in
theorem s_WriteHasty (A Av Ar : Option Addr) (c cv cr : Nat) (g : Sg.Graph) (v : List Int) (r : List (List Int)) (n x : Int) (w : World) (h : RdN w A g) (hv : Rd w 1 Av v.length (ints v)) (hr : RdL w Ar r) (hvl : v.length ≤ 1048576) :
  Calls Tryz.prog 55 #[.agg #[.slice A g.length c], .agg #[.slice Av v.length cv, .slice Ar r.length cr], .int .i64 n, .int .i64 x] w (ER w (Sg.hastyO g ⟨v, r⟩ n x).1 (Sg.hastyO g ⟨v, r⟩ n x).2) := by
 have hgl := h.1
 have HV := lh (fun w h hv hr => s_validEager A Av Ar c cv cr g v r w h hv hr hvl)
 have HC := lh (fun w h => s_isCell A c g n w h)
 have HI := lh (fun w => s_inRange x 0 999 w)
 have H := lh h
 have Hv := lh hv
 have Hr := lh hr
 clear h hv hr
 obtain ⟨W1, hW1⟩ : ∃ W1, W1 = World.alloc (World.alloc (World.alloc w (.cells #[.slice A g.length c] 25)) (.cells #[.slice Av v.length cv, .slice Ar r.length cr] 63)) (.cells #[.slice none 0 0, .slice none 0 0] 63) := ⟨_, rfl⟩
 have e1 : Ext w W1 := by rw [hW1]; exact (((Ext.rfl' w).al _).al _).al _
 have z1 : W1.heap.size = w.heap.size + 1 + 1 + 1 := by rw [hW1]; simp
 have BG := lh (show Bx W1 w.heap.size [.slice A g.length c] by rw [hW1]; exact ((Bx.new w _ _).al _).al _)
 have BS := lh (show Bx W1 (w.heap.size + 1) [.slice Av v.length cv, .slice Ar r.length cr] by
  have h1 := (Bx.new (World.alloc w (.cells #[.slice A g.length c] 25)) #[.slice Av v.length cv, .slice Ar r.length cr] 63).al (.cells #[.slice none 0 0, .slice none 0 0] 63)
  simp only [World.size_alloc] at h1
  rw [hW1]; exact h1)
 have BR := lh (show Bx W1 (w.heap.size + 1 + 1) [.slice none 0 0, .slice none 0 0] by
  have h1 := Bx.new (World.alloc (World.alloc w (.cells #[.slice A g.length c] 25)) (.cells #[.slice Av v.length cv, .slice Ar r.length cr] 63)) #[.slice none 0 0, .slice none 0 0] 63
  simp only [World.size_alloc] at h1
  rw [hW1]; exact h1)
 have E1 := lh e1
 have Z1 := lh z1
 clear e1 z1
 go_enter Tryz.func55, Tryz.ntmps55
 go_upto_region 1 with fail
 rw [← hW1]
 clear hW1
 obtain ⟨N, hN⟩ : ∃ N, w.heap.size = N := ⟨_, rfl⟩
 have HN := lh hN
 rw [hN] at BG BS BR Z1
 simp only [hN]
 clear hN
 have g0 := (BG.out.ext (Ext.rfl' W1)).cell (j := 0) rfl
 have s0 := (BS.out.ext (Ext.rfl' W1)).cell (j := 0) rfl
 have s1 := (BS.out.ext (Ext.rfl' W1)).cell (j := 1) rfl
 have bg0 := blt g0
 have bs0 := blt s0
 go_wp2_with fail
 refine (HV.out _ (H.out.ext E1.out) (Hv.out.ext E1.out) (Hr.out.ext E1.out)).mono ?_
 rintro e w2 ⟨rfl, he2⟩
 have U2 := lh he2
 clear he2 g0 s0 s1 bg0 bs0
 have g0 := (BG.out.ext U2.out).cell (j := 0) rfl
 have s0 := (BS.out.ext U2.out).cell (j := 0) rfl
 have s1 := (BS.out.ext U2.out).cell (j := 1) rfl
 have bg0 := blt g0
 have bs0 := blt s0
 cases hE : Sg.validE g ⟨v, r⟩
 ·have HS := lh (show Sg.hastyO g ⟨v, r⟩ n x = (⟨[], []⟩, []) by unfold Sg.hastyO Sg.mayHasty; rw [hE]; rfl)
  clear hE
  have BRf := lh (BR.out.ext U2.out)
  have f0 := BRf.out.free 0
  have f1 := BRf.out.free 1
  have x0 := BRf.out.cell (j := 0) rfl
  have x1 := BRf.out.cell (j := 1) rfl
  have bl := BRf.out.lt
  have r0 := (BRf.out.set2 (.slice none 0 0) (.slice none 0 0)).cell (j := 0) rfl
  have r1 := (BRf.out.set2 (.slice none 0 0) (.slice none 0 0)).cell (j := 1) rfl
  clear g0 s0 s1 bg0 bs0
  go_wp2
  refine bodyPost_ret (v := .tuple #[.agg #[.slice none 0 0, .slice none 0 0], .slice none 0 0]) (by simp [results, Tryz.results55, go_sem, r0, r1]; try rfl) rfl ?_
  rw [HS.out]
  exact ⟨none, 0, none, 0, [], none, 0, rfl, OwnE.nil _ _, by simpa [ints] using Own.nil _ _ 3 1, by simp [blk], Ext.md (E1.out.tr U2.out) (Mod.set2 w2 (N + 1 + 1) _ _) (fun b e => by have := HN.out; omega)⟩
 have HE := lh hE
 go_wp2_with fail
 refine (HC.out _ (H.out.ext (E1.out.tr U2.out))).mono ?_
 rintro e w3 ⟨rfl, he3⟩
 have U3 := lh (U2.out.tr he3)
 clear he3 g0 s0 s1 bg0 bs0
 have g0 := (BG.out.ext U3.out).cell (j := 0) rfl
 have s0 := (BS.out.ext U3.out).cell (j := 0) rfl
 have s1 := (BS.out.ext U3.out).cell (j := 1) rfl
 have bg0 := blt g0
 have bs0 := blt s0
 cases hC : Sg.isCell g n
 ·have HS := lh (show Sg.hastyO g ⟨v, r⟩ n x = (⟨[], []⟩, []) by unfold Sg.hastyO Sg.mayHasty; rw [hE, hC]; rfl)
  clear hE hC
  have BRf := lh (BR.out.ext U3.out)
  have f0 := BRf.out.free 0
  have f1 := BRf.out.free 1
  have x0 := BRf.out.cell (j := 0) rfl
  have x1 := BRf.out.cell (j := 1) rfl
  have bl := BRf.out.lt
  have r0 := (BRf.out.set2 (.slice none 0 0) (.slice none 0 0)).cell (j := 0) rfl
  have r1 := (BRf.out.set2 (.slice none 0 0) (.slice none 0 0)).cell (j := 1) rfl
  clear g0 s0 s1 bg0 bs0
  go_wp2
  refine bodyPost_ret (v := .tuple #[.agg #[.slice none 0 0, .slice none 0 0], .slice none 0 0]) (by simp [results, Tryz.results55, go_sem, r0, r1]; try rfl) rfl ?_
  rw [HS.out]
  exact ⟨none, 0, none, 0, [], none, 0, rfl, OwnE.nil _ _, by simpa [ints] using Own.nil _ _ 3 1, by simp [blk], Ext.md (E1.out.tr U3.out) (Mod.set2 w3 (N + 1 + 1) _ _) (fun b e => by have := HN.out; omega)⟩
 go_wp2_with fail
 refine (HI.out _).mono ?_
 rintro e w' ⟨rfl, rfl⟩
 cases hX : Sg.inR x 0 999
 ·have HS := lh (show Sg.hastyO g ⟨v, r⟩ n x = (⟨[], []⟩, []) by unfold Sg.hastyO Sg.mayHasty; rw [hE, hC, hX]; rfl)
  clear hE hC hX
  have BRf := lh (BR.out.ext U3.out)
  have f0 := BRf.out.free 0
  have f1 := BRf.out.free 1
  have x0 := BRf.out.cell (j := 0) rfl
  have x1 := BRf.out.cell (j := 1) rfl
  have bl := BRf.out.lt
  have r0 := (BRf.out.set2 (.slice none 0 0) (.slice none 0 0)).cell (j := 0) rfl
  have r1 := (BRf.out.set2 (.slice none 0 0) (.slice none 0 0)).cell (j := 1) rfl
  clear g0 s0 s1 bg0 bs0
  go_wp2
  refine bodyPost_ret (v := .tuple #[.agg #[.slice none 0 0, .slice none 0 0], .slice none 0 0]) (by simp [results, Tryz.results55, go_sem, r0, r1]; try rfl) rfl ?_
  rw [HS.out]
  exact ⟨none, 0, none, 0, [], none, 0, rfl, OwnE.nil _ _, by simpa [ints] using Own.nil _ _ 3 1, by simp [blk], Ext.md (E1.out.tr U3.out) (Mod.set2 w3 (N + 1 + 1) _ _) (fun b e => by have := HN.out; omega)⟩
 have HS := lh (show Sg.hastyO g ⟨v, r⟩ n x = (⟨(Sg.hastyR g ⟨v, r⟩ n.toNat x).vals, (Sg.hastyR g ⟨v, r⟩ n.toNat x).reads⟩, (Sg.hastyR g ⟨v, r⟩ n.toNat x).ran) by unfold Sg.hastyO Sg.mayHasty; rw [hE, hC, hX]; rfl)
 obtain ⟨k, nd, rfl, hnd, _⟩ := Sg.isCell_at hC
 have hkg : k < g.length := (List.getElem?_eq_some_iff.1 hnd).1
 have hx9 : 0 ≤ x ∧ x ≤ 999 := by
  unfold Sg.inR at hX
  simp only [Bool.and_eq_true, decide_eq_true_eq] at hX
  exact hX
 obtain ⟨hG, hvg, hrg, _, _⟩ := Sg.validE_parts HE.out
 have HG := lh hG
 have HLN := lh (And.intro (show v.length = g.length from hvg) (show r.length = g.length from hrg))
 have hg10 := validG_len hG
 have HX9 := lh hx9
 rw [Int.toNat_natCast] at HS
 clear hE hC hX hnd hG hvg hrg
 go_wp2_with fail
 refine (s_copyEager Av Ar cv cr v r _ (Hv.out.ext (E1.out.tr U3.out)) (Hr.out.ext (E1.out.tr U3.out)) hvl).mono ?_
 rintro e w4 ⟨A1, c1, A2, c2, hs, rfl, hoz, he4⟩
 obtain ⟨gv, gr, rfl, rfl⟩ := hoz.some2 (by have := HLN.out.1; omega) (by have := HLN.out.2; omega)
 have OZ := lh hoz
 have U4 := lh he4
 have OL := lh (fun b (hb : blk (some ⟨gv, 0, none⟩) = some b ∨ fpD (some ⟨gr, 0, none⟩) hs b) => OZ.out.ltB hb)
 have hs3 := U3.out.size
 have hs4 := U4.out.size
 have hz1 := Z1.out
 clear hoz he4 g0 s0 s1 bg0 bs0
 go_upto_region 4 with fail
 have BO := lh (show Bx (World.alloc w4 (.cells #[.slice (some ⟨gv, 0, none⟩) v.length c1, .slice (some ⟨gr, 0, none⟩) r.length c2] 63)) w4.heap.size [.slice (some ⟨gv, 0, none⟩) g.length c1, .slice (some ⟨gr, 0, none⟩) g.length c2] by
  have h1 := Bx.new w4 #[.slice (some ⟨gv, 0, none⟩) v.length c1, .slice (some ⟨gr, 0, none⟩) r.length c2] 63
  have hl : ([.slice (some ⟨gv, 0, none⟩) v.length c1, .slice (some ⟨gr, 0, none⟩) r.length c2] : List Value) = [.slice (some ⟨gv, 0, none⟩) g.length c1, .slice (some ⟨gr, 0, none⟩) g.length c2] := by rw [HLN.out.1, HLN.out.2]
  rw [← hl]; exact h1)
 have U5 := lh ((Ext.rfl' w4).al (.cells #[.slice (some ⟨gv, 0, none⟩) v.length c1, .slice (some ⟨gr, 0, none⟩) r.length c2] 63))
 have hz5 : (World.alloc w4 (.cells #[.slice (some ⟨gv, 0, none⟩) v.length c1, .slice (some ⟨gr, 0, none⟩) r.length c2] 63)).heap.size = w4.heap.size + 1 := by simp
 generalize (World.alloc w4 (.cells #[.slice (some ⟨gv, 0, none⟩) v.length c1, .slice (some ⟨gr, 0, none⟩) r.length c2] 63)) = w5 at *
 have HZ5 := lh hz5
 clear hz5
 have U35 := lh (U4.out.tr U5.out)
 have HRS := lh (show Sg.hastyR g ⟨v, r⟩ k x = if v.getD k 0 = x then ⟨v, r, []⟩ else Sg.hastyS g 201 k ⟨v.set k x, r, []⟩ from rfl)
 have HIN := lh (Sg.HIn.of (n := k) HE.out HX9.out)
 have HQO := lh (fun (W : World) (Ae : Option Addr) (e : Ext w5 W) (o : Own W w.heap.size 3 1 Ae 0 0 []) (hd : ∀ b, blk Ae = some b → w5.heap.size ≤ b) => HQ.of (w0 := w) (L := g.length) (A := Ae) (c := 0) (ts := []) (E1.out.tr (U3.out.tr (U35.out.tr e))) (((OZ.out.extB U5.out).extB e).monoB (by have := E1.out.size; omega)) HLN.out.1 HLN.out.2 o trivial
  (fun b hb => ⟨fun e2 => by have h1 := (OL.out b hb).2; have h2 := hd b e2; have h3 := HZ5.out; omega, fun y hy => by cases hy⟩) (fun b _ y hy => by cases hy))
 have hyx : v[k]? = some (v.getD k 0) := by rw [List.getD_eq_getElem?_getD, List.getElem?_eq_getElem (by have := HLN.out.1; omega), Option.getD_some]
 have cv5 := (OZ.out.v.ext U5.out).cell (j := k) (u := .int .i64 (v.getD k 0)) (by dsimp only; rw [ints_at, hyx]; rfl)
 have fv5 := (OZ.out.v.ext U5.out).free k
 have bv5 := blt cv5
 have hgvo := (OL.out gv (.inl rfl)).2
 have hgN := (OL.out gv (.inl rfl)).1
 clear hyx
 generalize v.getD k 0 = y0 at *
 generalize Sg.hastyR g ⟨v, r⟩ k x = u at *
 have o0 := BO.out.cell (j := 0) rfl
 have o1 := BO.out.cell (j := 1) rfl
 have bo := blt o0
 by_cases hy : y0 = x
 ·have z1 : (y0 == x) = true := by simp [hy]
  have HU := lh (show u = ⟨v, r, []⟩ by rw [HRS.out, if_pos hy])
  clear hy
  have BRf := lh (BR.out.ext (U3.out.tr U35.out))
  have f0 := BRf.out.free 0
  have f1 := BRf.out.free 1
  have x0 := BRf.out.cell (j := 0) rfl
  have x1 := BRf.out.cell (j := 1) rfl
  have bl := BRf.out.lt
  go_wp2
  have hE6 : Ext w5 (World.alloc w5 (.cells #[] 3)) := (Ext.rfl' w5).al _
  have hO6 : Own (World.alloc w5 (.cells #[] 3)) w.heap.size 3 1 (some ⟨w5.heap.size, 0, none⟩) 0 0 [] := Own.new w5 3 1 #[] 0 (by have h1 := HN.out; have h2 := U35.out.size; omega) (by unfold maxLen; omega) rfl
  obtain ⟨F6, hQ6, hF6⟩ := HQO.out _ _ hE6 hO6 (fun b hb => by have := Option.some.inj hb; dsimp only at this; omega)
  have BR6 := lh (BRf.out.ext hE6)
  have hMf := lh (Mod.set2 (World.alloc w5 (.cells #[] 3)) (N + 1 + 1) (.slice (some ⟨gv, 0, none⟩) g.length c1) (.slice (some ⟨gr, 0, none⟩) g.length c2))
  have hBf := BR6.out.set2 (.slice (some ⟨gv, 0, none⟩) g.length c1) (.slice (some ⟨gr, 0, none⟩) g.length c2)
  have r0 := hBf.cell (j := 0) rfl
  have r1 := hBf.cell (j := 1) rfl
  have hcm : World.alloc (World.setCell (World.setCell w5 ⟨N + 1 + 1, 0, none⟩ (.slice (some ⟨gv, 0, none⟩) g.length c1)) ⟨N + 1 + 1, 1, none⟩ (.slice (some ⟨gr, 0, none⟩) g.length c2)) (.cells #[] 3) = World.setCell (World.setCell (World.alloc w5 (.cells #[] 3)) ⟨N + 1 + 1, 0, none⟩ (.slice (some ⟨gv, 0, none⟩) g.length c1)) ⟨N + 1 + 1, 1, none⟩ (.slice (some ⟨gr, 0, none⟩) g.length c2) := by
   rw [World.setCell_alloc_past _ _ _ _ bl, World.setCell_alloc_past _ _ _ _ (by simpa [World.setCell] using bl)]
  rw [hcm]
  refine bodyPost_ret (v := .tuple #[.agg #[.slice (some ⟨gv, 0, none⟩) g.length c1, .slice (some ⟨gr, 0, none⟩) g.length c2], .slice (some ⟨w5.heap.size, 0, none⟩) 0 0]) (by simp [results, Tryz.results55, go_sem, r0, r1]; try rfl) rfl ?_
  rw [HS.out]
  have Q6 := lh hQ6
  have NB := lh (show ∀ b, F6 b → b ≠ N + 1 + 1 from fun b hb e => by
   rcases hF6 b hb with e2 | e2 | ⟨y, hy, _⟩
   ·have := (OL.out b e2).1; omega
   ·have e3 := Option.some.inj e2
    dsimp only at e3
    have := U35.out.size
    omega
   ·cases hy)
  rw [HU.out]
  obtain ⟨hs6, hZ6, hO6', hD6, lv6, lr6, hFF⟩ := Q6.out.back
  refine ⟨some ⟨gv, 0, none⟩, c1, some ⟨gr, 0, none⟩, c2, hs6, some ⟨w5.heap.size, 0, none⟩, 0, ?_, hZ6.modB hMf.out (fun b hb e => NB.out b (hFF b (.inl hb)) e), hO6'.mod hMf.out (fun b hb e => NB.out b (hFF b (.inr hb)) e), hD6, ?_⟩
  ·dsimp only
   rw [show v.length = g.length from lv6, show r.length = g.length from lr6]
   rfl
  ·exact Ext.md Q6.out.old hMf.out (fun b e => by have := HN.out; omega)
 ·have z1 : (y0 == x) = false := by rw [beq_eq_false_iff_ne]; exact hy
  have HU := lh (show u = Sg.hastyS g 201 k ⟨v.set k x, r, []⟩ by rw [HRS.out, if_neg hy])
  clear hy
  go_upto_region 7 with fail
  have VM := lh (Mod.set (F := fun b => b = gv) (Mod.rfl' _ w5) (p := ⟨gv, k, none⟩) (.inl rfl) (.int .i64 x))
  have OZ5 := lh (show OwnE (World.setCell w5 ⟨gv, k, none⟩ (.int .i64 x)) w.heap.size (some ⟨gv, 0, none⟩) c1 (some ⟨gr, 0, none⟩) c2 hs ⟨v.set k x, r⟩ from by
   have hz := (OZ.out.extB U5.out).monoB (B' := w.heap.size) (by have := E1.out.size; omega)
   refine ⟨?_, OwnD.mod hz.r VM.out (fun b hb e => hz.d gv rfl (by subst e; exact hb)), hz.d⟩
   have h1 := hz.v.st k (.int .i64 x)
   rw [ints_set] at h1
   simpa using h1)
  have EX6 := lh (show Ext w (World.setCell w5 ⟨gv, k, none⟩ (.int .i64 x)) from (E1.out.tr (U3.out.tr U35.out)).set (p := ⟨gv, k, none⟩) (by have := HN.out; show w.heap.size ≤ gv; omega) _)
  have g0 := ((BG.out.ext (U3.out.tr U35.out)).mod VM.out (by omega)).cell (j := 0) rfl
  have BO6 := lh (BO.out.mod VM.out (by omega))
  have BR6 := lh ((BR.out.ext (U3.out.tr U35.out)).mod VM.out (by omega))
  have hz6 : (World.setCell w5 ⟨gv, k, none⟩ (.int .i64 x)).heap.size = w5.heap.size := by simp [World.setCell]
  clear cv5 fv5 bv5 o0 o1 bo
  generalize World.setCell w5 ⟨gv, k, none⟩ (.int .i64 x) = w6 at *
  have HZ6 := lh hz6
  clear hz6
  have o0 := BO6.out.cell (j := 0) rfl
  have o1 := BO6.out.cell (j := 1) rfl
  have bo := blt o0
  have bg0 := blt g0
  have hE7 : Ext w6 (World.alloc w6 (.cells #[] 3)) := (Ext.rfl' w6).al _
  have hO7 : Own (World.alloc w6 (.cells #[] 3)) w.heap.size 3 1 (some ⟨w6.heap.size, 0, none⟩) 0 0 [] := Own.new w6 3 1 #[] 0 (by have h1 := HN.out; have h2 := U35.out.size; have h3 := HZ6.out; omega) (by unfold maxLen; omega) rfl
  have hvl6 : (v.set k x).length = g.length := by rw [List.length_set]; exact HLN.out.1
  obtain ⟨F7, hQ7, hF7⟩ := HQ.of (w0 := w) (L := g.length) (A := some ⟨w6.heap.size, 0, none⟩) (c := 0) (ts := []) (EX6.out.tr hE7) (OZ5.out.extB hE7) hvl6 HLN.out.2 hO7 trivial
   (fun b hb => ⟨fun e2 => by have h1 := (OL.out b hb).2; have e3 := Option.some.inj e2; dsimp only at e3; have h3 := HZ5.out; have h4 := HZ6.out; omega, fun y hy => by cases hy⟩) (fun b _ y hy => by cases hy)
  have Q7 := lh hQ7
  have NB7 := lh (show ¬ F7 (N + 1 + 1) from fun hb => by
   rcases hF7 _ hb with e2 | e2 | ⟨y, hy, _⟩
   ·have := (OL.out _ e2).1; omega
   ·have e3 := Option.some.inj e2
    dsimp only at e3
    have h4 := HZ6.out
    have := U35.out.size
    omega
   ·cases hy)
  have E7 := lh hE7
  clear hE7 hO7 hvl6 hQ7 hF7
  have HCH := lh (c_hasty w g.length gv c1 gr c2 c A g H.out HG.out rfl 201 k ⟨v.set k x, r, []⟩ (some ⟨w6.heap.size, 0, none⟩) 0 F7 (World.alloc w6 (.cells #[] 3)) (by simp) hkg HIN.out Q7.out)
  go_wp2_with fail
  refine HCH.out.mono ?_
  rintro e w8 ⟨A6, c6, F8, rfl, hQ8, hm8, hF8⟩
  rw [← HU.out] at hQ8 ⊢
  have Q6 := lh hQ8
  have M8 := lh hm8
  have NB := lh (show ∀ b, F8 b → b ≠ N + 1 + 1 from fun b hb e => by
   subst e
   rcases hF8 _ hb with h | h
   ·exact NB7.out h
   ·have h3 := E7.out.size
    have h4 := HZ6.out
    have h5 := U35.out.size
    omega)
  clear hQ8 hm8 hF8 g0 o0 o1 bo bg0
  have BRf := lh ((BR6.out.ext E7.out).mod M8.out NB7.out)
  have f0 := BRf.out.free 0
  have f1 := BRf.out.free 1
  have x0 := BRf.out.cell (j := 0) rfl
  have x1 := BRf.out.cell (j := 1) rfl
  have bl := BRf.out.lt
  have hBf := BRf.out.set2 (.slice (some ⟨gv, 0, none⟩) g.length c1) (.slice (some ⟨gr, 0, none⟩) g.length c2)
  have r0 := hBf.cell (j := 0) rfl
  have r1 := hBf.cell (j := 1) rfl
  have hMf := lh (Mod.set2 w8 (N + 1 + 1) (.slice (some ⟨gv, 0, none⟩) g.length c1) (.slice (some ⟨gr, 0, none⟩) g.length c2))
  go_wp2
  refine bodyPost_ret (v := .tuple #[.agg #[.slice (some ⟨gv, 0, none⟩) g.length c1, .slice (some ⟨gr, 0, none⟩) g.length c2], .slice A6 u.ran.length c6]) (by simp [results, Tryz.results55, go_sem, r0, r1]; try rfl) rfl ?_
  rw [HS.out]
  obtain ⟨hs6, hZ6, hO6, hD6, lv6, lr6, hFF⟩ := Q6.out.back
  refine ⟨some ⟨gv, 0, none⟩, c1, some ⟨gr, 0, none⟩, c2, hs6, A6, c6, ?_, hZ6.modB hMf.out (fun b hb e => NB.out b (hFF b (.inl hb)) e), hO6.mod hMf.out (fun b hb e => NB.out b (hFF b (.inr hb)) e), hD6, ?_⟩
  ·dsimp only
   rw [show u.vals.length = g.length from lv6, show u.reads.length = g.length from lr6]
  ·exact Ext.md Q6.out.old hMf.out (fun b e => by have := HN.out; omega)
end Go.Proofs.YtmkfjnkdaeoppaaGreat
