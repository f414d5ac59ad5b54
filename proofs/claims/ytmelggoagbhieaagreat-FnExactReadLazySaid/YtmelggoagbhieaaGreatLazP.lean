/- ReadLazy of the program: its contract. Conditions: bounds on lengths. -/
import Derived.Test.YtmelggoagbhieaaGreatLazO
import Derived.Test.YtmelggoagbhieaaGreatLazL
import Derived.Test.YtmelggoagbhieaaGreatLazE
import Derived.Test.YtmelggoagbhieaaGreatImplW
import Derived.Deep.DeepCutAuto
namespace Go.Proofs.YtmelggoagbhieaaGreat
open Go.RowKit

set_option maxRecDepth 100000 in
set_option maxHeartbeats 8000000 in
theorem i_ReadLazy (A Av Ar Aq : Option Addr) (c cv cr cq : Nat) (g : Sg.Graph) (v q : List Int) (r : List (List Int)) (n : Int) (w : World) (h : RdN w A g) (hv : Rd w 1 Av v.length (ints v)) (hr : RdLC w Ar r) (hq : Rd w 1 Aq q.length (ints q)) (hvl : v.length ≤ 1048576) (hql : q.length ≤ 1048576) :
    Calls Tryz.prog 33 #[.agg #[.slice A g.length c], .agg #[.slice Av v.length cv, .slice Ar r.length cr, .slice Aq q.length cq], .int .i64 n] w (ZN w (Sg.readLO g ⟨v, r, q⟩ n).1 (Sg.readLO g ⟨v, r, q⟩ n).2.1 (Sg.readLO g ⟨v, r, q⟩ n).2.2) := by
  have hgl := h.1
  have HV := Lib.hid (fun w h hv hr hq => i_ValidLazy A Av Ar Aq c cv cr cq g v q r w h hv hr hq hvl hql)
  have HH := Lib.hid (fun w => i_has A g.length c n w hgl)
  have H := Lib.hid h
  have Hv := Lib.hid hv
  have Hr := Lib.hid hr
  have Hq := Lib.hid hq
  clear h hv hr hq
  obtain ⟨W1, hW1⟩ : ∃ W1, W1 = World.alloc (World.alloc (World.alloc w (.cells #[.slice A g.length c] 25)) (.cells #[.slice Av v.length cv, .slice Ar r.length cr, .slice Aq q.length cq] 51)) (.cells #[.slice none 0 0, .slice none 0 0, .slice none 0 0] 51) := ⟨_, rfl⟩
  have e1 : Ext w W1 := by rw [hW1]; exact (((Ext.rfl' w).al _).al _).al _
  have z1 : W1.heap.size = w.heap.size + 1 + 1 + 1 := by rw [hW1]; simp
  have BG := Lib.hid (show Bx W1 w.heap.size [.slice A g.length c] by rw [hW1]; exact ((Bx.new w _ _).al _).al _)
  have BS := Lib.hid (show Bx W1 (w.heap.size + 1) [.slice Av v.length cv, .slice Ar r.length cr, .slice Aq q.length cq] by
    have h1 := (Bx.new (World.alloc w (.cells #[.slice A g.length c] 25)) #[.slice Av v.length cv, .slice Ar r.length cr, .slice Aq q.length cq] 51).al (.cells #[.slice none 0 0, .slice none 0 0, .slice none 0 0] 51)
    simp only [World.size_alloc] at h1
    rw [hW1]; exact h1)
  have BR := Lib.hid (show Bx W1 (w.heap.size + 1 + 1) [.slice none 0 0, .slice none 0 0, .slice none 0 0] by
    have h1 := Bx.new (World.alloc (World.alloc w (.cells #[.slice A g.length c] 25)) (.cells #[.slice Av v.length cv, .slice Ar r.length cr, .slice Aq q.length cq] 51)) #[.slice none 0 0, .slice none 0 0, .slice none 0 0] 51
    simp only [World.size_alloc] at h1
    rw [hW1]; exact h1)
  have E1 := Lib.hid e1
  have Z1 := Lib.hid z1
  clear e1 z1
  go_enter Tryz.func33, Tryz.ntmps33
  go_upto_region 1 with fail
  rw [← hW1]
  clear hW1
  obtain ⟨N, hN⟩ : ∃ N, w.heap.size = N := ⟨_, rfl⟩
  have HN := Lib.hid hN
  rw [hN] at BG BS BR Z1
  simp only [hN]
  clear hN
  have g0 := (BG.out.ext (Ext.rfl' W1)).cell (j := 0) rfl
  have s0 := (BS.out.ext (Ext.rfl' W1)).cell (j := 0) rfl
  have s1 := (BS.out.ext (Ext.rfl' W1)).cell (j := 1) rfl
  have s2 := (BS.out.ext (Ext.rfl' W1)).cell (j := 2) rfl
  have bg0 := blt g0
  have bs0 := blt s0
  go_wp2_with fail
  refine (HV.out _ (H.out.ext E1.out) (Hv.out.ext E1.out) (Hr.out.ext E1.out) (Hq.out.ext E1.out)).mono ?_
  rintro e w2 ⟨rfl, he2⟩
  have U2 := Lib.hid he2
  clear he2 g0 s0 s1 s2 bg0 bs0
  have g0 := (BG.out.ext U2.out).cell (j := 0) rfl
  have s0 := (BS.out.ext U2.out).cell (j := 0) rfl
  have s1 := (BS.out.ext U2.out).cell (j := 1) rfl
  have s2 := (BS.out.ext U2.out).cell (j := 2) rfl
  have bg0 := blt g0
  have bs0 := blt s0
  cases hE : Sg.validL g ⟨v, r, q⟩
  · have HS := Lib.hid (show Sg.readLO g ⟨v, r, q⟩ n = (⟨[], [], []⟩, 0, []) by unfold Sg.readLO; rw [hE]; rfl)
    clear hE
    have BRf := Lib.hid (BR.out.ext U2.out)
    have f0 := BRf.out.free 0
    have f1 := BRf.out.free 1
    have f2 := BRf.out.free 2
    have x0 := BRf.out.cell (j := 0) rfl
    have x1 := BRf.out.cell (j := 1) rfl
    have x2 := BRf.out.cell (j := 2) rfl
    have bl := BRf.out.lt
    have r0 := (BRf.out.set3 (.slice none 0 0) (.slice none 0 0) (.slice none 0 0)).cell (j := 0) rfl
    have r1 := (BRf.out.set3 (.slice none 0 0) (.slice none 0 0) (.slice none 0 0)).cell (j := 1) rfl
    have r2 := (BRf.out.set3 (.slice none 0 0) (.slice none 0 0) (.slice none 0 0)).cell (j := 2) rfl
    clear g0 s0 s1 s2 bg0 bs0
    go_wp2
    refine bodyPost_ret (v := .tuple #[.agg #[.slice none 0 0, .slice none 0 0, .slice none 0 0], .int .i64 0, .slice none 0 0]) (by simp [results, Tryz.results33, go_sem, r0, r1, r2]; try rfl) rfl ?_
    rw [HS.out]
    exact ⟨none, 0, none, 0, none, 0, [], none, 0, rfl, OwnZ.nil _ _, by simpa [ints] using Own.nil _ _ 3 1, by simp [blk], Ext.md (E1.out.tr U2.out) (Mod.set3 w2 (N + 1 + 1) _ _ _) (fun b e => by have := HN.out; omega)⟩
  have HE := Lib.hid hE
  go_wp2_with fail
  refine (HH.out _).mono ?_
  rintro e w3 ⟨rfl, he3⟩
  have U3 := Lib.hid (U2.out.tr he3)
  clear he3 g0 s0 s1 s2 bg0 bs0
  have g0 := (BG.out.ext U3.out).cell (j := 0) rfl
  have s0 := (BS.out.ext U3.out).cell (j := 0) rfl
  have s1 := (BS.out.ext U3.out).cell (j := 1) rfl
  have s2 := (BS.out.ext U3.out).cell (j := 2) rfl
  have bg0 := blt g0
  have bs0 := blt s0
  cases hR : Sg.inR n 0 ((g.length : Int) - 1)
  · have HS := Lib.hid (show Sg.readLO g ⟨v, r, q⟩ n = (⟨[], [], []⟩, 0, []) by unfold Sg.readLO; rw [hE, hR]; rfl)
    clear hE hR
    have BRf := Lib.hid (BR.out.ext U3.out)
    have f0 := BRf.out.free 0
    have f1 := BRf.out.free 1
    have f2 := BRf.out.free 2
    have x0 := BRf.out.cell (j := 0) rfl
    have x1 := BRf.out.cell (j := 1) rfl
    have x2 := BRf.out.cell (j := 2) rfl
    have bl := BRf.out.lt
    have r0 := (BRf.out.set3 (.slice none 0 0) (.slice none 0 0) (.slice none 0 0)).cell (j := 0) rfl
    have r1 := (BRf.out.set3 (.slice none 0 0) (.slice none 0 0) (.slice none 0 0)).cell (j := 1) rfl
    have r2 := (BRf.out.set3 (.slice none 0 0) (.slice none 0 0) (.slice none 0 0)).cell (j := 2) rfl
    clear g0 s0 s1 s2 bg0 bs0
    go_wp2
    refine bodyPost_ret (v := .tuple #[.agg #[.slice none 0 0, .slice none 0 0, .slice none 0 0], .int .i64 0, .slice none 0 0]) (by simp [results, Tryz.results33, go_sem, r0, r1, r2]; try rfl) rfl ?_
    rw [HS.out]
    exact ⟨none, 0, none, 0, none, 0, [], none, 0, rfl, OwnZ.nil _ _, by simpa [ints] using Own.nil _ _ 3 1, by simp [blk], Ext.md (E1.out.tr U3.out) (Mod.set3 w3 (N + 1 + 1) _ _ _) (fun b e => by have := HN.out; omega)⟩
  have HS := Lib.hid (show Sg.readLO g ⟨v, r, q⟩ n = ((Sg.readS g ⟨v, r, q⟩ n).st, Sg.valOf (Sg.readS g ⟨v, r, q⟩ n) n.toNat, (Sg.readS g ⟨v, r, q⟩ n).ran) by unfold Sg.readLO; rw [hE, hR]; rfl)
  have hrn : 0 ≤ n ∧ n < (g.length : Int) := by
    unfold Sg.inR at hR
    simp only [Bool.and_eq_true, decide_eq_true_eq] at hR
    omega
  obtain ⟨k, rfl⟩ := Int.eq_ofNat_of_zero_le hrn.1
  have hkg : k < g.length := by omega
  clear hE hR hrn
  obtain ⟨hG, hvg, hrg, hqg, _⟩ := Sg.validL_shape HE.out
  have HG := Lib.hid hG
  have HLN := Lib.hid (And.intro hvg (And.intro hrg hqg))
  have hg10 := Sg.validG_len10 hG
  clear hG hvg hrg hqg
  go_wp2_with fail
  refine (i_copyZ Av Ar Aq cv cr cq v q r _ (Hv.out.ext (E1.out.tr U3.out)) (RdLC.l (Hr.out.ext (E1.out.tr U3.out))) (Hq.out.ext (E1.out.tr U3.out)) hvl hql).mono ?_
  rintro e w4 ⟨A1, c1, A2, c2, A3, c3, hs, rfl, hoz, he4⟩
  obtain ⟨gv, gr, gq, rfl, rfl, rfl⟩ := hoz.some3 (by have := HLN.out.1; (try dsimp only at this); omega) (by have := HLN.out.2.1; (try dsimp only at this); omega) (by have := HLN.out.2.2; (try dsimp only at this); omega)
  have OZ := Lib.hid hoz
  have U4 := Lib.hid he4
  clear hoz he4 g0 s0 s1 s2 bg0 bs0
  go_upto_region 5 with fail
  rw [show v.length = g.length from HLN.out.1, show r.length = g.length from HLN.out.2.1, show q.length = g.length from HLN.out.2.2]
  have BO := Lib.hid ((Bx.new w4 #[.slice (some ⟨gv, 0, none⟩) g.length c1, .slice (some ⟨gr, 0, none⟩) g.length c2, .slice (some ⟨gq, 0, none⟩) g.length c3] 51).al (.cells #[.slice none 0 0] 26))
  have BL := Lib.hid (show Bx (World.alloc (World.alloc w4 (.cells #[.slice (some ⟨gv, 0, none⟩) g.length c1, .slice (some ⟨gr, 0, none⟩) g.length c2, .slice (some ⟨gq, 0, none⟩) g.length c3] 51)) (.cells #[.slice none 0 0] 26)) (w4.heap.size + 1) ([] ++ [.slice none 0 0]) by
    have h1 := Bx.new (World.alloc w4 (.cells #[.slice (some ⟨gv, 0, none⟩) g.length c1, .slice (some ⟨gr, 0, none⟩) g.length c2, .slice (some ⟨gq, 0, none⟩) g.length c3] 51)) #[.slice none 0 0] 26
    simp only [World.size_alloc] at h1
    exact h1)
  have U5 := Lib.hid (((Ext.rfl' w4).al (.cells #[.slice (some ⟨gv, 0, none⟩) g.length c1, .slice (some ⟨gr, 0, none⟩) g.length c2, .slice (some ⟨gq, 0, none⟩) g.length c3] 51)).al (.cells #[.slice none 0 0] 26))
  generalize World.alloc (World.alloc w4 (.cells #[.slice (some ⟨gv, 0, none⟩) g.length c1, .slice (some ⟨gr, 0, none⟩) g.length c2, .slice (some ⟨gq, 0, none⟩) g.length c3] 51)) (.cells #[.slice none 0 0] 26) = w5 at *
  have U35 := Lib.hid (U4.out.tr U5.out)
  have OL := Lib.hid (fun b (hb : fpZ (some ⟨gv, 0, none⟩) (some ⟨gr, 0, none⟩) (some ⟨gq, 0, none⟩) hs b) => OZ.out.lt hb)
  have hs4 := U4.out.size
  have hs3 := U3.out.size
  have hz1 := Z1.out
  obtain ⟨F5, hS5, hF5⟩ := LS.of (w0 := w3) (L := g.length) (pre := []) (A := none) (c := 0) U35.out (OZ.out.ext U5.out) HLN.out.1 HLN.out.2.1 HLN.out.2.2 BL.out (Own.nil _ _ _ _) (by omega) (fun b hb => ⟨fun e => by have := (OL.out b hb).2; omega, by simp [blk]⟩) (by simp [blk])
  have nF : ∀ b, b < w3.heap.size → ¬ F5 b := fun b hb hf => by have := (hS5.lt hf).1; omega
  have nO : ¬ F5 w4.heap.size := fun hf => by
    rcases hF5 _ hf with e | e | e
    · have := (OL.out _ e).2; omega
    · omega
    · simp [blk] at e
  have HL5 := Lib.hid hS5
  have NF := Lib.hid nF
  have NO := Lib.hid nO
  clear hS5 hF5 nF nO
  have g0 := (BG.out.ext (U3.out.tr U35.out)).cell (j := 0) rfl
  have s0 := (BS.out.ext (U3.out.tr U35.out)).cell (j := 0) rfl
  have s1 := (BS.out.ext (U3.out.tr U35.out)).cell (j := 1) rfl
  have s2 := (BS.out.ext (U3.out.tr U35.out)).cell (j := 2) rfl
  have bg0 := blt g0
  have bs0 := blt s0
  have o0 := BO.out.cell (j := 0) rfl
  have o1 := BO.out.cell (j := 1) rfl
  have o2 := BO.out.cell (j := 2) rfl
  have bo := blt o0
  go_wp2_with fail
  refine (c_clean w3 g.length gv c1 gr c2 gq c3 (w4.heap.size + 1) c A g (H.out.ext (E1.out.tr U3.out)) HG.out rfl 10 k ⟨⟨v, r, q⟩, []⟩ F5 w5 (by omega) hkg HE.out (by simp) HL5.out).mono ?_
  rintro e w6 ⟨rfl, hG6⟩
  have HRS := Lib.hid (show Sg.cleanS g 10 (k : Int) ⟨⟨v, r, q⟩, []⟩ = Sg.readS g ⟨v, r, q⟩ (k : Int) from rfl)
  rw [HRS.out] at hG6
  generalize Sg.readS g ⟨v, r, q⟩ (k : Int) = u at *
  obtain ⟨F6, hS6, hm6, hF6⟩ := hG6
  obtain ⟨hs6, A6, c6, hZ6, hB6, ho6, hd6, lv6, lr6, lq6⟩ := hS6.back
  have hle6 := ho6.2.1
  have hmx6 := ho6.2.2.1
  obtain ⟨cv6, fv6, bv6⟩ := hS6.val hkg
  have BO6 := Lib.hid (BO.out.mod hm6 NO.out)
  have hB6' := hB6
  simp only [List.nil_append] at hB6'
  have y0 := hB6'.cell (j := 0) rfl
  have p0 := BO6.out.cell (j := 0) rfl
  have p1 := BO6.out.cell (j := 1) rfl
  have p2 := BO6.out.cell (j := 2) rfl
  have by0 := blt y0
  have bp0 := blt p0
  have M6 := Lib.hid hm6
  have Z6 := Lib.hid hZ6
  have O6 := Lib.hid ho6
  have D6 := Lib.hid hd6
  have LV := Lib.hid (And.intro lv6 (And.intro lr6 lq6))
  have hgvN : gv ≠ N + 1 + 1 := fun e => by have := (OL.out gv (.inl rfl)).1; omega
  have hs5 := U5.out.size
  clear hS6 hm6 hF6 hB6 hB6' hZ6 ho6 hd6 lv6 lr6 lq6 fv6 g0 s0 s1 s2 bg0 bs0 o0 o1 o2 bo
  have BRf := Lib.hid ((BR.out.ext (U3.out.tr U35.out)).mod M6.out (NF.out _ (by omega)))
  have f0 := BRf.out.free 0
  have f1 := BRf.out.free 1
  have f2 := BRf.out.free 2
  have x0 := BRf.out.cell (j := 0) rfl
  have x1 := BRf.out.cell (j := 1) rfl
  have x2 := BRf.out.cell (j := 2) rfl
  have bl := BRf.out.lt
  go_upto_region 6 with fail
  go_cut [7, 8] (fun s7 s8 wx => s7 = .int .i64 (Sg.valOf u k) ∧ s8 = .slice A6 u.ran.length u.ran.length ∧ Hid (Bx wx (N + 1 + 1) [.slice (some ⟨gv, 0, none⟩) g.length c1, .slice (some ⟨gr, 0, none⟩) g.length c2, .slice (some ⟨gq, 0, none⟩) g.length c3]) ∧ Hid (Mod (fun b => b = N + 1 + 1) w6 wx))
  case first =>
    refine wp_region_held_drew (S := (fun W => W.cell? ⟨w4.heap.size, 0, none⟩ = some (.slice (some ⟨gv, 0, none⟩) g.length c1) ∧ W.cell? ⟨w4.heap.size, 1, none⟩ = some (.slice (some ⟨gr, 0, none⟩) g.length c2) ∧ W.cell? ⟨w4.heap.size, 2, none⟩ = some (.slice (some ⟨gq, 0, none⟩) g.length c3) ∧ W.cell? ⟨gv, k, none⟩ = some (.int .i64 (Sg.valOf u k)) ∧ W.cell? ⟨w4.heap.size + 1, 0, none⟩ = some (.slice A6 u.ran.length c6))) (by kernel_rfl) ?_ (fun hHeld => ?_)
    · exact ⟨((Ext.rfl' _).dr).cellE p0, ((Ext.rfl' _).dr).cellE p1, ((Ext.rfl' _).dr).cellE p2, ((Ext.rfl' _).dr).cellE cv6, ((Ext.rfl' _).dr).cellE y0⟩
    refine wpAnyH_take (i := 0) (v := ?_) (by simp only [List.getElem?_toArray, List.getElem?_cons_zero]; rfl) (by kernel_rfl) (by kernel_rfl) (by kernel_rfl) (by exact fun _ _ _ h => h) (Or.inl ⟨by kernel_rfl, ?_⟩) (by assumption) ?_
    rotate_left
    · intro w hSw; (try dsimp only at hSw); go_simp; try with_reducible rfl
    try simp only [Act.put, List.setIfInBounds_toArray, List.set_cons_zero, List.set_cons_succ]
    refine wpAnyH_take (i := 1) (v := ?_) (by simp only [List.getElem?_toArray, List.getElem?_cons_succ, List.getElem?_cons_zero]; rfl) (by kernel_rfl) (by kernel_rfl) (by kernel_rfl) (by exact fun _ _ _ h => h) (Or.inl ⟨by kernel_rfl, ?_⟩) (by assumption) ?_
    rotate_left
    · intro w hSw; (try dsimp only at hSw); go_simp; try with_reducible rfl
    try simp only [Act.put, List.setIfInBounds_toArray, List.set_cons_zero, List.set_cons_succ]
    refine wpAnyH_take (i := 2) (v := ?_) (by simp only [List.getElem?_toArray, List.getElem?_cons_succ, List.getElem?_cons_zero]; rfl) (by kernel_rfl) (by kernel_rfl) (by kernel_rfl) (by exact fun _ _ _ h => h) (Or.inl ⟨by kernel_rfl, ?_⟩) (by assumption) ?_
    rotate_left
    · intro w hSw; (try dsimp only at hSw); go_simp; try with_reducible rfl
    try simp only [Act.put, List.setIfInBounds_toArray, List.set_cons_zero, List.set_cons_succ]
    refine wpAnyH_take (i := 3) (v := ?_) (by simp only [List.getElem?_toArray, List.getElem?_cons_succ, List.getElem?_cons_zero]; rfl) (by kernel_rfl) (by kernel_rfl) (by kernel_rfl) (by exact fun _ _ _ h => h) (Or.inl ⟨by kernel_rfl, ?_⟩) (by assumption) ?_
    rotate_left
    · intro w hSw; (try dsimp only at hSw); go_simp; try with_reducible rfl
    try simp only [Act.put, List.setIfInBounds_toArray, List.set_cons_zero, List.set_cons_succ]
    refine wpAnyH_take (i := 4) (v := ?_) (by simp only [List.getElem?_toArray, List.getElem?_cons_succ, List.getElem?_cons_zero]; rfl) (by kernel_rfl) (by kernel_rfl) (by kernel_rfl) (by exact fun _ _ _ h => h) (Or.inl ⟨by kernel_rfl, ?_⟩) (by assumption) ?_
    rotate_left
    · intro w hSw; (try dsimp only at hSw); go_simp; try with_reducible rfl
    try simp only [Act.put, List.setIfInBounds_toArray, List.set_cons_zero, List.set_cons_succ]
    refine wpAnyH_take (i := 5) (v := ?_) (by simp only [List.getElem?_toArray, List.getElem?_cons_succ, List.getElem?_cons_zero]; rfl) (by kernel_rfl) (by kernel_rfl) (by kernel_rfl) (by exact fun _ _ _ h => h) (Or.inl ⟨by kernel_rfl, ?_⟩) (by assumption) ?_
    rotate_left
    · intro w hSw; (try dsimp only at hSw); go_simp; try with_reducible rfl
    try simp only [Act.put, List.setIfInBounds_toArray, List.set_cons_zero, List.set_cons_succ]
    refine wpAnyH_take (i := 6) (v := ?_) (by simp only [List.getElem?_toArray, List.getElem?_cons_succ, List.getElem?_cons_zero]; rfl) (by kernel_rfl) (by kernel_rfl) (by kernel_rfl) (by exact fun _ _ _ h => h) (Or.inl ⟨by kernel_rfl, ?_⟩) (by assumption) ?_
    rotate_left
    · intro w hSw; (try dsimp only at hSw); go_simp; try with_reducible rfl
    try simp only [Act.put, List.setIfInBounds_toArray, List.set_cons_zero, List.set_cons_succ]
    refine wpAnyH_ready (rs := [7]) (by kernel_rfl) (by simp) ?_
    refine AllReadyH.cons rfl (fun K hK => ?_) AllReadyH.nil
    go_simp
    refine (i_Clip A6 u.ran.length c6 _ hle6 hmx6).mono ?_
    rintro e w7 ⟨rfl, hw7⟩
    subst hw7
    try go_wp2_with fail
    refine hK.out _ _ ?_ (fun hHeld2 => ?_)
    · exact (by first | exact ⟨p0, p1, p2, cv6, y0⟩ | exact ⟨((Ext.rfl' _).dr).cellE p0, ((Ext.rfl' _).dr).cellE p1, ((Ext.rfl' _).dr).cellE p2, ((Ext.rfl' _).dr).cellE cv6, ((Ext.rfl' _).dr).cellE y0⟩)
    clear hK K hHeld
    have hHeld := hHeld2
    clear hHeld2
    try simp only [Act.put, List.setIfInBounds_toArray, List.set_cons_zero, List.set_cons_succ]
    refine wpAnyH_ready (rs := [8]) (by kernel_rfl) (by simp) ?_
    refine AllReadyH.cons rfl (fun K hK => ?_) AllReadyH.nil
    go_simp
    refine hK.out _ _ ?_ (fun hHeld2 => ?_)
    · exact (by first | exact ⟨(Mod.set3 _ _ _ _ _).cellE p0 (by omega), (Mod.set3 _ _ _ _ _).cellE p1 (by omega), (Mod.set3 _ _ _ _ _).cellE p2 (by omega), (Mod.set3 _ _ _ _ _).cellE cv6 (by omega), (Mod.set3 _ _ _ _ _).cellE y0 (by omega)⟩ | exact ⟨((Ext.rfl' _).dr).cellE ((Mod.set3 _ _ _ _ _).cellE p0 (by omega)), ((Ext.rfl' _).dr).cellE ((Mod.set3 _ _ _ _ _).cellE p1 (by omega)), ((Ext.rfl' _).dr).cellE ((Mod.set3 _ _ _ _ _).cellE p2 (by omega)), ((Ext.rfl' _).dr).cellE ((Mod.set3 _ _ _ _ _).cellE cv6 (by omega)), ((Ext.rfl' _).dr).cellE ((Mod.set3 _ _ _ _ _).cellE y0 (by omega))⟩ | exact ⟨(Mod.set3 _ _ _ _ _).cellE (((Ext.rfl' _).dr).cellE p0) (by omega), (Mod.set3 _ _ _ _ _).cellE (((Ext.rfl' _).dr).cellE p1) (by omega), (Mod.set3 _ _ _ _ _).cellE (((Ext.rfl' _).dr).cellE p2) (by omega), (Mod.set3 _ _ _ _ _).cellE (((Ext.rfl' _).dr).cellE cv6) (by omega), (Mod.set3 _ _ _ _ _).cellE (((Ext.rfl' _).dr).cellE y0) (by omega)⟩)
    clear hK K hHeld
    have hHeld := hHeld2
    clear hHeld2
    try simp only [Act.put]
    refine wpAnyH_take (i := 9) (v := ?_) (by simp only [List.getElem?_toArray, List.getElem?_cons_succ, List.getElem?_cons_zero]; rfl) (by kernel_rfl) (by kernel_rfl) (by kernel_rfl) (by exact fun _ _ _ h => h) (Or.inl ⟨by kernel_rfl, ?_⟩) (by assumption) ?_
    rotate_left
    · intro w hSw; (try dsimp only at hSw); go_simp; try with_reducible rfl
    try simp only [Act.put, List.setIfInBounds_toArray, List.set_cons_zero, List.set_cons_succ]
    refine wpAnyH_take (i := 10) (v := ?_) (by simp only [List.getElem?_toArray, List.getElem?_cons_succ, List.getElem?_cons_zero]; rfl) (by kernel_rfl) (by kernel_rfl) (by kernel_rfl) (by exact fun _ _ _ h => h) (Or.inl ⟨by kernel_rfl, ?_⟩) (by assumption) ?_
    rotate_left
    · intro w hSw; (try dsimp only at hSw); go_simp; try with_reducible rfl
    try simp only [Act.put, List.setIfInBounds_toArray, List.set_cons_zero, List.set_cons_succ]
    refine wpAnyH_done (by kernel_rfl) ?_ _
    go_wp2_with fail
    go_meet
    exact ⟨rfl, rfl, Lib.hid (by first | exact BRf.out.set3 _ _ _ | exact (BRf.out.set3 _ _ _).ext ((Ext.rfl' _).dr) | exact (BRf.out.ext ((Ext.rfl' _).dr)).set3 _ _ _), Lib.hid (by first | exact Mod.set3 _ _ _ _ _ | exact (Mod.set3 _ _ _ _ _).dr | exact (Mod.of ((Ext.rfl' _).dr)).tr' (Mod.set3 _ _ _ _ _))⟩
  case rest =>
    obtain ⟨rfl, rfl, hBf, hMf⟩ := hcut
    have r0 := hBf.out.cell (j := 0) rfl
    have r1 := hBf.out.cell (j := 1) rfl
    have r2 := hBf.out.cell (j := 2) rfl
    clear p0 p1 p2 y0 cv6 x0 x1 x2 f0 f1 f2
    go_wp2
    refine bodyPost_ret (v := .tuple #[.agg #[.slice (some ⟨gv, 0, none⟩) g.length c1, .slice (some ⟨gr, 0, none⟩) g.length c2, .slice (some ⟨gq, 0, none⟩) g.length c3], .int .i64 (Sg.valOf u k), .slice A6 u.ran.length u.ran.length]) (by simp [results, Tryz.results33, go_sem, r0, r1, r2]; try rfl) rfl ?_
    rw [HS.out]
    have hwn := HN.out
    have e3 := E1.out.size
    refine ⟨some ⟨gv, 0, none⟩, c1, some ⟨gr, 0, none⟩, c2, some ⟨gq, 0, none⟩, c3, hs6, A6, u.ran.length, ?_, (Z6.out.mod hMf.out (fun b hb e => by have := (Z6.out.lt hb).1; omega)).mono (by omega), (O6.out.clip.mod hMf.out (fun b hb e => by have := (O6.out.lt hb).1; omega)).mono (by omega), D6.out, ?_⟩
    · dsimp only
      rw [show u.st.vals.length = g.length from LV.out.1, show u.st.reads.length = g.length from LV.out.2.1, show u.st.cols.length = g.length from LV.out.2.2]
      rfl
    · refine Ext.md (Ext.md (E1.out.tr (U3.out.tr U35.out)) M6.out (fun b hb => ?_)) hMf.out (fun b e => by omega)
      have := (HL5.out.lt hb).1
      omega
  end Go.Proofs.YtmelggoagbhieaaGreat
