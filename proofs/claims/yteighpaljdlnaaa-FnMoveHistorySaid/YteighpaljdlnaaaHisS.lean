/- The reference's histories: validity, copies, moves: contracts. Conditions: none. -/
import Derived.Test.YteighpaljdlnaaaTy
import Derived.Test.YteighpaljdlnaaaHisP
import Derived.Test.YteighpaljdlnaaaCopyA
import Derived.IntWalk
namespace Go.Proofs.Yteighpaljdlnaaa
open Go.RowKit

set_option maxRecDepth 100000 in
set_option maxHeartbeats 4000000 in
theorem s_validHistory (A Ah : Option Addr) (c ch : Nat) (g : Sg.Graph) (r : List (List Int)) (p : Int) (w : World) (h : RdN w A g) (hr : RdL w Ah r) :
  Calls Try.prog 47 #[.agg #[.slice A g.length c], .agg #[.slice Ah r.length ch, .int .i64 p]] w fun e w' => e = .returned (.bool (Sg.validH g ⟨r, p⟩)) ∧ Ext w w' := by
 have E0 := lh ((((Ext.rfl' w).al (.cells #[.slice A g.length c] 25)).al (.cells #[.slice Ah r.length ch, .int .i64 p] 44)) : Ext w (World.alloc (World.alloc w (.cells #[.slice A g.length c] 25)) (.cells #[.slice Ah r.length ch, .int .i64 p] 44)))
 have qlg : World.cell? (World.alloc (World.alloc w (.cells #[.slice A g.length c] 25)) (.cells #[.slice Ah r.length ch, .int .i64 p] 44)) ⟨w.heap.size, 0, none⟩ = some (.slice A g.length c) := by simp [go_sem]
 have Qlg := lh qlg
 clear qlg
 have qh0 : World.cell? (World.alloc (World.alloc w (.cells #[.slice A g.length c] 25)) (.cells #[.slice Ah r.length ch, .int .i64 p] 44)) ⟨w.heap.size + 1, 0, none⟩ = some (.slice Ah r.length ch) := by simp [go_sem]
 have Qh0 := lh qh0
 clear qh0
 have qh1 : World.cell? (World.alloc (World.alloc w (.cells #[.slice A g.length c] 25)) (.cells #[.slice Ah r.length ch, .int .i64 p] 44)) ⟨w.heap.size + 1, 1, none⟩ = some (.int .i64 p) := by simp [go_sem]
 have Qh1 := lh qh1
 clear qh1
 have hgl := h.1
 have hbl := hr.1
 have H := lh h
 have HR := lh hr
 clear h hr
 have iw : IntKind.i64.wrap ((r.length : Int) - 1) = (r.length : Int) - 1 := IntWalk.i64_in _ (by omega)
 have HVC := lh (fun Al cl l w h hc => s_validCells A Al c cl g l w h hc)
 have HVG := lh (s_validGraph A c g)
 go_enter Try.func47, Try.ntmps47
 go_wp2_with fail
 go_loopw [5] (fun s5 wr => ∃ n : Nat, n ≤ r.length ∧ s5 = .int .i64 n ∧ Hid (∀ l ∈ r.take n, Sg.validC g l = true) ∧ Hid (Ext (World.alloc (World.alloc w (.cells #[.slice A g.length c] 25)) (.cells #[.slice Ah r.length ch, .int .i64 p] 44)) wr)) (fun s5 _ => r.length - (intOf s5).toNat)
 case atStart => exact ⟨0, Nat.zero_le _, rfl, lh (by simp), lh (Ext.rfl' _)⟩
 case round =>
  obtain ⟨n, hn, rfl, hall, hext⟩ := hrel
  have lE0 := lh (Ext.rfl' wr)
  have lg_r := hext.out.cellE Qlg.out
  have blg_r := blt lg_r
  have h0_r := hext.out.cellE Qh0.out
  have bh0_r := blt h0_r
  have h1_r := hext.out.cellE Qh1.out
  have bh1_r := blt h1_r
  have Hr1 := lh (H.out.ext (E0.out.tr hext.out))
  have Hr2 := lh (HR.out.ext (E0.out.tr hext.out))
  by_cases hlt : n < r.length
  ·skip
   obtain ⟨l, bo, oo, Al, cl, hl, rfl, hcl, hRl, hll⟩ := Hr2.out.at_ hlt
   have HL := lh hl
   have HRl := lh hRl
   have bhcl := blt hcl
   clear hl hRl hll
   cases hv : Sg.validC g l
   ·skip
    have HV := lh hv
    clear hv
    go_wp2_with fail
    refine wp_region_held_drew (S := (fun W => W.cell? ⟨w.heap.size, 0, none⟩ = some (.slice A g.length c) ∧ W.cell? ⟨w.heap.size + 1, 0, none⟩ = some (.slice (some ⟨bo, oo, none⟩) r.length ch) ∧ W.cell? ⟨bo, oo + n, none⟩ = some (.slice Al l.length cl))) (by kernel_rfl) ?_ (fun hHeld => ?_)
    ·exact ⟨((Ext.rfl' _).dr).cellE lg_r, ((Ext.rfl' _).dr).cellE h0_r, ((Ext.rfl' _).dr).cellE hcl⟩
    refine ty 0 ?_
    refine ty 1 ?_
    refine ty 2 ?_
    refine ty 3 ?_
    refine ty 4 ?_
    refine ty 5 ?_
    refine rd1 6 rfl fun K hK => ?_
    go_simp
    have lX0_1 := lh ((Ext.rfl' wr).dr)
    refine (HVC.out Al cl l _ (Hr1.out.ext lX0_1.out) (HRl.out.ext lX0_1.out)).mono ?_
    rintro e lw1 ⟨rfl, lhe1⟩
    rw [HV.out]
    have lU1 := lh (((Ext.rfl' wr).dr).tr lhe1)
    have lE1 := lh (lE0.out.tr lU1.out)
    have lg_l1 := lU1.out.cellE lg_r
    have h0_l1 := lU1.out.cellE h0_r
    have h1_l1 := lU1.out.cellE h1_r
    have el_l1 := lU1.out.cellE hcl
    clear lhe1 lg_r h0_r h1_r hcl blg_r bh0_r bh1_r bhcl lX0_1
    have blg_l1 := blt lg_l1
    have bh0_l1 := blt h0_l1
    have bh1_l1 := blt h1_l1
    have bel_l1 := blt el_l1
    have szl1 := lU1.out.size
    try go_wp2_with fail
    refine hK.out _ _ (by exact ⟨lg_l1, h0_l1, el_l1⟩) fun hh2 => ?_; clear hK K hHeld; have hHeld := hh2; clear hh2
    try simp only [Act.put, pu]
    refine ty 7 ?_
    refine dn ?_
    go_wp2
    go_ret
    exact ⟨ret_bool (Sg.validH_bad (List.mem_of_getElem? HL.out) HV.out), (E0.out.tr hext.out).tr lE1.out⟩
   ·skip
    have HV := lh hv
    clear hv
    go_wp2_with fail
    refine wp_region_held_drew (S := (fun W => W.cell? ⟨w.heap.size, 0, none⟩ = some (.slice A g.length c) ∧ W.cell? ⟨w.heap.size + 1, 0, none⟩ = some (.slice (some ⟨bo, oo, none⟩) r.length ch) ∧ W.cell? ⟨bo, oo + n, none⟩ = some (.slice Al l.length cl))) (by kernel_rfl) ?_ (fun hHeld => ?_)
    ·exact ⟨((Ext.rfl' _).dr).cellE lg_r, ((Ext.rfl' _).dr).cellE h0_r, ((Ext.rfl' _).dr).cellE hcl⟩
    refine ty 0 ?_
    refine ty 1 ?_
    refine ty 2 ?_
    refine ty 3 ?_
    refine ty 4 ?_
    refine ty 5 ?_
    refine rd1 6 rfl fun K hK => ?_
    go_simp
    have lX0_1 := lh ((Ext.rfl' wr).dr)
    refine (HVC.out Al cl l _ (Hr1.out.ext lX0_1.out) (HRl.out.ext lX0_1.out)).mono ?_
    rintro e lw1 ⟨rfl, lhe1⟩
    rw [HV.out]
    have lU1 := lh (((Ext.rfl' wr).dr).tr lhe1)
    have lE1 := lh (lE0.out.tr lU1.out)
    have lg_l1 := lU1.out.cellE lg_r
    have h0_l1 := lU1.out.cellE h0_r
    have h1_l1 := lU1.out.cellE h1_r
    have el_l1 := lU1.out.cellE hcl
    clear lhe1 lg_r h0_r h1_r hcl blg_r bh0_r bh1_r bhcl lX0_1
    have blg_l1 := blt lg_l1
    have bh0_l1 := blt h0_l1
    have bh1_l1 := blt h1_l1
    have bel_l1 := blt el_l1
    have szl1 := lU1.out.size
    try go_wp2_with fail
    refine hK.out _ _ (by exact ⟨lg_l1, h0_l1, el_l1⟩) fun hh2 => ?_; clear hK K hHeld; have hHeld := hh2; clear hh2
    try simp only [Act.put, pu]
    refine ty 7 ?_
    refine dn ?_
    go_wp2
    go_roundw
    case rel => exact ⟨n + 1, by omega, by go_num, lh (fun x hx => by rw [take_snoc r n HL.out] at hx; rcases List.mem_append.1 hx with hx | hx; exact hall.out x hx; rw [List.mem_singleton.1 hx]; exact HV.out), lh (hext.out.tr lE1.out)⟩
    case measure => simp [intOf]; omega
  ·skip
   obtain rfl : n = r.length := by omega
   have hall2 := hall.out
   rw [List.take_length] at hall2
   have HA := lh (List.all_eq_true.2 hall2)
   clear hall2
   cases hG : Sg.validG g
   ·skip
    have HG := lh hG
    clear hG
    have lX0_1 := lh (Ext.rfl' wr)
    go_wp2_with fail
    refine (HVG.out _ (Hr1.out.ext lX0_1.out)).mono ?_
    rintro e lw1 ⟨rfl, lhe1⟩
    rw [HG.out]
    have lU1 := lh ((Ext.rfl' wr).tr lhe1)
    have lE1 := lh (lE0.out.tr lU1.out)
    have lg_l1 := lU1.out.cellE lg_r
    have h0_l1 := lU1.out.cellE h0_r
    have h1_l1 := lU1.out.cellE h1_r
    clear lhe1 lg_r h0_r h1_r blg_r bh0_r bh1_r lX0_1
    have blg_l1 := blt lg_l1
    have bh0_l1 := blt h0_l1
    have bh1_l1 := blt h1_l1
    have szl1 := lU1.out.size
    go_wp2
    go_ret
    exact ⟨ret_bool (by unfold Sg.validH; rw [HA.out, HG.out]; rfl), (E0.out.tr hext.out).tr lE1.out⟩
   have HG := lh hG
   clear hG
   cases h1 : Sg.inR (r.length : Int) 1 10
   ·skip
    have H1 := lh h1
    clear h1
    have lX0_1 := lh (Ext.rfl' wr)
    go_wp2_with fail
    refine (HVG.out _ (Hr1.out.ext lX0_1.out)).mono ?_
    rintro e lw1 ⟨rfl, lhe1⟩
    rw [HG.out]
    have lU1 := lh ((Ext.rfl' wr).tr lhe1)
    have lE1 := lh (lE0.out.tr lU1.out)
    have lg_l1 := lU1.out.cellE lg_r
    have h0_l1 := lU1.out.cellE h0_r
    have h1_l1 := lU1.out.cellE h1_r
    clear lhe1 lg_r h0_r h1_r blg_r bh0_r bh1_r lX0_1
    have blg_l1 := blt lg_l1
    have bh0_l1 := blt h0_l1
    have bh1_l1 := blt h1_l1
    have szl1 := lU1.out.size
    go_wp2_with fail
    refine (s_inRange _ _ _ _).mono ?_
    rintro e w' ⟨rfl, rfl⟩
    rw [H1.out]
    go_wp2
    go_ret
    exact ⟨ret_bool (by unfold Sg.validH; rw [HA.out, HG.out, H1.out]; rfl), (E0.out.tr hext.out).tr lE1.out⟩
   have H1 := lh h1
   clear h1
   have lX0_1 := lh (Ext.rfl' wr)
   go_wp2_with fail
   refine (HVG.out _ (Hr1.out.ext lX0_1.out)).mono ?_
   rintro e lw1 ⟨rfl, lhe1⟩
   rw [HG.out]
   have lU1 := lh ((Ext.rfl' wr).tr lhe1)
   have lE1 := lh (lE0.out.tr lU1.out)
   have lg_l1 := lU1.out.cellE lg_r
   have h0_l1 := lU1.out.cellE h0_r
   have h1_l1 := lU1.out.cellE h1_r
   clear lhe1 lg_r h0_r h1_r blg_r bh0_r bh1_r lX0_1
   have blg_l1 := blt lg_l1
   have bh0_l1 := blt h0_l1
   have bh1_l1 := blt h1_l1
   have szl1 := lU1.out.size
   go_wp2_with fail
   refine (s_inRange _ _ _ _).mono ?_
   rintro e w' ⟨rfl, rfl⟩
   rw [H1.out]
   go_wp2_with fail
   refine (s_inRange _ _ _ _).mono ?_
   rintro e w' ⟨rfl, rfl⟩
   go_wp2
   go_ret
   exact ⟨ret_bool (by unfold Sg.validH; rw [HA.out, HG.out, H1.out]; rfl), (E0.out.tr hext.out).tr lE1.out⟩

set_option maxRecDepth 100000 in
set_option maxHeartbeats 4000000 in
theorem s_copyHistory (Ah : Option Addr) (ch : Nat) (r : List (List Int)) (p : Int) (w : World) (hr : RdL w Ah r) :
  Calls Try.prog 48 #[.agg #[.slice Ah r.length ch, .int .i64 p]] w fun e w' => ∃ A1 c1 hs, e = .returned (.agg #[.slice A1 r.length c1, .int .i64 p]) ∧ OwnL w' w.heap.size A1 c1 r hs ∧ Ext w w' := by
 have E0 := lh ((((Ext.rfl' w).al (.cells #[.slice Ah r.length ch, .int .i64 p] 44)).al (.cells #[.slice none 0 0, .int .i64 0] 44)) : Ext w (World.alloc (World.alloc w (.cells #[.slice Ah r.length ch, .int .i64 p] 44)) (.cells #[.slice none 0 0, .int .i64 0] 44)))
 have qh0 : World.cell? (World.alloc (World.alloc w (.cells #[.slice Ah r.length ch, .int .i64 p] 44)) (.cells #[.slice none 0 0, .int .i64 0] 44)) ⟨w.heap.size, 0, none⟩ = some (.slice Ah r.length ch) := by simp [go_sem]
 have Qh0 := lh qh0
 clear qh0
 have qh1 : World.cell? (World.alloc (World.alloc w (.cells #[.slice Ah r.length ch, .int .i64 p] 44)) (.cells #[.slice none 0 0, .int .i64 0] 44)) ⟨w.heap.size, 1, none⟩ = some (.int .i64 p) := by simp [go_sem]
 have Qh1 := lh qh1
 clear qh1
 have HR := lh hr
 clear hr
 have b0 := Bx.new (World.alloc w (.cells #[.slice Ah r.length ch, .int .i64 p] 44)) #[.slice none 0 0, .int .i64 0] 44
 simp only [World.size_alloc] at b0
 have B0 := lh b0
 clear b0
 go_enter Try.func48, Try.ntmps48
 go_wp2_with fail
 refine wp_region_held_drew (S := (fun W => W.cell? ⟨w.heap.size, 0, none⟩ = some (.slice Ah r.length ch) ∧ W.cell? ⟨w.heap.size, 1, none⟩ = some (.int .i64 p))) (by kernel_rfl) ?_ (fun hHeld => ?_)
 ·exact ⟨((Ext.rfl' _).dr).cellE Qh0.out, ((Ext.rfl' _).dr).cellE Qh1.out⟩
 refine ty 0 ?_
 refine ty 1 ?_
 refine ty 3 ?_
 refine ty 4 ?_
 refine rd1 2 rfl fun K hK => ?_
 go_simp
 refine (s_copyLists Ah ch r _ (HR.out.ext (E0.out.dr))).mono ?_
 rintro e w1 ⟨A2, c2, hs, rfl, ho2, he1⟩
 have O2 := lh (OwnD.mono ho2 (B' := w.heap.size + 2) (by simp))
 clear ho2
 have U1 := lh (((Ext.rfl' (World.alloc (World.alloc w (.cells #[.slice Ah r.length ch, .int .i64 p] 44)) (.cells #[.slice none 0 0, .int .i64 0] 44))).dr).tr he1)
 have E1 := lh (E0.out.tr U1.out)
 have h0_1 := U1.out.cellE Qh0.out
 have h1_1 := U1.out.cellE Qh1.out
 clear he1 
 have bh0_1 := blt h0_1
 have bh1_1 := blt h1_1
 have sz1 := U1.out.size
 have BR := lh (B0.out.ext ((Ext.rfl' (World.alloc (World.alloc w (.cells #[.slice Ah r.length ch, .int .i64 p] 44)) (.cells #[.slice none 0 0, .int .i64 0] 44))).tr U1.out))
 try go_wp2_with fail
 refine hK.out _ _ (by exact ⟨h0_1, h1_1⟩) fun hh2 => ?_; clear hK K hHeld; have hHeld := hh2; clear hh2
 try simp only [Act.put, pu]
 refine ty 5 ?_
 have f0 := BR.out.free 0
 have f1 := BR.out.free 1
 have x0 := BR.out.cell (j := 0) rfl
 have x1 := BR.out.cell (j := 1) rfl
 have bl := BR.out.lt
 refine rd1 6 rfl fun K hK => ?_
 go_simp
 refine hK.out _ _ (by exact ⟨(co).trans ((co).trans h0_1), (co).trans ((co).trans h1_1)⟩) fun hh2 => ?_; clear hK K hHeld; have hHeld := hh2; clear hh2
 try simp only [Act.put]
 refine dn ?_
 go_wp2
 have hz : w.heap.size ≤ w.heap.size + 1 := by omega
 have hS := Mod.set (F := fun b => b = w.heap.size + 1) (Mod.set (F := fun b => b = w.heap.size + 1) (Mod.rfl' (fun b => b = w.heap.size + 1) w1) (p := ⟨w.heap.size + 1, 0, none⟩) (.inl rfl) (.slice A2 r.length c2)) (p := ⟨w.heap.size + 1, 1, none⟩) (.inl rfl) (.int .i64 p)
 have s0 : ∀ u0 u1 : Value, World.cell? (World.setCell (World.setCell w1 ⟨w.heap.size + 1, 0, none⟩ u0) ⟨w.heap.size + 1, 1, none⟩ u1) ⟨w.heap.size + 1, 0, none⟩ = some u0 := fun u0 u1 => ((BR.out.set 0 u0).set 1 u1).cell (j := 0) rfl
 have s1 : ∀ u0 u1 : Value, World.cell? (World.setCell (World.setCell w1 ⟨w.heap.size + 1, 0, none⟩ u0) ⟨w.heap.size + 1, 1, none⟩ u1) ⟨w.heap.size + 1, 1, none⟩ = some u1 := fun u0 u1 => ((BR.out.set 0 u0).set 1 u1).cell (j := 1) rfl
 refine bodyPost_ret (v := .agg #[.slice A2 r.length c2, .int .i64 p]) (by simp [results, Try.results48, go_sem, s0, s1]; try rfl) rfl ?_
 exact ⟨A2, c2, hs, rfl, OwnD.mono (OwnD.mod O2.out hS (fun b hb e => by have := (OwnD.lt O2.out hb).1; omega)) (by omega), (E1.out.set (p := ⟨w.heap.size + 1, 0, none⟩) hz _).set (p := ⟨w.heap.size + 1, 1, none⟩) hz _⟩

set_option maxRecDepth 100000 in
set_option maxHeartbeats 4000000 in
theorem s_MoveHistory (A Ah : Option Addr) (c ch : Nat) (g : Sg.Graph) (r : List (List Int)) (p : Int) (n : Int) (w : World) (h : RdN w A g) (hr : RdL w Ah r) :
  Calls Try.prog 17 #[.agg #[.slice A g.length c], .agg #[.slice Ah r.length ch, .int .i64 p], .int .i64 n] w fun e w' => ∃ A0 c0 hs A1 c1, e = .returned (.tuple #[.agg #[.slice A0 (Sg.moveH g ⟨r, p⟩ n).sts.length c0, .int .i64 (Sg.moveH g ⟨r, p⟩ n).pos], .slice A1 (moveC g ⟨r, p⟩ n).length c1, .bool (Sg.moveOk g ⟨r, p⟩ n)]) ∧
   OwnL w' w.heap.size A0 c0 (Sg.moveH g ⟨r, p⟩ n).sts hs ∧ Own w' w.heap.size 3 1 A1 (moveC g ⟨r, p⟩ n).length c1 (ints (moveC g ⟨r, p⟩ n)) ∧ (∀ b, fpD A0 hs b → ¬ (blk A1 = some b)) ∧ Ext w w' := by
 have E0 := lh (((((Ext.rfl' w).al (.cells #[.slice A g.length c] 25)).al (.cells #[.slice Ah r.length ch, .int .i64 p] 44)).al (.cells #[.slice none 0 0, .int .i64 0] 44)) : Ext w (World.alloc (World.alloc (World.alloc w (.cells #[.slice A g.length c] 25)) (.cells #[.slice Ah r.length ch, .int .i64 p] 44)) (.cells #[.slice none 0 0, .int .i64 0] 44)))
 have qlg : World.cell? (World.alloc (World.alloc (World.alloc w (.cells #[.slice A g.length c] 25)) (.cells #[.slice Ah r.length ch, .int .i64 p] 44)) (.cells #[.slice none 0 0, .int .i64 0] 44)) ⟨w.heap.size, 0, none⟩ = some (.slice A g.length c) := by simp [go_sem]
 have Qlg := lh qlg
 clear qlg
 have qh0 : World.cell? (World.alloc (World.alloc (World.alloc w (.cells #[.slice A g.length c] 25)) (.cells #[.slice Ah r.length ch, .int .i64 p] 44)) (.cells #[.slice none 0 0, .int .i64 0] 44)) ⟨w.heap.size + 1, 0, none⟩ = some (.slice Ah r.length ch) := by simp [go_sem]
 have Qh0 := lh qh0
 clear qh0
 have qh1 : World.cell? (World.alloc (World.alloc (World.alloc w (.cells #[.slice A g.length c] 25)) (.cells #[.slice Ah r.length ch, .int .i64 p] 44)) (.cells #[.slice none 0 0, .int .i64 0] 44)) ⟨w.heap.size + 1, 1, none⟩ = some (.int .i64 p) := by simp [go_sem]
 have Qh1 := lh qh1
 clear qh1
 have hgl := h.1
 have hbl := hr.1
 have H := lh h
 have HR := lh hr
 clear h hr
 have b0 := Bx.new (World.alloc (World.alloc w (.cells #[.slice A g.length c] 25)) (.cells #[.slice Ah r.length ch, .int .i64 p] 44)) #[.slice none 0 0, .int .i64 0] 44
 simp only [World.size_alloc] at b0
 have B0 := lh b0
 clear b0
 have HV := lh (s_validHistory A Ah c ch g r p)
 have HC := lh (s_copyHistory Ah ch r p)
 go_enter Try.func17, Try.ntmps17
 cases hv : Sg.validH g ⟨r, p⟩
 ·skip
  have HVV := lh hv
  clear hv
  have HO := lh (show Sg.moveOk g ⟨r, p⟩ n = false from by unfold Sg.moveOk; rw [HVV.out]; rfl)
  have HM := lh (show Sg.moveH g ⟨r, p⟩ n = ⟨[], 0⟩ by unfold Sg.moveH; rw [HO.out]; rfl)
  have HE := lh (show moveC g ⟨r, p⟩ n = [] by unfold moveC; rw [HO.out]; rfl)
  rw [HM.out, HE.out, HO.out]
  go_wp2_with fail
  refine (HV.out _ (H.out.ext E0.out) (HR.out.ext E0.out)).mono ?_
  rintro e w1 ⟨rfl, he1⟩
  rw [HVV.out]
  have U1 := lh ((Ext.rfl' (World.alloc (World.alloc (World.alloc w (.cells #[.slice A g.length c] 25)) (.cells #[.slice Ah r.length ch, .int .i64 p] 44)) (.cells #[.slice none 0 0, .int .i64 0] 44))).tr he1)
  have E1 := lh (E0.out.tr U1.out)
  have lg_1 := U1.out.cellE Qlg.out
  have h0_1 := U1.out.cellE Qh0.out
  have h1_1 := U1.out.cellE Qh1.out
  clear he1 
  have blg_1 := blt lg_1
  have bh0_1 := blt h0_1
  have bh1_1 := blt h1_1
  have sz1 := U1.out.size
  have BR := lh (B0.out.ext ((Ext.rfl' (World.alloc (World.alloc (World.alloc w (.cells #[.slice A g.length c] 25)) (.cells #[.slice Ah r.length ch, .int .i64 p] 44)) (.cells #[.slice none 0 0, .int .i64 0] 44))).tr U1.out))
  have f0 := BR.out.free 0
  have f1 := BR.out.free 1
  have x0 := BR.out.cell (j := 0) rfl
  have x1 := BR.out.cell (j := 1) rfl
  have bl := BR.out.lt
  go_wp2
  have hz : w.heap.size ≤ w.heap.size + 2 := by omega
  have hS := Mod.set (F := fun b => b = w.heap.size + 2) (Mod.set (F := fun b => b = w.heap.size + 2) (Mod.rfl' (fun b => b = w.heap.size + 2) w1) (p := ⟨w.heap.size + 2, 0, none⟩) (.inl rfl) (.slice none 0 0)) (p := ⟨w.heap.size + 2, 1, none⟩) (.inl rfl) (.int .i64 0)
  have s0 : ∀ u0 u1 : Value, World.cell? (World.setCell (World.setCell w1 ⟨w.heap.size + 2, 0, none⟩ u0) ⟨w.heap.size + 2, 1, none⟩ u1) ⟨w.heap.size + 2, 0, none⟩ = some u0 := fun u0 u1 => ((BR.out.set 0 u0).set 1 u1).cell (j := 0) rfl
  have s1 : ∀ u0 u1 : Value, World.cell? (World.setCell (World.setCell w1 ⟨w.heap.size + 2, 0, none⟩ u0) ⟨w.heap.size + 2, 1, none⟩ u1) ⟨w.heap.size + 2, 1, none⟩ = some u1 := fun u0 u1 => ((BR.out.set 0 u0).set 1 u1).cell (j := 1) rfl
  refine bodyPost_ret (v := .tuple #[.agg #[.slice none 0 0, .int .i64 0], .slice none 0 0, .bool false]) (by simp [results, Try.results17, go_sem, s0, s1]; try rfl) rfl ?_
  exact ⟨none, 0, [], none, 0, rfl, OwnD.nil _ _ _ _ _ _, Own.nil _ _ _ _, (by intro b _ e; simp [blk] at e), (E1.out.set (p := ⟨w.heap.size + 2, 0, none⟩) hz _).set (p := ⟨w.heap.size + 2, 1, none⟩) hz _⟩
 obtain ⟨-, hG, hr1, hr10, hp0, hp1⟩ := Sg.validH_parts hv
 have HVV := lh hv
 simp only at hr1 hr10 hp0 hp1
 clear hv hG
 obtain ⟨i, rfl⟩ := Int.eq_ofNat_of_zero_le hp0
 have hi : i < r.length := by omega
 clear hp0 hp1
 have HMO := lh (show Sg.moveOk g ⟨r, i⟩ n = Sg.inR ((i : Int) + n) 0 ((r.length : Int) - 1) by unfold Sg.moveOk; rw [HVV.out]; rfl)
 cases h1 : Sg.inR n (-10) 10
 ·skip
  have H1 := lh h1
  have HO := lh (show Sg.moveOk g ⟨r, i⟩ n = false from by rw [HMO.out]; simp only [Sg.inR, Bool.and_eq_false_iff, decide_eq_false_iff_not] at h1 ⊢; omega)
  have HM := lh (show Sg.moveH g ⟨r, i⟩ n = ⟨[], 0⟩ by unfold Sg.moveH; rw [HO.out]; rfl)
  have HE := lh (show moveC g ⟨r, i⟩ n = [] by unfold moveC; rw [HO.out]; rfl)
  rw [HM.out, HE.out, HO.out]
  clear h1
  go_wp2_with fail
  refine (HV.out _ (H.out.ext E0.out) (HR.out.ext E0.out)).mono ?_
  rintro e w1 ⟨rfl, he1⟩
  rw [HVV.out]
  have U1 := lh ((Ext.rfl' _).tr he1)
  have E1 := lh (E0.out.tr U1.out)
  have lg_1 := U1.out.cellE Qlg.out
  have h0_1 := U1.out.cellE Qh0.out
  have h1_1 := U1.out.cellE Qh1.out
  clear he1 
  have blg_1 := blt lg_1
  have bh0_1 := blt h0_1
  have bh1_1 := blt h1_1
  have sz1 := U1.out.size
  go_wp2_with fail
  refine (s_inRange _ _ _ _).mono ?_
  rintro e w' ⟨rfl, rfl⟩
  rw [H1.out]
  have BR := lh (B0.out.ext ((Ext.rfl' _).tr U1.out))
  have f0 := BR.out.free 0
  have f1 := BR.out.free 1
  have x0 := BR.out.cell (j := 0) rfl
  have x1 := BR.out.cell (j := 1) rfl
  have bl := BR.out.lt
  go_wp2
  have hz : w.heap.size ≤ w.heap.size + 2 := by omega
  have hS := Mod.set (F := fun b => b = w.heap.size + 2) (Mod.set (F := fun b => b = w.heap.size + 2) (Mod.rfl' (fun b => b = w.heap.size + 2) w1) (p := ⟨w.heap.size + 2, 0, none⟩) (.inl rfl) (.slice none 0 0)) (p := ⟨w.heap.size + 2, 1, none⟩) (.inl rfl) (.int .i64 0)
  have s0 : ∀ u0 u1 : Value, World.cell? (World.setCell (World.setCell w1 ⟨w.heap.size + 2, 0, none⟩ u0) ⟨w.heap.size + 2, 1, none⟩ u1) ⟨w.heap.size + 2, 0, none⟩ = some u0 := fun u0 u1 => ((BR.out.set 0 u0).set 1 u1).cell (j := 0) rfl
  have s1 : ∀ u0 u1 : Value, World.cell? (World.setCell (World.setCell w1 ⟨w.heap.size + 2, 0, none⟩ u0) ⟨w.heap.size + 2, 1, none⟩ u1) ⟨w.heap.size + 2, 1, none⟩ = some u1 := fun u0 u1 => ((BR.out.set 0 u0).set 1 u1).cell (j := 1) rfl
  refine bodyPost_ret (v := .tuple #[.agg #[.slice none 0 0, .int .i64 0], .slice none 0 0, .bool false]) (by simp [results, Try.results17, go_sem, s0, s1]; try rfl) rfl ?_
  exact ⟨none, 0, [], none, 0, rfl, OwnD.nil _ _ _ _ _ _, Own.nil _ _ _ _, (by intro b _ e; simp [blk] at e), (E1.out.set (p := ⟨w.heap.size + 2, 0, none⟩) hz _).set (p := ⟨w.heap.size + 2, 1, none⟩) hz _⟩
 have H1 := lh h1
 obtain ⟨hn1, hn2⟩ : -10 ≤ n ∧ n ≤ 10 := by simpa [Sg.inR] using h1
 clear h1
 have iw2 : IntKind.i64.wrap ((i : Int) + n) = (i : Int) + n := IntWalk.i64_in _ (by omega)
 cases h2 : Sg.inR ((i : Int) + n) 0 ((r.length : Int) - 1)
 ·skip
  have H2 := lh h2
  have HO := lh (show Sg.moveOk g ⟨r, i⟩ n = false from by rw [HMO.out]; exact h2)
  have HM := lh (show Sg.moveH g ⟨r, i⟩ n = ⟨[], 0⟩ by unfold Sg.moveH; rw [HO.out]; rfl)
  have HE := lh (show moveC g ⟨r, i⟩ n = [] by unfold moveC; rw [HO.out]; rfl)
  rw [HM.out, HE.out, HO.out]
  clear h2
  go_wp2_with fail
  refine (HV.out _ (H.out.ext E0.out) (HR.out.ext E0.out)).mono ?_
  rintro e w1 ⟨rfl, he1⟩
  rw [HVV.out]
  have U1 := lh ((Ext.rfl' _).tr he1)
  have E1 := lh (E0.out.tr U1.out)
  have lg_1 := U1.out.cellE Qlg.out
  have h0_1 := U1.out.cellE Qh0.out
  have h1_1 := U1.out.cellE Qh1.out
  clear he1 
  have blg_1 := blt lg_1
  have bh0_1 := blt h0_1
  have bh1_1 := blt h1_1
  have sz1 := U1.out.size
  go_wp2_with fail
  refine (s_inRange _ _ _ _).mono ?_
  rintro e w' ⟨rfl, rfl⟩
  rw [H1.out]
  go_wp2_with fail
  refine (s_inRange _ _ _ _).mono ?_
  rintro e w' ⟨rfl, rfl⟩
  rw [H2.out]
  have BR := lh (B0.out.ext ((Ext.rfl' _).tr U1.out))
  have f0 := BR.out.free 0
  have f1 := BR.out.free 1
  have x0 := BR.out.cell (j := 0) rfl
  have x1 := BR.out.cell (j := 1) rfl
  have bl := BR.out.lt
  go_wp2
  have hz : w.heap.size ≤ w.heap.size + 2 := by omega
  have hS := Mod.set (F := fun b => b = w.heap.size + 2) (Mod.set (F := fun b => b = w.heap.size + 2) (Mod.rfl' (fun b => b = w.heap.size + 2) w1) (p := ⟨w.heap.size + 2, 0, none⟩) (.inl rfl) (.slice none 0 0)) (p := ⟨w.heap.size + 2, 1, none⟩) (.inl rfl) (.int .i64 0)
  have s0 : ∀ u0 u1 : Value, World.cell? (World.setCell (World.setCell w1 ⟨w.heap.size + 2, 0, none⟩ u0) ⟨w.heap.size + 2, 1, none⟩ u1) ⟨w.heap.size + 2, 0, none⟩ = some u0 := fun u0 u1 => ((BR.out.set 0 u0).set 1 u1).cell (j := 0) rfl
  have s1 : ∀ u0 u1 : Value, World.cell? (World.setCell (World.setCell w1 ⟨w.heap.size + 2, 0, none⟩ u0) ⟨w.heap.size + 2, 1, none⟩ u1) ⟨w.heap.size + 2, 1, none⟩ = some u1 := fun u0 u1 => ((BR.out.set 0 u0).set 1 u1).cell (j := 1) rfl
  refine bodyPost_ret (v := .tuple #[.agg #[.slice none 0 0, .int .i64 0], .slice none 0 0, .bool false]) (by simp [results, Try.results17, go_sem, s0, s1]; try rfl) rfl ?_
  exact ⟨none, 0, [], none, 0, rfl, OwnD.nil _ _ _ _ _ _, Own.nil _ _ _ _, (by intro b _ e; simp [blk] at e), (E1.out.set (p := ⟨w.heap.size + 2, 0, none⟩) hz _).set (p := ⟨w.heap.size + 2, 1, none⟩) hz _⟩
 have H2 := lh h2
 obtain ⟨hq1, hq2⟩ : 0 ≤ (i : Int) + n ∧ (i : Int) + n ≤ (r.length : Int) - 1 := by simpa [Sg.inR] using h2
 clear h2
 obtain ⟨j, hj⟩ := Int.eq_ofNat_of_zero_le hq1
 obtain rfl : n = (j : Int) - (i : Int) := by omega
 clear hj
 have hjr : j < r.length := by omega
 have hij : (i : Int) + ((j : Int) - (i : Int)) = (j : Int) := by omega
 have iw4 : IntKind.i64.wrap ((i : Int) + ((j : Int) - (i : Int))) = (j : Int) := by rw [hij]; exact IntWalk.i64_in _ (by omega)
 rw [hij] at H2 HMO
 have HO := lh (show Sg.moveOk g ⟨r, i⟩ ((j : Int) - (i : Int)) = true by rw [HMO.out]; exact H2.out)
 have HM := lh (show Sg.moveH g ⟨r, i⟩ ((j : Int) - (i : Int)) = ⟨r, j⟩ by unfold Sg.moveH; rw [HO.out, hij]; rfl)
 have HE := lh (show moveC g ⟨r, i⟩ ((j : Int) - (i : Int)) = changedOr g (r.getD i []) (r.getD j []) by unfold moveC; rw [HO.out, hij]; rfl)
 obtain ⟨l1, b1, o1, Al, cl, hl1, rfl, hc1, hR1, -⟩ := HR.out.at_ hi
 obtain ⟨l2, b2, o2, Am, cm, hl2, hA2, hc2, hR2, -⟩ := HR.out.at_ hjr
 obtain ⟨rfl, rfl⟩ : b1 = b2 ∧ o1 = o2 := by simpa using hA2
 have HL1 := lh (show r.getD i [] = l1 by rw [List.getD_eq_getElem?_getD, hl1]; rfl)
 have HL2 := lh (show r.getD j [] = l2 by rw [List.getD_eq_getElem?_getD, hl2]; rfl)
 rw [HM.out, HE.out, HO.out, HL1.out, HL2.out]
 have HR1 := lh hR1
 have HR2 := lh hR2
 have bc1 := blt hc1
 have bc2 := blt hc2
 clear hl1 hl2 hA2 hR1 hR2 HM HE HO HL1 HL2 HMO iw2
 have HCH := lh (s_ChangedBy A Al Am c cl cm g l1 l2)
 have Qe1 := lh (E0.out.cellE hc1)
 have Qe2 := lh (E0.out.cellE hc2)
 clear hc1 hc2
 go_wp2_with fail
 refine (HV.out _ (H.out.ext E0.out) (HR.out.ext E0.out)).mono ?_
 rintro e w1 ⟨rfl, he1⟩
 rw [HVV.out]
 have U1 := lh ((Ext.rfl' _).tr he1)
 have E1 := lh (E0.out.tr U1.out)
 have lg_1 := U1.out.cellE Qlg.out
 have h0_1 := U1.out.cellE Qh0.out
 have h1_1 := U1.out.cellE Qh1.out
 have e1_1 := U1.out.cellE Qe1.out
 have e2_1 := U1.out.cellE Qe2.out
 clear he1 
 have blg_1 := blt lg_1
 have bh0_1 := blt h0_1
 have bh1_1 := blt h1_1
 have be1_1 := blt e1_1
 have be2_1 := blt e2_1
 have sz1 := U1.out.size
 simp only [World.size_alloc] at sz1
 go_wp2_with fail
 refine (s_inRange _ _ _ _).mono ?_
 rintro e w' ⟨rfl, rfl⟩
 rw [H1.out]
 go_wp2_with fail
 refine (s_inRange _ _ _ _).mono ?_
 rintro e w' ⟨rfl, rfl⟩
 try rw [hij]
 rw [H2.out]
 go_wp2_with fail
 refine (HC.out _ (HR.out.ext E1.out)).mono ?_
 rintro e w2 ⟨A2, c2, hs, rfl, ho2, he2⟩
 have O2 := lh (OwnD.mono ho2 (B' := w.heap.size + 3) (by (try simp only [World.size_alloc] at *); omega))
 clear ho2
 have U2 := lh ((Ext.rfl' w1).tr he2)
 have E2 := lh (E1.out.tr U2.out)
 have lg_2 := U2.out.cellE lg_1
 have h0_2 := U2.out.cellE h0_1
 have h1_2 := U2.out.cellE h1_1
 have e1_2 := U2.out.cellE e1_1
 have e2_2 := U2.out.cellE e2_1
 clear he2 lg_1 h0_1 h1_1 e1_1 e2_1 blg_1 bh0_1 bh1_1 be1_1 be2_1
 have blg_2 := blt lg_2
 have bh0_2 := blt h0_2
 have bh1_2 := blt h1_2
 have be1_2 := blt e1_2
 have be2_2 := blt e2_2
 have sz2 := U2.out.size
 go_wp2_with fail
 have he3 := Ext.rfl' (World.alloc w2 (.cells #[.slice A2 r.length c2, .int .i64 (j : Int)] 44))
 have U3 := lh ((Ext.al (Ext.rfl' w2) (.cells #[.slice A2 r.length c2, .int .i64 (j : Int)] 44)).tr he3)
 have E3 := lh (E2.out.tr U3.out)
 have lg_3 := U3.out.cellE lg_2
 have h0_3 := U3.out.cellE h0_2
 have h1_3 := U3.out.cellE h1_2
 have e1_3 := U3.out.cellE e1_2
 have e2_3 := U3.out.cellE e2_2
 have n0_3 := he3.cellE (show World.cell? (World.alloc w2 (.cells #[.slice A2 r.length c2, .int .i64 (j : Int)] 44)) ⟨w2.heap.size, 0, none⟩ = some (.slice A2 r.length c2) by simp [go_sem])
 have n1_3 := he3.cellE (show World.cell? (World.alloc w2 (.cells #[.slice A2 r.length c2, .int .i64 (j : Int)] 44)) ⟨w2.heap.size, 1, none⟩ = some (.int .i64 (j : Int)) by simp [go_sem])
 clear he3 lg_2 h0_2 h1_2 e1_2 e2_2 blg_2 bh0_2 bh1_2 be1_2 be2_2
 have blg_3 := blt lg_3
 have bh0_3 := blt h0_3
 have bh1_3 := blt h1_3
 have be1_3 := blt e1_3
 have be2_3 := blt e2_3
 have bn0_3 := blt n0_3
 have bn1_3 := blt n1_3
 have sz3 := U3.out.size
 generalize (World.alloc w2 (.cells #[.slice A2 r.length c2, .int .i64 (j : Int)] 44)) = w3 at *
 refine wp_region_held_drew (S := (fun W => W.cell? ⟨w.heap.size, 0, none⟩ = some (.slice A g.length c) ∧ W.cell? ⟨w.heap.size + 1, 0, none⟩ = some (.slice (some ⟨b1, o1, none⟩) r.length ch) ∧ W.cell? ⟨w.heap.size + 1, 1, none⟩ = some (.int .i64 (i : Int)) ∧ W.cell? ⟨w2.heap.size, 0, none⟩ = some (.slice A2 r.length c2) ∧ W.cell? ⟨w2.heap.size, 1, none⟩ = some (.int .i64 (j : Int)) ∧ W.cell? ⟨b1, o1 + i, none⟩ = some (.slice Al l1.length cl) ∧ W.cell? ⟨b1, o1 + j, none⟩ = some (.slice Am l2.length cm))) (by kernel_rfl) ?_ (fun hHeld => ?_)
 ·exact ⟨((Ext.rfl' _).dr).cellE lg_3, ((Ext.rfl' _).dr).cellE h0_3, ((Ext.rfl' _).dr).cellE h1_3, ((Ext.rfl' _).dr).cellE n0_3, ((Ext.rfl' _).dr).cellE n1_3, ((Ext.rfl' _).dr).cellE e1_3, ((Ext.rfl' _).dr).cellE e2_3⟩
 refine ty 0 ?_
 refine ty 1 ?_
 refine ty 2 ?_
 refine ty 3 ?_
 refine ty 4 ?_
 refine ty 5 ?_
 refine ty 6 ?_
 refine ty 7 ?_
 refine ty 8 ?_
 refine ty 9 ?_
 refine ty 10 ?_
 refine ty 11 ?_
 refine ty 12 ?_
 refine ty 13 ?_
 refine rd1 14 rfl fun K hK => ?_
 go_simp
 refine (HCH.out _ (H.out.ext (E3.out.dr)) (HR1.out.ext (E3.out.dr)) (HR2.out.ext (E3.out.dr))).mono ?_
 rintro e w4 ⟨A3, c3, rfl, ho3, he4⟩
 have O2b := lh (OwnD.ext O2.out U3.out)
 have O3 := lh (Own.mono ho3 (B' := w.heap.size + 3) (by (try simp only [World.size_drew] at *); omega))
 have D3 := lh (show ∀ b, fpD A2 hs b → ¬ (blk A3 = some b) from fun b hb e => by have h1 := (OwnD.lt O2b.out hb).2; have h2 := (ho3.lt e).1; (try simp only [World.size_drew] at h2); omega)
 clear ho3
 have U4 := lh (((Ext.rfl' w3).dr).tr he4)
 have E4 := lh (E3.out.tr U4.out)
 have lg_4 := U4.out.cellE lg_3
 have h0_4 := U4.out.cellE h0_3
 have h1_4 := U4.out.cellE h1_3
 have e1_4 := U4.out.cellE e1_3
 have e2_4 := U4.out.cellE e2_3
 have n0_4 := U4.out.cellE n0_3
 have n1_4 := U4.out.cellE n1_3
 clear he4 lg_3 h0_3 h1_3 e1_3 e2_3 n0_3 n1_3 blg_3 bh0_3 bh1_3 be1_3 be2_3 bn0_3 bn1_3
 have blg_4 := blt lg_4
 have bh0_4 := blt h0_4
 have bh1_4 := blt h1_4
 have be1_4 := blt e1_4
 have be2_4 := blt e2_4
 have bn0_4 := blt n0_4
 have bn1_4 := blt n1_4
 have sz4 := U4.out.size
 try go_wp2_with fail
 refine hK.out _ _ (by exact ⟨lg_4, h0_4, h1_4, n0_4, n1_4, e1_4, e2_4⟩) fun hh2 => ?_; clear hK K hHeld; have hHeld := hh2; clear hh2
 try simp only [Act.put, pu]
 have BR := lh (B0.out.ext (((((Ext.rfl' _).tr U1.out).tr U2.out).tr U3.out).tr U4.out))
 have f0 := BR.out.free 0
 have f1 := BR.out.free 1
 have x0 := BR.out.cell (j := 0) rfl
 have x1 := BR.out.cell (j := 1) rfl
 have bl := BR.out.lt
 refine rd1 15 rfl fun K hK => ?_
 go_simp
 refine hK.out _ _ (by exact ⟨(co).trans ((co).trans lg_4), (co).trans ((co).trans h0_4), (co).trans ((co).trans h1_4), (co).trans ((co).trans n0_4), (co).trans ((co).trans n1_4), (co).trans ((co).trans e1_4), (co).trans ((co).trans e2_4)⟩) fun hh2 => ?_; clear hK K hHeld; have hHeld := hh2; clear hh2
 try simp only [Act.put, pu]
 refine ty 16 ?_
 refine ty 17 ?_
 refine dn ?_
 go_wp2
 have hz : w.heap.size ≤ w.heap.size + 2 := by omega
 have hS := Mod.set (F := fun b => b = w.heap.size + 2) (Mod.set (F := fun b => b = w.heap.size + 2) (Mod.rfl' (fun b => b = w.heap.size + 2) w4) (p := ⟨w.heap.size + 2, 0, none⟩) (.inl rfl) (.slice A2 r.length c2)) (p := ⟨w.heap.size + 2, 1, none⟩) (.inl rfl) (.int .i64 (j : Int))
 have s0 : ∀ u0 u1 : Value, World.cell? (World.setCell (World.setCell w4 ⟨w.heap.size + 2, 0, none⟩ u0) ⟨w.heap.size + 2, 1, none⟩ u1) ⟨w.heap.size + 2, 0, none⟩ = some u0 := fun u0 u1 => ((BR.out.set 0 u0).set 1 u1).cell (j := 0) rfl
 have s1 : ∀ u0 u1 : Value, World.cell? (World.setCell (World.setCell w4 ⟨w.heap.size + 2, 0, none⟩ u0) ⟨w.heap.size + 2, 1, none⟩ u1) ⟨w.heap.size + 2, 1, none⟩ = some u1 := fun u0 u1 => ((BR.out.set 0 u0).set 1 u1).cell (j := 1) rfl
 refine bodyPost_ret (v := .tuple #[.agg #[.slice A2 r.length c2, .int .i64 (j : Int)], .slice A3 (changedOr g l1 l2).length c3, .bool true]) (by simp [results, Try.results17, go_sem, s0, s1]; try rfl) rfl ?_
 exact ⟨A2, c2, hs, A3, c3, rfl, OwnD.mono (OwnD.mod (OwnD.ext O2b.out U4.out) hS (fun b hb e => by have := (OwnD.lt O2.out hb).1; omega)) (by omega), (O3.out.mod hS (fun b hb e => by have := (O3.out.lt hb).1; omega)).mono (by omega), D3.out, (E4.out.set (p := ⟨w.heap.size + 2, 0, none⟩) hz _).set (p := ⟨w.heap.size + 2, 1, none⟩) hz _⟩
end Go.Proofs.Yteighpaljdlnaaa
