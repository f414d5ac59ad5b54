/- Parts of one proof, joined. The reference's spoil and writeLazy: contracts. Conditions: reads of nodes ahead. The reference's writeLazy: its contract. Conditions: reads of nodes ahead. -/
import Derived.Test.YtmkfjnkdaeoppaaGreatLazOne
import Derived.Test.YtmkfjnkdaeoppaaGreatSpecTO
import Derived.Test.YtmkfjnkdaeoppaaGreatSepAll
import Derived.StillTailTactics
import Derived.Deep.DeepCutAuto
/- The reference's spoil and writeLazy: contracts. Conditions: reads of nodes ahead. -/
namespace Go.Proofs.YtmkfjnkdaeoppaaGreat
open Go.RowKit

theorem colMax {x : Int} (h : 0 ≤ x ∧ x ≤ 2) : (if x < 1 then 1 else x) = if x = 0 then 1 else x := by
 by_cases h0 : x = 0
 ·rw [if_pos (by omega), if_pos h0]
 ·rw [if_neg (by omega), if_neg h0]
set_option maxRecDepth 100000 in
set_option maxHeartbeats 8000000 in
theorem s_spoil (B n gq : Nat) (A Av Ar : Option Addr) (c nv cv cr cq : Nat) (q : List Int) (r : List (List Int)) (w : World) (hA : Sg.Ahead r) (hrl : r.length = q.length) (hL : q.length ≤ 1000000) (hn : n < q.length) (hc : ∀ x ∈ q, 0 ≤ x ∧ x ≤ 2)
  (hr : ∀ W, Mod (fun b => b = gq) w W → RdL W Ar r) (hq : Own w B 3 1 (some ⟨gq, 0, none⟩) q.length cq (ints q)) :
  Calls Tryz.prog 128 #[.agg #[.slice A q.length c], .agg #[.slice Av nv cv, .slice Ar r.length cr, .slice (some ⟨gq, 0, none⟩) q.length cq], .int .i64 n] w fun e w' =>
   e = .returned (.tuple #[]) ∧ Own w' B 3 1 (some ⟨gq, 0, none⟩) q.length cq (ints (Sg.spoilC r q n)) ∧ Mod (fun b => b = gq) w w' := by
 have hgq : gq < w.heap.size := (hq.lt (g := gq) rfl).2
 have HR := lh hr
 have HA := lh hA
 have HRL := lh hrl
 have HCR := lh hc
 have e0 : Ext w (World.alloc (World.alloc w (.cells #[.slice A q.length c] 25)) (.cells #[.slice Av nv cv, .slice Ar r.length cr, .slice (some ⟨gq, 0, none⟩) q.length cq] 29)) := ((Ext.rfl' w).al _).al _
 have on := Own.new (World.alloc (World.alloc w (.cells #[.slice A q.length c] 25)) (.cells #[.slice Av nv cv, .slice Ar r.length cr, .slice (some ⟨gq, 0, none⟩) q.length cq] 29)) (B := w.heap.size + 1 + 1) 3 1 #[.int .i64 (n : Int)] 1 (by simp) (by unfold maxLen; omega) rfl
 obtain ⟨W0, hW0⟩ : ∃ W0, W0 = World.alloc (World.alloc (World.alloc w (.cells #[.slice A q.length c] 25)) (.cells #[.slice Av nv cv, .slice Ar r.length cr, .slice (some ⟨gq, 0, none⟩) q.length cq] 29)) (.cells #[.int .i64 (n : Int)] 3) := ⟨_, rfl⟩
 rw [← hW0] at on
 simp only [World.size_alloc] at on
 have ON := lh on
 have E0 := lh (show Ext w W0 by rw [hW0]; exact e0.al _)
 have BG := lh (show Bx W0 w.heap.size [.slice A q.length c] by rw [hW0]; exact ((Bx.new w _ _).al _).al _)
 have BS := lh (show Bx W0 (w.heap.size + 1) [.slice Av nv cv, .slice Ar r.length cr, .slice (some ⟨gq, 0, none⟩) q.length cq] by
  have h1 := (Bx.new (World.alloc w (.cells #[.slice A q.length c] 25)) #[.slice Av nv cv, .slice Ar r.length cr, .slice (some ⟨gq, 0, none⟩) q.length cq] 29).al (.cells #[.int .i64 (n : Int)] 3)
  simp only [World.size_alloc] at h1
  rw [hW0]; exact h1)
 have Q0 := lh (hq.ext E0.out)
 have hs0 := E0.out.size
 have hB2 := BS.out.lt
 have hrb : r.length ≤ 1000000 := by omega
 clear hr hA hrl hq e0 hc on
 go_enter Tryz.func128, Tryz.ntmps128
 go_wp2_with fail
 rw [← hW0]
 clear hW0
 go_loopw [6, 7] (fun s6 s7 wr => ∃ (i : Nat) (ml : List Int) (A' : Option Addr) (c' : Nat), n + 1 ≤ i ∧ i ≤ q.length ∧ s7 = .int .i64 i ∧ s6 = .slice A' ml.length c' ∧ Hid (Own wr (w.heap.size + 1 + 1) 3 1 A' ml.length c' (ints ml)) ∧ Hid (Sg.MetL r n i ml) ∧ ml.length ≤ i ∧ Hid (Own wr B 3 1 (some ⟨gq, 0, none⟩) q.length cq (ints (Sg.spoilTo true r q n i))) ∧ Hid (Mod (fun b => b = gq ∨ w.heap.size + 1 + 1 ≤ b) W0 wr)) (fun _ s7 _ => q.length - (intOf s7).toNat)
 case atStart => exact ⟨n + 1, [(n : Int)], _, 1, Nat.le_refl _, hn, by go_num, rfl, lh (by simpa [ints] using ON.out), lh (Sg.metL_start HA.out n), by simp, lh (by rw [Sg.spoilTo_start true HA.out]; exact Q0.out), lh (Mod.rfl' _ _)⟩
 case round =>
  obtain ⟨i, ml, A', c', hni, hi, rfl, rfl, hO, hML, hmll, hQ, hM⟩ := hrel
  have cg := (BG.out.mod hM.out (by omega)).cell (j := 0) rfl
  have bcg := blt cg
  by_cases hlt : i < q.length
  ·have s1 := (BS.out.mod hM.out (by omega)).cell (j := 1) rfl
   have s2 := (BS.out.mod hM.out (by omega)).cell (j := 2) rfl
   have bs1 := blt s1
   obtain ⟨l, b, o, Al, cl, hl, rfl, hcell, hrd, _⟩ := (HR.out wr ((Mod.of (F := fun b => b = gq) E0.out).tr hM.out (fun b e => by omega))).at_ (show i < r.length by rw [HRL.out]; exact hlt)
   have bce := blt hcell
   have HL := lh (show r.getD i [] = l by simp [hl])
   have hir : i < r.length := by rw [HRL.out]; exact hlt
   have Hrd := lh hrd
   obtain ⟨z, hz⟩ : ∃ z, q[i]? = some z := ⟨_, List.getElem?_eq_getElem hlt⟩
   have HZR := lh (HCR.out z (List.mem_of_getElem? hz))
   have HZ := lh hz
   have cz := hQ.out.cell (j := i) (u := .int .i64 z) (by rw [ints_at, Sg.spoilTo_same, hz]; rfl)
   have fz := hQ.out.free i
   have bz := blt cz
   have HP := lh (fun w h => s_placeIn Al l.length cl l (n : Int) w h)
   clear hl hz hrd
   by_cases hin : (n : Int) ∈ l
   ·have hp : decide (placeIn l (n : Int) ≥ 0) = true := by have := (placeIn_neg l (n : Int)).1; simp only [decide_eq_true_eq]; by_cases h0 : placeIn l (n : Int) < 0; exact absurd hin (this h0); omega
    have hw : Sg.Way r n i := .one (by rw [HL.out]; exact hin)
    have HS := lh (show Sg.spoilTo true r q n (i + 1) = (Sg.spoilTo true r q n i).set i 2 by rw [Sg.spoilTo_yes hw HZ.out, if_pos ⟨rfl, by rw [HL.out]; exact hin⟩])
    have HM2 := lh (Sg.metL_yes hML.out hw)
    have Q2 := lh (hQ.out.st i (.int .i64 2))
    have M2 := lh (Mod.set hM.out (p := ⟨gq, i, none⟩) (.inl (.inl rfl)) (.int .i64 2))
    have O2 := lh (hO.out.set (p := ⟨gq, i, none⟩) (fun e => by have := (hO.out.lt e).1; simp at this; omega) (.int .i64 2))
    have hs2 := M2.out.size
    clear hin hw
    go_wp2_with fail
    refine (HP.out _ Hrd.out).mono ?_
    rintro e w' ⟨rfl, rfl⟩
    go_upto_region 7 with fail
    generalize World.setCell wr ⟨gq, i, none⟩ (.int .i64 2) = w2 at *
    go_wp2_with (at_builtin; refine wpList_app1 rfl rfl eiInt rfl O2.out rfl rfl (one_int _ _) (by omega) (by omega) (by omega) ?_; intro A2 c2 w9 hown2 hg2 hat2)
    have M9 := lh (Mod.tr M2.out (Mod.grl (F := fun b => blk A' = some b) hg2 (fun b e => e)) (fun b e => .inl (.inr (O2.out.lt e).1)))
    have Q9 := lh (Q2.out.gr hg2 (.inr (fun e => by have := (O2.out.lt (g := gq) e.symm).1; omega)))
    go_roundw
    case rel => exact ⟨i + 1, ml ++ [(i : Int)], A2, c2, by omega, by omega, by go_num, by simp, lh (by simpa using hown2), HM2, by simp; omega, lh (by have := Q9.out; rw [ints_set] at this; rw [HS.out]; exact this), M9⟩
    case measure => simp [intOf]; omega
   ·have hp : decide (placeIn l (n : Int) ≥ 0) = false := by have := (placeIn_neg l (n : Int)).2 hin; simp only [decide_eq_false_iff_not]; omega
    have HME := lh (fun w h k => s_meets Al A' cl c' l.length ml.length l ml w h k)
    have HMT := lh (Sg.metL_meets HA.out hML.out)
    rw [HL.out] at HMT
    cases hmt : Sg.meets l ml
    ·have hw : ¬ Sg.Way r n i := fun h => by have := HMT.out.2 h; rw [hmt] at this; cases this
     have HS := lh (Sg.spoilTo_no true (c := q) hw)
     have HM2 := lh (Sg.metL_no hML.out hw)
     have Hmt := lh hmt
     clear hin hw hmt
     go_wp2_with (first
      | (go_at_call 131; refine (HP.out _ Hrd.out).mono ?_; rintro e w' ⟨rfl, rfl⟩)
      | (go_at_call 84; refine (HME.out _ Hrd.out hO.out.rd).mono ?_; rw [Hmt.out]; rintro e w5 ⟨rfl, he5⟩))
     go_roundw
     case rel => exact ⟨i + 1, ml, A', c', by omega, by omega, by go_num, rfl, lh (hO.out.ext he5), HM2, by omega, lh (by rw [HS.out]; exact hQ.out.ext he5), lh (hM.out.tr' (Mod.of he5))⟩
     case measure => simp [intOf]; omega
    ·have hw : Sg.Way r n i := HMT.out.1 hmt
     have HS := lh (show Sg.spoilTo true r q n (i + 1) = (Sg.spoilTo true r q n i).set i (if z < 1 then 1 else z) by rw [Sg.spoilTo_yes hw HZ.out, if_neg (fun h => hin (by rw [← HL.out]; exact h.2)), colMax HZR.out])
     have HM2 := lh (Sg.metL_yes hML.out hw)
     have Hmt := lh hmt
     clear hin hw hmt
     go_wp2_with fail
     refine (HP.out _ Hrd.out).mono ?_
     rintro e w' ⟨rfl, rfl⟩
     go_wp2_with fail
     refine (HME.out _ Hrd.out hO.out.rd).mono ?_
     rw [Hmt.out]
     rintro e w5 ⟨rfl, he5⟩
     have O5 := lh (hO.out.ext he5)
     have Q5 := lh (hQ.out.ext he5)
     have M5 := lh (hM.out.tr' (Mod.of he5))
     have s25 := he5.cellE s2
     have cz5 := he5.cellE cz
     have bs25 := blt s25
     have fz5 := Q5.out.free i
     clear he5 s1 s2 cz fz bs1 bcg cg bz hcell bce
     go_upto_region 9 with fail
     go_still_tail 9, (by kernel_rfl)
     change wpList _ _ _ _ _ (World.drew w5)
     have O6 := lh (O5.out.ext ((Ext.rfl' w5).dr))
     have Q6 := lh (Q5.out.ext ((Ext.rfl' w5).dr))
     have M6 := lh (M5.out.dr)
     have s26 := ((Ext.rfl' w5).dr).cellE s25
     have bs26 := blt s26
     have fz6 := Q6.out.free i
     have cz6 := ((Ext.rfl' w5).dr).cellE cz5
     have bz6 := blt cz6
     clear s25 cz5 bs25 fz5 O5 Q5 M5
     generalize World.drew w5 = w6 at *
     have Q7 := lh (Q6.out.st i (.int .i64 (if z < 1 then 1 else z)))
     have M7 := lh (Mod.set M6.out (p := ⟨gq, i, none⟩) (.inl (.inl rfl)) (.int .i64 (if z < 1 then 1 else z)))
     have O7 := lh (O6.out.set (p := ⟨gq, i, none⟩) (fun e => by have := (O6.out.lt e).1; simp at this; omega) (.int .i64 (if z < 1 then 1 else z)))
     have hs7 := M7.out.size
     go_upto_region 10 with fail
     generalize World.setCell w6 ⟨gq, i, none⟩ (.int .i64 (if z < 1 then 1 else z)) = w7 at *
     go_wp2_with (at_builtin; refine wpList_app1 rfl rfl eiInt rfl O7.out rfl rfl (one_int _ _) (by omega) (by omega) (by omega) ?_; intro A2 c2 w9 hown2 hg2 hat2)
     have M9 := lh (Mod.tr M7.out (Mod.grl (F := fun b => blk A' = some b) hg2 (fun b e => e)) (fun b e => .inl (.inr (O7.out.lt e).1)))
     have Q9 := lh (Q7.out.gr hg2 (.inr (fun e => by have := (O7.out.lt (g := gq) e.symm).1; omega)))
     go_roundw
     case rel => exact ⟨i + 1, ml ++ [(i : Int)], A2, c2, by omega, by omega, by go_num, by simp, lh (by simpa using hown2), HM2, by simp; omega, lh (by have := Q9.out; rw [ints_set] at this; rw [HS.out]; exact this), M9⟩
     case measure => simp [intOf]; omega
  ·obtain rfl : i = q.length := by omega
   go_wp2
   go_end0
   exact ⟨rfl, hQ.out, (Mod.of (F := fun b => b = gq) E0.out).tr hM.out (fun b e => by omega)⟩
end Go.Proofs.YtmkfjnkdaeoppaaGreat

/- The reference's writeLazy: its contract. Conditions: reads of nodes ahead. -/
namespace Go.Proofs.YtmkfjnkdaeoppaaGreat
open Go.RowKit

set_option maxRecDepth 100000 in
set_option maxHeartbeats 4000000 in
theorem s_writeZ (B n gv gq : Nat) (x : Int) (A Ar : Option Addr) (c cv cr cq : Nat) (v q : List Int) (r : List (List Int)) (w : World) (hA : Sg.Ahead r) (hvl : v.length = q.length) (hrl : r.length = q.length) (hL : q.length ≤ 1000000) (hn : n < q.length) (hne : gv ≠ gq) (hc : ∀ x ∈ q, 0 ≤ x ∧ x ≤ 2)
  (hr : ∀ W, Mod (fun b => b = gv ∨ b = gq) w W → RdL W Ar r) (hv : Own w B 3 1 (some ⟨gv, 0, none⟩) v.length cv (ints v)) (hq : Own w B 3 1 (some ⟨gq, 0, none⟩) q.length cq (ints q)) :
  Calls Tryz.prog 87 #[.agg #[.slice A q.length c], .agg #[.slice (some ⟨gv, 0, none⟩) v.length cv, .slice Ar r.length cr, .slice (some ⟨gq, 0, none⟩) q.length cq], .int .i64 n, .int .i64 x] w fun e w' =>
   e = .returned (.agg #[.slice (some ⟨gv, 0, none⟩) v.length cv, .slice Ar r.length cr, .slice (some ⟨gq, 0, none⟩) q.length cq]) ∧ Own w' B 3 1 (some ⟨gv, 0, none⟩) v.length cv (ints (Sg.writeL ⟨v, r, q⟩ n x).vals) ∧ Own w' B 3 1 (some ⟨gq, 0, none⟩) q.length cq (ints (Sg.writeL ⟨v, r, q⟩ n x).cols) ∧ Mod (fun b => b = gv ∨ b = gq) w w' := by
 have hgq : gq < w.heap.size := (hq.lt (g := gq) rfl).2
 have hgv : gv < w.heap.size := (hv.lt (g := gv) rfl).2
 obtain ⟨y, hy⟩ : ∃ y, v[n]? = some y := ⟨_, List.getElem?_eq_getElem (by omega)⟩
 have hyd : v.getD n 0 = y := by simp [hy]
 obtain ⟨W0, hW0⟩ : ∃ W0, W0 = World.alloc (World.alloc (World.alloc w (.cells #[.slice A q.length c] 25)) (.cells #[.slice (some ⟨gv, 0, none⟩) v.length cv, .slice Ar r.length cr, .slice (some ⟨gq, 0, none⟩) q.length cq] 29)) (.cells #[.slice none 0 0, .slice none 0 0, .slice none 0 0] 29) := ⟨_, rfl⟩
 have e0 : Ext w W0 := by rw [hW0]; exact (((Ext.rfl' w).al _).al _).al _
 have E0 := lh e0
 have V0 := lh (hv.ext e0)
 have Q0 := lh (hq.ext e0)
 have BG := lh (show Bx W0 w.heap.size [.slice A q.length c] by rw [hW0]; exact ((Bx.new w _ _).al _).al _)
 have BS := lh (show Bx W0 (w.heap.size + 1) [.slice (some ⟨gv, 0, none⟩) v.length cv, .slice Ar r.length cr, .slice (some ⟨gq, 0, none⟩) q.length cq] by
  have h1 := (Bx.new (World.alloc w (.cells #[.slice A q.length c] 25)) #[.slice (some ⟨gv, 0, none⟩) v.length cv, .slice Ar r.length cr, .slice (some ⟨gq, 0, none⟩) q.length cq] 29).al (.cells #[.slice none 0 0, .slice none 0 0, .slice none 0 0] 29)
  simp only [World.size_alloc] at h1
  rw [hW0]; exact h1)
 have BO := lh (show Bx W0 (w.heap.size + 1 + 1) [.slice none 0 0, .slice none 0 0, .slice none 0 0] by
  have h1 := Bx.new (World.alloc (World.alloc w (.cells #[.slice A q.length c] 25)) (.cells #[.slice (some ⟨gv, 0, none⟩) v.length cv, .slice Ar r.length cr, .slice (some ⟨gq, 0, none⟩) q.length cq] 29)) #[.slice none 0 0, .slice none 0 0, .slice none 0 0] 29
  simp only [World.size_alloc] at h1
  rw [hW0]; exact h1)
 have cy := (hv.ext e0).cell (j := n) (u := .int .i64 y) (by rw [ints_at, hy]; rfl)
 have fy := (hv.ext e0).free n
 have hnv : n < v.length := by omega
 have hvb : v.length ≤ 1000000 := by omega
 have HR := lh hr
 have HA := lh hA
 have HRL := lh hrl
 have HC := lh hc
 have bO := BO.out.lt
 by_cases hxy : y = x
 ·have z1 : (y != x) = false := by simp [hxy]
  have HS := lh (show Sg.writeL ⟨v, r, q⟩ n x = ⟨v, r, q⟩ by unfold Sg.writeL; rw [if_pos (by show v.getD n 0 = x; rw [hyd, hxy])])
  have s0 := BS.out.cell (j := 0) rfl
  have s1 := BS.out.cell (j := 1) rfl
  have s2 := BS.out.cell (j := 2) rfl
  have f0 := BO.out.free 0
  have f1 := BO.out.free 1
  have f2 := BO.out.free 2
  have y0 := BO.out.cell (j := 0) rfl
  have y1 := BO.out.cell (j := 1) rfl
  have y2 := BO.out.cell (j := 2) rfl
  clear hr hv hq hy hyd hxy e0 hA hrl hvl hc
  go_enter Tryz.func87, Tryz.ntmps87
  go_upto_region 1 with fail
  rw [← hW0]
  clear hW0
  go_wp2
  have t0 : ∀ u0 u1 u2 : Value, World.cell? (World.setCell (World.setCell (World.setCell W0 ⟨w.heap.size + 1 + 1, 0, none⟩ u0) ⟨w.heap.size + 1 + 1, 1, none⟩ u1) ⟨w.heap.size + 1 + 1, 2, none⟩ u2) ⟨w.heap.size + 1 + 1, 0, none⟩ = some u0 := fun u0 u1 u2 => (((BO.out.set 0 u0).set 1 u1).set 2 u2).cell (j := 0) rfl
  have t1 : ∀ u0 u1 u2 : Value, World.cell? (World.setCell (World.setCell (World.setCell W0 ⟨w.heap.size + 1 + 1, 0, none⟩ u0) ⟨w.heap.size + 1 + 1, 1, none⟩ u1) ⟨w.heap.size + 1 + 1, 2, none⟩ u2) ⟨w.heap.size + 1 + 1, 1, none⟩ = some u1 := fun u0 u1 u2 => (((BO.out.set 0 u0).set 1 u1).set 2 u2).cell (j := 1) rfl
  have t2 : ∀ u0 u1 u2 : Value, World.cell? (World.setCell (World.setCell (World.setCell W0 ⟨w.heap.size + 1 + 1, 0, none⟩ u0) ⟨w.heap.size + 1 + 1, 1, none⟩ u1) ⟨w.heap.size + 1 + 1, 2, none⟩ u2) ⟨w.heap.size + 1 + 1, 2, none⟩ = some u2 := fun u0 u1 u2 => (((BO.out.set 0 u0).set 1 u1).set 2 u2).cell (j := 2) rfl
  refine bodyPost_ret (v := .agg #[.slice (some ⟨gv, 0, none⟩) v.length cv, .slice Ar r.length cr, .slice (some ⟨gq, 0, none⟩) q.length cq]) (by simp [results, Tryz.results87, go_sem, t0, t1, t2]; try rfl) rfl ?_
  have hS := Mod.set (F := fun b => b = w.heap.size + 1 + 1) (Mod.set (F := fun b => b = w.heap.size + 1 + 1) (Mod.set (F := fun b => b = w.heap.size + 1 + 1) (Mod.rfl' (fun b => b = w.heap.size + 1 + 1) W0) (p := ⟨w.heap.size + 1 + 1, 0, none⟩) (.inl rfl) (.slice (some ⟨gv, 0, none⟩) v.length cv)) (p := ⟨w.heap.size + 1 + 1, 1, none⟩) (.inl rfl) (.slice Ar r.length cr)) (p := ⟨w.heap.size + 1 + 1, 2, none⟩) (.inl rfl) (.slice (some ⟨gq, 0, none⟩) q.length cq)
  rw [HS.out]
  exact ⟨rfl, V0.out.mod hS (fun b hb e => by simp [blk] at hb; omega), Q0.out.mod hS (fun b hb e => by simp [blk] at hb; omega), (Mod.of (F := fun b => b = gv ∨ b = gq) E0.out).tr hS (fun b e => .inr (by omega))⟩
 ·have z1 : (y != x) = true := by simp [hxy]
  have HS := lh (show Sg.writeL ⟨v, r, q⟩ n x = ⟨v.set n x, r, Sg.spoilC r q n⟩ by unfold Sg.writeL; rw [if_neg (by show ¬ v.getD n 0 = x; rw [hyd]; exact hxy)])
  have hm1 := Mod.set (F := fun b => b = gv) (Mod.rfl' (fun b => b = gv) W0) (p := ⟨gv, n, none⟩) (.inl rfl) (.int .i64 x)
  have BS1 := lh (BS.out.mod hm1 (by omega))
  have BG1 := lh (BG.out.mod hm1 (by omega))
  have BO1 := lh (BO.out.mod hm1 (by omega))
  have M1 := lh ((Mod.of (F := fun b => b = gv ∨ b = gq) E0.out).tr hm1 (fun b e => .inl (.inl e)))
  have V1 := lh (V0.out.st n (.int .i64 x))
  have Q1 := lh (Q0.out.mod hm1 (fun b hb e => by simp [blk] at hb; omega))
  have p0 := BS.out.cell (j := 0) rfl
  have p1 := BS.out.cell (j := 1) rfl
  have p2 := BS.out.cell (j := 2) rfl
  clear hr hv hq hy hyd hxy e0 hA hrl hvl hm1 hc
  go_enter Tryz.func87, Tryz.ntmps87
  go_upto_region 1 with fail
  rw [← hW0]
  clear hW0
  go_upto_region 3 with fail
  generalize World.setCell W0 ⟨gv, n, none⟩ (.int .i64 x) = W1 at *
  have g0 := BG1.out.cell (j := 0) rfl
  have s0 := BS1.out.cell (j := 0) rfl
  have s1 := BS1.out.cell (j := 1) rfl
  have s2 := BS1.out.cell (j := 2) rfl
  have hgq1 : gq < W1.heap.size := (Q1.out.lt (g := gq) rfl).2
  have bO1 := BO1.out.lt
  go_wp2_with fail
  refine (s_spoil B n gq A (some ⟨gv, 0, none⟩) Ar c v.length cv cr cq q r W1 HA.out HRL.out hL hn HC.out (fun W m => HR.out W (M1.out.tr m (fun b e => .inl (.inr e)))) Q1.out).mono ?_
  rintro e w2 ⟨rfl, hq2, hm2⟩
  have Q2 := lh hq2
  have BS2 := lh (BS1.out.mod hm2 (by omega))
  have BO2 := lh (BO1.out.mod hm2 (by omega))
  have V2 := lh (V1.out.mod hm2 (fun b hb e => by simp [blk] at hb; omega))
  have M2 := lh (M1.out.tr hm2 (fun b e => .inl (.inr e)))
  clear hq2 hm2 g0 s0 s1 s2 p0 p1 p2 cy fy BG BS BO BS1 BO1 BG1 V0 Q0 V1 Q1
  have s0 := BS2.out.cell (j := 0) rfl
  have s1 := BS2.out.cell (j := 1) rfl
  have s2 := BS2.out.cell (j := 2) rfl
  have f0 := BO2.out.free 0
  have f1 := BO2.out.free 1
  have f2 := BO2.out.free 2
  have y0 := BO2.out.cell (j := 0) rfl
  have y1 := BO2.out.cell (j := 1) rfl
  have y2 := BO2.out.cell (j := 2) rfl
  have bO2 := BO2.out.lt
  go_wp2
  have t0 : ∀ u0 u1 u2 : Value, World.cell? (World.setCell (World.setCell (World.setCell w2 ⟨w.heap.size + 1 + 1, 0, none⟩ u0) ⟨w.heap.size + 1 + 1, 1, none⟩ u1) ⟨w.heap.size + 1 + 1, 2, none⟩ u2) ⟨w.heap.size + 1 + 1, 0, none⟩ = some u0 := fun u0 u1 u2 => (((BO2.out.set 0 u0).set 1 u1).set 2 u2).cell (j := 0) rfl
  have t1 : ∀ u0 u1 u2 : Value, World.cell? (World.setCell (World.setCell (World.setCell w2 ⟨w.heap.size + 1 + 1, 0, none⟩ u0) ⟨w.heap.size + 1 + 1, 1, none⟩ u1) ⟨w.heap.size + 1 + 1, 2, none⟩ u2) ⟨w.heap.size + 1 + 1, 1, none⟩ = some u1 := fun u0 u1 u2 => (((BO2.out.set 0 u0).set 1 u1).set 2 u2).cell (j := 1) rfl
  have t2 : ∀ u0 u1 u2 : Value, World.cell? (World.setCell (World.setCell (World.setCell w2 ⟨w.heap.size + 1 + 1, 0, none⟩ u0) ⟨w.heap.size + 1 + 1, 1, none⟩ u1) ⟨w.heap.size + 1 + 1, 2, none⟩ u2) ⟨w.heap.size + 1 + 1, 2, none⟩ = some u2 := fun u0 u1 u2 => (((BO2.out.set 0 u0).set 1 u1).set 2 u2).cell (j := 2) rfl
  refine bodyPost_ret (v := .agg #[.slice (some ⟨gv, 0, none⟩) v.length cv, .slice Ar r.length cr, .slice (some ⟨gq, 0, none⟩) q.length cq]) (by simp [results, Tryz.results87, go_sem, t0, t1, t2]; try rfl) rfl ?_
  have hS := Mod.set (F := fun b => b = w.heap.size + 1 + 1) (Mod.set (F := fun b => b = w.heap.size + 1 + 1) (Mod.set (F := fun b => b = w.heap.size + 1 + 1) (Mod.rfl' (fun b => b = w.heap.size + 1 + 1) w2) (p := ⟨w.heap.size + 1 + 1, 0, none⟩) (.inl rfl) (.slice (some ⟨gv, 0, none⟩) v.length cv)) (p := ⟨w.heap.size + 1 + 1, 1, none⟩) (.inl rfl) (.slice Ar r.length cr)) (p := ⟨w.heap.size + 1 + 1, 2, none⟩) (.inl rfl) (.slice (some ⟨gq, 0, none⟩) q.length cq)
  rw [HS.out]
  have V3 := V2.out.mod hS (fun b hb e => by simp [blk] at hb; omega)
  rw [ints_set] at V3
  exact ⟨rfl, V3, Q2.out.mod hS (fun b hb e => by simp [blk] at hb; omega), M2.out.tr hS (fun b e => .inr (by omega))⟩
end Go.Proofs.YtmkfjnkdaeoppaaGreat
