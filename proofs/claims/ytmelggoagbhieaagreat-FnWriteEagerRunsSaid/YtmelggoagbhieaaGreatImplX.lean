/- The program's clone, cellsOf, CellsOf: contracts. Conditions: bounds on lengths. -/
import Derived.Test.YtmelggoagbhieaaGreatImplP
import Derived.Test.YtmelggoagbhieaaGreatImplMN
import Derived.Test.YtmelggoagbhieaaGreatModelsA
namespace Go.Proofs.YtmelggoagbhieaaGreat
open Go.RowKit

theorem own_of_row {w : World} {B e size n : Nat} {v : Value} {xs : List Value} (h : w.ownsRow B e size v n xs) : ∃ A c, v = .slice A n c ∧ Own w B e size A n c xs := by
  obtain ⟨h1, ⟨rfl, rfl⟩ | ⟨g, cap, cur, rfl, hb, hh, hn, hm, hs, ht⟩⟩ := h
  · exact ⟨none, 0, rfl, h1, Nat.le_refl _, by unfold maxLen; omega, .inl ⟨rfl, rfl⟩⟩
  · exact ⟨_, _, rfl, h1, hn, hm, .inr ⟨g, cur, rfl, hb, hh, by omega, ht⟩⟩
theorem i_Clone (A : Option Addr) (n c : Nat) (l : List Int) (w : World) (h : Rd w 1 A n (ints l)) (hb : n ≤ 4194304) :
    Calls Tryz.prog 189 #[.slice A n c] w fun e w' => ∃ A' c', e = .returned (.slice A' n c') ∧ Own w' w.heap.size 3 1 A' n c' (ints l) ∧ Ext w w' := by
  have hl := h.len
  by_cases h0 : n = 0
  · subst h0
    obtain rfl : l = [] := List.eq_nil_of_length_eq_zero hl
    cases A with
    | none => exact (Tryz.slices_Clone_int_nil 0 c w).mono fun e w' hh => ⟨none, 0, hh.1, Own.nil _ _ _ _, by have := hh.2; subst this; exact Ext.rfl' _⟩
    | some a =>
      refine (Tryz.slices_Clone_int_zero a c w).mono fun e w' hh => ?_
      obtain ⟨v', rfl, ho, _, hbl⟩ := hh
      obtain ⟨A', c', rfl, ho2⟩ := own_of_row ho
      exact ⟨A', c', rfl, ho2, hbl⟩
  · obtain ⟨b, o, rfl, hc⟩ := h.2.2 (by omega)
    refine (Tryz.slices_Clone_int b o n c l w (by omega) (by omega) (fun j hj => hc j _ ?_)).mono fun e w' hh => ?_
    · rw [ints_at, List.getD_eq_getElem?_getD, List.getElem?_eq_getElem hj]; rfl
    · obtain ⟨v', rfl, ho, _, hbl⟩ := hh
      obtain ⟨A', c', rfl, ho2⟩ := own_of_row ho
      have e1 : l.take n = l := by rw [← hl, List.take_length]
      rw [e1] at ho2
      exact ⟨A', c', rfl, ho2, hbl⟩
theorem i_clone (A : Option Addr) (n c : Nat) (l : List Int) (w : World) (h : Rd w 1 A n (ints l)) (hb : n ≤ 4194304) :
    Calls Tryz.prog 149 #[.slice A n c] w fun e w' => ∃ A', e = .returned (.slice A' n n) ∧ Own w' w.heap.size 3 1 A' n n (ints l) ∧ Ext w w' := by
  have HC := Lib.hid (i_Clone A n c l w h hb)
  clear h
  go_enter Tryz.func149, Tryz.ntmps149
  go_wp2_with fail
  refine HC.out.mono ?_
  rintro e w1 ⟨A1, c1, rfl, ho, he⟩
  have h1 := ho.2.1
  have h2 := ho.2.2.1
  have Ho := Lib.hid ho
  clear ho
  go_wp2_with fail
  refine (i_Clip A1 n c1 w1 h1 h2).mono ?_
  rintro e w' ⟨rfl, rfl⟩
  go_wp2
  go_ret
  exact ⟨A1, rfl, Ho.out.clip, he⟩

set_option maxRecDepth 100000 in
set_option maxHeartbeats 2000000 in
theorem i_cellsOf (A Av : Option Addr) (c cv : Nat) (g : Sg.Graph) (v : List Int) (w : World) (h : RdN w A g) (hv : Rd w 1 Av v.length (ints v)) (hl : v.length = g.length) :
    Calls Tryz.prog 92 #[.agg #[.slice A g.length c], .slice Av v.length cv] w fun e w' => ∃ A', e = .returned (.slice A' v.length v.length) ∧ Own w' w.heap.size 3 1 A' v.length v.length (ints (Sg.cellsOf g v)) ∧ Ext w w' := by
  have hgl := h.1
  have e0 := (Ext.rfl' w).al (.cells #[.slice A g.length c] 25)
  have q0 : (w.alloc (.cells #[.slice A g.length c] 25)).cell? ⟨w.heap.size, 0, none⟩ = some (.slice A g.length c) := by simp [go_sem]
  have HCI := Lib.hid (fun w h => i_clone Av v.length cv v w h (by omega))
  have hvl : v.length ≤ 1048576 := by omega
  have Hl := Lib.hid hl
  have H := Lib.hid h
  have Hv := Lib.hid hv
  have HE := Lib.hid e0
  have Q0 := Lib.hid q0
  have HZ := Lib.hid (Sg.cellsTo_zero g v)
  clear h hv e0 q0 hl
  go_enter Tryz.func92, Tryz.ntmps92
  go_wp2_with fail
  refine (HCI.out _ (Hv.out.ext HE.out)).mono ?_
  rintro e w1 ⟨A1, rfl, ho, he1⟩
  have k1 := he1.cellE Q0.out
  have E1 := Lib.hid (HE.out.tr he1)
  rw [← HZ.out] at ho
  rw [Sg.length_cellsTo] at ho
  have Ho := Lib.hid (ho.mono (B' := w.heap.size + 1) (by simp))
  clear ho he1
  go_wp2
  go_loopw [11] (fun i wr => ∃ k : Nat, k ≤ v.length ∧ i = .int .i64 k ∧ Ext w wr ∧ wr.cell? ⟨w.heap.size, 0, none⟩ = some (.slice A g.length c) ∧ Own wr (w.heap.size + 1) 3 1 A1 v.length v.length (ints (Sg.cellsTo g v k))) (fun i _ => v.length - (intOf i).toNat)
  case atStart => exact ⟨0, Nat.zero_le _, rfl, E1.out, k1, Ho.out⟩
  case round =>
    obtain ⟨k, hk, rfl, he, kg, hown⟩ := hrel
    clear k1
    have b1 := blt kg
    by_cases hlt : k < v.length
    · obtain ⟨⟨nk, nf⟩, hn⟩ : ∃ n, g[k]? = some n := ⟨_, List.getElem?_eq_getElem (show k < g.length by have := Hl.out; omega)⟩
      obtain ⟨g1, rfl, hg1⟩ := hown.at_ (by omega)
      have HCL := Lib.hid (fun w h => i_cell A c g k ⟨nk, nf⟩ w h hn)
      by_cases hz : nk = 0
      · have HZ2 := Lib.hid (show decide (nk = 0) = true by simp [hz])
        have Hf := Lib.hid (Sg.cellsTo_keep g v k hn hz)
        have Ho2 := Lib.hid hown
        have HE2 := Lib.hid he
        clear hn hz hown he
        go_wp2_with fail
        refine (HCL.out _ (H.out.ext HE2.out)).mono ?_
        rintro e w2 ⟨rfl, he2⟩
        rw [HZ2.out]
        have kg2 := he2.cellE kg
        clear kg b1
        go_wp2
        go_roundw
        case rel => exact ⟨k + 1, by omega, by go_num, HE2.out.tr he2, kg2, by rw [Hf.out]; exact Ho2.out.ext he2⟩
        case measure => simp [intOf]; omega
      · have HZ2 := Lib.hid (show decide (nk = 0) = false by simp [hz])
        obtain ⟨y, hy⟩ : ∃ y, (ints (Sg.cellsTo g v k))[k]? = some y := ⟨_, List.getElem?_eq_getElem (by simp; omega)⟩
        have Hf := Lib.hid (Sg.cellsTo_zap g v k hn hz)
        have Ho2 := Lib.hid hown
        have HE2 := Lib.hid he
        have Hy := Lib.hid hy
        clear hn hz hown he hy
        go_wp2_with fail
        refine (HCL.out _ (H.out.ext HE2.out)).mono ?_
        rintro e w2 ⟨rfl, he2⟩
        rw [HZ2.out]
        have kg2 := he2.cellE kg
        have Ho3 := Lib.hid (Ho2.out.ext he2)
        have hcy := Ho3.out.cell Hy.out
        have hfy := Ho3.out.free k
        have b3 := blt hcy
        clear kg b1
        go_wp2
        go_roundw
        case rel => exact ⟨k + 1, by omega, by go_num, (HE2.out.tr he2).set (show _ ≤ g1 by omega) _, by rw [World.cell?_setCell_other _ _ _ _ (by intro e; injection e; omega)]; exact kg2, by rw [Hf.out, ← ints_set]; exact Ho3.out.st k _⟩
        case measure => simp [intOf]; omega
    · obtain rfl : k = v.length := by omega
      have Ho2 := Lib.hid hown
      have HE2 := Lib.hid he
      clear hown he
      go_wp2
      go_ret
      exact ⟨A1, rfl, Ho2.out.mono (by omega), HE2.out⟩

set_option maxRecDepth 100000 in
set_option maxHeartbeats 2000000 in
theorem i_CellsOf (A Av Ar : Option Addr) (c cv cr : Nat) (g : Sg.Graph) (v : List Int) (r : List (List Int)) (w : World) (h : RdN w A g) (hv : Rd w 1 Av v.length (ints v)) (hr : RdL w Ar r) (_hvl : v.length ≤ 1048576) :
    Calls Tryz.prog 23 #[.agg #[.slice A g.length c], .agg #[.slice Av v.length cv, .slice Ar r.length cr]] w fun e w' => ∃ A' c', e = .returned (.slice A' (Sg.cellsE g ⟨v, r⟩).length c') ∧ Own w' w.heap.size 3 1 A' (Sg.cellsE g ⟨v, r⟩).length c' (ints (Sg.cellsE g ⟨v, r⟩)) ∧ Ext w w' := by
  have hgl := h.1
  have HV := Lib.hid (fun w h hv hr => i_ValidEager A Av Ar c cv cr g v r w h hv hr)
  have H := Lib.hid h
  have Hv := Lib.hid hv
  have Hr := Lib.hid hr
  clear h hv hr
  have E0 := Lib.hid ((((Ext.rfl' w).al (.cells #[.slice A g.length c] 25)).al (.cells #[.slice Av v.length cv, .slice Ar r.length cr] 29)) : Ext w (World.alloc (World.alloc w (.cells #[.slice A g.length c] 25)) (.cells #[.slice Av v.length cv, .slice Ar r.length cr] 29)))
  have qlg : World.cell? (World.alloc (World.alloc w (.cells #[.slice A g.length c] 25)) (.cells #[.slice Av v.length cv, .slice Ar r.length cr] 29)) ⟨w.heap.size, 0, none⟩ = some (.slice A g.length c) := by simp [go_sem]
  have Qlg := Lib.hid qlg
  clear qlg
  have qlv : World.cell? (World.alloc (World.alloc w (.cells #[.slice A g.length c] 25)) (.cells #[.slice Av v.length cv, .slice Ar r.length cr] 29)) ⟨w.heap.size + 1, 0, none⟩ = some (.slice Av v.length cv) := by simp [go_sem]
  have Qlv := Lib.hid qlv
  clear qlv
  have qlr : World.cell? (World.alloc (World.alloc w (.cells #[.slice A g.length c] 25)) (.cells #[.slice Av v.length cv, .slice Ar r.length cr] 29)) ⟨w.heap.size + 1, 1, none⟩ = some (.slice Ar r.length cr) := by simp [go_sem]
  have Qlr := Lib.hid qlr
  clear qlr
  cases hE : Sg.validE g ⟨v, r⟩
  · have HE := Lib.hid hE
    have HS := Lib.hid (show Sg.cellsE g ⟨v, r⟩ = [] by unfold Sg.cellsE; rw [hE]; rfl)
    clear hE
    go_enter Tryz.func23, Tryz.ntmps23
    go_wp2_with fail
    refine (HV.out _ (H.out.ext E0.out) (Hv.out.ext E0.out) (Hr.out.ext E0.out)).mono ?_
    rintro e w1 ⟨rfl, he1⟩
    rw [HE.out]
    have U1 := Lib.hid ((Ext.rfl' (World.alloc (World.alloc w (.cells #[.slice A g.length c] 25)) (.cells #[.slice Av v.length cv, .slice Ar r.length cr] 29))).tr he1)
    have E1 := Lib.hid (E0.out.tr U1.out)
    have lg_1 := U1.out.cellE Qlg.out
    have lv_1 := U1.out.cellE Qlv.out
    have lr_1 := U1.out.cellE Qlr.out
    clear he1 
    have blg_1 := blt lg_1
    have blv_1 := blt lv_1
    have blr_1 := blt lr_1
    go_wp2
    go_ret
    rw [HS.out]
    exact ⟨none, 0, rfl, Own.nil _ _ _ _, E1.out⟩
  · have HE := Lib.hid hE
    have HS := Lib.hid (show Sg.cellsE g ⟨v, r⟩ = Sg.cellsOf g v by unfold Sg.cellsE; rw [hE]; rfl)
    have hvg : v.length = g.length := by unfold Sg.validE at hE; simp only [Bool.and_eq_true, decide_eq_true_eq] at hE; exact hE.1.1.1.2
    have HC := Lib.hid (fun w h hv => i_cellsOf A Av c cv g v w h hv hvg)
    clear hE hvg
    go_enter Tryz.func23, Tryz.ntmps23
    go_wp2_with fail
    refine (HV.out _ (H.out.ext E0.out) (Hv.out.ext E0.out) (Hr.out.ext E0.out)).mono ?_
    rintro e w1 ⟨rfl, he1⟩
    rw [HE.out]
    have U1 := Lib.hid ((Ext.rfl' (World.alloc (World.alloc w (.cells #[.slice A g.length c] 25)) (.cells #[.slice Av v.length cv, .slice Ar r.length cr] 29))).tr he1)
    have E1 := Lib.hid (E0.out.tr U1.out)
    have lg_1 := U1.out.cellE Qlg.out
    have lv_1 := U1.out.cellE Qlv.out
    have lr_1 := U1.out.cellE Qlr.out
    clear he1 
    have blg_1 := blt lg_1
    have blv_1 := blt lv_1
    have blr_1 := blt lr_1
    go_wp2_with fail
    refine (HC.out _ (H.out.ext E1.out) (Hv.out.ext E1.out)).mono ?_
    rintro e w2 ⟨A', rfl, ho, he2⟩
    have Ho := Lib.hid ho
    clear ho
    have U2 := Lib.hid ((Ext.rfl' w1).tr he2)
    have E2 := Lib.hid (E1.out.tr U2.out)
    have lg_2 := U2.out.cellE lg_1
    have lv_2 := U2.out.cellE lv_1
    have lr_2 := U2.out.cellE lr_1
    clear he2 lg_1 lv_1 lr_1 blg_1 blv_1 blr_1
    have blg_2 := blt lg_2
    have blv_2 := blt lv_2
    have blr_2 := blt lr_2
    have z1 := E1.out.size
    go_wp2
    go_ret
    rw [HS.out, Sg.length_cellsOf]
    exact ⟨A', _, rfl, Ho.out.mono z1, E2.out⟩
end Go.Proofs.YtmelggoagbhieaaGreat
