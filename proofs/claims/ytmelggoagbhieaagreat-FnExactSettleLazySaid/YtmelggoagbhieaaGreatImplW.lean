/- The program's ValidLazy: its contract. Conditions: bounds on lengths. -/
import Derived.Test.YtmelggoagbhieaaGreatImplV
namespace Go.Proofs.YtmelggoagbhieaaGreat
open Go.RowKit

def CV (g : Sg.Graph) (st : Sg.Lazy) (k : Nat) : Bool := (List.range k).all (Sg.colAt g st)
theorem CV_succ (g : Sg.Graph) (st : Sg.Lazy) (k : Nat) : CV g st (k + 1) = (CV g st k && Sg.colAt g st k) := by unfold CV; rw [List.range_succ, List.all_append]; simp
theorem CV_bad (g : Sg.Graph) (st : Sg.Lazy) (k : Nat) (hk : k < g.length) (h : Sg.colAt g st k = false) : Sg.validL g st = false := by
  unfold Sg.validL
  have : (List.range g.length).all (Sg.colAt g st) = false := by
    rw [List.all_eq_false]
    exact ⟨k, List.mem_range.2 hk, by rw [h]; simp⟩
  rw [this, Bool.and_false]

set_option maxRecDepth 100000 in
set_option maxHeartbeats 4000000 in
theorem i_ValidLazy (A Av Ar Aq : Option Addr) (c cv cr cq : Nat) (g : Sg.Graph) (v q : List Int) (r : List (List Int)) (w : World) (h : RdN w A g) (hv : Rd w 1 Av v.length (ints v)) (hr : RdLC w Ar r) (hq : Rd w 1 Aq q.length (ints q)) (_hvl : v.length ≤ 1048576) (_hql : q.length ≤ 1048576) :
    Calls Tryz.prog 64 #[.agg #[.slice A g.length c], .agg #[.slice Av v.length cv, .slice Ar r.length cr, .slice Aq q.length cq]] w fun e w' => e = .returned (.bool (Sg.validL g ⟨v, r, q⟩)) ∧ Ext w w' := by
  have hgl := h.1
  have hrl := hr.1
  have HSZ := Lib.hid (i_size A g.length c)
  have HVG := Lib.hid (i_ValidGraph A c g)
  have HAI := Lib.hid (i_inRange Av v.length cv v)
  have H := Lib.hid h
  have Hv := Lib.hid hv
  have Hr := Lib.hid hr
  have Hq := Lib.hid hq
  clear h hv hr hq
  have E0 := Lib.hid ((((Ext.rfl' w).al (.cells #[.slice A g.length c] 25)).al (.cells #[.slice Av v.length cv, .slice Ar r.length cr, .slice Aq q.length cq] 51)) : Ext w (World.alloc (World.alloc w (.cells #[.slice A g.length c] 25)) (.cells #[.slice Av v.length cv, .slice Ar r.length cr, .slice Aq q.length cq] 51)))
  have qlg : World.cell? (World.alloc (World.alloc w (.cells #[.slice A g.length c] 25)) (.cells #[.slice Av v.length cv, .slice Ar r.length cr, .slice Aq q.length cq] 51)) ⟨w.heap.size, 0, none⟩ = some (.slice A g.length c) := by simp [go_sem]
  have Qlg := Lib.hid qlg
  clear qlg
  have qlv : World.cell? (World.alloc (World.alloc w (.cells #[.slice A g.length c] 25)) (.cells #[.slice Av v.length cv, .slice Ar r.length cr, .slice Aq q.length cq] 51)) ⟨w.heap.size + 1, 0, none⟩ = some (.slice Av v.length cv) := by simp [go_sem]
  have Qlv := Lib.hid qlv
  clear qlv
  have qlr : World.cell? (World.alloc (World.alloc w (.cells #[.slice A g.length c] 25)) (.cells #[.slice Av v.length cv, .slice Ar r.length cr, .slice Aq q.length cq] 51)) ⟨w.heap.size + 1, 1, none⟩ = some (.slice Ar r.length cr) := by simp [go_sem]
  have Qlr := Lib.hid qlr
  clear qlr
  have qlq : World.cell? (World.alloc (World.alloc w (.cells #[.slice A g.length c] 25)) (.cells #[.slice Av v.length cv, .slice Ar r.length cr, .slice Aq q.length cq] 51)) ⟨w.heap.size + 1, 2, none⟩ = some (.slice Aq q.length cq) := by simp [go_sem]
  have Qlq := Lib.hid qlq
  clear qlq
  cases hG : Sg.validG g
  · have HG := Lib.hid hG
    clear hG
    go_enter Tryz.func64, Tryz.ntmps64
    go_wp2_with fail
    refine (HSZ.out _).mono ?_
    rintro e w1 ⟨rfl, he1⟩
    have U1 := Lib.hid ((Ext.rfl' (World.alloc (World.alloc w (.cells #[.slice A g.length c] 25)) (.cells #[.slice Av v.length cv, .slice Ar r.length cr, .slice Aq q.length cq] 51))).tr he1)
    have E1 := Lib.hid (E0.out.tr U1.out)
    have lg_1 := U1.out.cellE Qlg.out
    have lv_1 := U1.out.cellE Qlv.out
    have lr_1 := U1.out.cellE Qlr.out
    have lq_1 := U1.out.cellE Qlq.out
    clear he1 
    have blg_1 := blt lg_1
    have blv_1 := blt lv_1
    have blr_1 := blt lr_1
    have blq_1 := blt lq_1
    go_wp2_with fail
    refine (HVG.out _ (H.out.ext E1.out)).mono ?_
    rintro e w2 ⟨rfl, he2⟩
    rw [HG.out]
    have U2 := Lib.hid ((Ext.rfl' w1).tr he2)
    have E2 := Lib.hid (E1.out.tr U2.out)
    have lg_2 := U2.out.cellE lg_1
    have lv_2 := U2.out.cellE lv_1
    have lr_2 := U2.out.cellE lr_1
    have lq_2 := U2.out.cellE lq_1
    clear he2 lg_1 lv_1 lr_1 lq_1 blg_1 blv_1 blr_1 blq_1
    have blg_2 := blt lg_2
    have blv_2 := blt lv_2
    have blr_2 := blt lr_2
    have blq_2 := blt lq_2
    go_wp2
    go_ret
    exact ⟨ret_bool (by unfold Sg.validL Sg.shapeL; rw [HG.out]; rfl), E2.out⟩
  have HG := Lib.hid hG
  clear hG
  by_cases hvg : v.length = g.length
  case neg =>
    have b2 : ((v.length : Int) != (g.length : Int)) = true := by simp; omega
    have Hb := Lib.hid hvg
    clear hvg
    go_enter Tryz.func64, Tryz.ntmps64
    go_wp2_with fail
    refine (HSZ.out _).mono ?_
    rintro e w1 ⟨rfl, he1⟩
    have U1 := Lib.hid ((Ext.rfl' (World.alloc (World.alloc w (.cells #[.slice A g.length c] 25)) (.cells #[.slice Av v.length cv, .slice Ar r.length cr, .slice Aq q.length cq] 51))).tr he1)
    have E1 := Lib.hid (E0.out.tr U1.out)
    have lg_1 := U1.out.cellE Qlg.out
    have lv_1 := U1.out.cellE Qlv.out
    have lr_1 := U1.out.cellE Qlr.out
    have lq_1 := U1.out.cellE Qlq.out
    clear he1 
    have blg_1 := blt lg_1
    have blv_1 := blt lv_1
    have blr_1 := blt lr_1
    have blq_1 := blt lq_1
    go_wp2_with fail
    refine (HVG.out _ (H.out.ext E1.out)).mono ?_
    rintro e w2 ⟨rfl, he2⟩
    rw [HG.out]
    have U2 := Lib.hid ((Ext.rfl' w1).tr he2)
    have E2 := Lib.hid (E1.out.tr U2.out)
    have lg_2 := U2.out.cellE lg_1
    have lv_2 := U2.out.cellE lv_1
    have lr_2 := U2.out.cellE lr_1
    have lq_2 := U2.out.cellE lq_1
    clear he2 lg_1 lv_1 lr_1 lq_1 blg_1 blv_1 blr_1 blq_1
    have blg_2 := blt lg_2
    have blv_2 := blt lv_2
    have blr_2 := blt lr_2
    have blq_2 := blt lq_2
    go_wp2
    go_ret
    exact ⟨ret_bool (by unfold Sg.validL Sg.shapeL; simp [Hb.out]), E2.out⟩
  have b2 : ((v.length : Int) != (g.length : Int)) = false := by simp; omega
  have Hvg := Lib.hid hvg
  clear hvg
  by_cases hrg : r.length = g.length
  case neg =>
    have b3 : ((r.length : Int) != (g.length : Int)) = true := by simp; omega
    have Hb := Lib.hid hrg
    clear hrg
    go_enter Tryz.func64, Tryz.ntmps64
    go_wp2_with fail
    refine (HSZ.out _).mono ?_
    rintro e w1 ⟨rfl, he1⟩
    have U1 := Lib.hid ((Ext.rfl' (World.alloc (World.alloc w (.cells #[.slice A g.length c] 25)) (.cells #[.slice Av v.length cv, .slice Ar r.length cr, .slice Aq q.length cq] 51))).tr he1)
    have E1 := Lib.hid (E0.out.tr U1.out)
    have lg_1 := U1.out.cellE Qlg.out
    have lv_1 := U1.out.cellE Qlv.out
    have lr_1 := U1.out.cellE Qlr.out
    have lq_1 := U1.out.cellE Qlq.out
    clear he1 
    have blg_1 := blt lg_1
    have blv_1 := blt lv_1
    have blr_1 := blt lr_1
    have blq_1 := blt lq_1
    go_wp2_with fail
    refine (HVG.out _ (H.out.ext E1.out)).mono ?_
    rintro e w2 ⟨rfl, he2⟩
    rw [HG.out]
    have U2 := Lib.hid ((Ext.rfl' w1).tr he2)
    have E2 := Lib.hid (E1.out.tr U2.out)
    have lg_2 := U2.out.cellE lg_1
    have lv_2 := U2.out.cellE lv_1
    have lr_2 := U2.out.cellE lr_1
    have lq_2 := U2.out.cellE lq_1
    clear he2 lg_1 lv_1 lr_1 lq_1 blg_1 blv_1 blr_1 blq_1
    have blg_2 := blt lg_2
    have blv_2 := blt lv_2
    have blr_2 := blt lr_2
    have blq_2 := blt lq_2
    go_wp2
    go_ret
    exact ⟨ret_bool (by unfold Sg.validL Sg.shapeL; simp [Hb.out]), E2.out⟩
  have b3 : ((r.length : Int) != (g.length : Int)) = false := by simp; omega
  have Hrg := Lib.hid hrg
  clear hrg
  by_cases hqg : q.length = g.length
  case neg =>
    have b4 : ((q.length : Int) != (g.length : Int)) = true := by simp; omega
    have Hb := Lib.hid hqg
    clear hqg
    go_enter Tryz.func64, Tryz.ntmps64
    go_wp2_with fail
    refine (HSZ.out _).mono ?_
    rintro e w1 ⟨rfl, he1⟩
    have U1 := Lib.hid ((Ext.rfl' (World.alloc (World.alloc w (.cells #[.slice A g.length c] 25)) (.cells #[.slice Av v.length cv, .slice Ar r.length cr, .slice Aq q.length cq] 51))).tr he1)
    have E1 := Lib.hid (E0.out.tr U1.out)
    have lg_1 := U1.out.cellE Qlg.out
    have lv_1 := U1.out.cellE Qlv.out
    have lr_1 := U1.out.cellE Qlr.out
    have lq_1 := U1.out.cellE Qlq.out
    clear he1 
    have blg_1 := blt lg_1
    have blv_1 := blt lv_1
    have blr_1 := blt lr_1
    have blq_1 := blt lq_1
    go_wp2_with fail
    refine (HVG.out _ (H.out.ext E1.out)).mono ?_
    rintro e w2 ⟨rfl, he2⟩
    rw [HG.out]
    have U2 := Lib.hid ((Ext.rfl' w1).tr he2)
    have E2 := Lib.hid (E1.out.tr U2.out)
    have lg_2 := U2.out.cellE lg_1
    have lv_2 := U2.out.cellE lv_1
    have lr_2 := U2.out.cellE lr_1
    have lq_2 := U2.out.cellE lq_1
    clear he2 lg_1 lv_1 lr_1 lq_1 blg_1 blv_1 blr_1 blq_1
    have blg_2 := blt lg_2
    have blv_2 := blt lv_2
    have blr_2 := blt lr_2
    have blq_2 := blt lq_2
    go_wp2
    go_ret
    exact ⟨ret_bool (by unfold Sg.validL Sg.shapeL; simp [Hb.out]), E2.out⟩
  have b4 : ((q.length : Int) != (g.length : Int)) = false := by simp; omega
  have Hqg := Lib.hid hqg
  clear hqg
  cases hI : (v.all fun x => Sg.inR x 0 999)
  · have HI := Lib.hid hI
    clear hI
    go_enter Tryz.func64, Tryz.ntmps64
    go_wp2_with fail
    refine (HSZ.out _).mono ?_
    rintro e w1 ⟨rfl, he1⟩
    have U1 := Lib.hid ((Ext.rfl' (World.alloc (World.alloc w (.cells #[.slice A g.length c] 25)) (.cells #[.slice Av v.length cv, .slice Ar r.length cr, .slice Aq q.length cq] 51))).tr he1)
    have E1 := Lib.hid (E0.out.tr U1.out)
    have lg_1 := U1.out.cellE Qlg.out
    have lv_1 := U1.out.cellE Qlv.out
    have lr_1 := U1.out.cellE Qlr.out
    have lq_1 := U1.out.cellE Qlq.out
    clear he1 
    have blg_1 := blt lg_1
    have blv_1 := blt lv_1
    have blr_1 := blt lr_1
    have blq_1 := blt lq_1
    go_wp2_with fail
    refine (HVG.out _ (H.out.ext E1.out)).mono ?_
    rintro e w2 ⟨rfl, he2⟩
    rw [HG.out]
    have U2 := Lib.hid ((Ext.rfl' w1).tr he2)
    have E2 := Lib.hid (E1.out.tr U2.out)
    have lg_2 := U2.out.cellE lg_1
    have lv_2 := U2.out.cellE lv_1
    have lr_2 := U2.out.cellE lr_1
    have lq_2 := U2.out.cellE lq_1
    clear he2 lg_1 lv_1 lr_1 lq_1 blg_1 blv_1 blr_1 blq_1
    have blg_2 := blt lg_2
    have blv_2 := blt lv_2
    have blr_2 := blt lr_2
    have blq_2 := blt lq_2
    go_wp2_with fail
    refine (HAI.out _ (Hv.out.ext E2.out)).mono ?_
    rintro e w3 ⟨rfl, he3⟩
    rw [HI.out]
    have U3 := Lib.hid ((Ext.rfl' w2).tr he3)
    have E3 := Lib.hid (E2.out.tr U3.out)
    have lg_3 := U3.out.cellE lg_2
    have lv_3 := U3.out.cellE lv_2
    have lr_3 := U3.out.cellE lr_2
    have lq_3 := U3.out.cellE lq_2
    clear he3 lg_2 lv_2 lr_2 lq_2 blg_2 blv_2 blr_2 blq_2
    have blg_3 := blt lg_3
    have blv_3 := blt lv_3
    have blr_3 := blt lr_3
    have blq_3 := blt lq_3
    go_wp2
    go_ret
    exact ⟨ret_bool (by unfold Sg.validL Sg.shapeL; unfold Sg.inR999; rw [HI.out]; simp), E3.out⟩
  have HI := Lib.hid hI
  clear hI
  have HC := Lib.hid (fun (k : Nat) (w : World) (hk : k < g.length) (h : RdN w A g) (hv0 : Rd w 1 Av g.length (ints v)) (hr : RdLC w Ar r) (hq0 : Rd w 1 Aq g.length (ints q)) => i_nodeValid A Av Ar Aq c cv cr cq g v q r k w h hv0 hr hq0 Hrg.out hk HG.out (Sg.inR999_range HI.out))
  go_enter Tryz.func64, Tryz.ntmps64
  go_wp2_with fail
  refine (HSZ.out _).mono ?_
  rintro e w1 ⟨rfl, he1⟩
  have U1 := Lib.hid ((Ext.rfl' (World.alloc (World.alloc w (.cells #[.slice A g.length c] 25)) (.cells #[.slice Av v.length cv, .slice Ar r.length cr, .slice Aq q.length cq] 51))).tr he1)
  have E1 := Lib.hid (E0.out.tr U1.out)
  have lg_1 := U1.out.cellE Qlg.out
  have lv_1 := U1.out.cellE Qlv.out
  have lr_1 := U1.out.cellE Qlr.out
  have lq_1 := U1.out.cellE Qlq.out
  clear he1 
  have blg_1 := blt lg_1
  have blv_1 := blt lv_1
  have blr_1 := blt lr_1
  have blq_1 := blt lq_1
  go_wp2_with fail
  refine (HVG.out _ (H.out.ext E1.out)).mono ?_
  rintro e w2 ⟨rfl, he2⟩
  rw [HG.out]
  have U2 := Lib.hid ((Ext.rfl' w1).tr he2)
  have E2 := Lib.hid (E1.out.tr U2.out)
  have lg_2 := U2.out.cellE lg_1
  have lv_2 := U2.out.cellE lv_1
  have lr_2 := U2.out.cellE lr_1
  have lq_2 := U2.out.cellE lq_1
  clear he2 lg_1 lv_1 lr_1 lq_1 blg_1 blv_1 blr_1 blq_1
  have blg_2 := blt lg_2
  have blv_2 := blt lv_2
  have blr_2 := blt lr_2
  have blq_2 := blt lq_2
  go_wp2_with fail
  refine (HAI.out _ (Hv.out.ext E2.out)).mono ?_
  rintro e w3 ⟨rfl, he3⟩
  rw [HI.out]
  have U3 := Lib.hid ((Ext.rfl' w2).tr he3)
  have E3 := Lib.hid (E2.out.tr U3.out)
  have lg_3 := U3.out.cellE lg_2
  have lv_3 := U3.out.cellE lv_2
  have lr_3 := U3.out.cellE lr_2
  have lq_3 := U3.out.cellE lq_2
  clear he3 lg_2 lv_2 lr_2 lq_2 blg_2 blv_2 blr_2 blq_2
  have blg_3 := blt lg_3
  have blv_3 := blt lv_3
  have blr_3 := blt lr_3
  have blq_3 := blt lq_3
  go_wp2
  go_loopw [42] (fun i wr => ∃ k : Nat, k ≤ g.length ∧ i = .int .i64 k ∧ Ext w3 wr ∧ CV g ⟨v, r, q⟩ k = true) (fun i _ => g.length - (intOf i).toNat)
  case atStart => exact ⟨0, Nat.zero_le _, rfl, Ext.rfl' _, rfl⟩
  case round =>
    obtain ⟨k, hk, rfl, he, hra⟩ := hrel
    have HR := Lib.hid hra
    have lg_r := he.cellE lg_3
    have lv_r := he.cellE lv_3
    have lr_r := he.cellE lr_3
    have lq_r := he.cellE lq_3
    have d1 := blt lg_r
    have d2 := blt lv_r
    have ee := Lib.hid (E3.out.tr he)
    have HE := Lib.hid he
    clear hra he lg_3 lv_3 lr_3 lq_3
    by_cases hlt : k < g.length
    · have HCk := HC.out k wr hlt (H.out.ext ee.out) (by have := Hv.out.ext ee.out; rwa [Hvg.out] at this) (Hr.out.ext ee.out) (by have := Hq.out.ext ee.out; rwa [Hqg.out] at this)
      have HCk : Calls Tryz.prog 136 #[.agg #[.slice Av v.length cv, .slice Ar r.length cr, .slice Aq q.length cq], .agg #[.slice A g.length c], .int .i64 k] wr fun e w' => e = .returned (.bool (Sg.colAt g ⟨v, r, q⟩ k)) ∧ Ext wr w' := by rw [Hvg.out, Hqg.out]; exact HCk
      have HCK := Lib.hid HCk
      clear HCk
      cases hg : Sg.colAt g ⟨v, r, q⟩ k
      · have Hg := Lib.hid hg
        clear hg
        go_wp2_with (go_at_call 136; refine HCK.out.mono ?_; rintro e w9 ⟨rfl, he9⟩; rw [Hg.out])
        go_ret
        exact ⟨ret_bool (by rw [CV_bad g _ k hlt Hg.out]), ee.out.tr he9⟩
      · have Hg := Lib.hid hg
        clear hg
        go_wp2_with (go_at_call 136; refine HCK.out.mono ?_; rintro e w9 ⟨rfl, he9⟩; rw [Hg.out])
        go_roundw
        case rel => exact ⟨k + 1, by omega, by go_num, HE.out.tr he9, by rw [CV_succ, HR.out, Hg.out]; rfl⟩
        case measure => simp [intOf]; omega
    · obtain rfl : k = g.length := by omega
      have hfin : Sg.validL g ⟨v, r, q⟩ = true := by
        unfold Sg.validL Sg.shapeL Sg.inR999
        have := HR.out
        unfold CV at this
        simp only [this, HG.out, HI.out, Hvg.out, Hrg.out, Hqg.out, decide_true, Bool.and_self]
      have Hfin := Lib.hid hfin
      clear hfin
      go_wp2
      go_ret
      exact ⟨ret_bool (by rw [Hfin.out]), ee.out⟩
end Go.Proofs.YtmelggoagbhieaaGreat
