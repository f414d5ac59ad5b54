/- The reference's validLazy and ValidLazy: contracts. Conditions: bounds on lengths. -/
import Derived.Test.YtkbihkggneaeeaaGreatSpecR
namespace Go.Proofs.YtkbihkggneaeeaaGreat
open Go.RowKit

def CS (g : Sg.Graph) (st : Sg.Lazy) (k : Nat) : Bool := (List.range k).all (Sg.colS g st)
theorem CS_succ (g : Sg.Graph) (st : Sg.Lazy) (k : Nat) : CS g st (k + 1) = (CS g st k && Sg.colS g st k) := by unfold CS; rw [List.range_succ, List.all_append]; simp
theorem CS_bad (g : Sg.Graph) (st : Sg.Lazy) (k : Nat) (hk : k < g.length) (h : Sg.colS g st k = false) : Sg.validLS g st = false := by
  unfold Sg.validLS
  have : (List.range g.length).all (Sg.colS g st) = false := by
    rw [List.all_eq_false]
    exact ⟨k, List.mem_range.2 hk, by rw [h]; simp⟩
  rw [this, Bool.and_false]

set_option maxRecDepth 100000 in
set_option maxHeartbeats 4000000 in
theorem s_validLazy (A Av Ar Aq : Option Addr) (c cv cr cq : Nat) (g : Sg.Graph) (v q : List Int) (r : List (List Int)) (w : World) (h : RdN w A g) (hv : Rd w 1 Av v.length (ints v)) (hr : RdL w Ar r) (hq : Rd w 1 Aq q.length (ints q)) (hvl : v.length ≤ 1048576) (hql : q.length ≤ 1048576) :
    Calls Tryz.prog 69 #[.agg #[.slice A g.length c], .agg #[.slice Av v.length cv, .slice Ar r.length cr, .slice Aq q.length cq]] w fun e w' => e = .returned (.bool (Sg.validLS g ⟨v, r, q⟩)) ∧ Ext w w' := by
  have hgl := h.1
  have hrl := hr.1
  have HVG := Lib.hid (s_validGraph A c g)
  have HAI := Lib.hid (s_allIn Av v.length cv v 0 999)
  have HAQ := Lib.hid (s_allIn Aq q.length cq q 0 2)
  have e0 := ((Ext.rfl' w).al (.cells #[.slice A g.length c] 25)).al (.cells #[.slice Av v.length cv, .slice Ar r.length cr, .slice Aq q.length cq] 47)
  cases hG : Sg.validG g
  · have HG := Lib.hid hG
    clear hG
    go_enter Tryz.func69, Tryz.ntmps69
    go_wp2_with fail
    refine (HVG.out _ (h.ext e0)).mono ?_
    rintro e w1 ⟨rfl, he1⟩
    rw [HG.out]
    obtain ⟨bc, bf⟩ := bcell he1
    go_wp2
    go_ret
    exact ⟨ret_bool (by unfold Sg.validLS Sg.shapeL; rw [HG.out]; rfl), e0.tr he1⟩
  have HG := Lib.hid hG
  clear hG
  by_cases hvg : v.length = g.length
  case neg =>
    have b1 : ((v.length : Int) != (g.length : Int)) = true := by simp; omega
    have Hb := Lib.hid hvg
    clear hvg
    go_enter Tryz.func69, Tryz.ntmps69
    go_wp2_with fail
    refine (HVG.out _ (h.ext e0)).mono ?_
    rintro e w1 ⟨rfl, he1⟩
    rw [HG.out]
    obtain ⟨bc, bf⟩ := bcell he1
    go_wp2
    go_ret
    exact ⟨ret_bool (by unfold Sg.validLS Sg.shapeL; simp [Hb.out]), e0.tr he1⟩
  have b1 : ((v.length : Int) != (g.length : Int)) = false := by simp; omega
  have Hvg := Lib.hid hvg
  clear hvg
  by_cases hrg : r.length = g.length
  case neg =>
    have b2 : ((r.length : Int) != (g.length : Int)) = true := by simp; omega
    have Hb := Lib.hid hrg
    clear hrg
    go_enter Tryz.func69, Tryz.ntmps69
    go_wp2_with fail
    refine (HVG.out _ (h.ext e0)).mono ?_
    rintro e w1 ⟨rfl, he1⟩
    rw [HG.out]
    obtain ⟨bc, bf⟩ := bcell he1
    go_wp2
    go_ret
    exact ⟨ret_bool (by unfold Sg.validLS Sg.shapeL; simp [Hb.out]), e0.tr he1⟩
  have b2 : ((r.length : Int) != (g.length : Int)) = false := by simp; omega
  have Hrg := Lib.hid hrg
  clear hrg
  by_cases hqg : q.length = g.length
  case neg =>
    have b3 : ((q.length : Int) != (g.length : Int)) = true := by simp; omega
    have Hb := Lib.hid hqg
    clear hqg
    go_enter Tryz.func69, Tryz.ntmps69
    go_wp2_with fail
    refine (HVG.out _ (h.ext e0)).mono ?_
    rintro e w1 ⟨rfl, he1⟩
    rw [HG.out]
    obtain ⟨bc, bf⟩ := bcell he1
    go_wp2
    go_ret
    exact ⟨ret_bool (by unfold Sg.validLS Sg.shapeL; simp [Hb.out]), e0.tr he1⟩
  have b3 : ((q.length : Int) != (g.length : Int)) = false := by simp; omega
  have Hqg := Lib.hid hqg
  clear hqg
  cases hI : (v.all fun x => Sg.inR x 0 999)
  · have HI := Lib.hid hI
    clear hI
    go_enter Tryz.func69, Tryz.ntmps69
    go_wp2_with fail
    refine (HVG.out _ (h.ext e0)).mono ?_
    rintro e w1 ⟨rfl, he1⟩
    rw [HG.out]
    obtain ⟨bc, bf⟩ := bcell he1
    go_wp2_with fail
    refine (HAI.out _ (hv.ext (e0.tr he1))).mono ?_
    rintro e w2 ⟨rfl, rfl⟩
    rw [HI.out]
    go_wp2
    go_ret
    exact ⟨ret_bool (by unfold Sg.validLS Sg.shapeL; unfold Sg.inR999; rw [HI.out]; simp), e0.tr he1⟩
  have HI := Lib.hid hI
  clear hI
  cases hQ : (q.all fun x => Sg.inR x 0 2)
  · have HQ := Lib.hid hQ
    clear hQ
    go_enter Tryz.func69, Tryz.ntmps69
    go_wp2_with fail
    refine (HVG.out _ (h.ext e0)).mono ?_
    rintro e w1 ⟨rfl, he1⟩
    rw [HG.out]
    obtain ⟨bc, bf⟩ := bcell he1
    go_wp2_with fail
    refine (HAI.out _ (hv.ext (e0.tr he1))).mono ?_
    rintro e w2 ⟨rfl, rfl⟩
    rw [HI.out]
    go_wp2_with fail
    refine (HAQ.out _ (hq.ext (e0.tr he1))).mono ?_
    rintro e w3 ⟨rfl, rfl⟩
    rw [HQ.out]
    go_wp2
    go_ret
    exact ⟨ret_bool (by unfold Sg.validLS Sg.shapeL; dsimp only; rw [HQ.out]; simp), e0.tr he1⟩
  have HQ := Lib.hid hQ
  clear hQ
  have HC := Lib.hid (fun (k : Nat) (w : World) (hk : k < g.length) (h : RdN w A g) (hv0 : Rd w 1 Av g.length (ints v)) (hr : RdL w Ar r) (hq0 : Rd w 1 Aq g.length (ints q)) => s_goodColour A Av Ar Aq c cv cr cq g v q r k w h hv0 hr hq0 Hrg.out hk HG.out (Sg.inR999_range HI.out))
  go_enter Tryz.func69, Tryz.ntmps69
  go_wp2_with fail
  refine (HVG.out _ (h.ext e0)).mono ?_
  rintro e w1 ⟨rfl, he1⟩
  rw [HG.out]
  obtain ⟨bc, bf⟩ := bcell he1
  go_wp2_with fail
  refine (HAI.out _ (hv.ext (e0.tr he1))).mono ?_
  rintro e w2 ⟨rfl, rfl⟩
  rw [HI.out]
  go_wp2_with fail
  refine (HAQ.out _ (hq.ext (e0.tr he1))).mono ?_
  rintro e w3 ⟨rfl, rfl⟩
  rw [HQ.out]
  go_wp2
  have e1 := e0.tr he1
  have hb1 : w1.cell? ⟨w.heap.size, 0, none⟩ = some (.slice A g.length c) := he1.cellE (by simp [go_sem])
  have hb2 : w1.cell? ⟨w.heap.size + 1, 0, none⟩ = some (.slice Av v.length cv) := he1.cellE (by simp [go_sem])
  have hb3 : w1.cell? ⟨w.heap.size + 1, 1, none⟩ = some (.slice Ar r.length cr) := he1.cellE (by simp [go_sem])
  have hb4 : w1.cell? ⟨w.heap.size + 1, 2, none⟩ = some (.slice Aq q.length cq) := he1.cellE (by simp [go_sem])
  clear bc bf he1 e0 b1 b2 b3 HVG HAI HAQ
  go_loopw [5] (fun i wr => ∃ k : Nat, k ≤ g.length ∧ i = .int .i64 k ∧ Ext w1 wr ∧ CS g ⟨v, r, q⟩ k = true) (fun i _ => g.length - (intOf i).toNat)
  case atStart => exact ⟨0, Nat.zero_le _, rfl, Ext.rfl' _, rfl⟩
  case round =>
    obtain ⟨k, hk, rfl, he, hra⟩ := hrel
    have HR := Lib.hid hra
    have c1 := he.cellE hb1
    have c2 := he.cellE hb2
    have c3 := he.cellE hb3
    have c4 := he.cellE hb4
    have d1 := blt c1
    have d2 := blt c2
    have ee := e1.tr he
    clear hra hb1 hb2 hb3 hb4
    by_cases hlt : k < g.length
    · have HCk := HC.out k wr hlt (h.ext ee) (by have := hv.ext ee; rwa [Hvg.out] at this) (hr.ext ee) (by have := hq.ext ee; rwa [Hqg.out] at this)
      have HCk : Calls Tryz.prog 126 #[.agg #[.slice A g.length c], .agg #[.slice Av v.length cv, .slice Ar r.length cr, .slice Aq q.length cq], .int .i64 k] wr fun e w' => e = .returned (.bool (Sg.colS g ⟨v, r, q⟩ k)) ∧ Ext wr w' := by rw [Hvg.out, Hrg.out, Hqg.out]; exact HCk
      have HCK := Lib.hid HCk
      clear HCk
      cases hg : Sg.colS g ⟨v, r, q⟩ k
      · have Hg := Lib.hid hg
        clear hg
        go_wp2_with (go_at_call 126; refine HCK.out.mono ?_; rintro e w3 ⟨rfl, he3⟩; rw [Hg.out])
        go_ret
        exact ⟨ret_bool (by rw [CS_bad g _ k hlt Hg.out]), ee.tr he3⟩
      · have Hg := Lib.hid hg
        clear hg
        go_wp2_with (go_at_call 126; refine HCK.out.mono ?_; rintro e w3 ⟨rfl, he3⟩; rw [Hg.out])
        go_roundw
        case rel => exact ⟨k + 1, by omega, by go_num, he.tr he3, by rw [CS_succ, HR.out, Hg.out]; rfl⟩
        case measure => simp [intOf]; omega
    · obtain rfl : k = g.length := by omega
      have hfin : Sg.validLS g ⟨v, r, q⟩ = true := by
        unfold Sg.validLS Sg.shapeL Sg.inR999
        have := HR.out
        unfold CS at this
        simp only [this, HG.out, HI.out, HQ.out, Hvg.out, Hrg.out, Hqg.out, decide_true, Bool.and_self]
      have Hfin := Lib.hid hfin
      clear hfin
      go_wp2
      go_ret
      exact ⟨ret_bool (by rw [Hfin.out]), ee⟩
end Go.Proofs.YtkbihkggneaeeaaGreat
