/- The reference's validEager: its contract. Conditions: none but the reading of the arguments. -/
import Derived.Test.YtkkegmimofmhpaaSpecI
import Derived.Test.YtkkegmimofmhpaaSpecH
import Derived.StillTailTactics
import Derived.Deep.RegionHeld3
namespace Go.Proofs.Ytkkegmimofmhpaa
open Go.RowKit

def RA (g : Sg.Graph) (v : List Int) (r : List (List Int)) (k : Nat) : Bool := (List.range k).all (Sg.rightAt g v r)
theorem RA_succ (g : Sg.Graph) (v : List Int) (r : List (List Int)) (k : Nat) : RA g v r (k + 1) = (RA g v r k && Sg.rightAt g v r k) := by unfold RA; rw [List.range_succ, List.all_append]; simp
theorem RA_bad (g : Sg.Graph) (v : List Int) (r : List (List Int)) (k : Nat) (hk : k < g.length) (h : Sg.rightAt g v r k = false) : Sg.validE g ⟨v, r⟩ = false := by
  have : (List.range g.length).all (Sg.rightAt g v r) = false := by
    rw [List.all_eq_false]; exact ⟨k, by rw [List.mem_range]; exact hk, by rw [h]; simp⟩
  unfold Sg.validE; rw [this]; simp
theorem rightAt_cell {g : Sg.Graph} {v : List Int} {r : List (List Int)} {k : Nat} {n : Sg.Node} {l : List Int} (hn : g[k]? = some n) (hl : r[k]? = some l) (h : n.kind = 0) : Sg.rightAt g v r k = decide ([] = l) := by
  unfold Sg.rightAt; simp [hn, hl, h]
  cases l <;> rfl
theorem rightAt_form {g : Sg.Graph} {v : List Int} {r : List (List Int)} {k : Nat} {n : Sg.Node} {l : List Int} {x : Int} (hn : g[k]? = some n) (hl : r[k]? = some l) (hx : v[k]? = some x) (h : ¬ n.kind = 0) :
    Sg.rightAt g v r k = (decide ((Sg.runF n.f v).1 = x) && decide ((Sg.runF n.f v).2 = l)) := by
  unfold Sg.rightAt; simp [hn, hl, hx, h]

set_option maxRecDepth 100000 in
set_option maxHeartbeats 2000000 in
theorem s_validEager (A Av Ar : Option Addr) (c cv cr : Nat) (g : Sg.Graph) (v : List Int) (r : List (List Int)) (w : World) (h : RdN w A g) (hv : Rd w 1 Av v.length (ints v)) (hr : RdL w Ar r) (hvl : v.length ≤ 1048576) :
    Calls Try.prog 82 #[.agg #[.slice A g.length c], .agg #[.slice Av v.length cv, .slice Ar r.length cr]] w fun e w' => e = .returned (.bool (Sg.validE g ⟨v, r⟩)) ∧ Ext w w' := by
  have hgl := h.1
  have hrl := hr.1
  have HVG := Lib.hid (s_validGraph A c g)
  have HAI := Lib.hid (s_allIn Av v.length cv v 0 999)
  have e0 := ((Ext.rfl' w).al (.cells #[.slice A g.length c] 25)).al (.cells #[.slice Av v.length cv, .slice Ar r.length cr] 31)
  cases hG : Sg.validG g
  · have HG := Lib.hid hG
    clear hG
    go_enter Try.func82, Try.ntmps82
    go_wp2_with (go_at_call 69; refine (HVG.out _ (h.ext e0)).mono ?_; rintro e w1 ⟨rfl, he1⟩; rw [HG.out])
    go_ret
    exact ⟨ret_bool (by unfold Sg.validE; rw [HG.out]; rfl), e0.tr he1⟩
  have HG := Lib.hid hG
  clear hG
  by_cases hvg : v.length = g.length
  case neg =>
    have Hb := Lib.hid hvg
    have b1 : ((v.length : Int) != (g.length : Int)) = true := by simp; omega
    clear hvg
    go_enter Try.func82, Try.ntmps82
    go_wp2_with (go_at_call 69; refine (HVG.out _ (h.ext e0)).mono ?_; rintro e w1 ⟨rfl, he1⟩; rw [HG.out]; obtain ⟨bc, bf⟩ := bcell he1)
    go_ret
    exact ⟨ret_bool (by unfold Sg.validE; simp [Hb.out]), e0.tr he1⟩
  have b1 : ((v.length : Int) != (g.length : Int)) = false := by simp; omega
  by_cases hrg : r.length = g.length
  case neg =>
    have Hb := Lib.hid hrg
    have b2 : ((r.length : Int) != (g.length : Int)) = true := by simp; omega
    clear hvg hrg
    go_enter Try.func82, Try.ntmps82
    go_wp2_with (go_at_call 69; refine (HVG.out _ (h.ext e0)).mono ?_; rintro e w1 ⟨rfl, he1⟩; rw [HG.out]; obtain ⟨bc, bf⟩ := bcell he1)
    go_ret
    exact ⟨ret_bool (by unfold Sg.validE; simp [Hb.out]), e0.tr he1⟩
  have b2 : ((r.length : Int) != (g.length : Int)) = false := by simp; omega
  cases hI : (v.all fun x => Sg.inR x 0 999)
  · have HI := Lib.hid hI
    clear hI hvg hrg
    go_enter Try.func82, Try.ntmps82
    go_wp2_with (first
      | (go_at_call 69; refine (HVG.out _ (h.ext e0)).mono ?_; rintro e w1 ⟨rfl, he1⟩; rw [HG.out]; obtain ⟨bc, bf⟩ := bcell he1)
      | (go_at_call 143; refine (HAI.out _ (hv.ext (e0.tr he1))).mono ?_; rintro e w2 ⟨rfl, rfl⟩; rw [HI.out]))
    go_ret
    exact ⟨ret_bool (by unfold Sg.validE Sg.inR999; rw [HI.out]; simp), e0.tr he1⟩
  have HI := Lib.hid hI
  have Hvg := Lib.hid hvg
  have Hrg := Lib.hid hrg
  clear hI hvg hrg
  go_enter Try.func82, Try.ntmps82
  go_wp2_with (first
    | (go_at_call 69; refine (HVG.out _ (h.ext e0)).mono ?_; rintro e w1 ⟨rfl, he1⟩; rw [HG.out]; obtain ⟨bc, bf⟩ := bcell he1)
    | (go_at_call 143; refine (HAI.out _ (hv.ext (e0.tr he1))).mono ?_; rintro e w2 ⟨rfl, rfl⟩; rw [HI.out]))
  have e1 := e0.tr he1
  have hb1 : w1.cell? ⟨w.heap.size, 0, none⟩ = some (.slice A g.length c) := he1.cellE (by simp [go_sem])
  have hb2 : w1.cell? ⟨w.heap.size + 1, 0, none⟩ = some (.slice Av v.length cv) := he1.cellE (by simp [go_sem])
  have hb3 : w1.cell? ⟨w.heap.size + 1, 1, none⟩ = some (.slice Ar r.length cr) := he1.cellE (by simp [go_sem])
  clear bc bf he1 e0 b1 b2 HVG HAI
  go_loopw [5] (fun i wr => ∃ k : Nat, k ≤ g.length ∧ i = .int .i64 k ∧ Ext w1 wr ∧ RA g v r k = true) (fun i _ => g.length - (intOf i).toNat)
  case atStart => exact ⟨0, Nat.zero_le _, rfl, Ext.rfl' _, rfl⟩
  case round =>
    obtain ⟨k, hk, rfl, he, hra⟩ := hrel
    have HR := Lib.hid hra
    have c1 := he.cellE hb1
    have c2 := he.cellE hb2
    have c3 := he.cellE hb3
    have ee := e1.tr he
    clear hra hb1 hb2 hb3
    by_cases hlt : k < g.length
    · obtain ⟨⟨nk, nf⟩, b, o, Ap, cp, hn, rfl, hkc, hs, hf, hfl⟩ := (h.ext ee).at_ hlt
      obtain ⟨l, b', o', Al, cl, hl, rfl, hlc, hlr, hll⟩ := (hr.ext ee).at_ (i := k) (by rw [Hrg.out]; exact hlt)
      obtain ⟨bv, ov, x, rfl, hx, hxc⟩ := (hv.ext ee).at1 (k := k) (by rw [Hvg.out]; exact hlt)
      have bw1 := blt c1
      have bw2 := blt c2
      have bw3 := blt hkc
      have bw4 := blt hlc
      have bw5 := blt hxc
      have kr : k < r.length := by rw [Hrg.out]; exact hlt
      have kv : k < v.length := by rw [Hvg.out]; exact hlt
      dsimp only at *
      by_cases hz : nk = 0
      · have hg := Lib.hid (rightAt_cell hn hl hz (v := v))
        have z0 : (nk != 0) = false := by simp [hz]
        clear hn hl hx hz
        have xeq : (x != x) = false := by simp
        have HS := Lib.hid (s_sameInts (some ⟨wr.heap.size, 0, none⟩) Al 0 cl [] l (wr.alloc (.cells #[] 3)) (Own.nw (Ext.rfl' wr) _ [] #[] rfl (by simp) rfl).rd (hlr.ext ((Ext.rfl' _).al _)) (by simp))
        by_cases hleq : [] = l
        · have hb1 : decide ([] = l) = true := by simp [hleq]
          have Hb1 := Lib.hid hb1
          clear hb1 hleq
          go_wp2_with (go_at_call 145; refine HS.out.mono ?_; rintro e w3 ⟨rfl, he3⟩; rw [Hb1.out])
          go_roundw
          case rel => exact ⟨k + 1, by omega, by go_num, (he.al _).tr he3, by rw [RA_succ, HR.out, hg.out, Hb1.out]; rfl⟩
          case measure => simp [intOf]; omega
        · have hb1 : decide ([] = l) = false := by simp [hleq]
          have Hb1 := Lib.hid hb1
          clear hb1 hleq
          go_wp2_with (go_at_call 145; refine HS.out.mono ?_; rintro e w3 ⟨rfl, he3⟩; rw [Hb1.out])
          go_ret
          exact ⟨ret_bool (by rw [RA_bad g v r k hlt (by rw [hg.out, Hb1.out])]), (ee.al _).tr he3⟩
      · have hg := Lib.hid (rightAt_form hn hl hx hz)
        have z0 : (nk != 0) = true := by simp [hz]
        have hok := Sg.validG_fok HG.out k hn hz
        have hin : Sg.inRange v := Sg.inR999_range HI.out
        have hlen12 := hok.len
        have hread : (Sg.runF nf v).2.length ≤ 4194304 := by
          have h1 := firstOnly_len (Sg.reck nf v nf.length ((nf.length : Int) - 1)).2
          have h2 := Sg.reck_len nf v nf.length ((nf.length : Int) - 1)
          have h3 : 2 ^ nf.length ≤ 2 ^ 12 := Nat.pow_le_pow_right (by omega) hlen12
          unfold Sg.runF; dsimp only; omega
        have Hrun := Lib.hid (s_run Ap (some ⟨bv, ov, none⟩) cp cv v.length nf v ⟨hok.good, hok.len, hok.one, fun p hp hpk => by have := hok.reads p hp hpk; dsimp only at *; omega⟩ hin)
        clear hn hl hx hz hok hin
        go_wp2
        go_region_held3 (fun W => W.cell? ⟨w.heap.size, 0, none⟩ = some (.slice (some ⟨b, o, none⟩) g.length c) ∧ W.cell? ⟨w.heap.size + 1, 0, none⟩ = some (.slice (some ⟨bv, ov, none⟩) v.length cv) ∧ W.cell? ⟨b, o + k * 2 + 1, none⟩ = some (.slice Ap nf.length cp)) (first | exact ⟨k1, k2, k3⟩ | go_keep)
          (first | (go_at_call 144; refine (Hrun.out _ (hf.ext (((Ext.rfl' _).al _).dr)) ((hv.ext ee).ext (((Ext.rfl' _).al _).dr))).mono ?_; rintro e w2 ⟨A2, c2', rfl, ho2, he2, hx0, hx1⟩; have e2 := (((Ext.rfl' wr).al (.cells #[] 3)).dr).tr he2; have k1 := e2.cellE c1; have k2 := e2.cellE c2; have k3 := e2.cellE hs))
        have k4 := e2.cellE c3
        have k5 := e2.cellE hxc
        have k6 := e2.cellE hlc
        have HS := Lib.hid (s_sameInts A2 Al c2' cl (Sg.runF nf v).2 l w2 ho2.rd (hlr.ext e2) hread)
        by_cases hveq : (Sg.runF nf v).1 = x
        · have hb0 : ((Sg.runF nf v).1 != x) = false := by simp [hveq]
          have Hveq := Lib.hid hveq
          clear hveq
          by_cases hleq : (Sg.runF nf v).2 = l
          · have hb1 : decide ((Sg.runF nf v).2 = l) = true := by simp [hleq]
            have Hb1 := Lib.hid hb1
            clear hb1 hleq
            go_wp2_with (go_at_call 145; refine HS.out.mono ?_; rintro e w3 ⟨rfl, he3⟩; rw [Hb1.out])
            go_roundw
            case rel => exact ⟨k + 1, by omega, by go_num, (he.tr e2).tr he3, by rw [RA_succ, HR.out, hg.out, Hb1.out]; simp [Hveq.out]⟩
            case measure => simp [intOf]; omega
          · have hb1 : decide ((Sg.runF nf v).2 = l) = false := by simp [hleq]
            have Hb1 := Lib.hid hb1
            clear hb1 hleq
            go_wp2_with (go_at_call 145; refine HS.out.mono ?_; rintro e w3 ⟨rfl, he3⟩; rw [Hb1.out])
            go_ret
            exact ⟨ret_bool (by rw [RA_bad g v r k hlt (by rw [hg.out, Hb1.out]; simp)]), (ee.tr e2).tr he3⟩
        · have hb0 : ((Sg.runF nf v).1 != x) = true := by simp [hveq]
          have Hveq := Lib.hid hveq
          clear hveq
          go_wp2
          go_ret
          exact ⟨ret_bool (by rw [RA_bad g v r k hlt (by rw [hg.out]; simp [Hveq.out])]), ee.tr e2⟩
    · obtain rfl : k = g.length := by omega
      have hfin : Sg.validE g ⟨v, r⟩ = true := by
        unfold Sg.validE Sg.inR999
        have := HR.out
        unfold RA at this
        simp only [this, HG.out, HI.out, Hvg.out, Hrg.out, decide_true, Bool.and_self]
      have Hfin := Lib.hid hfin
      clear hfin
      go_wp2
      go_ret
      exact ⟨ret_bool (by rw [Hfin.out]), ee⟩
end Go.Proofs.Ytkkegmimofmhpaa
