/- The program's ValidGraph: its contract. Conditions: none but the reading of the graph. -/
import Derived.Test.YtkkegmimofmhpaaImplB
import Derived.Test.YtkkegmimofmhpaaImplF
import Derived.Test.YtkkegmimofmhpaaSpecI
namespace Go.Proofs.Ytkkegmimofmhpaa
open Go.RowKit

theorem validF_reads {f : List Sg.Part} (h : Sg.validF f = true) : ∀ p ∈ f, p.kind = 1 → 0 ≤ p.n ∧ p.n ≤ 9 := by
  intro p hp hk
  exact Sg.mayRead_range (Sg.mem_mayRead h hp hk)

set_option maxRecDepth 100000 in
set_option maxHeartbeats 4000000 in
theorem i_ValidGraph (A : Option Addr) (c : Nat) (g : Sg.Graph) (w : World) (h : RdN w A g) :
    Calls Try.prog 72 #[.agg #[.slice A g.length c]] w fun e w' => e = .returned (.bool (Sg.validG g)) ∧ Ext w w' := by
  have hgl := h.1
  go_enter Try.func72, Try.ntmps72
  go_wp2
  go_loopw [10] (fun i wr => ∃ k : Nat, k ≤ g.length ∧ i = .int .i64 k ∧ Ext w wr ∧ wr.cell? ⟨w.heap.size, 0, none⟩ = some (.slice A g.length c) ∧ VG g k = true) (fun i _ => g.length - (intOf i).toNat)
  case atStart => exact ⟨0, Nat.zero_le _, rfl, (Ext.rfl' w).al _, by simp [go_sem], rfl⟩
  case round =>
    obtain ⟨k, hk, rfl, he, hbox, hvg⟩ := hrel
    have hbw := blt hbox
    have HV := Lib.hid hvg
    clear hvg
    by_cases hlt : k < g.length
    · obtain ⟨⟨nk, nf⟩, b, o, Ap, cp, hn, rfl, hkc, hs, hf, hfl⟩ := (h.ext he).at_ hlt
      dsimp only at *
      have hbb := blt hkc
      have cases : nk = 0 ∨ (nk = 1 ∨ nk = 2) ∨ (¬ nk = 0 ∧ ¬ nk = 1 ∧ ¬ nk = 2) := by omega
      rcases cases with hz | hz | hz
      · have hg := Lib.hid (goodNode_cell hn hz)
        subst hz
        clear hn
        by_cases hl : 0 < nf.length
        · go_wp2
          go_ret
          exact ⟨ret_bool (by rw [VG_bad g k hlt (by rw [hg.out]; simp; intro e; simp [e] at hl)]), he.al _⟩
        · go_wp2
          go_roundw
          case rel => exact ⟨k + 1, by omega, by go_num, he.al _, ((Ext.rfl' _).al _).cellE hbox, by rw [VG_succ, HV.out, hg.out]; simp; exact List.length_eq_zero_iff.1 (by omega)⟩
          case measure => simp [intOf]; omega
      · have hg := Lib.hid (goodNode_form hn hz)
        have HF := Lib.hid (i_ValidFormula Ap cp nf)
        have hGR : Sg.goodReads g k = (Sg.mayRead nf).all (Sg.goodRead g k) := by unfold Sg.goodReads; simp [hn]
        have HGR := Lib.hid hGR
        clear hn hGR
        cases hv : Sg.validF nf
        · have Hv := Lib.hid hv
          clear hv
          rcases hz with rfl | rfl
          all_goals
            go_wp2_with (go_at_call 137; refine (HF.out _ (hf.ext ((Ext.rfl' _).al _)) hfl).mono ?_; rintro e w2 ⟨rfl, he2⟩; rw [Hv.out])
            go_ret
            exact ⟨ret_bool (by rw [VG_bad g k hlt (by rw [hg.out, Hv.out]; rfl)]), (he.al _).tr he2⟩
        · have Hv := Lib.hid hv
          have hr : ∀ x ∈ Sg.mayRead nf, 0 ≤ x ∧ x ≤ 9 := fun x hx => Sg.mayRead_range hx
          have Hr := Lib.hid hr
          have HM := Lib.hid (i_mayRead Ap cp nf)
          clear hv hr
          rcases hz with rfl | rfl
          all_goals
            go_wp2_with (first
              | (go_at_call 137; refine (HF.out _ (hf.ext ((Ext.rfl' _).al _)) hfl).mono ?_; rintro e w2 ⟨rfl, he2⟩; rw [Hv.out]; obtain ⟨bc, bf⟩ := bcell he2; have ee2 := (he.al _).tr he2; have hbx2 := he2.cellE (((Ext.rfl' _).al _).cellE hbox))
              | (go_at_call 138; refine (HM.out _ ((hf.ext ((Ext.rfl' _).al _)).ext he2) hfl (validF_reads Hv.out)).mono ?_; rintro e w3 ⟨A3, c3, rfl, ho3, he3⟩))
            have e3 := ee2.tr he3
            have hbx3 := he3.cellE hbx2
            have hL : Sg.mayRead nf = Sg.mayRead nf := rfl
            have hm3 := ho3.rd.big
            clear bc bf hL
            go_loopw [35] (fun j wi => ∃ j' : Nat, j' ≤ (Sg.mayRead nf).length ∧ j = .int .i64 j' ∧ Ext w3 wi ∧ ((Sg.mayRead nf).drop j').all (Sg.goodRead g k) = (Sg.mayRead nf).all (Sg.goodRead g k)) (fun j _ => (Sg.mayRead nf).length - (intOf j).toNat)
            case atStart => exact ⟨0, Nat.zero_le _, rfl, Ext.rfl' _, rfl⟩
            case round =>
              obtain ⟨j, hj, rfl, hei, hall⟩ := hrel
              have hbxi := hei.cellE hbx3
              by_cases hlj : j < (Sg.mayRead nf).length
              · obtain ⟨bl, ol, x, rfl, hx, hcx⟩ := (ho3.rd.ext hei).at1 hlj
                have hxr := Hr.out x (List.mem_of_getElem? hx)
                rw [drop_cons _ j hx, List.all_cons] at hall
                have Hall := Lib.hid hall
                clear hall hx
                obtain ⟨X, rfl⟩ := Int.eq_ofNat_of_zero_le hxr.1
                by_cases hge : (k : Int) ≤ (X : Int)
                · have hge' : k ≤ X := by omega
                  go_wp2
                  go_ret
                  refine ⟨ret_bool ?_, e3.tr hei⟩
                  have : Sg.goodRead g k X = false := by unfold Sg.goodRead; simp; omega
                  rw [VG_bad g k hlt (by rw [hg.out, Hv.out, HGR.out, ← Hall.out, this]; rfl)]
                · have hlt' : decide ((k : Int) ≤ (X : Int)) = false := by simpa using hge
                  have hltN : decide (k ≤ X) = false := by simp; omega
                  have hXg : X < g.length := by omega
                  obtain ⟨m, b', o', Ap', cp', hm, ha, hkx, _, _, _⟩ := (h.ext (e3.tr hei)).at_ hXg
                  simp only [Option.some.injEq, Addr.mk.injEq, and_true] at ha
                  obtain ⟨rfl, rfl⟩ := ha
                  have hka : Sg.kindAt g X = m.kind := by unfold Sg.kindAt; simp [hm]
                  have Hka := Lib.hid hka
                  clear hka hm
                  by_cases h2 : m.kind = 2
                  · have h2' : (m.kind == 2) = true := by simp [h2]
                    have H2 := Lib.hid h2
                    clear h2
                    go_wp2
                    go_ret
                    refine ⟨ret_bool ?_, e3.tr hei⟩
                    have : Sg.goodRead g k X = false := by unfold Sg.goodRead; rw [Hka.out, H2.out]; simp
                    rw [VG_bad g k hlt (by rw [hg.out, Hv.out, HGR.out, ← Hall.out, this]; rfl)]
                  · have h2' : (m.kind == 2) = false := by simp [h2]
                    have H2 := Lib.hid h2
                    clear h2
                    go_wp2
                    go_roundw
                    case rel =>
                      refine ⟨j + 1, by omega, by go_num, hei, ?_⟩
                      have : Sg.goodRead g k X = true := by unfold Sg.goodRead; rw [Hka.out]; simp; exact ⟨by omega, H2.out⟩
                      rw [← Hall.out, this, Bool.true_and]
                    case measure => simp [intOf]; omega
              · have Hall := Lib.hid hall
                clear hall
                go_wp2
                go_roundw
                case rel => exact ⟨k + 1, by omega, by go_num, e3.tr hei, hbxi, by rw [VG_succ, HV.out, hg.out, Hv.out, HGR.out, ← Hall.out, List.drop_eq_nil_of_le (by omega)]; rfl⟩
                case measure => simp [intOf]; omega
      · have hg := Lib.hid (goodNode_none hn hz)
        have z0 : (nk == 0) = false := by rw [beq_eq_false_iff_ne]; omega
        have z1 : (nk == 1) = false := by rw [beq_eq_false_iff_ne]; omega
        have z2 : (nk == 2) = false := by rw [beq_eq_false_iff_ne]; omega
        clear hn hz
        go_wp2
        go_ret
        exact ⟨ret_bool (by rw [VG_bad g k hlt hg.out]), he.al _⟩
    · obtain rfl : k = g.length := by omega
      have hfin : Sg.validG g = decide (g.length ≤ 10) := by
        unfold Sg.validG; have := HV.out; unfold VG at this; rw [this]; rfl
      have Hfin := Lib.hid hfin
      clear hfin
      go_wp2
      go_ret
      exact ⟨ret_bool (by rw [Hfin.out]; simp; omega), he⟩
end Go.Proofs.Ytkkegmimofmhpaa
