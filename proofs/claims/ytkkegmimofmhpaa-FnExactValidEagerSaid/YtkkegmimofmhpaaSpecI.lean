/- The reference's validGraph: its contract. Conditions: none but the reading of the graph. -/
import Derived.Test.YtkkegmimofmhpaaSpecG
namespace Go.Proofs.Ytkkegmimofmhpaa
open Go.RowKit

def VG (g : Sg.Graph) (k : Nat) : Bool := (List.range k).all (Sg.goodNode g)
theorem VG_succ (g : Sg.Graph) (k : Nat) : VG g (k + 1) = (VG g k && Sg.goodNode g k) := by unfold VG; rw [List.range_succ, List.all_append]; simp
theorem VG_bad (g : Sg.Graph) (k : Nat) (hk : k < g.length) (h : Sg.goodNode g k = false) : Sg.validG g = false := by
  have : (List.range g.length).all (Sg.goodNode g) = false := by
    rw [List.all_eq_false]; exact ⟨k, by rw [List.mem_range]; exact hk, by rw [h]; simp⟩
  unfold Sg.validG; rw [this]; rfl
theorem goodNode_cell {g : Sg.Graph} {k : Nat} {n : Sg.Node} (hn : g[k]? = some n) (h : n.kind = 0) : Sg.goodNode g k = decide (n.f.length = 0) := by
  unfold Sg.goodNode; simp [hn, h]
  cases n.f <;> rfl
theorem goodNode_form {g : Sg.Graph} {k : Nat} {n : Sg.Node} (hn : g[k]? = some n) (h : n.kind = 1 ∨ n.kind = 2) : Sg.goodNode g k = (Sg.validF n.f && Sg.goodReads g k) := by
  unfold Sg.goodNode; simp only [List.getD_eq_getElem?_getD, hn, Option.getD_some]; rw [if_neg (by omega), if_pos h]
theorem goodNode_none {g : Sg.Graph} {k : Nat} {n : Sg.Node} (hn : g[k]? = some n) (h : ¬ n.kind = 0 ∧ ¬ n.kind = 1 ∧ ¬ n.kind = 2) : Sg.goodNode g k = false := by
  unfold Sg.goodNode; simp only [List.getD_eq_getElem?_getD, hn, Option.getD_some]; rw [if_neg h.1, if_neg (by omega)]

set_option maxRecDepth 100000 in
set_option maxHeartbeats 2000000 in
theorem s_validGraph (A : Option Addr) (c : Nat) (g : Sg.Graph) (w : World) (h : RdN w A g) :
    Calls Try.prog 69 #[.agg #[.slice A g.length c]] w fun e w' => e = .returned (.bool (Sg.validG g)) ∧ Ext w w' := by
  have hgl := h.1
  go_enter Try.func69, Try.ntmps69
  go_wp2
  go_loopw [3] (fun i wr => ∃ k : Nat, k ≤ g.length ∧ i = .int .i64 k ∧ Ext w wr ∧ wr.cell? ⟨w.heap.size, 0, none⟩ = some (.slice A g.length c) ∧ VG g k = true) (fun i _ => g.length - (intOf i).toNat)
  case atStart => exact ⟨0, Nat.zero_le _, rfl, (Ext.rfl' w).al _, by simp [go_sem], rfl⟩
  case round =>
    obtain ⟨k, hk, rfl, he, hbox, hvg⟩ := hrel
    have hbw := blt hbox
    have HV := Lib.hid hvg
    clear hvg
    by_cases hlt : k < g.length
    · obtain ⟨⟨nk, nf⟩, b, o, Ap, cp, hn, rfl, hkc, hs, hf, hfl⟩ := (h.ext he).at_ hlt
      dsimp only at *
      have hbb := blt hkc
      have cases : nk = 0 ∨ (nk = 1 ∨ nk = 2) ∨ (¬ nk = 0 ∧ ¬ nk = 1 ∧ ¬ nk = 2) := by omega
      rcases cases with hz | hz | hz
      · have hg := Lib.hid (goodNode_cell hn hz)
        subst hz
        clear hn
        by_cases hl : 0 < nf.length
        · go_wp2
          go_ret
          exact ⟨ret_bool (by rw [VG_bad g k hlt (by rw [hg.out]; simp; intro e; simp [e] at hl)]), he.al _⟩
        · go_wp2
          go_roundw
          case rel => exact ⟨k + 1, by omega, by go_num, he.al _, ((Ext.rfl' _).al _).cellE hbox, by rw [VG_succ, HV.out, hg.out]; simp; exact List.length_eq_zero_iff.1 (by omega)⟩
          case measure => simp [intOf]; omega
      · have hg := Lib.hid (goodNode_form hn hz)
        have HG := Lib.hid (s_goodReads (some ⟨b, o, none⟩) c k g)
        have HF := Lib.hid (s_validFormula Ap cp nf)
        clear hn
        cases hv : Sg.validF nf
        · have Hv := Lib.hid hv
          clear hv
          rcases hz with rfl | rfl
          all_goals
            go_wp2_with (go_at_call 135; refine (HF.out _ (hf.ext ((Ext.rfl' _).al _)) hfl).mono ?_; rintro e w2 ⟨rfl, he2⟩; rw [Hv.out])
            go_ret
            exact ⟨ret_bool (by rw [VG_bad g k hlt (by rw [hg.out, Hv.out]; rfl)]), (he.al _).tr he2⟩
        · have Hv := Lib.hid hv
          clear hv
          cases hr : Sg.goodReads g k
          · have Hr := Lib.hid hr
            clear hr
            rcases hz with rfl | rfl
            all_goals
              go_wp2_with (first
                | (go_at_call 135; refine (HF.out _ (hf.ext ((Ext.rfl' _).al _)) hfl).mono ?_; rintro e w2 ⟨rfl, he2⟩; rw [Hv.out]; have hbx2 := he2.cellE (((Ext.rfl' _).al _).cellE hbox))
                | (go_at_call 136; refine (HG.out _ (h.ext ((he.al _).tr he2)) hlt).mono ?_; rintro e w3 ⟨rfl, he3⟩; rw [Hr.out]))
              go_ret
              exact ⟨ret_bool (by rw [VG_bad g k hlt (by rw [hg.out, Hv.out, Hr.out]; rfl)]), ((he.al _).tr he2).tr he3⟩
          · have Hr := Lib.hid hr
            clear hr
            rcases hz with rfl | rfl
            all_goals
              go_wp2_with (first
                | (go_at_call 135; refine (HF.out _ (hf.ext ((Ext.rfl' _).al _)) hfl).mono ?_; rintro e w2 ⟨rfl, he2⟩; rw [Hv.out]; have hbx2 := he2.cellE (((Ext.rfl' _).al _).cellE hbox))
                | (go_at_call 136; refine (HG.out _ (h.ext ((he.al _).tr he2)) hlt).mono ?_; rintro e w3 ⟨rfl, he3⟩; rw [Hr.out]))
              go_roundw
              case rel => exact ⟨k + 1, by omega, by go_num, ((he.al _).tr he2).tr he3, he3.cellE hbx2, by rw [VG_succ, HV.out, hg.out, Hv.out, Hr.out]; rfl⟩
              case measure => simp [intOf]; omega
      · have hg := Lib.hid (goodNode_none hn hz)
        have z0 : (nk == 0) = false := by rw [beq_eq_false_iff_ne]; omega
        have z1 : (nk == 1) = false := by rw [beq_eq_false_iff_ne]; omega
        have z2 : (nk == 2) = false := by rw [beq_eq_false_iff_ne]; omega
        clear hn hz
        go_wp2
        go_ret
        exact ⟨ret_bool (by rw [VG_bad g k hlt hg.out]), he.al _⟩
    · obtain rfl : k = g.length := by omega
      have hfin : Sg.validG g = decide (g.length ≤ 10) := by
        unfold Sg.validG; have := HV.out; unfold VG at this; rw [this]; rfl
      have Hfin := Lib.hid hfin
      clear hfin
      go_wp2
      go_ret
      exact ⟨ret_bool (by rw [Hfin.out]; simp; omega), he⟩
end Go.Proofs.Ytkkegmimofmhpaa
