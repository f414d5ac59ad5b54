/- The reference's goodReads and validGraph: contracts. Conditions: bounds on lengths. -/
import Derived.Test.YtkkegmimofmhpaaSpecF
import Derived.Deep.QuietTactic
import Derived.BigQuiet
namespace Go.Proofs.Ytkkegmimofmhpaa
open Go.RowKit

set_option maxRecDepth 100000 in
set_option maxHeartbeats 2000000 in
theorem s_goodReads (A : Option Addr) (c i : Nat) (g : Sg.Graph) (w : World) (h : RdN w A g) (hi : i < g.length) :
    Calls Try.prog 136 #[.agg #[.slice A g.length c], .int .i64 i] w fun e w' => e = .returned (.bool (Sg.goodReads g i)) ∧ Ext w w' := by
  have hgl := h.1
  obtain ⟨n, b, o, Ap, cp, hn, rfl, hk, hs, hf, hfl⟩ := h.at_ hi
  have hbw := blt hk
  have hd : Sg.goodReads g i = (Sg.mayRead n.f).all (Sg.goodRead g i) := by unfold Sg.goodReads; simp [hn]
  have Hd := Lib.hid hd
  have hr : ∀ x ∈ Sg.mayRead n.f, 0 ≤ x ∧ x ≤ 9 := fun x hx => Sg.mayRead_range hx
  have Hr := Lib.hid hr
  clear hd hn hr
  go_enter Try.func136, Try.ntmps136
  go_wp2_with fail
  have e0 := (Ext.rfl' w).al (.cells #[.slice (some ⟨b, o, none⟩) g.length c] 25)
  refine (s_mayRead _ _ _ _ (hf.ext e0) hfl).mono ?_
  rintro e w1 ⟨A1, c1, rfl, ho1, he1⟩
  have e1 := e0.tr he1
  have hbox : w1.cell? ⟨w.heap.size, 0, none⟩ = some (.slice (some ⟨b, o, none⟩) g.length c) := he1.cellE (by simp [go_sem])
  generalize Sg.mayRead n.f = L at *
  go_wp2_with fail
  go_loopw [6] (fun k wr => ∃ j : Nat, j ≤ L.length ∧ k = .int .i64 j ∧ Ext w1 wr ∧ (L.drop j).all (Sg.goodRead g i) = L.all (Sg.goodRead g i)) (fun k _ => L.length - (intOf k).toNat)
  case atStart => exact ⟨0, Nat.zero_le _, rfl, Ext.rfl' _, rfl⟩
  case round =>
    obtain ⟨j, hj, rfl, he, hall⟩ := hrel
    have hbx := he.cellE hbox
    clear hbox
    have hLm : L.length ≤ 9223372036854775807 := ho1.rd.big
    by_cases hlt : j < L.length
    · obtain ⟨bl, ol, x, rfl, hx, hcx⟩ := (ho1.rd.ext he).at1 hlt
      have hxr := Hr.out x (List.mem_of_getElem? hx)
      rw [drop_cons L j hx, List.all_cons] at hall
      have Hall := Lib.hid hall
      clear hall hx
      obtain ⟨X, rfl⟩ := Int.eq_ofNat_of_zero_le hxr.1
      by_cases hge : (i : Int) ≤ (X : Int)
      · have hge' : i ≤ X := by omega
        go_wp2
        go_quiet (fail)
        go_wp2
        go_ret
        refine ⟨ret_bool ?_, e1.tr (he.drN _)⟩
        rw [Hd.out, ← Hall.out]
        have : Sg.goodRead g i X = false := by unfold Sg.goodRead; simp; omega
        rw [this]; rfl
      · have hlt' : decide ((i : Int) ≤ (X : Int)) = false := by simpa using hge
        have hltN : decide (i ≤ X) = false := by simp; omega
        have hXg : X < g.length := by omega
        obtain ⟨m, b', o', Ap', cp', hm, ha, hkx, _, _, _⟩ := (h.ext (e1.tr he)).at_ hXg
        simp only [Option.some.injEq, Addr.mk.injEq, and_true] at ha
        obtain ⟨rfl, rfl⟩ := ha
        have hka : Sg.kindAt g X = m.kind := by unfold Sg.kindAt; simp [hm]
        have Hka := Lib.hid hka
        clear hka hm
        by_cases h2 : m.kind = 2
        · have h2' : (m.kind == 2) = true := by simp [h2]
          have H2 := Lib.hid h2
          clear h2
          go_wp2
          go_quiet (fail)
          go_wp2
          go_ret
          refine ⟨ret_bool ?_, e1.tr (he.drN _)⟩
          rw [Hd.out, ← Hall.out]
          have : Sg.goodRead g i X = false := by unfold Sg.goodRead; rw [Hka.out, H2.out]; simp
          rw [this]; rfl
        · have h2' : (m.kind == 2) = false := by simp [h2]
          have H2 := Lib.hid h2
          clear h2
          go_wp2
          go_quiet (fail)
          go_wp2
          go_roundw
          case rel =>
            refine ⟨j + 1, by omega, by go_num, he.drN _, ?_⟩
            have : Sg.goodRead g i X = true := by unfold Sg.goodRead; rw [Hka.out]; simp; exact ⟨by omega, H2.out⟩
            rw [← Hall.out, this, Bool.true_and]
          case measure => simp [intOf]; omega
    · have Hall := Lib.hid hall
      clear hall
      go_wp2
      go_ret
      refine ⟨ret_bool ?_, e1.tr he⟩
      rw [Hd.out, ← Hall.out, List.drop_eq_nil_of_le (by omega)]; rfl
end Go.Proofs.Ytkkegmimofmhpaa
