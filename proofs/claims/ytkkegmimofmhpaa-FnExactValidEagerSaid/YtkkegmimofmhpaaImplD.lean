/- The program's eval with any function value that reads: its contract. Conditions: formulas that can be run. -/
import Derived.Test.YtkkegmimofmhpaaImplC
namespace Go.Proofs.Ytkkegmimofmhpaa
open Go.RowKit

set_option maxRecDepth 100000 in
set_option maxHeartbeats 2000000 in
theorem i_eval {fid : Nat} {caps : List Value} {σ : Type} {inv : σ → (Nat → Prop) → World → Prop} {val : σ → Int → Int} {nxt : σ → Int → σ} {dom : Int → Prop} {L : Nat} (C : Clo Try.prog fid caps σ inv val nxt dom L)
    (Af : Option Addr) (cf : Nat) (f : List Sg.Part) (ok : Sg.FOD f dom) (k : Nat) :
    ∀ (i : Nat) (s : σ) (F : Nat → Prop) (w : World), i < k → i < f.length → k ≤ 12 → inv s F w → Rd w 5 Af f.length (parts f) → off F Af →
    Calls Try.prog 167 #[.agg #[.slice Af f.length cf], .int .i64 i, .func (.func fid) #[] caps.toArray] w fun e w' => e = .returned (.int .i64 (Sg.evalM f val nxt k i s).1) ∧
      (∃ F', inv (Sg.evalM f val nxt k i s).2 F' w' ∧ Mod F w w' ∧ ∀ b, F' b → F b ∨ w.heap.size ≤ b) ∧ 0 ≤ (Sg.evalM f val nxt k i s).1 ∧ (Sg.evalM f val nxt k i s).1 ≤ 999 := by
  induction k with
  | zero => intro i s F w h; omega
  | succ k ih =>
    intro i s F w hik hif hk12 hinv hf hoff
    have IH := Lib.hid ih
    clear ih
    obtain ⟨b, o, p, rfl, hp, hc0, hc1, hc2, hc3, hc4⟩ := hf.atP hif
    have hlen := ok.len
    have hgp := ok.good i p hp
    have hrk := Sg.evalM_succ f val nxt k i s hp
    have hrp := ok.reads p (List.mem_of_getElem? hp)
    have hbw := blt hc0
    have hFb : ¬ F b := hoff b rfl
    have hFo : ∀ x, F x → x < w.heap.size := fun x => C.old s F w x hinv
    obtain ⟨pk, pa, pb, pc, pn⟩ := p
    dsimp only at *
    have e0 := ((Ext.rfl' w).al (.cells #[.slice (some ⟨b, o, none⟩) f.length cf] 92)).al (.cells #[.int .i64 pk, .int .i64 pa, .int .i64 pb, .int .i64 pc, .int .i64 pn] 168)
    have hent := C.ent
    have HI := Lib.hid hinv
    have HFo := Lib.hid hFo
    have HFb := Lib.hid hFb
    have HE := Lib.hid e0
    clear hinv hFo hFb hoff e0
    have cases : pk = 0 ∨ pk = 1 ∨ (2 ≤ pk ∧ pk ≤ 7) ∨ pk = 8 ∨ (pk < 0 ∨ 8 < pk) := by omega
    rcases cases with h | h | h | h | h
    · subst h
      rw [good0 i rfl] at hgp
      simp only [Bool.and_eq_true, Sg.inR, decide_eq_true_eq] at hgp
      rw [if_pos rfl] at hrk
      have Hrk := Lib.hid hrk
      clear hp hrk hrp
      go_enter Try.func167, Try.ntmps167
      go_wp2
      go_ret
      rw [Hrk.out]
      exact ⟨rfl, ⟨F, C.ext _ _ _ _ HI.out HE.out, Mod.of HE.out, fun x hx => .inl hx⟩, by show 0 ≤ pn; omega, by show pn ≤ 999; omega⟩
    · subst h
      rw [if_neg (by omega), if_pos rfl] at hrk
      have hd := hrp rfl
      have Hrk := Lib.hid hrk
      have Hd := Lib.hid hd
      have HC := Lib.hid C
      clear hp hrk hgp hrp hd C
      go_enter Try.func167, Try.ntmps167
      go_wp2_with fail
      refine (HC.out.call s F _ pn (HC.out.ext _ _ _ _ HI.out HE.out) Hd.out).mono ?_
      rintro e w1 ⟨rfl, F', hi1, hm1, hF1⟩
      have hr1 := HC.out.ran s F _ pn (HC.out.ext _ _ _ _ HI.out HE.out) Hd.out
      have Hfin := Lib.hid (And.intro hi1 (And.intro hm1 hF1))
      clear hi1 hm1 hF1
      go_wp2
      go_ret
      rw [Hrk.out]
      refine ⟨rfl, ⟨F', Hfin.out.1, (Mod.of HE.out).tr' Hfin.out.2.1, fun x hx => (Hfin.out.2.2 x hx).elim .inl fun e => .inr (Nat.le_trans HE.out.size e)⟩, hr1⟩
    · rw [good2 i h] at hgp
      simp only [Bool.and_eq_true, Sg.inR, decide_eq_true_eq] at hgp
      rw [if_neg (by omega), if_neg (by omega), if_neg (by omega)] at hrk
      obtain ⟨⟨⟨⟨ha0, ha1⟩, hb0, hb1⟩, _⟩, _⟩ := hgp
      obtain ⟨a, rfl⟩ := Int.eq_ofNat_of_zero_le ha0
      obtain ⟨d, rfl⟩ := Int.eq_ofNat_of_zero_le hb0
      have k0 : (pk == 0) = false := by rw [beq_eq_false_iff_ne]; omega
      have k1 : (pk == 1) = false := by rw [beq_eq_false_iff_ne]; omega
      have k8 : (pk == 8) = false := by rw [beq_eq_false_iff_ne]; omega
      have hFo := HFo.out
      have nF0 : ¬ F w.heap.size := fun e => by have := hFo _ e; omega
      have nF1 : ¬ F (w.heap.size + 1) := fun e => by have := hFo _ e; omega
      have HOff := Lib.hid (show off F (some ⟨b, o, none⟩) from fun x hx => by simp only [blk, Option.map_some, Option.some.injEq] at hx; subst hx; exact HFb.out)
      have HC := Lib.hid C
      clear hFo C hp hrp
      generalize hr1 : Sg.evalM f val nxt k a s = r1 at *
      obtain ⟨v1, s1⟩ := r1
      try dsimp only at *
      have Hr1 := Lib.hid hr1
      clear hr1
      generalize hr2 : Sg.evalM f val nxt k d s1 = r2 at *
      obtain ⟨v2, s2⟩ := r2
      try dsimp only at *
      have Hr2 := Lib.hid hr2
      have Hrk := Lib.hid hrk
      clear hr2 hrk
      go_enter Try.func167, Try.ntmps167
      go_wp2_with fail
      refine (IH.out a s F _ (by omega) (by omega) (by omega) (HC.out.ext _ _ _ _ HI.out HE.out) (hf.ext HE.out) HOff.out).mono ?_
      rw [Hr1.out]
      rintro e w1 ⟨rfl, ⟨F1, hi1, hm1, hF1⟩, hx0, hx1⟩
      have q0 : w1.cell? ⟨w.heap.size, 0, none⟩ = some (.slice (some ⟨b, o, none⟩) f.length cf) := hm1.cellE (by simp [go_sem]) nF0
      have q1 : w1.cell? ⟨w.heap.size + 1, 0, none⟩ = some (.int .i64 pk) := hm1.cellE (by simp [go_sem]) nF1
      have q2 : w1.cell? ⟨w.heap.size + 1, 1, none⟩ = some (.int .i64 a) := hm1.cellE (by simp [go_sem]) nF1
      have q3 : w1.cell? ⟨w.heap.size + 1, 2, none⟩ = some (.int .i64 d) := hm1.cellE (by simp [go_sem]) nF1
      have q4 : w1.cell? ⟨w.heap.size + 1, 3, none⟩ = some (.int .i64 pc) := hm1.cellE (by simp [go_sem]) nF1
      have hoff1 : off F1 (some ⟨b, o, none⟩) := by
        intro x hx hFx
        simp only [blk, Option.map_some, Option.some.injEq] at hx
        subst hx
        rcases hF1 _ hFx with hh | hh
        · exact HFb.out hh
        · have := HE.out.size; omega
      have hrd1 := (hf.ext HE.out).mod hm1 HOff.out
      have hz1 : w.heap.size + 1 < w1.heap.size := by have := hm1.size; simp at this; omega
      have n10 : ¬ F1 w.heap.size := by
        intro e; rcases hF1 _ e with hh | hh
        · exact nF0 hh
        · simp only [World.size_alloc] at hh; omega
      have n11 : ¬ F1 (w.heap.size + 1) := by
        intro e; rcases hF1 _ e with hh | hh
        · exact nF1 hh
        · simp only [World.size_alloc] at hh; omega
      have Hi1 := Lib.hid hi1
      have Hm1 := Lib.hid hm1
      have HF1 := Lib.hid hF1
      try dsimp only at *
      clear hi1 hm1 hF1
      go_wp2_with fail
      refine (IH.out d s1 F1 _ (by omega) (by omega) (by omega) Hi1.out hrd1 hoff1).mono ?_
      rw [Hr2.out]
      rintro e w2 ⟨rfl, ⟨F2, hi2, hm2, hF2⟩, hy0, hy1⟩
      have p1 : w2.cell? ⟨w.heap.size + 1, 0, none⟩ = some (.int .i64 pk) := hm2.cellE q1 n11
      have Hfin := Lib.hid (And.intro hi2 (And.intro hm2 hF2))
      have hj := Sg.joined_range pk v1 v2 ⟨hx0, hx1⟩ ⟨hy0, hy1⟩
      try dsimp only at *
      clear hi2 hm2 hF2
      go_wp2_with (go_at_call 189; refine (i_join _ _ _ _ hx0 hx1 hy0 hy1).mono ?_; rintro e w' ⟨rfl, rfl⟩)
      go_ret
      rw [Hrk.out]
      refine ⟨rfl, ⟨F2, Hfin.out.1, ((Mod.of HE.out).tr' Hm1.out).tr Hfin.out.2.1 (fun x hx => (HF1.out x hx).elim .inl fun e => .inr (Nat.le_trans HE.out.size e)), fun x hx => (Hfin.out.2.2 x hx).elim (fun e => (HF1.out x e).elim .inl fun e => .inr (Nat.le_trans HE.out.size e)) fun e => .inr (by omega)⟩, ?_⟩
      exact hj
    · subst h
      rw [good3 i rfl] at hgp
      simp only [Bool.and_eq_true, Sg.inR, decide_eq_true_eq] at hgp
      rw [if_neg (by omega), if_neg (by omega), if_pos rfl] at hrk
      obtain ⟨⟨⟨⟨ha0, ha1⟩, hb0, hb1⟩, hd0, hd1⟩, _⟩ := hgp
      obtain ⟨a, rfl⟩ := Int.eq_ofNat_of_zero_le ha0
      obtain ⟨d, rfl⟩ := Int.eq_ofNat_of_zero_le hb0
      obtain ⟨d', rfl⟩ := Int.eq_ofNat_of_zero_le hd0
      have hFo := HFo.out
      have nF0 : ¬ F w.heap.size := fun e => by have := hFo _ e; omega
      have nF1 : ¬ F (w.heap.size + 1) := fun e => by have := hFo _ e; omega
      have HOff := Lib.hid (show off F (some ⟨b, o, none⟩) from fun x hx => by simp only [blk, Option.map_some, Option.some.injEq] at hx; subst hx; exact HFb.out)
      have HC := Lib.hid C
      clear hFo C hp hrp
      generalize hr1 : Sg.evalM f val nxt k a s = r1 at *
      obtain ⟨v1, s1⟩ := r1
      try dsimp only at *
      have Hr1 := Lib.hid hr1
      clear hr1
      by_cases hv1 : v1 = 0
      · rw [if_pos hv1] at hrk
        generalize hr2 : Sg.evalM f val nxt k d' s1 = r2 at *
        obtain ⟨v2, s2⟩ := r2
        try dsimp only at *
        have Hr2 := Lib.hid hr2
        have Hrk := Lib.hid hrk
        have z1 : (v1 != 0) = false := by simp [hv1]
        clear hr2 hrk hv1
        go_enter Try.func167, Try.ntmps167
        go_wp2_with fail
        refine (IH.out a s F _ (by omega) (by omega) (by omega) (HC.out.ext _ _ _ _ HI.out HE.out) (hf.ext HE.out) HOff.out).mono ?_
        rw [Hr1.out]
        rintro e w1 ⟨rfl, ⟨F1, hi1, hm1, hF1⟩, hx0, hx1⟩
        have q0 : w1.cell? ⟨w.heap.size, 0, none⟩ = some (.slice (some ⟨b, o, none⟩) f.length cf) := hm1.cellE (by simp [go_sem]) nF0
        have q1 : w1.cell? ⟨w.heap.size + 1, 0, none⟩ = some (.int .i64 8) := hm1.cellE (by simp [go_sem]) nF1
        have q2 : w1.cell? ⟨w.heap.size + 1, 1, none⟩ = some (.int .i64 a) := hm1.cellE (by simp [go_sem]) nF1
        have q3 : w1.cell? ⟨w.heap.size + 1, 2, none⟩ = some (.int .i64 d) := hm1.cellE (by simp [go_sem]) nF1
        have q4 : w1.cell? ⟨w.heap.size + 1, 3, none⟩ = some (.int .i64 d') := hm1.cellE (by simp [go_sem]) nF1
        have hoff1 : off F1 (some ⟨b, o, none⟩) := by
          intro x hx hFx
          simp only [blk, Option.map_some, Option.some.injEq] at hx
          subst hx
          rcases hF1 _ hFx with hh | hh
          · exact HFb.out hh
          · have := HE.out.size; omega
        have hrd1 := (hf.ext HE.out).mod hm1 HOff.out
        have hz1 : w.heap.size + 1 < w1.heap.size := by have := hm1.size; simp at this; omega
        have n10 : ¬ F1 w.heap.size := by
          intro e; rcases hF1 _ e with hh | hh
          · exact nF0 hh
          · simp only [World.size_alloc] at hh; omega
        have n11 : ¬ F1 (w.heap.size + 1) := by
          intro e; rcases hF1 _ e with hh | hh
          · exact nF1 hh
          · simp only [World.size_alloc] at hh; omega
        have Hi1 := Lib.hid hi1
        have Hm1 := Lib.hid hm1
        have HF1 := Lib.hid hF1
        try dsimp only at *
        clear hi1 hm1 hF1
        go_wp2_with fail
        refine (IH.out d' s1 F1 _ (by omega) (by omega) (by omega) Hi1.out hrd1 hoff1).mono ?_
        rw [Hr2.out]
        rintro e w2 ⟨rfl, ⟨F2, hi2, hm2, hF2⟩, hy0, hy1⟩
        have Hfin := Lib.hid (And.intro hi2 (And.intro hm2 hF2))
        try dsimp only at *
        clear hi2 hm2 hF2
        go_wp2
        go_ret
        rw [Hrk.out]
        refine ⟨rfl, ⟨F2, Hfin.out.1, ((Mod.of HE.out).tr' Hm1.out).tr Hfin.out.2.1 (fun x hx => (HF1.out x hx).elim .inl fun e => .inr (Nat.le_trans HE.out.size e)), fun x hx => (Hfin.out.2.2 x hx).elim (fun e => (HF1.out x e).elim .inl fun e => .inr (Nat.le_trans HE.out.size e)) fun e => .inr (by omega)⟩, ?_⟩
        exact ⟨hy0, hy1⟩
      · rw [if_neg hv1] at hrk
        generalize hr2 : Sg.evalM f val nxt k d s1 = r2 at *
        obtain ⟨v2, s2⟩ := r2
        try dsimp only at *
        have Hr2 := Lib.hid hr2
        have Hrk := Lib.hid hrk
        have z1 : (v1 != 0) = true := by simp [hv1]
        clear hr2 hrk hv1
        go_enter Try.func167, Try.ntmps167
        go_wp2_with fail
        refine (IH.out a s F _ (by omega) (by omega) (by omega) (HC.out.ext _ _ _ _ HI.out HE.out) (hf.ext HE.out) HOff.out).mono ?_
        rw [Hr1.out]
        rintro e w1 ⟨rfl, ⟨F1, hi1, hm1, hF1⟩, hx0, hx1⟩
        have q0 : w1.cell? ⟨w.heap.size, 0, none⟩ = some (.slice (some ⟨b, o, none⟩) f.length cf) := hm1.cellE (by simp [go_sem]) nF0
        have q1 : w1.cell? ⟨w.heap.size + 1, 0, none⟩ = some (.int .i64 8) := hm1.cellE (by simp [go_sem]) nF1
        have q2 : w1.cell? ⟨w.heap.size + 1, 1, none⟩ = some (.int .i64 a) := hm1.cellE (by simp [go_sem]) nF1
        have q3 : w1.cell? ⟨w.heap.size + 1, 2, none⟩ = some (.int .i64 d) := hm1.cellE (by simp [go_sem]) nF1
        have q4 : w1.cell? ⟨w.heap.size + 1, 3, none⟩ = some (.int .i64 d') := hm1.cellE (by simp [go_sem]) nF1
        have hoff1 : off F1 (some ⟨b, o, none⟩) := by
          intro x hx hFx
          simp only [blk, Option.map_some, Option.some.injEq] at hx
          subst hx
          rcases hF1 _ hFx with hh | hh
          · exact HFb.out hh
          · have := HE.out.size; omega
        have hrd1 := (hf.ext HE.out).mod hm1 HOff.out
        have hz1 : w.heap.size + 1 < w1.heap.size := by have := hm1.size; simp at this; omega
        have n10 : ¬ F1 w.heap.size := by
          intro e; rcases hF1 _ e with hh | hh
          · exact nF0 hh
          · simp only [World.size_alloc] at hh; omega
        have n11 : ¬ F1 (w.heap.size + 1) := by
          intro e; rcases hF1 _ e with hh | hh
          · exact nF1 hh
          · simp only [World.size_alloc] at hh; omega
        have Hi1 := Lib.hid hi1
        have Hm1 := Lib.hid hm1
        have HF1 := Lib.hid hF1
        try dsimp only at *
        clear hi1 hm1 hF1
        go_wp2_with fail
        refine (IH.out d s1 F1 _ (by omega) (by omega) (by omega) Hi1.out hrd1 hoff1).mono ?_
        rw [Hr2.out]
        rintro e w2 ⟨rfl, ⟨F2, hi2, hm2, hF2⟩, hy0, hy1⟩
        have Hfin := Lib.hid (And.intro hi2 (And.intro hm2 hF2))
        try dsimp only at *
        clear hi2 hm2 hF2
        go_wp2
        go_ret
        rw [Hrk.out]
        refine ⟨rfl, ⟨F2, Hfin.out.1, ((Mod.of HE.out).tr' Hm1.out).tr Hfin.out.2.1 (fun x hx => (HF1.out x hx).elim .inl fun e => .inr (Nat.le_trans HE.out.size e)), fun x hx => (Hfin.out.2.2 x hx).elim (fun e => (HF1.out x e).elim .inl fun e => .inr (Nat.le_trans HE.out.size e)) fun e => .inr (by omega)⟩, ?_⟩
        exact ⟨hy0, hy1⟩
    · rw [goodN i h] at hgp
      cases hgp
end Go.Proofs.Ytkkegmimofmhpaa
