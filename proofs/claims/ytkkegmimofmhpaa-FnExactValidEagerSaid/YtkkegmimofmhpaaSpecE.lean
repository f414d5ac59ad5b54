/- The reference's reckoned and run: contracts. Conditions: formulas that can be run with the values. -/
import Derived.Test.YtkkegmimofmhpaaSpecD
import Derived.Test.YtkkegmimofmhpaaGraph
namespace Go.Proofs.Ytkkegmimofmhpaa
open Go.RowKit



theorem Own.nw {w0 w : World} (e : Ext w0 w) (g : Nat) (l : List Int) (cs : Array Value) (hc : cs.toList = ints l) (hl : l.length ≤ 4194304) (hg : w.heap.size = g) :
    Own (w.alloc (.cells cs 3)) w0.heap.size 3 1 (some ⟨g, 0, none⟩) l.length l.length (ints l) := by
  subst hg
  rw [← hc]
  have : cs.size = l.length := by rw [← Array.length_toList, hc]; simp
  exact Own.new w 3 1 cs l.length e.size (by unfold maxLen; omega) (by omega)

structure Vals (w : World) (A : Option Addr) (n : Nat) (vals : List Int) : Prop where
  rd : Rd w 1 A n (ints vals)
  ran : Sg.inRange vals

theorem rd_at {vals : List Int} {n : Int} {x : Int} (h : vals[n.toNat]? = some x) : Sg.rd vals n = x := by simp [Sg.rd, h]

set_option maxRecDepth 100000 in
set_option maxHeartbeats 2000000 in
theorem s_reckoned (Af Av : Option Addr) (cf cv nv : Nat) (f : List Sg.Part) (vals : List Int) (ok : Sg.FOK f nv) (hr : Sg.inRange vals) (k : Nat) :
    ∀ (i : Nat) (w : World), i < k → i < f.length → k ≤ 12 → Rd w 5 Af f.length (parts f) → Rd w 1 Av nv (ints vals) →
    Calls Try.prog 178 #[.agg #[.slice Af f.length cf], .slice Av nv cv, .int .i64 i] w fun e w' => ∃ A' c', e = .returned (.tuple #[.int .i64 (Sg.reck f vals k i).1, .slice A' (Sg.reck f vals k i).2.length c']) ∧
      Own w' w.heap.size 3 1 A' (Sg.reck f vals k i).2.length c' (ints (Sg.reck f vals k i).2) ∧ Ext w w' ∧ 0 ≤ (Sg.reck f vals k i).1 ∧ (Sg.reck f vals k i).1 ≤ 999 := by
  induction k with
  | zero => intro i w h; omega
  | succ k ih =>
    intro i w hik hif hk12 hf hv
    have IH := Lib.hid ih
    clear ih
    obtain ⟨b, o, p, rfl, hp, hc0, hc1, hc2, hc3, hc4⟩ := hf.atP hif
    have hlen := ok.len
    have hbw := blt hc0
    have hgp := ok.good i p hp
    have hrk := Sg.reck_succ f vals k i hp
    have hrp := ok.reads p (List.mem_of_getElem? hp)
    obtain ⟨pk, pa, pb, pc, pn⟩ := p
    dsimp only at *
    have cases : pk = 0 ∨ pk = 1 ∨ (2 ≤ pk ∧ pk ≤ 7) ∨ pk = 8 ∨ (pk < 0 ∨ 8 < pk) := by omega
    rcases cases with h | h | h | h | h
    · subst h
      rw [good0 i rfl] at hgp
      simp only [Bool.and_eq_true, Sg.inR, decide_eq_true_eq] at hgp
      rw [if_pos rfl] at hrk
      have Hp := Lib.hid hp
      have Hrk := Lib.hid hrk
      clear hp hrk
      go_enter Try.func178, Try.ntmps178
      go_wp2
      go_ret2
      rw [Hrk.out]
      exact ⟨_, _, rfl, Own.nw (((Ext.rfl' w).al _).al _) _ [] #[] rfl (by simp) (by simp), (((Ext.rfl' w).al _).al _).al _, by show 0 ≤ pn; omega, by show pn ≤ 999; omega⟩
    · subst h
      rw [good1 i rfl] at hgp
      simp only [Bool.and_eq_true, Sg.inR, decide_eq_true_eq] at hgp
      rw [if_neg (by omega), if_pos rfl] at hrk
      have hN := hrp rfl
      obtain ⟨N, rfl⟩ := Int.eq_ofNat_of_zero_le hgp.2.1
      obtain ⟨bv, ov, x, rfl, hx, hcx⟩ := hv.at1 (k := N) (by omega)
      have hbv := blt hcx
      have hbv1 : bv < w.heap.size + 1 := by omega
      have hbv2 : bv < w.heap.size + 1 + 1 := by omega
      have hxr := hr x (List.mem_of_getElem? hx)
      have hrx : Sg.rd vals (N : Int) = x := rd_at (by simpa using hx)
      rw [hrx] at hrk
      have Hrk := Lib.hid hrk
      have hNn : N < nv := by omega
      clear hp hrk hx hrx hgp
      go_enter Try.func178, Try.ntmps178
      go_wp2
      go_region
      go_wp2
      go_ret2
      rw [Hrk.out]
      exact ⟨_, _, rfl, (Own.nw (((Ext.rfl' w).al _).al _) _ [(N : Int)] #[.int .i64 N] rfl (by simp) (by simp)).dr, ((((Ext.rfl' w).al _).al _).al _).dr, by show 0 ≤ x; omega, by show x ≤ 999; omega⟩
    · rw [good2 i h] at hgp
      simp only [Bool.and_eq_true, Sg.inR, decide_eq_true_eq] at hgp
      rw [if_neg (by omega), if_neg (by omega), if_neg (by omega)] at hrk
      obtain ⟨⟨⟨⟨ha0, ha1⟩, hb0, hb1⟩, _⟩, _⟩ := hgp
      obtain ⟨a, rfl⟩ := Int.eq_ofNat_of_zero_le ha0
      obtain ⟨d, rfl⟩ := Int.eq_ofNat_of_zero_le hb0
      have hl1 := Sg.reck_len f vals k a
      have hl2 := Sg.reck_len f vals k d
      have hpow : 2 ^ k ≤ 2 ^ 11 := Nat.pow_le_pow_right (by omega) (by omega)
      have k0 : (pk == 0) = false := by rw [beq_eq_false_iff_ne]; omega
      have k1 : (pk == 1) = false := by rw [beq_eq_false_iff_ne]; omega
      have k8 : (pk == 8) = false := by rw [beq_eq_false_iff_ne]; omega
      generalize hr1 : Sg.reck f vals k a = r1 at *
      generalize hr2 : Sg.reck f vals k d = r2 at *
      have Hrk := Lib.hid hrk
      have Hr1 := Lib.hid hr1
      have Hr2 := Lib.hid hr2
      obtain ⟨v1, l1⟩ := r1
      obtain ⟨v2, l2⟩ := r2
      clear hp hrk hr1 hr2
      go_enter Try.func178, Try.ntmps178
      go_wp2_with fail
      refine (IH.out a _ (by omega) (by omega) (by omega) (hf.ext (((Ext.rfl' w).al _).al _)) (hv.ext (((Ext.rfl' w).al _).al _))).mono ?_
      rw [Hr1.out]
      rintro e w1 ⟨A1, c1, rfl, ho1, he1, hx0, hx1⟩
      have e0 := ((Ext.rfl' w).al (.cells #[.slice (some ⟨b, o, none⟩) f.length cf] 92)).al (.cells #[.int .i64 pk, .int .i64 a, .int .i64 d, .int .i64 pc, .int .i64 pn] 168)
      have e1 := e0.tr he1
      obtain ⟨bc, bf⟩ := bcell he1
      go_wp2_with fail
      refine (IH.out d _ (by omega) (by omega) (by omega) (hf.ext e1) (hv.ext e1)).mono ?_
      rw [Hr2.out]
      rintro e w2 ⟨A2, c2, rfl, ho2, he2, hy0, hy1⟩
      have e2 := e1.tr he2
      obtain ⟨bc2, bf2⟩ := bcell he2
      have hz1 : w.heap.size + 1 < w1.heap.size := by have := he1.size; simp at this; omega
      have hz2 : w.heap.size < w1.heap.size := by omega
      have ho1' := (ho1.mono e0.size).ext he2
      have hj := Sg.joined_range pk v1 v2 ⟨hx0, hx1⟩ ⟨hy0, hy1⟩
      dsimp only at *
      go_wp2_with (first
        | (go_at_call 194; refine (s_joined _ _ _ _ hx0 hx1 hy0 hy1).mono ?_; rintro e w' ⟨rfl, rfl⟩)
        | (at_builtin; refine wpList_appR rfl rfl eiInt rfl ho1' rfl ho2.rd (one_ints _) (by unfold maxLen; omega) (by omega) e2.size ?_; intro A3 c3 w3 ho3 hg3 hat3))
      go_ret2
      rw [Hrk.out]
      refine ⟨A3, c3, ?_, ?_, e2.gr hg3 (fun g hg => (ho1'.lt hg).1), hj.1, hj.2⟩
      · simp
      · simpa using ho3
    · subst h
      rw [good3 i rfl] at hgp
      simp only [Bool.and_eq_true, Sg.inR, decide_eq_true_eq] at hgp
      rw [if_neg (by omega), if_neg (by omega), if_pos rfl] at hrk
      obtain ⟨⟨⟨⟨ha0, ha1⟩, hb0, hb1⟩, hd0, hd1⟩, _⟩ := hgp
      obtain ⟨a, rfl⟩ := Int.eq_ofNat_of_zero_le ha0
      obtain ⟨d, rfl⟩ := Int.eq_ofNat_of_zero_le hb0
      obtain ⟨d', rfl⟩ := Int.eq_ofNat_of_zero_le hd0
      have hl1 := Sg.reck_len f vals k a
      have hpow : 2 ^ k ≤ 2 ^ 11 := Nat.pow_le_pow_right (by omega) (by omega)
      generalize hr1 : Sg.reck f vals k a = r1 at *
      obtain ⟨v1, l1⟩ := r1
      dsimp only at *
      have Hr1 := Lib.hid hr1
      clear hr1 hp
      by_cases hv1 : v1 = 0
      · rw [if_pos hv1] at hrk
        have hl2 := Sg.reck_len f vals k d'
        generalize hr2 : Sg.reck f vals k d' = r2 at *
        obtain ⟨v2, l2⟩ := r2
        dsimp only at *
        have Hrk := Lib.hid hrk
        have Hr2 := Lib.hid hr2
        have z1 : (v1 == 0) = true := by simp [hv1]
        clear hrk hr2 hv1
        go_enter Try.func178, Try.ntmps178
        go_wp2_with fail
        refine (IH.out a _ (by omega) (by omega) (by omega) (hf.ext (((Ext.rfl' w).al _).al _)) (hv.ext (((Ext.rfl' w).al _).al _))).mono ?_
        rw [Hr1.out]
        rintro e w1 ⟨A1, c1, rfl, ho1, he1, hx0, hx1⟩
        have e0 := ((Ext.rfl' w).al (.cells #[.slice (some ⟨b, o, none⟩) f.length cf] 92)).al (.cells #[.int .i64 8, .int .i64 a, .int .i64 d, .int .i64 d', .int .i64 pn] 168)
        have e1 := e0.tr he1
        obtain ⟨bc, bf⟩ := bcell he1
        have hz1 : w.heap.size + 1 < w1.heap.size := by have := he1.size; simp at this; omega
        have hz2 : w.heap.size < w1.heap.size := by omega
        go_wp2_with fail
        refine (IH.out d' _ (by omega) (by omega) (by omega) (hf.ext e1) (hv.ext e1)).mono ?_
        rw [Hr2.out]
        rintro e w2 ⟨A2, c2, rfl, ho2, he2, hy0, hy1⟩
        have e2 := e1.tr he2
        obtain ⟨bc2, bf2⟩ := bcell he2
        have ho1' := (ho1.mono e0.size).ext he2
        dsimp only at *
        go_wp2_with (first
          | (at_builtin; refine wpList_appR rfl rfl eiInt rfl ho1' rfl ho2.rd (one_ints _) (by unfold maxLen; omega) (by omega) e2.size ?_; intro A3 c3 w3 ho3 hg3 hat3))
        go_ret2
        rw [Hrk.out]
        refine ⟨A3, c3, ?_, ?_, e2.gr hg3 (fun g hg => (ho1'.lt hg).1), hy0, hy1⟩
        · simp
        · simpa using ho3
      · rw [if_neg hv1] at hrk
        have hl2 := Sg.reck_len f vals k d
        generalize hr2 : Sg.reck f vals k d = r2 at *
        obtain ⟨v2, l2⟩ := r2
        dsimp only at *
        have Hrk := Lib.hid hrk
        have Hr2 := Lib.hid hr2
        have z1 : (v1 == 0) = false := by simp [hv1]
        clear hrk hr2 hv1
        go_enter Try.func178, Try.ntmps178
        go_wp2_with fail
        refine (IH.out a _ (by omega) (by omega) (by omega) (hf.ext (((Ext.rfl' w).al _).al _)) (hv.ext (((Ext.rfl' w).al _).al _))).mono ?_
        rw [Hr1.out]
        rintro e w1 ⟨A1, c1, rfl, ho1, he1, hx0, hx1⟩
        have e0 := ((Ext.rfl' w).al (.cells #[.slice (some ⟨b, o, none⟩) f.length cf] 92)).al (.cells #[.int .i64 8, .int .i64 a, .int .i64 d, .int .i64 d', .int .i64 pn] 168)
        have e1 := e0.tr he1
        obtain ⟨bc, bf⟩ := bcell he1
        have hz1 : w.heap.size + 1 < w1.heap.size := by have := he1.size; simp at this; omega
        have hz2 : w.heap.size < w1.heap.size := by omega
        go_wp2_with fail
        refine (IH.out d _ (by omega) (by omega) (by omega) (hf.ext e1) (hv.ext e1)).mono ?_
        rw [Hr2.out]
        rintro e w2 ⟨A2, c2, rfl, ho2, he2, hy0, hy1⟩
        have e2 := e1.tr he2
        obtain ⟨bc2, bf2⟩ := bcell he2
        have ho1' := (ho1.mono e0.size).ext he2
        dsimp only at *
        go_wp2_with (first
          | (at_builtin; refine wpList_appR rfl rfl eiInt rfl ho1' rfl ho2.rd (one_ints _) (by unfold maxLen; omega) (by omega) e2.size ?_; intro A3 c3 w3 ho3 hg3 hat3))
        go_ret2
        rw [Hrk.out]
        refine ⟨A3, c3, ?_, ?_, e2.gr hg3 (fun g hg => (ho1'.lt hg).1), hy0, hy1⟩
        · simp
        · simpa using ho3
    · rw [goodN i h] at hgp
      cases hgp

set_option maxRecDepth 100000 in
set_option maxHeartbeats 1000000 in
theorem s_run (Af Av : Option Addr) (cf cv nv : Nat) (f : List Sg.Part) (vals : List Int) (ok : Sg.FOK f nv) (hr : Sg.inRange vals) (w : World) (hf : Rd w 5 Af f.length (parts f)) (hv : Rd w 1 Av nv (ints vals)) :
    Calls Try.prog 144 #[.agg #[.slice Af f.length cf], .slice Av nv cv] w fun e w' => ∃ A' c', e = .returned (.tuple #[.int .i64 (Sg.runF f vals).1, .slice A' (Sg.runF f vals).2.length c']) ∧
      Own w' w.heap.size 3 1 A' (Sg.runF f vals).2.length c' (ints (Sg.runF f vals).2) ∧ Ext w w' ∧ 0 ≤ (Sg.runF f vals).1 ∧ (Sg.runF f vals).1 ≤ 999 := by
  have hlen := ok.len
  have hone := ok.one
  obtain ⟨n, hn⟩ : ∃ n : Nat, n = f.length - 1 := ⟨_, rfl⟩
  have hl := Sg.reck_len f vals f.length n
  have hpow : 2 ^ f.length ≤ 2 ^ 12 := Nat.pow_le_pow_right (by omega) hlen
  have hrun : Sg.runF f vals = ((Sg.reck f vals f.length n).1, Sg.firstOnly (Sg.reck f vals f.length n).2) := by
    unfold Sg.runF; rw [show ((f.length : Int) - 1) = (n : Int) from by omega]
  rw [hrun]
  have Hcall := Lib.hid (s_reckoned Af Av cf cv nv f vals ok hr f.length n)
  generalize Sg.reck f vals f.length n = r at *
  obtain ⟨v, l⟩ := r
  dsimp only at *
  have Hn := Lib.hid hn
  clear hrun ok hn
  go_enter Try.func144, Try.ntmps144
  go_wp2_with fail
  rw [show ((f.length : Int) - 1) = (n : Int) from by have := Hn.out; omega]
  refine (Hcall.out _ (by have := Hn.out; omega) (by have := Hn.out; omega) hlen (hf.ext ((Ext.rfl' w).al _)) (hv.ext ((Ext.rfl' w).al _))).mono ?_
  rintro e w1 ⟨A1, c1, rfl, ho1, he1, hx0, hx1⟩
  have e1 := ((Ext.rfl' w).al _).tr he1
  go_wp2_with fail
  refine (s_firstOnly _ _ _ _ _ ho1.rd (by omega)).mono ?_
  rintro e w2 ⟨A2, c2, rfl, ho2, he2⟩
  go_wp2_with fail
  go_ret2
  exact ⟨A2, c2, rfl, ho2.mono e1.size, e1.tr he2, hx0, hx1⟩
end Go.Proofs.Ytkkegmimofmhpaa
