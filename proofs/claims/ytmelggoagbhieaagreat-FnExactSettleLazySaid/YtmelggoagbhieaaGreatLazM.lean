/- The reference's look: its contract. Conditions: a formula that can be run; an invariant of the states that update keeps. -/
import Derived.Test.YtmelggoagbhieaaGreatLazL0
import Derived.Test.YtmelggoagbhieaaGreatSpecTwo
namespace Sg
/-- the value of a part, where each node is made clean before it is read, and what was read in order -/
def lookS (f : List Part) (c : Int → LR → LR) : Nat → Int → LR → Int × List Int × LR
  | 0, _, s => (0, [], s)
  | m + 1, i, s =>
    let p := f.getD i.toNat default
    if p.kind = 0 then (p.n, [], s)
    else if p.kind = 1 then (valOf (c p.n s) p.n.toNat, [p.n], c p.n s)
    else
      let x := lookS f c m p.a s
      if p.kind = 8 then
        let y := lookS f c m (if x.1 = 0 then p.c else p.b) x.2.2
        (y.1, x.2.1 ++ y.2.1, y.2.2)
      else
        let y := lookS f c m p.b x.2.2
        (joined p.kind x.1 y.1, x.2.1 ++ y.2.1, y.2.2)
theorem lookS_succ (f : List Part) (c : Int → LR → LR) (m i : Nat) (s : LR) {p : Part} (h : f[i]? = some p) : lookS f c (m + 1) i s =
    if p.kind = 0 then (p.n, [], s) else if p.kind = 1 then (valOf (c p.n s) p.n.toNat, [p.n], c p.n s) else
      if p.kind = 8 then ((lookS f c m (if (lookS f c m p.a s).1 = 0 then p.c else p.b) (lookS f c m p.a s).2.2).1, (lookS f c m p.a s).2.1 ++ (lookS f c m (if (lookS f c m p.a s).1 = 0 then p.c else p.b) (lookS f c m p.a s).2.2).2.1, (lookS f c m (if (lookS f c m p.a s).1 = 0 then p.c else p.b) (lookS f c m p.a s).2.2).2.2)
      else (joined p.kind (lookS f c m p.a s).1 (lookS f c m p.b (lookS f c m p.a s).2.2).1, (lookS f c m p.a s).2.1 ++ (lookS f c m p.b (lookS f c m p.a s).2.2).2.1, (lookS f c m p.b (lookS f c m p.a s).2.2).2.2) := by
  simp [lookS, h]
theorem lookS_len (f : List Part) (c : Int → LR → LR) (m : Nat) (i : Int) (s : LR) : (lookS f c m i s).2.1.length ≤ 2 ^ m := by
  induction m generalizing i s with
  | zero => simp [lookS]
  | succ m ih =>
    have h1 : 1 ≤ 2 ^ m := Nat.one_le_two_pow
    have h2 : 2 ^ (m + 1) = 2 ^ m + 2 ^ m := by rw [Nat.pow_succ]; omega
    simp only [lookS]
    split
    · simp
    · split
      · simp; omega
      · split
        · simp only [List.length_append]
          have a := ih (f.getD i.toNat default).a s
          have b := ih (if (lookS f c m (f.getD i.toNat default).a s).1 = 0 then (f.getD i.toNat default).c else (f.getD i.toNat default).b) (lookS f c m (f.getD i.toNat default).a s).2.2
          omega
        · simp only [List.length_append]
          have a := ih (f.getD i.toNat default).a s
          have b := ih (f.getD i.toNat default).b (lookS f c m (f.getD i.toNat default).a s).2.2
          omega
theorem look_eval (f : List Part) (c : Int → LR → LR) (m : Nat) (i : Int) (l : List Int) (s : LR) :
    evalM f (fun (t : List Int × LR) k => valOf (c k t.2) k.toNat) (fun t k => (once t.1 k, c k t.2)) m i (l, s) = ((lookS f c m i s).1, (lookS f c m i s).2.1.foldl once l, (lookS f c m i s).2.2) := by
  induction m generalizing i l s with
  | zero => rfl
  | succ m ih =>
    simp only [evalM, lookS]
    by_cases h0 : (f.getD i.toNat default).kind = 0
    · simp only [if_pos h0]; rfl
    · simp only [if_neg h0]
      by_cases h1 : (f.getD i.toNat default).kind = 1
      · simp only [if_pos h1]; rfl
      · simp only [if_neg h1]
        by_cases h8 : (f.getD i.toNat default).kind = 8
        · simp only [if_pos h8, ih, List.foldl_append]
        · simp only [if_neg h8, ih, List.foldl_append]
theorem runC_look (g : Graph) (c : Int → LR → LR) (n : Nat) (s : LR) : runC g c n s = ((lookS (g.getD n default).f c (g.getD n default).f.length (((g.getD n default).f.length : Int) - 1) s).1, firstOnly (lookS (g.getD n default).f c (g.getD n default).f.length (((g.getD n default).f.length : Int) - 1) s).2.1, (lookS (g.getD n default).f c (g.getD n default).f.length (((g.getD n default).f.length : Int) - 1) s).2.2) := by
  unfold runC runM firstOnly
  rw [look_eval]
end Sg
namespace Go.Proofs.YtmelggoagbhieaaGreat
open Go.RowKit

/-- the update of the nodes ahead of n -/
def InnerS (w0 : World) (L gv cv gr cr gq cq Bl : Nat) (pre : List Value) (c : Int → Sg.LR → Sg.LR) (I : Sg.LR → Prop) (n : Nat) : Prop :=
  ∀ (k : Int) (t : Sg.LR) (F : Nat → Prop) (W : World), 0 ≤ k → k < (n : Int) → I t → LS w0 L gv cv gr cr gq cq Bl pre t F W →
    Calls Tryz.prog 106 #[.pointer (some ⟨Bl, 0, none⟩), .int .i64 k] W fun e w' => e = .returned (.tuple #[]) ∧ LG w0 L gv cv gr cr gq cq Bl pre (c k t) F W w'
/-- what look leaves -/
def LookR (w0 : World) (L gv cv gr cr gq cq Bl : Nat) (pre : List Value) (I : Sg.LR → Prop) (r : Int × List Int × Sg.LR) (F : Nat → Prop) (W : World) (e : Ending) (w' : World) : Prop :=
  ∃ (A' : Option Addr) (c' : Nat) (F' : Nat → Prop), e = .returned (.tuple #[.int .i64 r.1, .slice A' r.2.1.length c']) ∧ Own w' W.heap.size 3 1 A' r.2.1.length c' (ints r.2.1) ∧ LS w0 L gv cv gr cr gq cq Bl pre r.2.2 F' w' ∧ Mod F W w' ∧ (∀ b, F' b → F b ∨ W.heap.size ≤ b) ∧ off F' A' ∧ (0 ≤ r.1 ∧ r.1 ≤ 999) ∧ I r.2.2

set_option maxRecDepth 100000 in
set_option maxHeartbeats 8000000 in
theorem s_look (w0 : World) (L gv cv gr cr gq cq Bl cg bn on n : Nat) (Ap : Option Addr) (cp gl : Nat) (f : List Sg.Part) (c : Int → Sg.LR → Sg.LR) (I : Sg.LR → Prop) (ok : Sg.FOD f (fun k => 0 ≤ k ∧ k < (n : Int))) (hnL : n < L) (hngl : n < gl) (_hgl : gl ≤ 10)
    (hsl : w0.cell? ⟨bn, on + n * 2 + 1, none⟩ = some (.slice Ap f.length cp)) (hf : Rd w0 5 Ap f.length (parts f)) (hI : InnerS w0 L gv cv gr cr gq cq Bl [.slice (some ⟨bn, on, none⟩) gl cg, .slice (some ⟨gv, 0, none⟩) L cv, .slice (some ⟨gr, 0, none⟩) L cr, .slice (some ⟨gq, 0, none⟩) L cq] c I n)
    (hIc : ∀ (k : Int) t, 0 ≤ k → k < (n : Int) → I t → I (c k t)) (hIv : ∀ t k, I t → 0 ≤ Sg.valOf t k ∧ Sg.valOf t k ≤ 999) :
    ∀ (m i : Nat) (s : Sg.LR) (F : Nat → Prop) (W : World), i < m → i < f.length → m ≤ 12 → I s → LS w0 L gv cv gr cr gq cq Bl [.slice (some ⟨bn, on, none⟩) gl cg, .slice (some ⟨gv, 0, none⟩) L cv, .slice (some ⟨gr, 0, none⟩) L cr, .slice (some ⟨gq, 0, none⟩) L cq] s F W →
      Calls Tryz.prog 164 #[.pointer (some ⟨Bl, 0, none⟩), .int .i64 n, .int .i64 i] W (LookR w0 L gv cv gr cr gq cq Bl [.slice (some ⟨bn, on, none⟩) gl cg, .slice (some ⟨gv, 0, none⟩) L cv, .slice (some ⟨gr, 0, none⟩) L cr, .slice (some ⟨gq, 0, none⟩) L cq] I (Sg.lookS f c m i s) F W) := by
  have HI := Lib.hid hI
  have HIC := Lib.hid hIc
  have HIV := Lib.hid hIv
  have HOK := Lib.hid ok
  have HF := Lib.hid hf
  have HSL := Lib.hid hsl
  have hlen := ok.len
  clear hI hIc hIv ok hf hsl
  intro m
  induction m with
  | zero => intro i s F W h; omega
  | succ m ih =>
    intro i s F W him hif hm12 hIs hS
    have IH := Lib.hid ih
    clear ih
    obtain ⟨Ab, cb, hBx, _, _, _⟩ := hS.box
    have x0 := hBx.cell (j := 0) rfl
    have bx0 := blt x0
    have hsl1 := hS.old.cellE HSL.out
    have bsl1 := blt hsl1
    obtain ⟨bp, op, p, hAp, hp, hc0, hc1, hc2, hc3, hc4⟩ := (HF.out.ext hS.old).atP hif
    subst hAp
    have bp0 := blt hc0
    have hgp := HOK.out.good i p hp
    have hrk := Sg.lookS_succ f c m i s hp
    have hrp := HOK.out.reads p (List.mem_of_getElem? hp)
    have hpow : 2 ^ m ≤ 2 ^ 11 := Nat.pow_le_pow_right (by omega) (by omega)
    obtain ⟨pk, pa, pb, pc, pn⟩ := p
    dsimp only at *
    have HS := Lib.hid hS
    have HIs := Lib.hid hIs
    have HGP := Lib.hid hgp
    have HRK := Lib.hid hrk
    have HRP := Lib.hid hrp
    clear hS hIs hgp hrk hrp hp hBx
    go_enter Tryz.func164, Tryz.ntmps164
    go_upto_region 2 with fail
    have B1 := Lib.hid (Bx.new W #[.int .i64 pk, .int .i64 pa, .int .i64 pb, .int .i64 pc, .int .i64 pn] 177)
    have E1 := Lib.hid ((Ext.rfl' W).al (.cells #[.int .i64 pk, .int .i64 pa, .int .i64 pb, .int .i64 pc, .int .i64 pn] 177))
    have Z1 := Lib.hid (show (World.alloc W (.cells #[.int .i64 pk, .int .i64 pa, .int .i64 pb, .int .i64 pc, .int .i64 pn] 177)).heap.size = W.heap.size + 1 by simp)
    have S1 := Lib.hid (HS.out.ext E1.out)
    clear x0 bx0 hsl1 bsl1 hc0 hc1 hc2 hc3 hc4 bp0
    generalize World.alloc W (.cells #[.int .i64 pk, .int .i64 pa, .int .i64 pb, .int .i64 pc, .int .i64 pn] 177) = W1 at *
    have FW := Lib.hid (show ∀ b, F b → b < W.heap.size from fun b hb => (HS.out.lt hb).2)
    have hBW : w0.heap.size ≤ W.heap.size := HS.out.old.size
    have q0 := B1.out.cell (j := 0) rfl
    have bq := blt q0
    have cases : pk = 0 ∨ pk = 1 ∨ (2 ≤ pk ∧ pk ≤ 7) ∨ pk = 8 ∨ (pk < 0 ∨ 8 < pk) := by omega
    rcases cases with h | h | h | h | h
    · subst h
      have hgp := HGP.out
      rw [good0 i rfl] at hgp
      simp only [Bool.and_eq_true, Sg.inR, decide_eq_true_eq] at hgp
      have q4 := B1.out.cell (j := 4) rfl
      have hn0 : 0 ≤ pn ∧ pn ≤ 999 := by omega
      have HN0 := Lib.hid hn0
      have hrk := HRK.out
      rw [if_pos rfl] at hrk
      have HRK2 := Lib.hid hrk
      clear hgp hn0 hrk HRK
      go_wp2
      go_ret2
      rw [HRK2.out]
      exact ⟨_, _, F, rfl, Own.nw E1.out _ [] #[] rfl (by simp) rfl, S1.out.ext ((Ext.rfl' W1).al _), Mod.of (E1.out.al _), fun b hb => .inl hb, (fun b hb hf => by have h1 := FW.out b hf; have h2 := Z1.out; simp [blk] at hb; omega), HN0.out, HIs.out⟩
    · subst h
      have hgp := HGP.out
      rw [good1 i rfl] at hgp
      simp only [Bool.and_eq_true, Sg.inR, decide_eq_true_eq] at hgp
      have hN := HRP.out rfl
      obtain ⟨N, rfl⟩ := Int.eq_ofNat_of_zero_le hN.1
      have hNn : N < n := by omega
      have hNL : N < L := by omega
      have q4 := B1.out.cell (j := 4) rfl
      have hrk := HRK.out
      rw [if_neg (by omega), if_pos rfl] at hrk
      have HRK2 := Lib.hid hrk
      clear hgp hN hrk HRK
      go_wp2_with fail
      refine (HI.out (N : Int) s F W1 (by omega) (by omega) HIs.out S1.out).mono ?_
      rintro e w2 ⟨rfl, hG⟩
      obtain ⟨F2, hS2, hm2, hF2⟩ := hG
      obtain ⟨A2, c2, hB2, _, _, _⟩ := hS2.box
      have x1 := hB2.cell (j := 1) rfl
      have bx1 := blt x1
      obtain ⟨cv2, fv2, bv2⟩ := hS2.val hNL
      have b2 := B1.out.mod hm2 (fun e => by have := FW.out _ e; omega)
      have q42 := b2.cell (j := 4) rfl
      have bq2 := blt q42
      have HS2 := Lib.hid (And.intro hS2 (And.intro hm2 hF2))
      have hsz := hm2.size
      clear hS2 hm2 hF2 hB2 b2 q0 q4 bq
      go_wp2
      go_region
      go_wp2
      go_ret2
      rw [HRK2.out]
      have hE := (Ext.rfl' w2).al (.cells #[.int .i64 (N : Int)] 3)
      have hle : Ext w2 (World.drew (World.alloc w2 (.cells #[.int .i64 (N : Int)] 3))) := hE.dr
      refine ⟨_, _, F2, rfl, ((Own.nw (Ext.rfl' w2) _ [(N : Int)] #[.int .i64 N] rfl (by simp) rfl).mono (by have := Z1.out; omega)).dr, HS2.out.1.ext hle, (Mod.of E1.out).tr' (HS2.out.2.1.tr' (Mod.of hle)), fun b hb => ?_, (fun b hb hf => by have h1 := (HS2.out.1.lt hf).2; simp [blk] at hb; omega), ?_, HIC.out _ _ (by omega) (by omega) HIs.out⟩
      · rcases HS2.out.2.2 b hb with e | e
        · exact .inl e
        · have := Z1.out; exact .inr (by omega)
      · have := HIV.out (c (N : Int) s) N (HIC.out _ _ (by omega) (by omega) HIs.out)
        simpa using this
    · have hgp := HGP.out
      rw [good2 i h] at hgp
      simp only [Bool.and_eq_true, Sg.inR, decide_eq_true_eq] at hgp
      obtain ⟨⟨⟨⟨ha0, ha1⟩, hb0, hb1⟩, _⟩, _⟩ := hgp
      obtain ⟨a, rfl⟩ := Int.eq_ofNat_of_zero_le ha0
      obtain ⟨d, rfl⟩ := Int.eq_ofNat_of_zero_le hb0
      have hl1 := Sg.lookS_len f c m a s
      have hrk := HRK.out
      rw [if_neg (by omega), if_neg (by omega), if_neg (by omega)] at hrk
      generalize hr1 : Sg.lookS f c m a s = r1 at *
      obtain ⟨v1, l1, u1⟩ := r1
      dsimp only at *
      have hl2 := Sg.lookS_len f c m d u1
      generalize hr2 : Sg.lookS f c m d u1 = r2 at *
      obtain ⟨v2, l2, u2⟩ := r2
      dsimp only at *
      have Hr1 := Lib.hid hr1
      have Hr2 := Lib.hid hr2
      have HRK2 := Lib.hid hrk
      have k0 : (pk == 0) = false := by rw [beq_eq_false_iff_ne]; omega
      have k1 : (pk == 1) = false := by rw [beq_eq_false_iff_ne]; omega
      have k8 : (pk == 8) = false := by rw [beq_eq_false_iff_ne]; omega
      have q1 := B1.out.cell (j := 1) rfl
      clear hr1 hr2 hrk HRK
      go_wp2_with fail
      refine (IH.out a s F W1 (by omega) (by omega) (by omega) HIs.out S1.out).mono ?_
      rw [Hr1.out]
      rintro e w2 ⟨A2, c2, F2, rfl, ho2, hS2, hm2, hF2, hof2, hx, hI2⟩
      dsimp only at ho2 hS2 hI2 hx
      have O2 := Lib.hid ho2
      have HS2 := Lib.hid (And.intro hS2 (And.intro hm2 (And.intro hF2 hof2)))
      have HI2 := Lib.hid hI2
      have HX := Lib.hid hx
      have b2 := B1.out.mod hm2 (fun e => by have := FW.out _ e; omega)
      have q02 := b2.cell (j := 0) rfl
      have q22 := b2.cell (j := 2) rfl
      have q32 := b2.cell (j := 3) rfl
      have bq2 := blt q02
      have BB2 := Lib.hid b2
      have hsz2 := hm2.size
      clear ho2 hS2 hm2 hF2 hof2 hx hI2 b2 q0 q1 bq
      go_wp2_with fail
      refine (IH.out d u1 F2 w2 (by omega) (by omega) (by omega) HI2.out HS2.out.1).mono ?_
      rw [Hr2.out]
      rintro e w3 ⟨A3, c3, F3, rfl, ho3, hS3, hm3, hF3, hof3, hy, hI3⟩
      dsimp only at ho3 hS3 hI3 hy
      have O3 := Lib.hid ho3
      have HS3 := Lib.hid (And.intro hS3 (And.intro hm3 (And.intro hF3 hof3)))
      have HI3 := Lib.hid hI3
      have HY := Lib.hid hy
      have O23 := Lib.hid (O2.out.mod hm3 HS2.out.2.2.2)
      have ND := Lib.hid (show off F3 A2 from fun b hb hf => (hF3 b hf).elim (HS2.out.2.2.2 b hb) (fun e => by have := (O2.out.lt hb).2; omega))
      have b3 := BB2.out.mod hm3 (fun e => by
        rcases HS2.out.2.2.1 _ e with e | e
        · have := FW.out _ e; omega
        · have := Z1.out; omega)
      have q03 := b3.cell (j := 0) rfl
      have bq3 := blt q03
      have hsz3 := hm3.size
      have hz1 := Z1.out
      have hbase : W1.heap.size ≤ w3.heap.size := by omega
      have hl12 : l1.length + l2.length ≤ 8192 := by omega
      clear hz1 ho3 hS3 hm3 hF3 hof3 hy hI3 b3 q02 q22 q32 bq2
      have hj := Sg.joined_range pk v1 v2 HX.out HY.out
      have HJ := Lib.hid hj
      clear hj
      go_wp2_with (first
        | (go_at_call 201; refine (s_joined _ _ _ _ HX.out.1 HX.out.2 HY.out.1 HY.out.2).mono ?_; rintro e w' ⟨rfl, rfl⟩)
        | (at_builtin; refine wpList_appR rfl rfl eiInt rfl O23.out rfl O3.out.rd (one_ints _) (by unfold maxLen; omega) (by omega) hbase ?_; intro A4 c4 w4 ho4 hg4 hat4; have U4 := Lib.hid (And.intro ho4 (And.intro hg4 hat4)); clear ho4 hg4 hat4))
      go_ret2
      rw [HRK2.out]
      have m4 : Mod (fun b => blk A2 = some b) w3 w4 := ⟨U4.out.2.1.os, U4.out.2.1.tape, U4.out.2.1.output, U4.out.2.1.size, fun b hb hn => U4.out.2.1.block b hb fun e => hn e.symm⟩
      have mA : Mod F W w3 := (Mod.of E1.out).tr' (HS2.out.2.1.tr HS3.out.2.1 HS2.out.2.2.1)
      have hz1 := Z1.out
      refine ⟨A4, c4, F3, by simp, by simpa using U4.out.1.mono (by omega), HS3.out.1.md m4 (fun b hf hb => ND.out b hb hf) (fun b hb e => by have := (O23.out.lt e).1; omega), mA.tr m4 (fun b e => .inr (by have := (O23.out.lt e).1; omega)), fun b hb => ?_, fun b hb hf => ?_, HJ.out, HI3.out⟩
      · rcases HS3.out.2.2.1 b hb with e | e
        · rcases HS2.out.2.2.1 b e with e | e
          · exact .inl e
          · exact .inr (by omega)
        · exact .inr (by omega)
      · rcases U4.out.2.2 with e | e
        · exact ND.out b (by rw [← e]; exact hb) hf
        · rw [e] at hb
          injection hb with hb
          have := (HS3.out.1.lt hf).2
          omega
    · subst h
      have hgp := HGP.out
      rw [good3 i rfl] at hgp
      simp only [Bool.and_eq_true, Sg.inR, decide_eq_true_eq] at hgp
      obtain ⟨⟨⟨⟨ha0, ha1⟩, hb0, hb1⟩, hd0, hd1⟩, _⟩ := hgp
      obtain ⟨a, rfl⟩ := Int.eq_ofNat_of_zero_le ha0
      obtain ⟨d, rfl⟩ := Int.eq_ofNat_of_zero_le hb0
      obtain ⟨d', rfl⟩ := Int.eq_ofNat_of_zero_le hd0
      have hl1 := Sg.lookS_len f c m a s
      have hrk := HRK.out
      rw [if_neg (by omega), if_neg (by omega), if_pos rfl] at hrk
      generalize hr1 : Sg.lookS f c m a s = r1 at *
      obtain ⟨v1, l1, u1⟩ := r1
      dsimp only at *
      have Hr1 := Lib.hid hr1
      have q1 := B1.out.cell (j := 1) rfl
      clear hr1 HRK
      by_cases hv1 : v1 = 0
      · rw [if_pos hv1] at hrk
        have hl2 := Sg.lookS_len f c m d' u1
        generalize hr2 : Sg.lookS f c m d' u1 = r2 at *
        obtain ⟨v2, l2, u2⟩ := r2
        dsimp only at *
        have Hr2 := Lib.hid hr2
        have HRK2 := Lib.hid hrk
        have z1 : (v1 == 0) = true := by simp [hv1]
        clear hr2 hrk hv1
        go_wp2_with fail
        refine (IH.out a s F W1 (by omega) (by omega) (by omega) HIs.out S1.out).mono ?_
        rw [Hr1.out]
        rintro e w2 ⟨A2, c2, F2, rfl, ho2, hS2, hm2, hF2, hof2, hx, hI2⟩
        dsimp only at ho2 hS2 hI2 hx
        have O2 := Lib.hid ho2
        have HS2 := Lib.hid (And.intro hS2 (And.intro hm2 (And.intro hF2 hof2)))
        have HI2 := Lib.hid hI2
        have HX := Lib.hid hx
        have b2 := B1.out.mod hm2 (fun e => by have := FW.out _ e; omega)
        have q02 := b2.cell (j := 0) rfl
        have q22 := b2.cell (j := 2) rfl
        have q32 := b2.cell (j := 3) rfl
        have bq2 := blt q02
        have BB2 := Lib.hid b2
        have hsz2 := hm2.size
        clear ho2 hS2 hm2 hF2 hof2 hx hI2 b2 q0 q1 bq
        go_wp2_with fail
        refine (IH.out d' u1 F2 w2 (by omega) (by omega) (by omega) HI2.out HS2.out.1).mono ?_
        rw [Hr2.out]
        rintro e w3 ⟨A3, c3, F3, rfl, ho3, hS3, hm3, hF3, hof3, hy, hI3⟩
        dsimp only at ho3 hS3 hI3 hy
        have O3 := Lib.hid ho3
        have HS3 := Lib.hid (And.intro hS3 (And.intro hm3 (And.intro hF3 hof3)))
        have HI3 := Lib.hid hI3
        have HY := Lib.hid hy
        have O23 := Lib.hid (O2.out.mod hm3 HS2.out.2.2.2)
        have ND := Lib.hid (show off F3 A2 from fun b hb hf => (hF3 b hf).elim (HS2.out.2.2.2 b hb) (fun e => by have := (O2.out.lt hb).2; omega))
        have b3 := BB2.out.mod hm3 (fun e => by
          rcases HS2.out.2.2.1 _ e with e | e
          · have := FW.out _ e; omega
          · have := Z1.out; omega)
        have q03 := b3.cell (j := 0) rfl
        have bq3 := blt q03
        have hsz3 := hm3.size
        have hz1 := Z1.out
        have hbase : W1.heap.size ≤ w3.heap.size := by omega
        have hl12 : l1.length + l2.length ≤ 8192 := by omega
        clear hz1 ho3 hS3 hm3 hF3 hof3 hy hI3 b3 q02 q22 q32 bq2
        go_wp2_with (at_builtin; refine wpList_appR rfl rfl eiInt rfl O23.out rfl O3.out.rd (one_ints _) (by unfold maxLen; omega) (by omega) hbase ?_; intro A4 c4 w4 ho4 hg4 hat4; have U4 := Lib.hid (And.intro ho4 (And.intro hg4 hat4)); clear ho4 hg4 hat4)
        go_ret2
        rw [HRK2.out]
        have m4 : Mod (fun b => blk A2 = some b) w3 w4 := ⟨U4.out.2.1.os, U4.out.2.1.tape, U4.out.2.1.output, U4.out.2.1.size, fun b hb hn => U4.out.2.1.block b hb fun e => hn e.symm⟩
        have mA : Mod F W w3 := (Mod.of E1.out).tr' (HS2.out.2.1.tr HS3.out.2.1 HS2.out.2.2.1)
        have hz1 := Z1.out
        refine ⟨A4, c4, F3, by simp, by simpa using U4.out.1.mono (by omega), HS3.out.1.md m4 (fun b hf hb => ND.out b hb hf) (fun b hb e => by have := (O23.out.lt e).1; omega), mA.tr m4 (fun b e => .inr (by have := (O23.out.lt e).1; omega)), fun b hb => ?_, fun b hb hf => ?_, HY.out, HI3.out⟩
        · rcases HS3.out.2.2.1 b hb with e | e
          · rcases HS2.out.2.2.1 b e with e | e
            · exact .inl e
            · exact .inr (by omega)
          · exact .inr (by omega)
        · rcases U4.out.2.2 with e | e
          · exact ND.out b (by rw [← e]; exact hb) hf
          · rw [e] at hb
            injection hb with hb
            have := (HS3.out.1.lt hf).2
            omega
      · rw [if_neg hv1] at hrk
        have hl2 := Sg.lookS_len f c m d u1
        generalize hr2 : Sg.lookS f c m d u1 = r2 at *
        obtain ⟨v2, l2, u2⟩ := r2
        dsimp only at *
        have Hr2 := Lib.hid hr2
        have HRK2 := Lib.hid hrk
        have z1 : (v1 == 0) = false := by simp [hv1]
        clear hr2 hrk hv1
        go_wp2_with fail
        refine (IH.out a s F W1 (by omega) (by omega) (by omega) HIs.out S1.out).mono ?_
        rw [Hr1.out]
        rintro e w2 ⟨A2, c2, F2, rfl, ho2, hS2, hm2, hF2, hof2, hx, hI2⟩
        dsimp only at ho2 hS2 hI2 hx
        have O2 := Lib.hid ho2
        have HS2 := Lib.hid (And.intro hS2 (And.intro hm2 (And.intro hF2 hof2)))
        have HI2 := Lib.hid hI2
        have HX := Lib.hid hx
        have b2 := B1.out.mod hm2 (fun e => by have := FW.out _ e; omega)
        have q02 := b2.cell (j := 0) rfl
        have q22 := b2.cell (j := 2) rfl
        have q32 := b2.cell (j := 3) rfl
        have bq2 := blt q02
        have BB2 := Lib.hid b2
        have hsz2 := hm2.size
        clear ho2 hS2 hm2 hF2 hof2 hx hI2 b2 q0 q1 bq
        go_wp2_with fail
        refine (IH.out d u1 F2 w2 (by omega) (by omega) (by omega) HI2.out HS2.out.1).mono ?_
        rw [Hr2.out]
        rintro e w3 ⟨A3, c3, F3, rfl, ho3, hS3, hm3, hF3, hof3, hy, hI3⟩
        dsimp only at ho3 hS3 hI3 hy
        have O3 := Lib.hid ho3
        have HS3 := Lib.hid (And.intro hS3 (And.intro hm3 (And.intro hF3 hof3)))
        have HI3 := Lib.hid hI3
        have HY := Lib.hid hy
        have O23 := Lib.hid (O2.out.mod hm3 HS2.out.2.2.2)
        have ND := Lib.hid (show off F3 A2 from fun b hb hf => (hF3 b hf).elim (HS2.out.2.2.2 b hb) (fun e => by have := (O2.out.lt hb).2; omega))
        have b3 := BB2.out.mod hm3 (fun e => by
          rcases HS2.out.2.2.1 _ e with e | e
          · have := FW.out _ e; omega
          · have := Z1.out; omega)
        have q03 := b3.cell (j := 0) rfl
        have bq3 := blt q03
        have hsz3 := hm3.size
        have hz1 := Z1.out
        have hbase : W1.heap.size ≤ w3.heap.size := by omega
        have hl12 : l1.length + l2.length ≤ 8192 := by omega
        clear hz1 ho3 hS3 hm3 hF3 hof3 hy hI3 b3 q02 q22 q32 bq2
        go_wp2_with (at_builtin; refine wpList_appR rfl rfl eiInt rfl O23.out rfl O3.out.rd (one_ints _) (by unfold maxLen; omega) (by omega) hbase ?_; intro A4 c4 w4 ho4 hg4 hat4; have U4 := Lib.hid (And.intro ho4 (And.intro hg4 hat4)); clear ho4 hg4 hat4)
        go_ret2
        rw [HRK2.out]
        have m4 : Mod (fun b => blk A2 = some b) w3 w4 := ⟨U4.out.2.1.os, U4.out.2.1.tape, U4.out.2.1.output, U4.out.2.1.size, fun b hb hn => U4.out.2.1.block b hb fun e => hn e.symm⟩
        have mA : Mod F W w3 := (Mod.of E1.out).tr' (HS2.out.2.1.tr HS3.out.2.1 HS2.out.2.2.1)
        have hz1 := Z1.out
        refine ⟨A4, c4, F3, by simp, by simpa using U4.out.1.mono (by omega), HS3.out.1.md m4 (fun b hf hb => ND.out b hb hf) (fun b hb e => by have := (O23.out.lt e).1; omega), mA.tr m4 (fun b e => .inr (by have := (O23.out.lt e).1; omega)), fun b hb => ?_, fun b hb hf => ?_, HY.out, HI3.out⟩
        · rcases HS3.out.2.2.1 b hb with e | e
          · rcases HS2.out.2.2.1 b e with e | e
            · exact .inl e
            · exact .inr (by omega)
          · exact .inr (by omega)
        · rcases U4.out.2.2 with e | e
          · exact ND.out b (by rw [← e]; exact hb) hf
          · rw [e] at hb
            injection hb with hb
            have := (HS3.out.1.lt hf).2
            omega
    · have hgp := HGP.out
      rw [goodN i h] at hgp
      cases hgp
end Go.Proofs.YtmelggoagbhieaaGreat
