/- The hasty machine of the reference: its contract. Conditions: a state whose nodes can be run. -/
import Derived.Test.YtmkfjnkdaeoppaaGreatTy
import Derived.Test.YtmkfjnkdaeoppaaGreatHasA
import Derived.Test.YtmkfjnkdaeoppaaGreatSpecTwo
import Derived.Test.YtmkfjnkdaeoppaaGreatSpecTO
import Derived.Deep.DeepCutAuto
import Derived.StillTailTactics
namespace Go.Proofs.YtmkfjnkdaeoppaaGreat
open Go.RowKit

/-- what hasty leaves -/
def HastyR (w0 : World) (L gv cv gr cr : Nat) (y : Sg.HS) (F : Nat → Prop) (W : World) (e : Ending) (w' : World) : Prop :=
 ∃ (A' : Option Addr) (c' : Nat) (F' : Nat → Prop), e = .returned (.tuple #[.agg #[.slice (some ⟨gv, 0, none⟩) L cv, .slice (some ⟨gr, 0, none⟩) L cr], .slice A' y.ran.length c']) ∧ HQ w0 L gv cv gr cr A' c' [] y F' w' ∧ Mod F W w' ∧ ∀ b, F' b → F b ∨ W.heap.size ≤ b
theorem Mod.set2 (w : World) (b : Nat) (u0 u1 : Value) : Mod (fun x => x = b) w ((w.setCell ⟨b, 0, none⟩ u0).setCell ⟨b, 1, none⟩ u1) := Mod.set (F := fun x => x = b) (Mod.set (F := fun x => x = b) (Mod.rfl' _ w) (.inl rfl) u0) (.inl rfl) u1
theorem HQ.md {w0 : World} {L gv cv gr cr c : Nat} {A : Option Addr} {ts : List (Th w0.heap.size)} {s : Sg.HS} {F G : Nat → Prop} {W W' : World} (h : HQ w0 L gv cv gr cr A c ts s F W) (m : Mod G W W') (h1 : ∀ b, F b → ¬ G b) (h2 : ∀ b, b < w0.heap.size → ¬ G b) : HQ w0 L gv cv gr cr A c ts s F W' := by
 obtain ⟨hs, hS, hF⟩ := h.ex
 exact ⟨Ext.md h.old m (fun b e => Nat.le_of_not_lt fun e2 => h2 b e2 e), ⟨hs, hS.fr fun x hx b hb => m.block b (hS.lt hx hb).2 (h1 b ((hF b).2 ⟨x, hx, hb⟩)), hF⟩, h.rl⟩

set_option maxRecDepth 100000 in
set_option maxHeartbeats 16000000 in
theorem c_hasty (w0 : World) (L gv cv gr cr cg : Nat) (Ag : Option Addr) (g : Sg.Graph) (hg : RdN w0 Ag g) (hG : Sg.validG g = true) (hLg : L = g.length) :
  ∀ (f n : Nat) (s : Sg.HS) (A : Option Addr) (c : Nat) (F : Nat → Prop) (W : World), 200 < f + s.ran.length → n < L → Sg.HIn g s → HQ w0 L gv cv gr cr A c [] s F W →
   Calls Tryz.prog 103 #[.agg #[.slice Ag g.length cg], .agg #[.slice (some ⟨gv, 0, none⟩) L cv, .slice (some ⟨gr, 0, none⟩) L cr], .int .i64 n, .slice A s.ran.length c] W (HastyR w0 L gv cv gr cr (Sg.hastyS g f n s) F W) := by
 have hg10 : g.length ≤ 10 := validG_len hG
 have hL10 : L ≤ 10 := by rw [hLg]; exact hg10
 have HG := lh hG
 have HLG := lh hLg
 have HRG := lh hg
 clear hG hLg hg
 intro f
 induction f with
 | zero => intro n s A c F W hf hn hI; have := hI.m; omega
 | succ f ih =>
  intro n s A c F W hf hnL hI hS
  have IH := lh ih
  have S0 := lh hS
  have HT := lh (fun (k : Nat) (hk : k ≤ g.length) => Sg.hastyTo_in HG.out f n s hI k hk)
  have FW := lh (show ∀ b, F b → b < W.heap.size from fun b hb => (hS.lt hb).2)
  have hold := hS.old.size
  obtain ⟨W1, hW1⟩ : ∃ W1, W1 = World.alloc (World.alloc (World.alloc W (.cells #[.slice Ag g.length cg] 25)) (.cells #[.slice (some ⟨gv, 0, none⟩) L cv, .slice (some ⟨gr, 0, none⟩) L cr] 63)) (.cells #[.slice none 0 0, .slice none 0 0] 63) := ⟨_, rfl⟩
  have e1 : Ext W W1 := by rw [hW1]; exact (((Ext.rfl' W).al _).al _).al _
  have z1 : W1.heap.size = W.heap.size + 1 + 1 + 1 := by rw [hW1]; simp
  have BG := lh (show Bx W1 W.heap.size [.slice Ag g.length cg] by rw [hW1]; exact ((Bx.new W _ _).al _).al _)
  have BS := lh (show Bx W1 (W.heap.size + 1) [.slice (some ⟨gv, 0, none⟩) L cv, .slice (some ⟨gr, 0, none⟩) L cr] by
   have h1 := (Bx.new (World.alloc W (.cells #[.slice Ag g.length cg] 25)) #[.slice (some ⟨gv, 0, none⟩) L cv, .slice (some ⟨gr, 0, none⟩) L cr] 63).al (.cells #[.slice none 0 0, .slice none 0 0] 63)
   simp only [World.size_alloc] at h1
   rw [hW1]; exact h1)
  have BR := lh (show Bx W1 (W.heap.size + 1 + 1) [.slice none 0 0, .slice none 0 0] by
   have h1 := Bx.new (World.alloc (World.alloc W (.cells #[.slice Ag g.length cg] 25)) (.cells #[.slice (some ⟨gv, 0, none⟩) L cv, .slice (some ⟨gr, 0, none⟩) L cr] 63)) #[.slice none 0 0, .slice none 0 0] 63
   simp only [World.size_alloc] at h1
   rw [hW1]; exact h1)
  have E1 := lh e1
  have Z1 := lh z1
  clear ih hI hS e1 z1
  go_enter Tryz.func103, Tryz.ntmps103
  go_upto_region 1 with fail
  rw [← hW1]
  clear hW1
  obtain ⟨N, hN⟩ : ∃ N, W.heap.size = N := ⟨_, rfl⟩
  have HN := lh hN
  rw [hN] at BG BS BR Z1 FW
  simp only [hN]
  clear hN
  have S1 := lh (S0.out.ext E1.out)
  go_wp2_with fail
  go_loopw [3, 10] (fun s3 i wr => ∃ (k : Nat) (A' : Option Addr) (c' : Nat) (F' : Nat → Prop), k ≤ g.length ∧ i = .int .i64 k ∧ s3 = .slice A' (Sg.hastyTo g f n s k).ran.length c' ∧ Hid (HQ w0 L gv cv gr cr A' c' [] (Sg.hastyTo g f n s k) F' wr) ∧ Hid (Mod F W wr) ∧ Hid (∀ b, F' b → F b ∨ N + 1 + 1 + 1 ≤ b) ∧ Hid (Bx wr N [.slice Ag g.length cg]) ∧ Hid (Bx wr (N + 1) [.slice (some ⟨gv, 0, none⟩) L cv, .slice (some ⟨gr, 0, none⟩) L cr]) ∧ Hid (Bx wr (N + 1 + 1) [.slice none 0 0, .slice none 0 0])) (fun _ i _ => g.length - (intOf i).toNat)
  case atStart => exact ⟨0, A, c, F, Nat.zero_le _, by first | rfl | simp, rfl, S1, lh (Mod.of E1.out), lh (fun b hb => .inl hb), BG, BS, BR⟩
  case round =>
   obtain ⟨k, A1, c1, F1, hk, rfl, rfl, hQ, hM, hF, hBG, hBS, hBR⟩ := hrel
   have g0 := hBG.out.cell (j := 0) rfl
   have bg0 := blt g0
   have hB1 := hQ.out.old.size
   by_cases hlt : k < g.length
   ·have hkL : k < L := by have := HLG.out; omega
    obtain ⟨hTI, hTR⟩ := HT.out k hk
    have HSN := lh (Sg.hastyTo_succ g f n s k)
    generalize htt : Sg.hastyTo g f n s k = t at *
    have HTI := lh hTI
    have htm := hTI.m
    have s0 := hBS.out.cell (j := 0) rfl
    have s1 := hBS.out.cell (j := 1) rfl
    have bs0 := blt s0
    obtain ⟨Al, cl, crd, rrd, frd, brd⟩ := hQ.out.rds hkL
    have RR := lh rrd
    have HCN := lh (fun w h => s_placeIn Al (t.reads.getD k []).length cl (t.reads.getD k []) (n : Int) w h)
    have HLL := lh (show Sg.stepH g (Sg.hastyS g f) n t k = if (n : Int) ∈ t.reads.getD k [] ∧ t.ran.length ≠ 200 then (if (Sg.runF (g.getD k default).f t.vals).1 = t.vals.getD k 0 then Sg.ranH g t k else Sg.hastyS g f k (Sg.ranH g t k)) else t from rfl)
    have hrdl : (t.reads.getD k []).length ≤ 4096 := by
     have hr := hQ.out.rl
     rw [List.getD_eq_getElem?_getD, List.getElem?_eq_getElem (by omega), Option.getD_some]
     exact hTI.i.le _ (List.getElem_mem _)
    have hc1 := hQ.out.o.2.1
    have hc2 := hQ.out.o.2.2.1
    clear hTI rrd htt
    generalize hl0 : t.reads.getD k [] = l0 at *
    have HL0 := lh hl0
    clear hl0
    by_cases hin : (n : Int) ∈ l0
    ·have HIN := lh hin
     have y1 : decide (placeIn l0 (n : Int) < 0) = false := decide_eq_false (fun h => (placeIn_neg l0 (n : Int)).1 h hin)
     clear hin
     by_cases h2 : t.ran.length = 200
     ·have y2 : ((t.ran.length : Int) == 200) = true := by rw [beq_iff_eq]; omega
      have H2 := lh h2
      clear h2
      go_wp2_with fail
      refine (HCN.out _ RR.out).mono ?_
      rintro e w2 ⟨rfl, rfl⟩
      go_wp2_with fail
      go_roundw
      case rel => exact ⟨k + 1, A1, c1, F1, by omega, by go_num, by rw [HSN.out, HLL.out, if_neg (fun h => h.2 H2.out)], by rw [HSN.out, HLL.out, if_neg (fun h => h.2 H2.out)]; exact hQ, hM, hF, hBG, hBS, hBR⟩
      case measure => simp [intOf]; omega
     ·have y2 : ((t.ran.length : Int) == 200) = false := by rw [beq_eq_false_iff_ne]; omega
      have H2 := lh h2
      have hlt2 : t.ran.length < 200 := by omega
      clear h2
      go_wp2_with fail
      refine (HCN.out _ RR.out).mono ?_
      rintro e w2 ⟨rfl, rfl⟩
      clear crd frd brd
      go_upto_region 6 with (at_builtin; refine wpList_app1 rfl rfl eiInt rfl hQ.out.o rfl rfl (one_int _ _) (by omega) (by omega) hB1 ?_; intro A2 c2 w9 hown2 hg2 hat2; have U9 := lh (And.intro hown2 (And.intro hg2 hat2)); clear hown2 hg2 hat2)
      have hP := hQ.out.addR (k : Int) U9.out.1 U9.out.2.1 U9.out.2.2
      obtain ⟨F5, hQ5, hm5, hF5⟩ := hP
      have nB : ∀ b, N ≤ b → b < N + 1 + 1 + 1 → ¬ F1 b := fun b h1 h2 hb => (hF.out b hb).elim (fun e => by have := FW.out b e; omega) (fun e => by omega)
      have hwz : N + 1 + 1 + 1 ≤ wr.heap.size := by have := hBR.out.lt; omega
      have BG5 := lh (hBG.out.mod hm5 (nB _ (by omega) (by omega)))
      have BS5 := lh (hBS.out.mod hm5 (nB _ (by omega) (by omega)))
      have BR5 := lh (hBR.out.mod hm5 (nB _ (by omega) (by omega)))
      have Q5 := lh hQ5
      have M5 := lh (hM.out.tr hm5 (fun b hb => (hF.out b hb).imp id (fun e => by have := HN.out; omega)))
      have F5' := lh (show ∀ b, F5 b → F b ∨ N + 1 + 1 + 1 ≤ b from fun b hb => (hF5 b hb).elim (hF.out b) (fun e => .inr (by omega)))
      clear hQ5 hm5 hF5 nB U9 s0 s1 bs0 g0 bg0 hQ hM hF hBG hBS hBR
      have D5 := lh (And.intro (BG5.out.ext ((Ext.rfl' w9).dr)) (And.intro (BS5.out.ext ((Ext.rfl' w9).dr)) (BR5.out.ext ((Ext.rfl' w9).dr))))
      have QD := lh (Q5.out.ext ((Ext.rfl' w9).dr))
      have MD := lh M5.out.dr
      have g0 := BG5.out.cell (j := 0) rfl
      have s0 := BS5.out.cell (j := 0) rfl
      have bg0 := blt g0
      have bs0 := blt s0
      obtain ⟨nd, bn, on, Ap, cp, hnd, hAe, hkc, hsl, hf, hfl⟩ := HRG.out.at_ hlt
      subst hAe
      have hgd : g.getD k default = nd := by simp [hnd]
      have hk0 : nd.kind ≠ 0 := fun e => by have h9 := HIN.out; rw [← HL0.out, HTI.out.c k nd hnd e] at h9; cases h9
      have HNX := lh (HTI.out.ran HG.out hlt (by rw [HL0.out]; exact HIN.out) H2.out)
      have HRH := lh (show Sg.ranH g t k = ⟨t.vals.set k (Sg.runF nd.f t.vals).1, t.reads.set k (Sg.runF nd.f t.vals).2, t.ran ++ [(k : Int)]⟩ by unfold Sg.ranH; rw [hgd])
      have hsl9 := Q5.out.old.cellE hsl
      have bsl9 := blt hsl9
      have hok := Sg.validG_fok HG.out k hnd hk0
      have HRUN := lh (s_run Ap (some ⟨gv, 0, none⟩) cp cv L nd.f t.vals ⟨hok.good, hok.len, hok.one, fun p hp h1 => by have := hok.reads p hp h1; omega⟩ HTI.out.n (World.drew w9) (hf.ext QD.out.old) QD.out.v.rd)
      have HST := HLL.out
      rw [if_pos ⟨HIN.out, H2.out⟩, hgd] at HST
      have HXR := lh (Sg.runF_range hok HTI.out.n)
      generalize hy0 : t.vals.getD k 0 = y0 at *
      generalize hXX : (Sg.runF nd.f t.vals).1 = X at *
      generalize hLL : (Sg.runF nd.f t.vals).2 = l9 at *
      have HY0 := lh hy0
      have HST := lh HST
      clear hsl hkc hf hok hgd hnd hk0 hy0 hXX hLL
      have hz9 : (World.drew w9).heap.size = w9.heap.size := rfl
      refine wp_region_held_drew (S := (fun W => W.cell? ⟨N, 0, none⟩ = some (.slice (some ⟨bn, on, none⟩) g.length cg) ∧ W.cell? ⟨bn, on + k * 2 + 1, none⟩ = some (.slice Ap nd.f.length cp) ∧ W.cell? ⟨N + 1, 0, none⟩ = some (.slice (some ⟨gv, 0, none⟩) L cv))) (by kernel_rfl) ?_ (fun hHeld => ?_)
      ·exact ⟨((Ext.rfl' _).dr).cellE g0, ((Ext.rfl' _).dr).cellE hsl9, ((Ext.rfl' _).dr).cellE s0⟩
      refine ty 0 ?_
      refine ty 1 ?_
      refine ty 2 ?_
      refine ty 3 ?_
      refine ty 4 ?_
      refine ty 5 ?_
      refine ty 6 ?_
      refine ty 7 ?_
      refine rd1 8 rfl fun K hK => ?_
      go_simp
      refine HRUN.out.mono ?_
      rintro e w6 ⟨A6, c6, rfl, ho6, he6, hx0, hx1⟩
      have O6 := lh ho6
      have E6 := lh he6
      have Q6 := lh (QD.out.ext he6)
      have hs6 := he6.size
      have k0 := ((Ext.rfl' w9).dr.tr he6).cellE g0
      have k1 := ((Ext.rfl' w9).dr.tr he6).cellE hsl9
      have k2 := ((Ext.rfl' w9).dr.tr he6).cellE s0
      clear ho6 he6 hx0 hx1
      try go_wp2_with fail
      refine hK.out _ _ (by exact ⟨k0, k1, k2⟩) fun hh2 => ?_; clear hK K hHeld; have hHeld := hh2; clear hh2
      try simp only [Act.put, pu]
      refine ty 9 ?_
      refine ty 10 ?_
      refine ty 11 ?_
      refine ty 12 ?_
      refine ty 13 ?_
      refine dn ?_
      clear k0 k1 k2 g0 s0 bg0 bs0 hsl9 bsl9 hHeld
      obtain ⟨Al2, cl2, crd, _, frd, brd⟩ := Q6.out.rds hkL
      have s1 := (D5.out.2.1.ext E6.out).cell (j := 1) rfl
      have bs1 := blt s1
      go_upto_region 8 with fail
      have hP7 := Q6.out.put hkL l9 (O6.out.mono (by have := QD.out.old.size; omega)) (fun b hb hf => by have h1 := (O6.out.lt hb).1; have h2 := (QD.out.lt hf).2; omega)
      obtain ⟨F7, hQ7, hm7, hF7⟩ := hP7
      have F7' := lh (show ∀ b, F7 b → F b ∨ N + 1 + 1 + 1 ≤ b from fun b hb => (hF7 b hb).elim (F5'.out b) (fun e => .inr (by have := (O6.out.lt e).1; have h5 := D5.out.2.2.lt; omega)))
      have nG : ∀ b, N ≤ b → b < N + 1 + 1 + 1 → ¬ F5 b := fun b h1 h2 hb => (F5'.out b hb).elim (fun e => by have := FW.out b e; omega) (fun e => by omega)
      have Q7 := lh hQ7
      have B7 := lh (And.intro ((D5.out.1.ext E6.out).mod hm7 (nG _ (by omega) (by omega))) (And.intro ((D5.out.2.1.ext E6.out).mod hm7 (nG _ (by omega) (by omega))) ((D5.out.2.2.ext E6.out).mod hm7 (nG _ (by omega) (by omega)))))
      have M7 := lh ((MD.out.tr' (Mod.of E6.out)).tr hm7 (fun b hb => (F5'.out b hb).imp id (fun e => by have := HN.out; omega)))
      clear hQ7 hm7 hF7 nG crd frd brd s1 bs1 Q6
      generalize World.setCell w6 ⟨gr, k, none⟩ (.slice A6 l9.length c6) = w7 at *
      have s0 := B7.out.2.1.cell (j := 0) rfl
      have bs0 := blt s0
      obtain ⟨cv7, fv7, bv7⟩ := Q7.out.val hkL
      dsimp only at cv7
      rw [HY0.out] at cv7
      by_cases hv : X = y0
      ·have y3 : (X != y0) = false := by simp [hv]
       have HV := lh hv
       have hsame : Sg.ranH g t k = ⟨t.vals, t.reads.set k l9, t.ran ++ [(k : Int)]⟩ := by
        rw [HRH.out, HV.out]
        have hvl := Q7.out.vl
        dsimp only at hvl
        have he : t.vals.set k y0 = t.vals := Sg.set_self (by rw [← HY0.out, List.getD_eq_getElem?_getD, List.getElem?_eq_getElem (by omega), Option.getD_some])
        rw [he]
       have HSA := lh hsame
       clear hv hsame
       go_wp2_with fail
       go_roundw
       case rel => exact ⟨k + 1, A2, c2, F7, by omega, by go_num, by rw [HSN.out, HST.out, if_pos HV.out, HSA.out]; simp, by rw [HSN.out, HST.out, if_pos HV.out, HSA.out]; exact Q7, M7, F7', lh B7.out.1, lh B7.out.2.1, lh B7.out.2.2⟩
       case measure => simp [intOf]; omega
      ·have y3 : (X != y0) = true := by simp [hv]
       have HV := lh hv
       clear hv
       go_upto_region 10 with fail
       obtain ⟨F8, hQ8, hm8, hF8⟩ := Q7.out.setVal k X
       have nG : ∀ b, N ≤ b → b < N + 1 + 1 + 1 → ¬ F7 b := fun b h1 h2 hb => (F7'.out b hb).elim (fun e => by have := FW.out b e; omega) (fun e => by omega)
       have Q8 := lh (show HQ w0 L gv cv gr cr A2 c2 [] (Sg.ranH g t k) F8 (World.setCell w7 ⟨gv, k, none⟩ (.int .i64 X)) by rw [HRH.out]; exact hQ8)
       have B8 := lh (And.intro (B7.out.1.mod hm8 (nG _ (by omega) (by omega))) (And.intro (B7.out.2.1.mod hm8 (nG _ (by omega) (by omega))) (B7.out.2.2.mod hm8 (nG _ (by omega) (by omega)))))
       have M8 := lh (M7.out.tr hm8 (fun b hb => (F7'.out b hb).imp id (fun e => by have := HN.out; omega)))
       have F8' := lh (show ∀ b, F8 b → F b ∨ N + 1 + 1 + 1 ≤ b from fun b hb => (hF8 b hb).elim (F7'.out b) (fun e => .inr (by have := B7.out.2.2.lt; omega)))
       clear hQ8 hm8 hF8 nG s0 bs0 cv7 fv7 bv7
       generalize World.setCell w7 ⟨gv, k, none⟩ (.int .i64 X) = w8 at *
       have g0 := B8.out.1.cell (j := 0) rfl
       have s0 := B8.out.2.1.cell (j := 0) rfl
       have s1 := B8.out.2.1.cell (j := 1) rfl
       have bg0 := blt g0
       have bs0 := blt s0
       have hrn : (Sg.ranH g t k).ran.length = t.ran.length + 1 := by rw [HRH.out]; simp
       have HRN := lh hrn
       have HCL := IH.out k (Sg.ranH g t k) A2 c2 F8 w8 (by have := HRN.out; omega) hkL HNX.out Q8.out
       rw [hrn] at HCL
       have HCL := lh HCL
       clear hrn
       go_wp2_with fail
       refine HCL.out.mono ?_
       rintro e w10 ⟨A10, c10, F10, rfl, hQ10, hm10, hF10⟩
       have Q10 := lh hQ10
       have nG : ∀ b, N ≤ b → b < N + 1 + 1 + 1 → ¬ F8 b := fun b h1 h2 hb => (F8'.out b hb).elim (fun e => by have := FW.out b e; omega) (fun e => by omega)
       have B10 := lh (And.intro (B8.out.1.mod hm10 (nG _ (by omega) (by omega))) (And.intro (B8.out.2.1.mod hm10 (nG _ (by omega) (by omega))) (B8.out.2.2.mod hm10 (nG _ (by omega) (by omega)))))
       have M10 := lh (M8.out.tr hm10 (fun b hb => (F8'.out b hb).imp id (fun e => by have := HN.out; omega)))
       have F10' := lh (show ∀ b, F10 b → F b ∨ N + 1 + 1 + 1 ≤ b from fun b hb => (hF10 b hb).elim (F8'.out b) (fun e => .inr (by have := B8.out.2.2.lt; omega)))
       clear hQ10 hm10 hF10 nG g0 s0 s1 bg0 bs0
       have s0 := B10.out.2.1.cell (j := 0) rfl
       have s1 := B10.out.2.1.cell (j := 1) rfl
       have f0 := B10.out.2.1.free 0
       have f1 := B10.out.2.1.free 1
       have bs0 := blt s0
       go_wp2_with fail
       have B11 := lh ((B10.out.2.1.set 0 (.slice (some ⟨gv, 0, none⟩) L cv)).set 1 (.slice (some ⟨gr, 0, none⟩) L cr))
       have m11 := Mod.set2 w10 (N + 1) (.slice (some ⟨gv, 0, none⟩) L cv) (.slice (some ⟨gr, 0, none⟩) L cr)
       have Q11 := lh (Q10.out.md m11 (fun b hb e => by
        rcases F10'.out b hb with h | h
        ·have := FW.out b h; omega
        ·omega) (fun b hb e => by have := HN.out; omega))
       have BB := lh (And.intro (B10.out.1.mod m11 (by omega)) (B10.out.2.2.mod m11 (by omega)))
       have M11 := lh (M10.out.tr m11 (fun b e => .inr (by have := HN.out; omega)))
       clear m11
       go_roundw
       case rel => exact ⟨k + 1, A10, c10, F10, by omega, by go_num, by rw [HSN.out, HST.out, if_neg HV.out], by rw [HSN.out, HST.out, if_neg HV.out]; exact Q11, M11, F10', lh BB.out.1, B11, lh BB.out.2⟩
       case measure => simp [intOf]; omega
    ·have HIN := lh hin
     have y1 : decide (placeIn l0 (n : Int) < 0) = true := decide_eq_true ((placeIn_neg l0 (n : Int)).2 hin)
     clear hin
     go_wp2_with fail
     refine (HCN.out _ RR.out).mono ?_
     rintro e w2 ⟨rfl, rfl⟩
     go_wp2_with fail
     go_roundw
     case rel => exact ⟨k + 1, A1, c1, F1, by omega, by go_num, by rw [HSN.out, HLL.out, if_neg (fun h => HIN.out h.1)], by rw [HSN.out, HLL.out, if_neg (fun h => HIN.out h.1)]; exact hQ, hM, hF, hBG, hBS, hBR⟩
     case measure => simp [intOf]; omega
   ·obtain rfl : k = g.length := by omega
    have s0 := hBS.out.cell (j := 0) rfl
    have s1 := hBS.out.cell (j := 1) rfl
    have bs0 := blt s0
    have x0 := hBR.out.cell (j := 0) rfl
    have x1 := hBR.out.cell (j := 1) rfl
    have f0 := hBR.out.free 0
    have f1 := hBR.out.free 1
    have bx0 := blt x0
    have BF := lh ((hBR.out.set 0 (.slice (some ⟨gv, 0, none⟩) L cv)).set 1 (.slice (some ⟨gr, 0, none⟩) L cr))
    have r0 := BF.out.cell (j := 0) rfl
    have r1 := BF.out.cell (j := 1) rfl
    go_wp2
    refine bodyPost_ret (v := .tuple #[.agg #[.slice (some ⟨gv, 0, none⟩) L cv, .slice (some ⟨gr, 0, none⟩) L cr], .slice A1 (Sg.hastyTo g f n s g.length).ran.length c1]) (by simp [results, Tryz.results103, go_sem, r0, r1]; try rfl) rfl ?_
    have m11 := Mod.set2 wr (N + 1 + 1) (.slice (some ⟨gv, 0, none⟩) L cv) (.slice (some ⟨gr, 0, none⟩) L cr)
    refine ⟨A1, c1, F1, rfl, ?_, hM.out.tr m11 (fun b e => .inr (by have := HN.out; omega)), fun b hb => (hF.out b hb).imp id (fun e => by have := HN.out; omega)⟩
    exact hQ.out.md m11 (fun b hb e => by
     rcases hF.out b hb with h | h
     ·have := FW.out b h; omega
     ·omega) (fun b hb e => by have := HN.out; omega)
end Go.Proofs.YtmkfjnkdaeoppaaGreat
