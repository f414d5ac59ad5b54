/- FnExactMoveHistory: the law's walk, given the contracts of both functions. Conditions: the arguments can be read. -/
import Derived.Test.YteighpaljdlnaaaGreatTy
import Derived.Test.YteighpaljdlnaaaGreatFactsAll
import Derived.Test.YteighpaljdlnaaaGreatLawVW
import Derived.Test.YteighpaljdlnaaaGreatMarksC
import Derived.Test.YteighpaljdlnaaaGreatHisL
import Derived.Test.YteighpaljdlnaaaGreatHisP
namespace Go.Proofs.YteighpaljdlnaaaGreat
open Go.RowKit

theorem held_FnExactMoveHistory (A : Option Addr) (c n : Nat) (k : Int) (w : World) (h : Rd w 1 A n (ints (num k n))) (hk : 0 ≤ k) (hb : k + (n : Int) ≤ 1000000000000) :
  Calls Tryz.prog 17 #[.slice A n c, .int .i64 k] w fun e w' => e = .returned (.int .i64 (k + (n : Int))) ∧ Ext w w' :=
 (l_heldIntS A c n k w h hk hb).mono fun e w' hh => ⟨hh.1, by have h2 := hh.2; subst h2; exact Ext.rfl' _⟩

theorem held_alFnExactMoveHistory {ops : Array Oper} {o : Oper} {a : Act} {w : World} {K : Act → World → Prop} {Q : Exit → Act → World → Prop} {E0 : Prop} (hgd : o.guard = none) (ho : o.op = Op.alloc 30)
  (h : ∀ b w', b = w.heap.size → w'.cell? ⟨b, 0, none⟩ = some (.slice none 0 0) → w'.cell? ⟨b, 1, none⟩ = some (.int .i64 0) → w'.frozen? ⟨b, 0, none⟩ = false → w'.frozen? ⟨b, 1, none⟩ = false → Ext w w' → w.heap.size + 1 ≤ w'.heap.size → K (a.put o.dst (.pointer (some ⟨b, 0, none⟩))) w') :
  if Region.wanted o (yielded ops a.tmps) = true then Oper.wp Tryz.prog o a w K Q else E0 := by
 have hw : Region.wanted o (yielded ops a.tmps) = true := by simp [Region.wanted, hgd]
 rw [if_pos hw]
 obtain ⟨dst, op, ty, pos, aft, gd⟩ := o
 simp only at hgd ho
 subst ho
 go_simp
 exact h _ _ rfl (by simp [go_sem]) (by simp [go_sem]) (by simp [go_sem]) (by simp [go_sem]) ((Ext.rfl' w).al _) (by simp)

set_option maxRecDepth 100000 in
set_option maxHeartbeats 16000000 in
theorem l_FnExactMoveHistory (A0 : Option Addr) (c0 : Nat) (g : Sg.Graph) (A1 : Option Addr) (c1 : Nat) (r : List (List Int)) (p1 : Int) (n2 : Int) (s0 : Sg.Hist) (s1 : List Int) (s2 : Bool) (hsm0 : SmallH s0) (hsm1 : s1.length ≤ 1048576)
  (hS : (∀ (B0 : Option Addr) (d0 : Nat) (B1 : Option Addr) (d1 : Nat) (w : World), RdN w B0 g → RdL w B1 r → Calls Tryz.prog 6 #[.agg #[.slice B0 g.length d0], .agg #[.slice B1 r.length d1, .int .i64 p1], .int .i64 n2] w fun e w' => ∃ R00 d00 z0 R10 d10, e = .returned (.tuple #[.agg #[.slice R00 s0.sts.length d00, .int .i64 s0.pos], .slice R10 s1.length d10, .bool s2]) ∧ OwnL w' w.heap.size R00 d00 s0.sts z0 ∧ Own w' w.heap.size 3 1 R10 s1.length d10 (ints s1) ∧ (∀ b, (fpD R00 z0 b) → ¬ (blk R10 = some b)) ∧ Ext w w'))
  (hI : (∀ (B0 : Option Addr) (d0 : Nat) (B1 : Option Addr) (d1 : Nat) (w : World), RdN w B0 g → RdL w B1 r → Calls Tryz.prog 9 #[.agg #[.slice B0 g.length d0], .agg #[.slice B1 r.length d1, .int .i64 p1], .int .i64 n2] w fun e w' => ∃ R00 d00 z0 R10 d10, e = .returned (.tuple #[.agg #[.slice R00 s0.sts.length d00, .int .i64 s0.pos], .slice R10 s1.length d10, .bool s2]) ∧ OwnL w' w.heap.size R00 d00 s0.sts z0 ∧ Own w' w.heap.size 3 1 R10 s1.length d10 (ints s1) ∧ (∀ b, (fpD R00 z0 b) → ¬ (blk R10 = some b)) ∧ Ext w w'))
  (w : World) (h0 : RdN0 w A0 g) (h1r : RdL0 w A1 r) :
  Calls Tryz.prog 3 #[.agg #[.slice A0 g.length c0], .agg #[.slice A1 r.length c1, .int .i64 p1], .int .i64 n2] w fun e w' => e = .returned (.bool true) ∧ Ext w w' := by
 have E0 := lh ((((Ext.rfl' w).al (.cells #[.slice A0 g.length c0] 24)).al (.cells #[.slice A1 r.length c1, .int .i64 p1] 27)) : Ext w (World.alloc (World.alloc w (.cells #[.slice A0 g.length c0] 24)) (.cells #[.slice A1 r.length c1, .int .i64 p1] 27)))
 have HZG := lh (fun w h => l_szGraph A0 c0 g 1048576 w h (Nat.le_refl _))
 have H0 := lh h0
 have H1r := lh h1r
 clear h0 h1r
 rcases Sg.szL_neg (g.map (fun n => n.f.length)) 1048576 with hs | hs
 ·have Hs := lh hs
  clear hs
  go_enter Tryz.func3, Tryz.ntmps3
  go_wp2_with (go_at_call 4; refine (HZG.out _ (H0.out.ext E0.out)).mono ?_; rintro e w1 ⟨rfl, he1⟩; rw [Hs.out])
  go_ret
  exact ⟨rfl, E0.out.tr he1⟩
 have hto := totN_le g 1048576 hs
 obtain ⟨hgl, hfl, M, hM, hs⟩ := Sg.szL_ok _ _ hs
 have HN := lh (H0.out.up2 (by simpa using hgl) (by simpa using hfl))
 have Hs := lh hs
 have hgl2 : g.length ≤ 1048576 := by simpa using hgl
 have Hfl : Hid (∀ n ∈ g, n.f.length ≤ 1048576) := lh (by simpa using hfl)
 clear hgl hfl hs H0
 have HZX := lh (fun w h => l_szHistory A1 c1 r p1 M w h hM)
 rcases Sg.szL_neg (r.map List.length) M with hs | hs
 ·have Ht := lh hs
  clear hs
  go_enter Tryz.func3, Tryz.ntmps3
  go_wp2_with fail
  refine (HZG.out _ (HN.out.to0.ext E0.out)).mono ?_
  rintro e w1 ⟨rfl, he1⟩
  rw [Hs.out]
  have q0 := he1.cellE (show World.cell? (World.alloc (World.alloc w (.cells #[.slice A0 g.length c0] 24)) (.cells #[.slice A1 r.length c1, .int .i64 p1] 27)) ⟨w.heap.size, 0, none⟩ = some (.slice A0 g.length c0) by simp [go_sem])
  have q1 := he1.cellE (show World.cell? (World.alloc (World.alloc w (.cells #[.slice A0 g.length c0] 24)) (.cells #[.slice A1 r.length c1, .int .i64 p1] 27)) ⟨w.heap.size + 1, 0, none⟩ = some (.slice A1 r.length c1) by simp [go_sem])
  have q2 := he1.cellE (show World.cell? (World.alloc (World.alloc w (.cells #[.slice A0 g.length c0] 24)) (.cells #[.slice A1 r.length c1, .int .i64 p1] 27)) ⟨w.heap.size + 1, 1, none⟩ = some (.int .i64 p1) by simp [go_sem])
  go_wp2_with fail
  refine (HZX.out _ (H1r.out.ext (E0.out.tr he1))).mono ?_
  rintro e w2 ⟨rfl, he2⟩
  rw [Ht.out]
  go_wp2
  go_ret
  exact ⟨rfl, (E0.out.tr he1).tr he2⟩
 have htr : totL r ≤ 1048576 := by
  have h4 := Sg.szL_sum _ _ hs
  simp only [totL]
  simp only [List.length_map] at h4
  omega
 obtain ⟨hrl, hrr, M3, hM3, hs3⟩ := Sg.szL_ok _ _ hs
 simp only [List.length_map] at hrl
 have hrl2 : r.length ≤ 1048576 := by omega
 have Hrr : Hid (∀ l ∈ r, l.length ≤ 1048576) := lh (fun l hl => by have := hrr l.length (List.mem_map_of_mem hl); omega)
 have HR := lh (H1r.out.up3 hrl2 Hrr.out)
 have Ht := lh hs3
 clear hs hs3 hrr H1r
 have zne2 : (s2 != s2) = false := by simp
 have Hsm0 := lh hsm0
 have Hsm1 := lh hsm1
 have HS := lh hS
 have HI := lh hI
 clear hS hI hsm0 hsm1
 have HT0 := lh (fun w h => l_toGraph A0 c0 g w h)
 have HE0 := lh (fun A B w h k => l_eqGraph A B g.length g.length g w h k)
 have HM0 := lh (fun B A hs k w h hk hb => l_markGraph (B := B) A g.length g hs k w h hk hb hgl2)
 have HT1 := lh (fun w hr => l_toHistory A1 c1 r p1 w hr)
 have HE1 := lh (fun A B w h k => l_eqHistory A B r.length r.length r p1 w h k)
 have HM1 := lh (fun B A hs k w h hk hb => l_markHistory (B := B) A r.length r hs p1 k w h hk hb hrl2)
 have sm0r := Hsm0.out.r
 have sm0t := Hsm0.out.t
 have HRE0 := lh (fun A B ca cb w h k => l_eqHistory A B ca cb s0.sts s0.pos w h k)
 have HRM0 := lh (fun B A c hs k w h hk hb => l_markHistory (B := B) A c s0.sts hs s0.pos k w h hk hb sm0r)
 have HRH0 := lh (fun A c k w h hk hb => l_heldHistory A c s0.sts s0.pos k w h hk hb)
 have sm1 := Hsm1.out
 have HRE1 := lh (fun A B ca cb w h k => l_eqIntS A B ca cb s1 w h k)
 have HRM1 := lh (fun B A c k w h hk hb => l_markIntS (B := B) A c s1 k w h hk hb)
 have HRH1 := lh (fun A c k w h hk hb => held_FnExactMoveHistory A c s1.length k w h hk hb)
 have hne2 : (s2 != s2) = false := by simp
 go_enter Tryz.func3, Tryz.ntmps3
 go_wp2_with fail
 refine (HZG.out _ (HN.out.to0.ext E0.out)).mono ?_
 rintro e w1 ⟨rfl, hX1⟩
 have ux1 := lh ((Ext.rfl' (World.alloc (World.alloc w (.cells #[.slice A0 g.length c0] 24)) (.cells #[.slice A1 r.length c1, .int .i64 p1] 27))).tr hX1)
 have q1_0 := ux1.out.cellE (show World.cell? (World.alloc (World.alloc w (.cells #[.slice A0 g.length c0] 24)) (.cells #[.slice A1 r.length c1, .int .i64 p1] 27)) ⟨w.heap.size, 0, none⟩ = some (.slice A0 g.length c0) by simp [go_sem])
 have q1_1 := ux1.out.cellE (show World.cell? (World.alloc (World.alloc w (.cells #[.slice A0 g.length c0] 24)) (.cells #[.slice A1 r.length c1, .int .i64 p1] 27)) ⟨w.heap.size + 1, 0, none⟩ = some (.slice A1 r.length c1) by simp [go_sem])
 have q1_2 := ux1.out.cellE (show World.cell? (World.alloc (World.alloc w (.cells #[.slice A0 g.length c0] 24)) (.cells #[.slice A1 r.length c1, .int .i64 p1] 27)) ⟨w.heap.size + 1, 1, none⟩ = some (.int .i64 p1) by simp [go_sem])
 have z1 := ux1.out.size
 simp only [World.size_alloc] at z1
 clear hX1 
 have b1_0 := blt q1_0
 have b1_1 := blt q1_1
 rw [Hs.out]
 go_wp2_with fail
 refine (HZX.out _ (HR.out.to0.ext (E0.out.tr ux1.out))).mono ?_
 rintro e w2 ⟨rfl, hX2⟩
 have ux2 := lh ((Ext.rfl' w1).tr hX2)
 have q2_0 := ux2.out.cellE q1_0
 have q2_1 := ux2.out.cellE q1_1
 have q2_2 := ux2.out.cellE q1_2
 have z2 := ux2.out.size
 clear hX2 q1_0 q1_1 q1_2 b1_0 b1_1
 have b2_0 := blt q2_0
 have b2_1 := blt q2_1
 rw [Ht.out]
 have E2w := lh (((E0.out.tr ux1.out).tr ux2.out))
 have lww := E2w.out.size
 go_upto_region 8 with fail
 go_cut [8, 9, 10] (fun s8 s9 s10 wx => ∃ (bw : Nat) (Rw00 : Option Addr) (dw00 : Nat) (zw0 : List (Option Addr × Nat)) (Rw10 : Option Addr) (dw10 : Nat) (Lw : Nat), s8 = .pointer (some ⟨bw, 0, none⟩) ∧ s9 = .slice Rw10 s1.length dw10 ∧ s10 = .bool s2 ∧ Hid (wx.cell? ⟨bw, 0, none⟩ = some (.slice Rw00 s0.sts.length dw00)) ∧ Hid (wx.cell? ⟨bw, 1, none⟩ = some (.int .i64 s0.pos)) ∧ Hid (OwnL wx Lw Rw00 dw00 s0.sts zw0) ∧ Hid (Own wx Lw 3 1 Rw10 s1.length dw10 (ints s1)) ∧ Hid (∀ b, (fpD Rw00 zw0 b) → ¬ (blk Rw10 = some b)) ∧ w2.heap.size ≤ bw ∧ Hid (Ext w2 wx))
 case first =>
  refine wp_region_held_drew (S := (fun W => W.cell? ⟨w.heap.size, 0, none⟩ = some (.slice A0 g.length c0) ∧ W.cell? ⟨w.heap.size + 1, 0, none⟩ = some (.slice A1 r.length c1) ∧ W.cell? ⟨w.heap.size + 1, 1, none⟩ = some (.int .i64 p1))) (by kernel_rfl) ?_ (fun hHeld => ?_)
  ·exact ⟨((Ext.rfl' w2).dr).cellE q2_0, ((Ext.rfl' w2).dr).cellE q2_1, ((Ext.rfl' w2).dr).cellE q2_2⟩
  refine ty 0 ?_
  refine ty 2 ?_
  refine ty 4 ?_
  refine wpAnyH_ready (rs := [1, 10]) (by kernel_rfl) (by simp) ?_
  refine AllReadyH.cons rfl (fun K hK => ?_) ?_
  ·go_simp
   refine (HT0.out _ (HN.out.ext ((E2w.out.dr).tr (Ext.rfl' _)))).mono ?_
   rintro e wa1 ⟨Xw0, hw0, rfl, ho, hX1⟩
   have Ow0 := lh ho
   clear ho
   have sz1 := hX1.size
   try simp only [World.size_drew] at sz1
   try go_wp2_with fail
   refine hK.out _ _ (by exact ⟨((Ext.rfl' w2).dr.tr hX1).cellE q2_0, ((Ext.rfl' w2).dr.tr hX1).cellE q2_1, ((Ext.rfl' w2).dr.tr hX1).cellE q2_2⟩) fun hh2 => ?_; clear hK K hHeld; have hHeld := hh2; clear hh2
   try simp only [Act.put, pu]
   refine wpAnyH_ready (rs := [3, 10]) (by kernel_rfl) (by simp) ?_
   refine AllReadyH.cons rfl (fun K hK => ?_) ?_
   ·go_simp
    refine (HT1.out _ (HR.out.ext ((E2w.out.dr).tr hX1))).mono ?_
    rintro e wa2 ⟨Xw1, hw1, rfl, ho, hX2⟩
    have Ow1 := lh ho
    clear ho
    have sz2 := hX2.size
    try simp only [World.size_drew] at sz2
    try go_wp2_with fail
    refine hK.out _ _ (by exact ⟨((Ext.rfl' w2).dr.tr (hX1.tr hX2)).cellE q2_0, ((Ext.rfl' w2).dr.tr (hX1.tr hX2)).cellE q2_1, ((Ext.rfl' w2).dr.tr (hX1.tr hX2)).cellE q2_2⟩) fun hh2 => ?_; clear hK K hHeld; have hHeld := hh2; clear hh2
    try simp only [Act.put, pu]
    refine wpAnyH_ready (rs := [5, 10]) (by kernel_rfl) (by simp) ?_
    refine AllReadyH.cons rfl (fun K hK => ?_) ?_
    ·go_simp
     refine (HS.out Xw0 _ Xw1 _ _ (OwnN.rdN (OwnD.ext Ow0.out (hX2)) hgl2 Hfl.out) (OwnL.rdL (OwnD.ext Ow1.out ((Ext.rfl' _))) hrl2 Hrr.out)).mono ?_
     rintro e wa3 ⟨Rw00, dw00, zw0, Rw10, dw10, rfl, ho0, ho1, hd01, hX3⟩
     have A0w := lh ho0
     have A1w := lh ho1
     have DD01w := lh hd01
     clear ho0 ho1 hd01
     have sz3 := hX3.size
     try simp only [World.size_drew] at sz3
     try go_wp2_with fail
     refine hK.out _ _ (by exact ⟨((Ext.rfl' w2).dr.tr ((hX1.tr hX2).tr hX3)).cellE q2_0, ((Ext.rfl' w2).dr.tr ((hX1.tr hX2).tr hX3)).cellE q2_1, ((Ext.rfl' w2).dr.tr ((hX1.tr hX2).tr hX3)).cellE q2_2⟩) fun hh2 => ?_; clear hK K hHeld; have hHeld := hh2; clear hh2
     try simp only [Act.put, pu]
     refine ty 6 ?_
     refine ty 7 ?_
     refine ty 8 ?_
     refine ty 9 ?_
     refine rd1 10 rfl fun K hK => ?_
     refine held_alFnExactMoveHistory rfl rfl ?_
     intro bw wa4 hb6 hc0 hc1 hf0 hf1 hX4 hz6
     try simp only [World.size_drew] at hb6 hz6
     have hlb : w2.heap.size ≤ bw := by omega
     have Hb6 := lh hb6
     clear hb6
     have sz4 := hX4.size
     try simp only [World.size_drew] at sz4
     try simp only [pg]
     refine hK.out _ _ (by exact ⟨((Ext.rfl' w2).dr.tr (((hX1.tr hX2).tr hX3).tr hX4)).cellE q2_0, ((Ext.rfl' w2).dr.tr (((hX1.tr hX2).tr hX3).tr hX4)).cellE q2_1, ((Ext.rfl' w2).dr.tr (((hX1.tr hX2).tr hX3).tr hX4)).cellE q2_2⟩) fun hh2 => ?_; clear hK K hHeld; have hHeld := hh2; clear hh2
     try simp only [Act.put, pu]
     refine rd1 11 rfl fun K hK => ?_
     have hb6 := Hb6.out
     have hl6 := blt hc0
     have M6 : Mod (fun x => x = bw) wa4 (World.setCell (World.setCell wa4 ⟨bw, 0, none⟩ (.slice Rw00 s0.sts.length dw00)) ⟨bw, 1, none⟩ (.int .i64 s0.pos)) := (Mod.set (F := fun x => x = bw) (Mod.set (F := fun x => x = bw) (Mod.rfl' _ _) (p := ⟨bw, 0, none⟩) (.inl rfl) _) (p := ⟨bw, 1, none⟩) (.inl rfl) _)
     have X0 := lh (show World.cell? (World.setCell (World.setCell wa4 ⟨bw, 0, none⟩ (.slice Rw00 s0.sts.length dw00)) ⟨bw, 1, none⟩ (.int .i64 s0.pos)) ⟨bw, 0, none⟩ = some (.slice Rw00 s0.sts.length dw00) by simp [go_sem, hc0])
     have X1 := lh (show World.cell? (World.setCell (World.setCell wa4 ⟨bw, 0, none⟩ (.slice Rw00 s0.sts.length dw00)) ⟨bw, 1, none⟩ (.int .i64 s0.pos)) ⟨bw, 1, none⟩ = some (.int .i64 s0.pos) by simp [go_sem, hc1])
     have B0w := lh (OwnD.mod (OwnD.ext A0w.out (hX4)) M6 (fun b hb e => by subst e; have h1 := A0w.out.lt hb; (try simp only [World.size_drew] at h1); omega))
     have B1w := lh (Own.mod (Own.ext A1w.out (hX4)) M6 (fun b hb e => by subst e; have h1 := A1w.out.lt hb; (try simp only [World.size_drew] at h1); omega))
     have e0s := (Ext.set (Ext.set ((((hX1.tr hX2).tr hX3).tr hX4) : Ext (World.drew w2) wa4) (p := ⟨bw, 0, none⟩) (by simp; omega) (.slice Rw00 s0.sts.length dw00)) (p := ⟨bw, 1, none⟩) (by simp; omega) (.int .i64 s0.pos))
     have E0S := lh e0s
     clear e0s M6 hb6 hl6
     go_simp
     try simp only [pg]
     refine hK.out _ _ (by exact ⟨((Ext.rfl' w2).dr.tr E0S.out).cellE q2_0, ((Ext.rfl' w2).dr.tr E0S.out).cellE q2_1, ((Ext.rfl' w2).dr.tr E0S.out).cellE q2_2⟩) fun hh2 => ?_; clear hK K hHeld; have hHeld := hh2; clear hh2
     try simp only [Act.put]
     refine ty 12 ?_
     refine ty 13 ?_
     refine dn ?_
     go_wp2_with fail
     go_meet
     exact ⟨bw, _, _, _, _, _, _, rfl, rfl, rfl, X0, X1, B0w, B1w, DD01w, hlb, lh ((Ext.rfl' w2).dr.tr E0S.out)⟩
    refine AllReadyH.cons rfl (fun K hK => ?_) ?_
    ·refine held_alFnExactMoveHistory rfl rfl ?_
     intro bw wa3 hb6 hc0 hc1 hf0 hf1 hX3 hz6
     try simp only [World.size_drew] at hb6 hz6
     have hlb : w2.heap.size ≤ bw := by omega
     have Hb6 := lh hb6
     clear hb6
     have sz3 := hX3.size
     try simp only [World.size_drew] at sz3
     try simp only [pg]
     refine hK.out _ _ (by exact ⟨((Ext.rfl' w2).dr.tr ((hX1.tr hX2).tr hX3)).cellE q2_0, ((Ext.rfl' w2).dr.tr ((hX1.tr hX2).tr hX3)).cellE q2_1, ((Ext.rfl' w2).dr.tr ((hX1.tr hX2).tr hX3)).cellE q2_2⟩) fun hh2 => ?_; clear hK K hHeld; have hHeld := hh2; clear hh2
     try simp only [Act.put, pu]
     refine rd1 5 rfl fun K hK => ?_
     go_simp
     refine (HS.out Xw0 _ Xw1 _ _ (OwnN.rdN (OwnD.ext Ow0.out ((hX2.tr hX3))) hgl2 Hfl.out) (OwnL.rdL (OwnD.ext Ow1.out (hX3)) hrl2 Hrr.out)).mono ?_
     rintro e wa4 ⟨Rw00, dw00, zw0, Rw10, dw10, rfl, ho0, ho1, hd01, hX4⟩
     have A0w := lh ho0
     have A1w := lh ho1
     have DD01w := lh hd01
     clear ho0 ho1 hd01
     have sz4 := hX4.size
     try simp only [World.size_drew] at sz4
     try go_wp2_with fail
     refine hK.out _ _ (by exact ⟨((Ext.rfl' w2).dr.tr (((hX1.tr hX2).tr hX3).tr hX4)).cellE q2_0, ((Ext.rfl' w2).dr.tr (((hX1.tr hX2).tr hX3).tr hX4)).cellE q2_1, ((Ext.rfl' w2).dr.tr (((hX1.tr hX2).tr hX3).tr hX4)).cellE q2_2⟩) fun hh2 => ?_; clear hK K hHeld; have hHeld := hh2; clear hh2
     try simp only [Act.put, pu]
     refine ty 6 ?_
     refine ty 7 ?_
     refine ty 8 ?_
     refine ty 9 ?_
     refine rd1 11 rfl fun K hK => ?_
     have hb6 := Hb6.out
     have hl5 := blt hc0
     have hc0 := (hX4).cellE hc0
     have hc1 := (hX4).cellE hc1
     have hf0 := ((hX4).frozen (p := ⟨bw, 0, none⟩) hl5).trans hf0
     have hf1 := ((hX4).frozen (p := ⟨bw, 1, none⟩) hl5).trans hf1
     clear hl5
     have hl6 := blt hc0
     have M6 : Mod (fun x => x = bw) wa4 (World.setCell (World.setCell wa4 ⟨bw, 0, none⟩ (.slice Rw00 s0.sts.length dw00)) ⟨bw, 1, none⟩ (.int .i64 s0.pos)) := (Mod.set (F := fun x => x = bw) (Mod.set (F := fun x => x = bw) (Mod.rfl' _ _) (p := ⟨bw, 0, none⟩) (.inl rfl) _) (p := ⟨bw, 1, none⟩) (.inl rfl) _)
     have X0 := lh (show World.cell? (World.setCell (World.setCell wa4 ⟨bw, 0, none⟩ (.slice Rw00 s0.sts.length dw00)) ⟨bw, 1, none⟩ (.int .i64 s0.pos)) ⟨bw, 0, none⟩ = some (.slice Rw00 s0.sts.length dw00) by simp [go_sem, hc0])
     have X1 := lh (show World.cell? (World.setCell (World.setCell wa4 ⟨bw, 0, none⟩ (.slice Rw00 s0.sts.length dw00)) ⟨bw, 1, none⟩ (.int .i64 s0.pos)) ⟨bw, 1, none⟩ = some (.int .i64 s0.pos) by simp [go_sem, hc1])
     have B0w := lh (OwnD.mod (OwnD.ext A0w.out ((Ext.rfl' _))) M6 (fun b hb e => by subst e; have h1 := A0w.out.lt hb; (try simp only [World.size_drew] at h1); omega))
     have B1w := lh (Own.mod (Own.ext A1w.out ((Ext.rfl' _))) M6 (fun b hb e => by subst e; have h1 := A1w.out.lt hb; (try simp only [World.size_drew] at h1); omega))
     have e0s := (Ext.set (Ext.set ((((hX1.tr hX2).tr hX3).tr hX4) : Ext (World.drew w2) wa4) (p := ⟨bw, 0, none⟩) (by simp; omega) (.slice Rw00 s0.sts.length dw00)) (p := ⟨bw, 1, none⟩) (by simp; omega) (.int .i64 s0.pos))
     have E0S := lh e0s
     clear e0s M6 hb6 hl6
     go_simp
     try simp only [pg]
     refine hK.out _ _ (by exact ⟨((Ext.rfl' w2).dr.tr E0S.out).cellE q2_0, ((Ext.rfl' w2).dr.tr E0S.out).cellE q2_1, ((Ext.rfl' w2).dr.tr E0S.out).cellE q2_2⟩) fun hh2 => ?_; clear hK K hHeld; have hHeld := hh2; clear hh2
     try simp only [Act.put]
     refine ty 12 ?_
     refine ty 13 ?_
     refine dn ?_
     go_wp2_with fail
     go_meet
     exact ⟨bw, _, _, _, _, _, _, rfl, rfl, rfl, X0, X1, B0w, B1w, DD01w, hlb, lh ((Ext.rfl' w2).dr.tr E0S.out)⟩
    exact AllReadyH.nil
   refine AllReadyH.cons rfl (fun K hK => ?_) ?_
   ·refine held_alFnExactMoveHistory rfl rfl ?_
    intro bw wa2 hb6 hc0 hc1 hf0 hf1 hX2 hz6
    try simp only [World.size_drew] at hb6 hz6
    have hlb : w2.heap.size ≤ bw := by omega
    have Hb6 := lh hb6
    clear hb6
    have sz2 := hX2.size
    try simp only [World.size_drew] at sz2
    try simp only [pg]
    refine hK.out _ _ (by exact ⟨((Ext.rfl' w2).dr.tr (hX1.tr hX2)).cellE q2_0, ((Ext.rfl' w2).dr.tr (hX1.tr hX2)).cellE q2_1, ((Ext.rfl' w2).dr.tr (hX1.tr hX2)).cellE q2_2⟩) fun hh2 => ?_; clear hK K hHeld; have hHeld := hh2; clear hh2
    try simp only [Act.put, pu]
    refine rd1 3 rfl fun K hK => ?_
    go_simp
    refine (HT1.out _ (HR.out.ext ((E2w.out.dr).tr (hX1.tr hX2)))).mono ?_
    rintro e wa3 ⟨Xw1, hw1, rfl, ho, hX3⟩
    have Ow1 := lh ho
    clear ho
    have sz3 := hX3.size
    try simp only [World.size_drew] at sz3
    try go_wp2_with fail
    refine hK.out _ _ (by exact ⟨((Ext.rfl' w2).dr.tr ((hX1.tr hX2).tr hX3)).cellE q2_0, ((Ext.rfl' w2).dr.tr ((hX1.tr hX2).tr hX3)).cellE q2_1, ((Ext.rfl' w2).dr.tr ((hX1.tr hX2).tr hX3)).cellE q2_2⟩) fun hh2 => ?_; clear hK K hHeld; have hHeld := hh2; clear hh2
    try simp only [Act.put, pu]
    refine rd1 5 rfl fun K hK => ?_
    go_simp
    refine (HS.out Xw0 _ Xw1 _ _ (OwnN.rdN (OwnD.ext Ow0.out ((hX2.tr hX3))) hgl2 Hfl.out) (OwnL.rdL (OwnD.ext Ow1.out ((Ext.rfl' _))) hrl2 Hrr.out)).mono ?_
    rintro e wa4 ⟨Rw00, dw00, zw0, Rw10, dw10, rfl, ho0, ho1, hd01, hX4⟩
    have A0w := lh ho0
    have A1w := lh ho1
    have DD01w := lh hd01
    clear ho0 ho1 hd01
    have sz4 := hX4.size
    try simp only [World.size_drew] at sz4
    try go_wp2_with fail
    refine hK.out _ _ (by exact ⟨((Ext.rfl' w2).dr.tr (((hX1.tr hX2).tr hX3).tr hX4)).cellE q2_0, ((Ext.rfl' w2).dr.tr (((hX1.tr hX2).tr hX3).tr hX4)).cellE q2_1, ((Ext.rfl' w2).dr.tr (((hX1.tr hX2).tr hX3).tr hX4)).cellE q2_2⟩) fun hh2 => ?_; clear hK K hHeld; have hHeld := hh2; clear hh2
    try simp only [Act.put, pu]
    refine ty 6 ?_
    refine ty 7 ?_
    refine ty 8 ?_
    refine ty 9 ?_
    refine rd1 11 rfl fun K hK => ?_
    have hb6 := Hb6.out
    have hl5 := blt hc0
    have hc0 := ((hX3.tr hX4)).cellE hc0
    have hc1 := ((hX3.tr hX4)).cellE hc1
    have hf0 := (((hX3.tr hX4)).frozen (p := ⟨bw, 0, none⟩) hl5).trans hf0
    have hf1 := (((hX3.tr hX4)).frozen (p := ⟨bw, 1, none⟩) hl5).trans hf1
    clear hl5
    have hl6 := blt hc0
    have M6 : Mod (fun x => x = bw) wa4 (World.setCell (World.setCell wa4 ⟨bw, 0, none⟩ (.slice Rw00 s0.sts.length dw00)) ⟨bw, 1, none⟩ (.int .i64 s0.pos)) := (Mod.set (F := fun x => x = bw) (Mod.set (F := fun x => x = bw) (Mod.rfl' _ _) (p := ⟨bw, 0, none⟩) (.inl rfl) _) (p := ⟨bw, 1, none⟩) (.inl rfl) _)
    have X0 := lh (show World.cell? (World.setCell (World.setCell wa4 ⟨bw, 0, none⟩ (.slice Rw00 s0.sts.length dw00)) ⟨bw, 1, none⟩ (.int .i64 s0.pos)) ⟨bw, 0, none⟩ = some (.slice Rw00 s0.sts.length dw00) by simp [go_sem, hc0])
    have X1 := lh (show World.cell? (World.setCell (World.setCell wa4 ⟨bw, 0, none⟩ (.slice Rw00 s0.sts.length dw00)) ⟨bw, 1, none⟩ (.int .i64 s0.pos)) ⟨bw, 1, none⟩ = some (.int .i64 s0.pos) by simp [go_sem, hc1])
    have B0w := lh (OwnD.mod (OwnD.ext A0w.out ((Ext.rfl' _))) M6 (fun b hb e => by subst e; have h1 := A0w.out.lt hb; (try simp only [World.size_drew] at h1); omega))
    have B1w := lh (Own.mod (Own.ext A1w.out ((Ext.rfl' _))) M6 (fun b hb e => by subst e; have h1 := A1w.out.lt hb; (try simp only [World.size_drew] at h1); omega))
    have e0s := (Ext.set (Ext.set ((((hX1.tr hX2).tr hX3).tr hX4) : Ext (World.drew w2) wa4) (p := ⟨bw, 0, none⟩) (by simp; omega) (.slice Rw00 s0.sts.length dw00)) (p := ⟨bw, 1, none⟩) (by simp; omega) (.int .i64 s0.pos))
    have E0S := lh e0s
    clear e0s M6 hb6 hl6
    go_simp
    try simp only [pg]
    refine hK.out _ _ (by exact ⟨((Ext.rfl' w2).dr.tr E0S.out).cellE q2_0, ((Ext.rfl' w2).dr.tr E0S.out).cellE q2_1, ((Ext.rfl' w2).dr.tr E0S.out).cellE q2_2⟩) fun hh2 => ?_; clear hK K hHeld; have hHeld := hh2; clear hh2
    try simp only [Act.put]
    refine ty 12 ?_
    refine ty 13 ?_
    refine dn ?_
    go_wp2_with fail
    go_meet
    exact ⟨bw, _, _, _, _, _, _, rfl, rfl, rfl, X0, X1, B0w, B1w, DD01w, hlb, lh ((Ext.rfl' w2).dr.tr E0S.out)⟩
   exact AllReadyH.nil
  refine AllReadyH.cons rfl (fun K hK => ?_) ?_
  ·refine held_alFnExactMoveHistory rfl rfl ?_
   intro bw wa1 hb6 hc0 hc1 hf0 hf1 hX1 hz6
   try simp only [World.size_drew] at hb6 hz6
   have hlb : w2.heap.size ≤ bw := by omega
   have Hb6 := lh hb6
   clear hb6
   have sz1 := hX1.size
   try simp only [World.size_drew] at sz1
   try simp only [pg]
   refine hK.out _ _ (by exact ⟨((Ext.rfl' w2).dr.tr hX1).cellE q2_0, ((Ext.rfl' w2).dr.tr hX1).cellE q2_1, ((Ext.rfl' w2).dr.tr hX1).cellE q2_2⟩) fun hh2 => ?_; clear hK K hHeld; have hHeld := hh2; clear hh2
   try simp only [Act.put, pu]
   refine rd1 1 rfl fun K hK => ?_
   go_simp
   refine (HT0.out _ (HN.out.ext ((E2w.out.dr).tr hX1))).mono ?_
   rintro e wa2 ⟨Xw0, hw0, rfl, ho, hX2⟩
   have Ow0 := lh ho
   clear ho
   have sz2 := hX2.size
   try simp only [World.size_drew] at sz2
   try go_wp2_with fail
   refine hK.out _ _ (by exact ⟨((Ext.rfl' w2).dr.tr (hX1.tr hX2)).cellE q2_0, ((Ext.rfl' w2).dr.tr (hX1.tr hX2)).cellE q2_1, ((Ext.rfl' w2).dr.tr (hX1.tr hX2)).cellE q2_2⟩) fun hh2 => ?_; clear hK K hHeld; have hHeld := hh2; clear hh2
   try simp only [Act.put, pu]
   refine rd1 3 rfl fun K hK => ?_
   go_simp
   refine (HT1.out _ (HR.out.ext ((E2w.out.dr).tr (hX1.tr hX2)))).mono ?_
   rintro e wa3 ⟨Xw1, hw1, rfl, ho, hX3⟩
   have Ow1 := lh ho
   clear ho
   have sz3 := hX3.size
   try simp only [World.size_drew] at sz3
   try go_wp2_with fail
   refine hK.out _ _ (by exact ⟨((Ext.rfl' w2).dr.tr ((hX1.tr hX2).tr hX3)).cellE q2_0, ((Ext.rfl' w2).dr.tr ((hX1.tr hX2).tr hX3)).cellE q2_1, ((Ext.rfl' w2).dr.tr ((hX1.tr hX2).tr hX3)).cellE q2_2⟩) fun hh2 => ?_; clear hK K hHeld; have hHeld := hh2; clear hh2
   try simp only [Act.put, pu]
   refine rd1 5 rfl fun K hK => ?_
   go_simp
   refine (HS.out Xw0 _ Xw1 _ _ (OwnN.rdN (OwnD.ext Ow0.out (hX3)) hgl2 Hfl.out) (OwnL.rdL (OwnD.ext Ow1.out ((Ext.rfl' _))) hrl2 Hrr.out)).mono ?_
   rintro e wa4 ⟨Rw00, dw00, zw0, Rw10, dw10, rfl, ho0, ho1, hd01, hX4⟩
   have A0w := lh ho0
   have A1w := lh ho1
   have DD01w := lh hd01
   clear ho0 ho1 hd01
   have sz4 := hX4.size
   try simp only [World.size_drew] at sz4
   try go_wp2_with fail
   refine hK.out _ _ (by exact ⟨((Ext.rfl' w2).dr.tr (((hX1.tr hX2).tr hX3).tr hX4)).cellE q2_0, ((Ext.rfl' w2).dr.tr (((hX1.tr hX2).tr hX3).tr hX4)).cellE q2_1, ((Ext.rfl' w2).dr.tr (((hX1.tr hX2).tr hX3).tr hX4)).cellE q2_2⟩) fun hh2 => ?_; clear hK K hHeld; have hHeld := hh2; clear hh2
   try simp only [Act.put, pu]
   refine ty 6 ?_
   refine ty 7 ?_
   refine ty 8 ?_
   refine ty 9 ?_
   refine rd1 11 rfl fun K hK => ?_
   have hb6 := Hb6.out
   have hl5 := blt hc0
   have hc0 := (((hX2.tr hX3).tr hX4)).cellE hc0
   have hc1 := (((hX2.tr hX3).tr hX4)).cellE hc1
   have hf0 := ((((hX2.tr hX3).tr hX4)).frozen (p := ⟨bw, 0, none⟩) hl5).trans hf0
   have hf1 := ((((hX2.tr hX3).tr hX4)).frozen (p := ⟨bw, 1, none⟩) hl5).trans hf1
   clear hl5
   have hl6 := blt hc0
   have M6 : Mod (fun x => x = bw) wa4 (World.setCell (World.setCell wa4 ⟨bw, 0, none⟩ (.slice Rw00 s0.sts.length dw00)) ⟨bw, 1, none⟩ (.int .i64 s0.pos)) := (Mod.set (F := fun x => x = bw) (Mod.set (F := fun x => x = bw) (Mod.rfl' _ _) (p := ⟨bw, 0, none⟩) (.inl rfl) _) (p := ⟨bw, 1, none⟩) (.inl rfl) _)
   have X0 := lh (show World.cell? (World.setCell (World.setCell wa4 ⟨bw, 0, none⟩ (.slice Rw00 s0.sts.length dw00)) ⟨bw, 1, none⟩ (.int .i64 s0.pos)) ⟨bw, 0, none⟩ = some (.slice Rw00 s0.sts.length dw00) by simp [go_sem, hc0])
   have X1 := lh (show World.cell? (World.setCell (World.setCell wa4 ⟨bw, 0, none⟩ (.slice Rw00 s0.sts.length dw00)) ⟨bw, 1, none⟩ (.int .i64 s0.pos)) ⟨bw, 1, none⟩ = some (.int .i64 s0.pos) by simp [go_sem, hc1])
   have B0w := lh (OwnD.mod (OwnD.ext A0w.out ((Ext.rfl' _))) M6 (fun b hb e => by subst e; have h1 := A0w.out.lt hb; (try simp only [World.size_drew] at h1); omega))
   have B1w := lh (Own.mod (Own.ext A1w.out ((Ext.rfl' _))) M6 (fun b hb e => by subst e; have h1 := A1w.out.lt hb; (try simp only [World.size_drew] at h1); omega))
   have e0s := (Ext.set (Ext.set ((((hX1.tr hX2).tr hX3).tr hX4) : Ext (World.drew w2) wa4) (p := ⟨bw, 0, none⟩) (by simp; omega) (.slice Rw00 s0.sts.length dw00)) (p := ⟨bw, 1, none⟩) (by simp; omega) (.int .i64 s0.pos))
   have E0S := lh e0s
   clear e0s M6 hb6 hl6
   go_simp
   try simp only [pg]
   refine hK.out _ _ (by exact ⟨((Ext.rfl' w2).dr.tr E0S.out).cellE q2_0, ((Ext.rfl' w2).dr.tr E0S.out).cellE q2_1, ((Ext.rfl' w2).dr.tr E0S.out).cellE q2_2⟩) fun hh2 => ?_; clear hK K hHeld; have hHeld := hh2; clear hh2
   try simp only [Act.put]
   refine ty 12 ?_
   refine ty 13 ?_
   refine dn ?_
   go_wp2_with fail
   go_meet
   exact ⟨bw, _, _, _, _, _, _, rfl, rfl, rfl, X0, X1, B0w, B1w, DD01w, hlb, lh ((Ext.rfl' w2).dr.tr E0S.out)⟩
  exact AllReadyH.nil
 case rest =>
 obtain ⟨bw, Rw00, dw00, zw0, Rw10, dw10, Lw, rfl, rfl, rfl, hq0, hq1, hA0, hA1, hDD01, hlb, hE⟩ := hcut
 obtain ⟨w3, rfl⟩ : ∃ W : World, W = wc := ⟨_, rfl⟩
 have ux3 := lh (hE.out)
 have q3_0 := ux3.out.cellE q2_0
 have q3_1 := ux3.out.cellE q2_1
 have q3_2 := ux3.out.cellE q2_2
 have q3_3 := hq0.out
 have q3_4 := hq1.out
 have z3 := ux3.out.size
 have pbw := blt q3_4
 have Ow0 := hA0
 have Ow1 := hA1
 have Dw01 := hDD01
 clear hE hA0 hA1 hDD01 hq0 hq1 q2_0 q2_1 q2_2 b2_0 b2_1
 have b3_0 := blt q3_0
 have b3_1 := blt q3_1
 have b3_2 := blt q3_3
 go_wp2_with fail
 refine (HT0.out _ (HN.out.ext (((E0.out.tr ux1.out).tr ux2.out).tr ux3.out))).mono ?_
 rintro e w4 ⟨Xx0, hx0, rfl, ho, hX4⟩
 have ux4 := lh ((Ext.rfl' w3).tr hX4)
 have q4_0 := ux4.out.cellE q3_0
 have q4_1 := ux4.out.cellE q3_1
 have q4_2 := ux4.out.cellE q3_2
 have q4_3 := ux4.out.cellE q3_3
 have q4_4 := ux4.out.cellE q3_4
 have z4 := ux4.out.size
 clear hX4 q3_0 q3_1 q3_2 q3_3 q3_4 b3_0 b3_1 b3_2
 have b4_0 := blt q4_0
 have b4_1 := blt q4_1
 have b4_2 := blt q4_3
 have Ox0 := lh (ho)
 clear ho
 go_wp2_with fail
 refine (HT1.out _ (HR.out.ext (((((E0.out.tr ux1.out).tr ux2.out).tr ux3.out).tr ux4.out).al (.cells #[.slice Xx0 g.length g.length] 36)))).mono ?_
 rintro e w5 ⟨Xx1, hx1, rfl, ho, hX5⟩
 have ux5 := lh (((Ext.rfl' w4).al (.cells #[.slice Xx0 g.length g.length] 36)).tr hX5)
 have q5_0 := ux5.out.cellE q4_0
 have q5_1 := ux5.out.cellE q4_1
 have q5_2 := ux5.out.cellE q4_2
 have q5_3 := ux5.out.cellE q4_3
 have q5_4 := ux5.out.cellE q4_4
 have q5_5 := hX5.cellE (show World.cell? (World.alloc w4 (.cells #[.slice Xx0 g.length g.length] 36)) ⟨w4.heap.size, 0, none⟩ = some (.slice Xx0 g.length g.length) by simp [go_sem])
 have z5 := ux5.out.size
 have y5 : w4.heap.size + 1 ≤ w5.heap.size := by have := hX5.size; simpa using this
 clear hX5 q4_0 q4_1 q4_2 q4_3 q4_4 b4_0 b4_1 b4_2
 have b5_0 := blt q5_0
 have b5_1 := blt q5_1
 have b5_2 := blt q5_3
 have b5_3 := blt q5_5
 have Ox1 := lh (ho)
 clear ho
 go_wp2_with fail
 refine (HI.out Xx0 g.length Xx1 r.length _ (OwnN.rdN (OwnD.ext Ox0.out (((Ext.rfl' w4).tr ux5.out).al (.cells #[.slice Xx1 r.length r.length, .int .i64 p1] 30))) hgl2 Hfl.out) (OwnL.rdL (OwnD.ext Ox1.out ((Ext.rfl' w5).al (.cells #[.slice Xx1 r.length r.length, .int .i64 p1] 30))) hrl2 Hrr.out)).mono ?_
 rintro e w6 ⟨Rg00, dg00, zg0, Rg10, dg10, rfl, ho0, ho1, hd01, hX6⟩
 have ux6 := lh (((Ext.rfl' w5).al (.cells #[.slice Xx1 r.length r.length, .int .i64 p1] 30)).tr hX6)
 have q6_0 := ux6.out.cellE q5_0
 have q6_1 := ux6.out.cellE q5_1
 have q6_2 := ux6.out.cellE q5_2
 have q6_3 := ux6.out.cellE q5_3
 have q6_4 := ux6.out.cellE q5_4
 have q6_5 := ux6.out.cellE q5_5
 have q6_6 := hX6.cellE (show World.cell? (World.alloc w5 (.cells #[.slice Xx1 r.length r.length, .int .i64 p1] 30)) ⟨w5.heap.size, 0, none⟩ = some (.slice Xx1 r.length r.length) by simp [go_sem])
 have q6_7 := hX6.cellE (show World.cell? (World.alloc w5 (.cells #[.slice Xx1 r.length r.length, .int .i64 p1] 30)) ⟨w5.heap.size, 1, none⟩ = some (.int .i64 p1) by simp [go_sem])
 have z6 := ux6.out.size
 have y6 : w5.heap.size + 1 ≤ w6.heap.size := by have := hX6.size; simpa using this
 clear hX6 q5_0 q5_1 q5_2 q5_3 q5_4 q5_5 b5_0 b5_1 b5_2 b5_3
 have b6_0 := blt q6_0
 have b6_1 := blt q6_1
 have b6_2 := blt q6_3
 have b6_3 := blt q6_5
 have b6_4 := blt q6_6
 have Og0 := lh (ho0)
 have Og1 := lh (ho1)
 have Dg01 := lh (hd01)
 clear ho0 ho1 hd01
 go_wp2_with fail
 refine (HRE0.out Rg00 Rw00 dg00 dw00 _ (OwnL.rdL ((OwnD.ext Og0.out ((Ext.rfl' w6).al (.cells #[.slice Rg00 s0.sts.length dg00, .int .i64 s0.pos] 30)))) Hsm0.out.r Hsm0.out.e) (OwnL.rdL ((OwnD.ext Ow0.out (((((Ext.rfl' w3).tr ux4.out).tr ux5.out).tr ux6.out).al (.cells #[.slice Rg00 s0.sts.length dg00, .int .i64 s0.pos] 30)))) Hsm0.out.r Hsm0.out.e)).mono ?_
 rintro e w7 ⟨rfl, hX7⟩
 have ux7 := lh (((Ext.rfl' w6).al (.cells #[.slice Rg00 s0.sts.length dg00, .int .i64 s0.pos] 30)).tr hX7)
 have q7_0 := ux7.out.cellE q6_0
 have q7_1 := ux7.out.cellE q6_1
 have q7_2 := ux7.out.cellE q6_2
 have q7_3 := ux7.out.cellE q6_3
 have q7_4 := ux7.out.cellE q6_4
 have q7_5 := ux7.out.cellE q6_5
 have q7_6 := ux7.out.cellE q6_6
 have q7_7 := ux7.out.cellE q6_7
 have q7_8 := hX7.cellE (show World.cell? (World.alloc w6 (.cells #[.slice Rg00 s0.sts.length dg00, .int .i64 s0.pos] 30)) ⟨w6.heap.size, 0, none⟩ = some (.slice Rg00 s0.sts.length dg00) by simp [go_sem])
 have q7_9 := hX7.cellE (show World.cell? (World.alloc w6 (.cells #[.slice Rg00 s0.sts.length dg00, .int .i64 s0.pos] 30)) ⟨w6.heap.size, 1, none⟩ = some (.int .i64 s0.pos) by simp [go_sem])
 have z7 := ux7.out.size
 have y7 : w6.heap.size + 1 ≤ w7.heap.size := by have := hX7.size; simpa using this
 clear hX7 q6_0 q6_1 q6_2 q6_3 q6_4 q6_5 q6_6 q6_7 b6_0 b6_1 b6_2 b6_3 b6_4
 have b7_0 := blt q7_0
 have b7_1 := blt q7_1
 have b7_2 := blt q7_3
 have b7_3 := blt q7_5
 have b7_4 := blt q7_6
 have b7_5 := blt q7_8
 go_wp2_with fail
 refine (HRE1.out Rg10 Rw10 dg10 dw10 _ ((Own.ext Og1.out ((Ext.rfl' w6).tr ux7.out))).rd ((Own.ext Ow1.out (((((Ext.rfl' w3).tr ux4.out).tr ux5.out).tr ux6.out).tr ux7.out))).rd).mono ?_
 rintro e w8 ⟨rfl, hX8⟩
 have ux8 := lh ((Ext.rfl' w7).tr hX8)
 have q8_0 := ux8.out.cellE q7_0
 have q8_1 := ux8.out.cellE q7_1
 have q8_2 := ux8.out.cellE q7_2
 have q8_3 := ux8.out.cellE q7_3
 have q8_4 := ux8.out.cellE q7_4
 have q8_5 := ux8.out.cellE q7_5
 have q8_6 := ux8.out.cellE q7_6
 have q8_7 := ux8.out.cellE q7_7
 have q8_8 := ux8.out.cellE q7_8
 have q8_9 := ux8.out.cellE q7_9
 have z8 := ux8.out.size
 clear hX8 q7_0 q7_1 q7_2 q7_3 q7_4 q7_5 q7_6 q7_7 q7_8 q7_9 b7_0 b7_1 b7_2 b7_3 b7_4 b7_5
 have b8_0 := blt q8_0
 have b8_1 := blt q8_1
 have b8_2 := blt q8_3
 have b8_3 := blt q8_5
 have b8_4 := blt q8_6
 have b8_5 := blt q8_8
 go_wp2_with fail
 have ec := lh ((Ext.rfl' w8).dr)
 go_region_held3 (fun W => W.cell? ⟨w.heap.size, 0, none⟩ = some (.slice A0 g.length c0) ∧ W.cell? ⟨w4.heap.size, 0, none⟩ = some (.slice Xx0 g.length g.length))
  (first | exact ⟨ec.out.cellE q8_0, ec.out.cellE q8_5⟩ | go_keep)
  (first
   | (go_at_call 7; refine (HT0.out _ (HN.out.ext (((((((((E0.out.tr ux1.out).tr ux2.out).tr ux3.out).tr ux4.out).tr ux5.out).tr ux6.out).tr ux7.out).tr ux8.out).tr ec.out))).mono ?_; rintro e wy0 ⟨Xy0, hy0, rfl, hoy0, hey0⟩; have ed := lh (ec.out.tr hey0); clear ec; have ec := ed; clear ed)
   | (go_at_call 12; refine (HE0.out Xx0 Xy0 _ (OwnN.rdN (OwnD.ext Ox0.out ((((((Ext.rfl' w4).tr ux5.out).tr ux6.out).tr ux7.out).tr ux8.out).tr ec.out)) hgl2 Hfl.out) (OwnN.rdN hoy0 hgl2 Hfl.out)).mono ?_; rintro e w9 ⟨rfl, hez⟩; have ed := lh (ec.out.tr hez); clear ec; have ec := ed; clear ed))
 have ux9 := lh ec.out
 clear ec hey0 hez hoy0
 have q9_0 := ux9.out.cellE q8_0
 have q9_1 := ux9.out.cellE q8_1
 have q9_2 := ux9.out.cellE q8_2
 have q9_3 := ux9.out.cellE q8_3
 have q9_4 := ux9.out.cellE q8_4
 have q9_5 := ux9.out.cellE q8_5
 have q9_6 := ux9.out.cellE q8_6
 have q9_7 := ux9.out.cellE q8_7
 have q9_8 := ux9.out.cellE q8_8
 have q9_9 := ux9.out.cellE q8_9
 have z9 := ux9.out.size
 clear q8_0 q8_1 q8_2 q8_3 q8_4 q8_5 q8_6 q8_7 q8_8 q8_9 b8_0 b8_1 b8_2 b8_3 b8_4 b8_5
 have b9_0 := blt q9_0
 have b9_1 := blt q9_1
 have b9_2 := blt q9_3
 have b9_3 := blt q9_5
 have b9_4 := blt q9_6
 have b9_5 := blt q9_8
 go_wp2_with fail
 have ec := lh ((Ext.rfl' w9).dr)
 go_region_held3 (fun W => W.cell? ⟨w.heap.size + 1, 0, none⟩ = some (.slice A1 r.length c1) ∧ W.cell? ⟨w.heap.size + 1, 1, none⟩ = some (.int .i64 p1) ∧ W.cell? ⟨w5.heap.size, 0, none⟩ = some (.slice Xx1 r.length r.length) ∧ W.cell? ⟨w5.heap.size, 1, none⟩ = some (.int .i64 p1))
  (first | exact ⟨ec.out.cellE q9_1, ec.out.cellE q9_2, ec.out.cellE q9_6, ec.out.cellE q9_7⟩ | go_keep)
  (first
   | (go_at_call 8; refine (HT1.out _ (HR.out.ext ((((((((((E0.out.tr ux1.out).tr ux2.out).tr ux3.out).tr ux4.out).tr ux5.out).tr ux6.out).tr ux7.out).tr ux8.out).tr ux9.out).tr ec.out))).mono ?_; rintro e wy1 ⟨Xy1, hy1, rfl, hoy1, hey1⟩; have ed := lh (ec.out.tr hey1); clear ec; have ec := ed; clear ed)
   | (go_at_call 10; refine (HE1.out Xx1 Xy1 _ (OwnL.rdL (OwnD.ext Ox1.out ((((((Ext.rfl' w5).tr ux6.out).tr ux7.out).tr ux8.out).tr ux9.out).tr ec.out)) hrl2 Hrr.out) (OwnL.rdL hoy1 hrl2 Hrr.out)).mono ?_; rintro e w10 ⟨rfl, hez⟩; have ed := lh (ec.out.tr hez); clear ec; have ec := ed; clear ed))
 have ux10 := lh ec.out
 clear ec hey1 hez hoy1
 have q10_0 := ux10.out.cellE q9_0
 have q10_1 := ux10.out.cellE q9_1
 have q10_2 := ux10.out.cellE q9_2
 have q10_3 := ux10.out.cellE q9_3
 have q10_4 := ux10.out.cellE q9_4
 have q10_5 := ux10.out.cellE q9_5
 have q10_6 := ux10.out.cellE q9_6
 have q10_7 := ux10.out.cellE q9_7
 have q10_8 := ux10.out.cellE q9_8
 have q10_9 := ux10.out.cellE q9_9
 have z10 := ux10.out.size
 clear q9_0 q9_1 q9_2 q9_3 q9_4 q9_5 q9_6 q9_7 q9_8 q9_9 b9_0 b9_1 b9_2 b9_3 b9_4 b9_5
 have b10_0 := blt q10_0
 have b10_1 := blt q10_1
 have b10_2 := blt q10_3
 have b10_3 := blt q10_5
 have b10_4 := blt q10_6
 have b10_5 := blt q10_8
 have Hlo0 : Hid (∀ b, (fpD Xx0 hx0 b) → w3.heap.size ≤ b ∧ b < w4.heap.size) := lh (fun b hb => by have := (Ox0.out.lt hb); (try simp only [World.size_alloc] at this); exact this)
 have Hlo1 : Hid (∀ b, (fpD Xx1 hx1 b) → w4.heap.size + 1 ≤ b ∧ b < w5.heap.size) := lh (fun b hb => by have := (Ox1.out.lt hb); (try simp only [World.size_alloc] at this); exact this)
 have HloG0 : Hid (∀ b, (fpD Rg00 zg0 b) → w5.heap.size + 1 ≤ b ∧ b < w6.heap.size) := lh (fun b hb => by have := (Og0.out.lt hb); (try simp only [World.size_alloc] at this); exact this)
 have HloG1 : Hid (∀ b, (blk Rg10 = some b) → w5.heap.size + 1 ≤ b ∧ b < w6.heap.size) := lh (fun b hb => by have := (Og1.out.lt hb); (try simp only [World.size_alloc] at this); exact this)
 have Ox1_a0 := lh (OwnD.ext Ox1.out ((((((Ext.rfl' w5).tr ux6.out).tr ux7.out).tr ux8.out).tr ux9.out).tr ux10.out))
 have Og0_a0 := lh (OwnD.ext Og0.out (((((Ext.rfl' w6).tr ux7.out).tr ux8.out).tr ux9.out).tr ux10.out))
 have Og1_a0 := lh (Own.ext Og1.out (((((Ext.rfl' w6).tr ux7.out).tr ux8.out).tr ux9.out).tr ux10.out))
 go_wp2_with fail
 refine (HM0.out _ Xx0 hx0 (1) _ (OwnD.ext Ox0.out (((((((Ext.rfl' w4).tr ux5.out).tr ux6.out).tr ux7.out).tr ux8.out).tr ux9.out).tr ux10.out)) (by omega) (by omega)).mono ?_
 rintro e w11 ⟨rfl, ho, hX11⟩
 have ux11 := lh hX11
 have v11 := lh (fun b hb => Hlo0.out b hb)
 have q11_0 := ux11.out.cellE q10_0 (by intro e; have := v11.out _ e; omega)
 have q11_1 := ux11.out.cellE q10_1 (by intro e; have := v11.out _ e; omega)
 have q11_2 := ux11.out.cellE q10_2 (by intro e; have := v11.out _ e; omega)
 have q11_3 := ux11.out.cellE q10_3 (by intro e; have := v11.out _ e; omega)
 have q11_4 := ux11.out.cellE q10_4 (by intro e; have := v11.out _ e; omega)
 have q11_5 := ux11.out.cellE q10_5 (by intro e; have := v11.out _ e; omega)
 have q11_6 := ux11.out.cellE q10_6 (by intro e; have := v11.out _ e; omega)
 have q11_7 := ux11.out.cellE q10_7 (by intro e; have := v11.out _ e; omega)
 have q11_8 := ux11.out.cellE q10_8 (by intro e; have := v11.out _ e; omega)
 have q11_9 := ux11.out.cellE q10_9 (by intro e; have := v11.out _ e; omega)
 have z11 := ux11.out.size
 clear hX11 q10_0 q10_1 q10_2 q10_3 q10_4 q10_5 q10_6 q10_7 q10_8 q10_9 b10_0 b10_1 b10_2 b10_3 b10_4 b10_5
 have b11_0 := blt q11_0
 have b11_1 := blt q11_1
 have b11_2 := blt q11_3
 have b11_3 := blt q11_5
 have b11_4 := blt q11_6
 have b11_5 := blt q11_8
 clear ho
 have Ox1_a0_m0 := lh (OwnD.mod Ox1_a0.out ux11.out (fun b hb e => by have h1 := v11.out b e; have h2 := (Ox1_a0.out.lt hb); (try simp only [World.size_alloc] at h2); omega))
 have Og0_a0_m0 := lh (OwnD.mod Og0_a0.out ux11.out (fun b hb e => by have h1 := v11.out b e; have h2 := (HloG0.out b hb); (try simp only [World.size_alloc] at h2); omega))
 have Og1_a0_m0 := lh (Own.mod Og1_a0.out ux11.out (fun b hb e => by have h1 := v11.out b e; have h2 := (HloG1.out b hb); (try simp only [World.size_alloc] at h2); omega))
 have Og0_a0_m0_a1 := lh (OwnD.ext Og0_a0_m0.out (Ext.rfl' w11))
 have Og1_a0_m0_a1 := lh (Own.ext Og1_a0_m0.out (Ext.rfl' w11))
 go_wp2_with fail
 refine (HM1.out _ Xx1 hx1 (1 + (totN g : Int)) _ (OwnD.ext Ox1_a0_m0.out (Ext.rfl' w11)) (by omega) (by omega)).mono ?_
 rintro e w12 ⟨rfl, ho, hX12⟩
 have ux12 := lh hX12
 have v12 := lh (fun b hb => Hlo1.out b hb)
 have q12_0 := ux12.out.cellE q11_0 (by intro e; have := v12.out _ e; omega)
 have q12_1 := ux12.out.cellE q11_1 (by intro e; have := v12.out _ e; omega)
 have q12_2 := ux12.out.cellE q11_2 (by intro e; have := v12.out _ e; omega)
 have q12_3 := ux12.out.cellE q11_3 (by intro e; have := v12.out _ e; omega)
 have q12_4 := ux12.out.cellE q11_4 (by intro e; have := v12.out _ e; omega)
 have q12_5 := ux12.out.cellE q11_5 (by intro e; have := v12.out _ e; omega)
 have q12_6 := ux12.out.cellE q11_6 (by intro e; have := v12.out _ e; omega)
 have q12_7 := ux12.out.cellE q11_7 (by intro e; have := v12.out _ e; omega)
 have q12_8 := ux12.out.cellE q11_8 (by intro e; have := v12.out _ e; omega)
 have q12_9 := ux12.out.cellE q11_9 (by intro e; have := v12.out _ e; omega)
 have z12 := ux12.out.size
 clear hX12 q11_0 q11_1 q11_2 q11_3 q11_4 q11_5 q11_6 q11_7 q11_8 q11_9 b11_0 b11_1 b11_2 b11_3 b11_4 b11_5
 have b12_0 := blt q12_0
 have b12_1 := blt q12_1
 have b12_2 := blt q12_3
 have b12_3 := blt q12_5
 have b12_4 := blt q12_6
 have b12_5 := blt q12_8
 clear ho
 have Og0_a0_m0_a1_m1 := lh (OwnD.mod Og0_a0_m0_a1.out ux12.out (fun b hb e => by have h1 := v12.out b e; have h2 := (HloG0.out b hb); (try simp only [World.size_alloc] at h2); omega))
 have Og1_a0_m0_a1_m1 := lh (Own.mod Og1_a0_m0_a1.out ux12.out (fun b hb e => by have h1 := v12.out b e; have h2 := (HloG1.out b hb); (try simp only [World.size_alloc] at h2); omega))
 have kneg : decide (1 + (totN g : Int) + (totL r : Int) < 0) = false := by simp; omega
 go_wp2_with fail
 refine (HRE0.out Rg00 Rw00 dg00 dw00 _ (OwnL.rdL ((OwnD.ext Og0_a0_m0_a1_m1.out (Ext.rfl' w12))) Hsm0.out.r Hsm0.out.e) (OwnL.rdL ((OwnD.ext Ow0.out (Ext.md (Ext.md ((((((((Ext.rfl' w3).tr ux4.out).tr ux5.out).tr ux6.out).tr ux7.out).tr ux8.out).tr ux9.out).tr ux10.out) ux11.out (fun b hb => by have := v11.out b hb; omega)) ux12.out (fun b hb => by have := v12.out b hb; omega)))) Hsm0.out.r Hsm0.out.e)).mono ?_
 rintro e w13 ⟨rfl, hX13⟩
 have ux13 := lh ((Ext.rfl' w12).tr hX13)
 have q13_0 := ux13.out.cellE q12_0
 have q13_1 := ux13.out.cellE q12_1
 have q13_2 := ux13.out.cellE q12_2
 have q13_3 := ux13.out.cellE q12_3
 have q13_4 := ux13.out.cellE q12_4
 have q13_5 := ux13.out.cellE q12_5
 have q13_6 := ux13.out.cellE q12_6
 have q13_7 := ux13.out.cellE q12_7
 have q13_8 := ux13.out.cellE q12_8
 have q13_9 := ux13.out.cellE q12_9
 have z13 := ux13.out.size
 clear hX13 q12_0 q12_1 q12_2 q12_3 q12_4 q12_5 q12_6 q12_7 q12_8 q12_9 b12_0 b12_1 b12_2 b12_3 b12_4 b12_5
 have b13_0 := blt q13_0
 have b13_1 := blt q13_1
 have b13_2 := blt q13_3
 have b13_3 := blt q13_5
 have b13_4 := blt q13_6
 have b13_5 := blt q13_8
 go_wp2_with fail
 refine (HRE1.out Rg10 Rw10 dg10 dw10 _ ((Own.ext Og1_a0_m0_a1_m1.out ((Ext.rfl' w12).tr ux13.out))).rd ((Own.ext Ow1.out ((Ext.md (Ext.md ((((((((Ext.rfl' w3).tr ux4.out).tr ux5.out).tr ux6.out).tr ux7.out).tr ux8.out).tr ux9.out).tr ux10.out) ux11.out (fun b hb => by have := v11.out b hb; omega)) ux12.out (fun b hb => by have := v12.out b hb; omega)).tr ux13.out))).rd).mono ?_
 rintro e w14 ⟨rfl, hX14⟩
 have ux14 := lh ((Ext.rfl' w13).tr hX14)
 have q14_0 := ux14.out.cellE q13_0
 have q14_1 := ux14.out.cellE q13_1
 have q14_2 := ux14.out.cellE q13_2
 have q14_3 := ux14.out.cellE q13_3
 have q14_4 := ux14.out.cellE q13_4
 have q14_5 := ux14.out.cellE q13_5
 have q14_6 := ux14.out.cellE q13_6
 have q14_7 := ux14.out.cellE q13_7
 have q14_8 := ux14.out.cellE q13_8
 have q14_9 := ux14.out.cellE q13_9
 have z14 := ux14.out.size
 clear hX14 q13_0 q13_1 q13_2 q13_3 q13_4 q13_5 q13_6 q13_7 q13_8 q13_9 b13_0 b13_1 b13_2 b13_3 b13_4 b13_5
 have b14_0 := blt q14_0
 have b14_1 := blt q14_1
 have b14_2 := blt q14_3
 have b14_3 := blt q14_5
 have b14_4 := blt q14_6
 have b14_5 := blt q14_8
 have Og0_a0_m0_a1_m1_b0 := lh (OwnD.ext Og0_a0_m0_a1_m1.out (((Ext.rfl' w12).tr ux13.out).tr ux14.out))
 have Og1_a0_m0_a1_m1_b0 := lh (Own.ext Og1_a0_m0_a1_m1.out (((Ext.rfl' w12).tr ux13.out).tr ux14.out))
 go_wp2_with fail
 refine (HRM0.out _ Rg00 dg00 zg0 (1) _ Og0_a0_m0_a1_m1_b0.out (by omega) (by omega)).mono ?_
 rintro e w15 ⟨rfl, hv0, hX15⟩
 have ux15 := lh hX15
 have v15 := lh (HloG0.out)
 have q15_0 := ux15.out.cellE q14_0 (by intro e; have := v15.out _ e; omega)
 have q15_1 := ux15.out.cellE q14_1 (by intro e; have := v15.out _ e; omega)
 have q15_2 := ux15.out.cellE q14_2 (by intro e; have := v15.out _ e; omega)
 have q15_3 := ux15.out.cellE q14_3 (by intro e; have := v15.out _ e; omega)
 have q15_4 := ux15.out.cellE q14_4 (by intro e; have := v15.out _ e; omega)
 have q15_5 := ux15.out.cellE q14_5 (by intro e; have := v15.out _ e; omega)
 have q15_6 := ux15.out.cellE q14_6 (by intro e; have := v15.out _ e; omega)
 have q15_7 := ux15.out.cellE q14_7 (by intro e; have := v15.out _ e; omega)
 have q15_8 := ux15.out.cellE q14_8 (by intro e; have := v15.out _ e; omega)
 have q15_9 := ux15.out.cellE q14_9 (by intro e; have := v15.out _ e; omega)
 have z15 := ux15.out.size
 clear hX15 q14_0 q14_1 q14_2 q14_3 q14_4 q14_5 q14_6 q14_7 q14_8 q14_9 b14_0 b14_1 b14_2 b14_3 b14_4 b14_5
 have b15_0 := blt q15_0
 have b15_1 := blt q15_1
 have b15_2 := blt q15_3
 have b15_3 := blt q15_5
 have b15_4 := blt q15_6
 have b15_5 := blt q15_8
 have Mv0 := lh hv0
 clear hv0
 have Og1_a0_m0_a1_m1_b0_c0 := lh (Own.mod Og1_a0_m0_a1_m1_b0.out ux15.out (fun b hb e => Dg01.out b e hb))
 have Og1_a0_m0_a1_m1_b0_c0_b1 := lh (Own.ext Og1_a0_m0_a1_m1_b0_c0.out (Ext.rfl' w15))
 go_wp2_with fail
 refine (HRM1.out _ Rg10 dg10 (1 + (totL s0.sts : Int)) _ Og1_a0_m0_a1_m1_b0_c0_b1.out (by omega) (by omega)).mono ?_
 rintro e w16 ⟨rfl, hv1, hX16⟩
 have ux16 := lh hX16
 have v16 := lh (HloG1.out)
 have q16_0 := ux16.out.cellE q15_0 (by intro e; have := v16.out _ e; omega)
 have q16_1 := ux16.out.cellE q15_1 (by intro e; have := v16.out _ e; omega)
 have q16_2 := ux16.out.cellE q15_2 (by intro e; have := v16.out _ e; omega)
 have q16_3 := ux16.out.cellE q15_3 (by intro e; have := v16.out _ e; omega)
 have q16_4 := ux16.out.cellE q15_4 (by intro e; have := v16.out _ e; omega)
 have q16_5 := ux16.out.cellE q15_5 (by intro e; have := v16.out _ e; omega)
 have q16_6 := ux16.out.cellE q15_6 (by intro e; have := v16.out _ e; omega)
 have q16_7 := ux16.out.cellE q15_7 (by intro e; have := v16.out _ e; omega)
 have q16_8 := ux16.out.cellE q15_8 (by intro e; have := v16.out _ e; omega)
 have q16_9 := ux16.out.cellE q15_9 (by intro e; have := v16.out _ e; omega)
 have z16 := ux16.out.size
 clear hX16 q15_0 q15_1 q15_2 q15_3 q15_4 q15_5 q15_6 q15_7 q15_8 q15_9 b15_0 b15_1 b15_2 b15_3 b15_4 b15_5
 have b16_0 := blt q16_0
 have b16_1 := blt q16_1
 have b16_2 := blt q16_3
 have b16_3 := blt q16_5
 have b16_4 := blt q16_6
 have b16_5 := blt q16_8
 have Mv1 := lh hv1
 clear hv1
 have Mv0_d1 := lh (OwnD.mod Mv0.out ux16.out (fun b hb e => Dg01.out b hb e))
 have mne : ((1 + (totL s0.sts : Int) + (s1.length : Int)) != (1 + (totL s0.sts : Int) + (s1.length : Int))) = false := by simp
 have mge : decide ((1 + (totL s0.sts : Int) + (s1.length : Int)) < 0) = false := by simp; omega
 have mge0 : decide ((1 + (totL s0.sts : Int)) < 0) = false := by simp; omega
 go_wp2_with fail
 refine (HRH0.out Rg00 dg00 (1) _ (OwnL.rdL (OwnD.ext Mv0_d1.out (Ext.rfl' w16)) (by simpa using sm0r) (by intro x hx; exact numL_small _ _ Hsm0.out.e x hx)) (by omega) (by omega)).mono ?_
 rintro e w17 ⟨rfl, hX17⟩
 have ux17 := lh ((Ext.rfl' w16).tr hX17)
 have q17_0 := ux17.out.cellE q16_0
 have q17_1 := ux17.out.cellE q16_1
 have q17_2 := ux17.out.cellE q16_2
 have q17_3 := ux17.out.cellE q16_3
 have q17_4 := ux17.out.cellE q16_4
 have q17_5 := ux17.out.cellE q16_5
 have q17_6 := ux17.out.cellE q16_6
 have q17_7 := ux17.out.cellE q16_7
 have q17_8 := ux17.out.cellE q16_8
 have q17_9 := ux17.out.cellE q16_9
 have z17 := ux17.out.size
 clear hX17 q16_0 q16_1 q16_2 q16_3 q16_4 q16_5 q16_6 q16_7 q16_8 q16_9 b16_0 b16_1 b16_2 b16_3 b16_4 b16_5
 have b17_0 := blt q17_0
 have b17_1 := blt q17_1
 have b17_2 := blt q17_3
 have b17_3 := blt q17_5
 have b17_4 := blt q17_6
 have b17_5 := blt q17_8
 go_wp2_with fail
 refine (HRH1.out Rg10 dg10 (1 + (totL s0.sts : Int)) _ (Own.ext Mv1.out ((Ext.rfl' w16).tr ux17.out)).rd (by omega) (by omega)).mono ?_
 rintro e w18 ⟨rfl, hX18⟩
 have ux18 := lh ((Ext.rfl' w17).tr hX18)
 have q18_0 := ux18.out.cellE q17_0
 have q18_1 := ux18.out.cellE q17_1
 have q18_2 := ux18.out.cellE q17_2
 have q18_3 := ux18.out.cellE q17_3
 have q18_4 := ux18.out.cellE q17_4
 have q18_5 := ux18.out.cellE q17_5
 have q18_6 := ux18.out.cellE q17_6
 have q18_7 := ux18.out.cellE q17_7
 have q18_8 := ux18.out.cellE q17_8
 have q18_9 := ux18.out.cellE q17_9
 have z18 := ux18.out.size
 clear hX18 q17_0 q17_1 q17_2 q17_3 q17_4 q17_5 q17_6 q17_7 q17_8 q17_9 b17_0 b17_1 b17_2 b17_3 b17_4 b17_5
 have b18_0 := blt q18_0
 have b18_1 := blt q18_1
 have b18_2 := blt q18_3
 have b18_3 := blt q18_5
 have b18_4 := blt q18_6
 have b18_5 := blt q18_8
 have E2h := lh ((((Ext.md (Ext.md (((Ext.md (Ext.md ((((((((((E0.out.tr ux1.out).tr ux2.out).tr ux3.out).tr ux4.out).tr ux5.out).tr ux6.out).tr ux7.out).tr ux8.out).tr ux9.out).tr ux10.out) ux11.out (fun b hb => by have := v11.out b hb; omega)) ux12.out (fun b hb => by have := v12.out b hb; omega)).tr ux13.out).tr ux14.out) ux15.out (fun b hb => by have := v15.out b hb; omega)) ux16.out (fun b hb => by have := v16.out b hb; omega)).tr ux17.out).tr ux18.out))
 have lwh := E2h.out.size
 go_upto_region 35 with fail
 go_cut [19, 20, 21] (fun s19 s20 s21 wx => ∃ (bh : Nat) (Rh00 : Option Addr) (dh00 : Nat) (zh0 : List (Option Addr × Nat)) (Rh10 : Option Addr) (dh10 : Nat) (Lh : Nat), s19 = .pointer (some ⟨bh, 0, none⟩) ∧ s20 = .slice Rh10 s1.length dh10 ∧ s21 = .bool s2 ∧ Hid (wx.cell? ⟨bh, 0, none⟩ = some (.slice Rh00 s0.sts.length dh00)) ∧ Hid (wx.cell? ⟨bh, 1, none⟩ = some (.int .i64 s0.pos)) ∧ Hid (OwnL wx Lh Rh00 dh00 s0.sts zh0) ∧ Hid (Own wx Lh 3 1 Rh10 s1.length dh10 (ints s1)) ∧ Hid (∀ b, (fpD Rh00 zh0 b) → ¬ (blk Rh10 = some b)) ∧ w18.heap.size ≤ bh ∧ Hid (Ext w18 wx))
 case first =>
  refine wp_region_held_drew (S := (fun W => W.cell? ⟨w.heap.size, 0, none⟩ = some (.slice A0 g.length c0) ∧ W.cell? ⟨w.heap.size + 1, 0, none⟩ = some (.slice A1 r.length c1) ∧ W.cell? ⟨w.heap.size + 1, 1, none⟩ = some (.int .i64 p1))) (by kernel_rfl) ?_ (fun hHeld => ?_)
  ·exact ⟨((Ext.rfl' w18).dr).cellE q18_0, ((Ext.rfl' w18).dr).cellE q18_1, ((Ext.rfl' w18).dr).cellE q18_2⟩
  refine ty 0 ?_
  refine ty 2 ?_
  refine ty 4 ?_
  refine wpAnyH_ready (rs := [1, 10]) (by kernel_rfl) (by simp) ?_
  refine AllReadyH.cons rfl (fun K hK => ?_) ?_
  ·go_simp
   refine (HT0.out _ (HN.out.ext ((E2h.out.dr).tr (Ext.rfl' _)))).mono ?_
   rintro e wa1 ⟨Xh0, hh0, rfl, ho, hX1⟩
   have Oh0 := lh ho
   clear ho
   have sz1 := hX1.size
   try simp only [World.size_drew] at sz1
   try go_wp2_with fail
   refine hK.out _ _ (by exact ⟨((Ext.rfl' w18).dr.tr hX1).cellE q18_0, ((Ext.rfl' w18).dr.tr hX1).cellE q18_1, ((Ext.rfl' w18).dr.tr hX1).cellE q18_2⟩) fun hh2 => ?_; clear hK K hHeld; have hHeld := hh2; clear hh2
   try simp only [Act.put, pu]
   refine wpAnyH_ready (rs := [3, 10]) (by kernel_rfl) (by simp) ?_
   refine AllReadyH.cons rfl (fun K hK => ?_) ?_
   ·go_simp
    refine (HT1.out _ (HR.out.ext ((E2h.out.dr).tr hX1))).mono ?_
    rintro e wa2 ⟨Xh1, hh1, rfl, ho, hX2⟩
    have Oh1 := lh ho
    clear ho
    have sz2 := hX2.size
    try simp only [World.size_drew] at sz2
    try go_wp2_with fail
    refine hK.out _ _ (by exact ⟨((Ext.rfl' w18).dr.tr (hX1.tr hX2)).cellE q18_0, ((Ext.rfl' w18).dr.tr (hX1.tr hX2)).cellE q18_1, ((Ext.rfl' w18).dr.tr (hX1.tr hX2)).cellE q18_2⟩) fun hh2 => ?_; clear hK K hHeld; have hHeld := hh2; clear hh2
    try simp only [Act.put, pu]
    refine wpAnyH_ready (rs := [5, 10]) (by kernel_rfl) (by simp) ?_
    refine AllReadyH.cons rfl (fun K hK => ?_) ?_
    ·go_simp
     refine (HI.out Xh0 _ Xh1 _ _ (OwnN.rdN (OwnD.ext Oh0.out (hX2)) hgl2 Hfl.out) (OwnL.rdL (OwnD.ext Oh1.out ((Ext.rfl' _))) hrl2 Hrr.out)).mono ?_
     rintro e wa3 ⟨Rh00, dh00, zh0, Rh10, dh10, rfl, ho0, ho1, hd01, hX3⟩
     have A0h := lh ho0
     have A1h := lh ho1
     have DD01h := lh hd01
     clear ho0 ho1 hd01
     have sz3 := hX3.size
     try simp only [World.size_drew] at sz3
     try go_wp2_with fail
     refine hK.out _ _ (by exact ⟨((Ext.rfl' w18).dr.tr ((hX1.tr hX2).tr hX3)).cellE q18_0, ((Ext.rfl' w18).dr.tr ((hX1.tr hX2).tr hX3)).cellE q18_1, ((Ext.rfl' w18).dr.tr ((hX1.tr hX2).tr hX3)).cellE q18_2⟩) fun hh2 => ?_; clear hK K hHeld; have hHeld := hh2; clear hh2
     try simp only [Act.put, pu]
     refine ty 6 ?_
     refine ty 7 ?_
     refine ty 8 ?_
     refine ty 9 ?_
     refine rd1 10 rfl fun K hK => ?_
     refine held_alFnExactMoveHistory rfl rfl ?_
     intro bh wa4 hb6 hc0 hc1 hf0 hf1 hX4 hz6
     try simp only [World.size_drew] at hb6 hz6
     have hlb : w18.heap.size ≤ bh := by omega
     have Hb6 := lh hb6
     clear hb6
     have sz4 := hX4.size
     try simp only [World.size_drew] at sz4
     try simp only [pg]
     refine hK.out _ _ (by exact ⟨((Ext.rfl' w18).dr.tr (((hX1.tr hX2).tr hX3).tr hX4)).cellE q18_0, ((Ext.rfl' w18).dr.tr (((hX1.tr hX2).tr hX3).tr hX4)).cellE q18_1, ((Ext.rfl' w18).dr.tr (((hX1.tr hX2).tr hX3).tr hX4)).cellE q18_2⟩) fun hh2 => ?_; clear hK K hHeld; have hHeld := hh2; clear hh2
     try simp only [Act.put, pu]
     refine rd1 11 rfl fun K hK => ?_
     have hb6 := Hb6.out
     have hl6 := blt hc0
     have M6 : Mod (fun x => x = bh) wa4 (World.setCell (World.setCell wa4 ⟨bh, 0, none⟩ (.slice Rh00 s0.sts.length dh00)) ⟨bh, 1, none⟩ (.int .i64 s0.pos)) := (Mod.set (F := fun x => x = bh) (Mod.set (F := fun x => x = bh) (Mod.rfl' _ _) (p := ⟨bh, 0, none⟩) (.inl rfl) _) (p := ⟨bh, 1, none⟩) (.inl rfl) _)
     have X0 := lh (show World.cell? (World.setCell (World.setCell wa4 ⟨bh, 0, none⟩ (.slice Rh00 s0.sts.length dh00)) ⟨bh, 1, none⟩ (.int .i64 s0.pos)) ⟨bh, 0, none⟩ = some (.slice Rh00 s0.sts.length dh00) by simp [go_sem, hc0])
     have X1 := lh (show World.cell? (World.setCell (World.setCell wa4 ⟨bh, 0, none⟩ (.slice Rh00 s0.sts.length dh00)) ⟨bh, 1, none⟩ (.int .i64 s0.pos)) ⟨bh, 1, none⟩ = some (.int .i64 s0.pos) by simp [go_sem, hc1])
     have B0h := lh (OwnD.mod (OwnD.ext A0h.out (hX4)) M6 (fun b hb e => by subst e; have h1 := A0h.out.lt hb; (try simp only [World.size_drew] at h1); omega))
     have B1h := lh (Own.mod (Own.ext A1h.out (hX4)) M6 (fun b hb e => by subst e; have h1 := A1h.out.lt hb; (try simp only [World.size_drew] at h1); omega))
     have e0s := (Ext.set (Ext.set ((((hX1.tr hX2).tr hX3).tr hX4) : Ext (World.drew w18) wa4) (p := ⟨bh, 0, none⟩) (by simp; omega) (.slice Rh00 s0.sts.length dh00)) (p := ⟨bh, 1, none⟩) (by simp; omega) (.int .i64 s0.pos))
     have E0S := lh e0s
     clear e0s M6 hb6 hl6
     go_simp
     try simp only [pg]
     refine hK.out _ _ (by exact ⟨((Ext.rfl' w18).dr.tr E0S.out).cellE q18_0, ((Ext.rfl' w18).dr.tr E0S.out).cellE q18_1, ((Ext.rfl' w18).dr.tr E0S.out).cellE q18_2⟩) fun hh2 => ?_; clear hK K hHeld; have hHeld := hh2; clear hh2
     try simp only [Act.put]
     refine ty 12 ?_
     refine ty 13 ?_
     refine dn ?_
     go_wp2_with fail
     go_meet
     exact ⟨bh, _, _, _, _, _, _, rfl, rfl, rfl, X0, X1, B0h, B1h, DD01h, hlb, lh ((Ext.rfl' w18).dr.tr E0S.out)⟩
    refine AllReadyH.cons rfl (fun K hK => ?_) ?_
    ·refine held_alFnExactMoveHistory rfl rfl ?_
     intro bh wa3 hb6 hc0 hc1 hf0 hf1 hX3 hz6
     try simp only [World.size_drew] at hb6 hz6
     have hlb : w18.heap.size ≤ bh := by omega
     have Hb6 := lh hb6
     clear hb6
     have sz3 := hX3.size
     try simp only [World.size_drew] at sz3
     try simp only [pg]
     refine hK.out _ _ (by exact ⟨((Ext.rfl' w18).dr.tr ((hX1.tr hX2).tr hX3)).cellE q18_0, ((Ext.rfl' w18).dr.tr ((hX1.tr hX2).tr hX3)).cellE q18_1, ((Ext.rfl' w18).dr.tr ((hX1.tr hX2).tr hX3)).cellE q18_2⟩) fun hh2 => ?_; clear hK K hHeld; have hHeld := hh2; clear hh2
     try simp only [Act.put, pu]
     refine rd1 5 rfl fun K hK => ?_
     go_simp
     refine (HI.out Xh0 _ Xh1 _ _ (OwnN.rdN (OwnD.ext Oh0.out ((hX2.tr hX3))) hgl2 Hfl.out) (OwnL.rdL (OwnD.ext Oh1.out (hX3)) hrl2 Hrr.out)).mono ?_
     rintro e wa4 ⟨Rh00, dh00, zh0, Rh10, dh10, rfl, ho0, ho1, hd01, hX4⟩
     have A0h := lh ho0
     have A1h := lh ho1
     have DD01h := lh hd01
     clear ho0 ho1 hd01
     have sz4 := hX4.size
     try simp only [World.size_drew] at sz4
     try go_wp2_with fail
     refine hK.out _ _ (by exact ⟨((Ext.rfl' w18).dr.tr (((hX1.tr hX2).tr hX3).tr hX4)).cellE q18_0, ((Ext.rfl' w18).dr.tr (((hX1.tr hX2).tr hX3).tr hX4)).cellE q18_1, ((Ext.rfl' w18).dr.tr (((hX1.tr hX2).tr hX3).tr hX4)).cellE q18_2⟩) fun hh2 => ?_; clear hK K hHeld; have hHeld := hh2; clear hh2
     try simp only [Act.put, pu]
     refine ty 6 ?_
     refine ty 7 ?_
     refine ty 8 ?_
     refine ty 9 ?_
     refine rd1 11 rfl fun K hK => ?_
     have hb6 := Hb6.out
     have hl5 := blt hc0
     have hc0 := (hX4).cellE hc0
     have hc1 := (hX4).cellE hc1
     have hf0 := ((hX4).frozen (p := ⟨bh, 0, none⟩) hl5).trans hf0
     have hf1 := ((hX4).frozen (p := ⟨bh, 1, none⟩) hl5).trans hf1
     clear hl5
     have hl6 := blt hc0
     have M6 : Mod (fun x => x = bh) wa4 (World.setCell (World.setCell wa4 ⟨bh, 0, none⟩ (.slice Rh00 s0.sts.length dh00)) ⟨bh, 1, none⟩ (.int .i64 s0.pos)) := (Mod.set (F := fun x => x = bh) (Mod.set (F := fun x => x = bh) (Mod.rfl' _ _) (p := ⟨bh, 0, none⟩) (.inl rfl) _) (p := ⟨bh, 1, none⟩) (.inl rfl) _)
     have X0 := lh (show World.cell? (World.setCell (World.setCell wa4 ⟨bh, 0, none⟩ (.slice Rh00 s0.sts.length dh00)) ⟨bh, 1, none⟩ (.int .i64 s0.pos)) ⟨bh, 0, none⟩ = some (.slice Rh00 s0.sts.length dh00) by simp [go_sem, hc0])
     have X1 := lh (show World.cell? (World.setCell (World.setCell wa4 ⟨bh, 0, none⟩ (.slice Rh00 s0.sts.length dh00)) ⟨bh, 1, none⟩ (.int .i64 s0.pos)) ⟨bh, 1, none⟩ = some (.int .i64 s0.pos) by simp [go_sem, hc1])
     have B0h := lh (OwnD.mod (OwnD.ext A0h.out ((Ext.rfl' _))) M6 (fun b hb e => by subst e; have h1 := A0h.out.lt hb; (try simp only [World.size_drew] at h1); omega))
     have B1h := lh (Own.mod (Own.ext A1h.out ((Ext.rfl' _))) M6 (fun b hb e => by subst e; have h1 := A1h.out.lt hb; (try simp only [World.size_drew] at h1); omega))
     have e0s := (Ext.set (Ext.set ((((hX1.tr hX2).tr hX3).tr hX4) : Ext (World.drew w18) wa4) (p := ⟨bh, 0, none⟩) (by simp; omega) (.slice Rh00 s0.sts.length dh00)) (p := ⟨bh, 1, none⟩) (by simp; omega) (.int .i64 s0.pos))
     have E0S := lh e0s
     clear e0s M6 hb6 hl6
     go_simp
     try simp only [pg]
     refine hK.out _ _ (by exact ⟨((Ext.rfl' w18).dr.tr E0S.out).cellE q18_0, ((Ext.rfl' w18).dr.tr E0S.out).cellE q18_1, ((Ext.rfl' w18).dr.tr E0S.out).cellE q18_2⟩) fun hh2 => ?_; clear hK K hHeld; have hHeld := hh2; clear hh2
     try simp only [Act.put]
     refine ty 12 ?_
     refine ty 13 ?_
     refine dn ?_
     go_wp2_with fail
     go_meet
     exact ⟨bh, _, _, _, _, _, _, rfl, rfl, rfl, X0, X1, B0h, B1h, DD01h, hlb, lh ((Ext.rfl' w18).dr.tr E0S.out)⟩
    exact AllReadyH.nil
   refine AllReadyH.cons rfl (fun K hK => ?_) ?_
   ·refine held_alFnExactMoveHistory rfl rfl ?_
    intro bh wa2 hb6 hc0 hc1 hf0 hf1 hX2 hz6
    try simp only [World.size_drew] at hb6 hz6
    have hlb : w18.heap.size ≤ bh := by omega
    have Hb6 := lh hb6
    clear hb6
    have sz2 := hX2.size
    try simp only [World.size_drew] at sz2
    try simp only [pg]
    refine hK.out _ _ (by exact ⟨((Ext.rfl' w18).dr.tr (hX1.tr hX2)).cellE q18_0, ((Ext.rfl' w18).dr.tr (hX1.tr hX2)).cellE q18_1, ((Ext.rfl' w18).dr.tr (hX1.tr hX2)).cellE q18_2⟩) fun hh2 => ?_; clear hK K hHeld; have hHeld := hh2; clear hh2
    try simp only [Act.put, pu]
    refine rd1 3 rfl fun K hK => ?_
    go_simp
    refine (HT1.out _ (HR.out.ext ((E2h.out.dr).tr (hX1.tr hX2)))).mono ?_
    rintro e wa3 ⟨Xh1, hh1, rfl, ho, hX3⟩
    have Oh1 := lh ho
    clear ho
    have sz3 := hX3.size
    try simp only [World.size_drew] at sz3
    try go_wp2_with fail
    refine hK.out _ _ (by exact ⟨((Ext.rfl' w18).dr.tr ((hX1.tr hX2).tr hX3)).cellE q18_0, ((Ext.rfl' w18).dr.tr ((hX1.tr hX2).tr hX3)).cellE q18_1, ((Ext.rfl' w18).dr.tr ((hX1.tr hX2).tr hX3)).cellE q18_2⟩) fun hh2 => ?_; clear hK K hHeld; have hHeld := hh2; clear hh2
    try simp only [Act.put, pu]
    refine rd1 5 rfl fun K hK => ?_
    go_simp
    refine (HI.out Xh0 _ Xh1 _ _ (OwnN.rdN (OwnD.ext Oh0.out ((hX2.tr hX3))) hgl2 Hfl.out) (OwnL.rdL (OwnD.ext Oh1.out ((Ext.rfl' _))) hrl2 Hrr.out)).mono ?_
    rintro e wa4 ⟨Rh00, dh00, zh0, Rh10, dh10, rfl, ho0, ho1, hd01, hX4⟩
    have A0h := lh ho0
    have A1h := lh ho1
    have DD01h := lh hd01
    clear ho0 ho1 hd01
    have sz4 := hX4.size
    try simp only [World.size_drew] at sz4
    try go_wp2_with fail
    refine hK.out _ _ (by exact ⟨((Ext.rfl' w18).dr.tr (((hX1.tr hX2).tr hX3).tr hX4)).cellE q18_0, ((Ext.rfl' w18).dr.tr (((hX1.tr hX2).tr hX3).tr hX4)).cellE q18_1, ((Ext.rfl' w18).dr.tr (((hX1.tr hX2).tr hX3).tr hX4)).cellE q18_2⟩) fun hh2 => ?_; clear hK K hHeld; have hHeld := hh2; clear hh2
    try simp only [Act.put, pu]
    refine ty 6 ?_
    refine ty 7 ?_
    refine ty 8 ?_
    refine ty 9 ?_
    refine rd1 11 rfl fun K hK => ?_
    have hb6 := Hb6.out
    have hl5 := blt hc0
    have hc0 := ((hX3.tr hX4)).cellE hc0
    have hc1 := ((hX3.tr hX4)).cellE hc1
    have hf0 := (((hX3.tr hX4)).frozen (p := ⟨bh, 0, none⟩) hl5).trans hf0
    have hf1 := (((hX3.tr hX4)).frozen (p := ⟨bh, 1, none⟩) hl5).trans hf1
    clear hl5
    have hl6 := blt hc0
    have M6 : Mod (fun x => x = bh) wa4 (World.setCell (World.setCell wa4 ⟨bh, 0, none⟩ (.slice Rh00 s0.sts.length dh00)) ⟨bh, 1, none⟩ (.int .i64 s0.pos)) := (Mod.set (F := fun x => x = bh) (Mod.set (F := fun x => x = bh) (Mod.rfl' _ _) (p := ⟨bh, 0, none⟩) (.inl rfl) _) (p := ⟨bh, 1, none⟩) (.inl rfl) _)
    have X0 := lh (show World.cell? (World.setCell (World.setCell wa4 ⟨bh, 0, none⟩ (.slice Rh00 s0.sts.length dh00)) ⟨bh, 1, none⟩ (.int .i64 s0.pos)) ⟨bh, 0, none⟩ = some (.slice Rh00 s0.sts.length dh00) by simp [go_sem, hc0])
    have X1 := lh (show World.cell? (World.setCell (World.setCell wa4 ⟨bh, 0, none⟩ (.slice Rh00 s0.sts.length dh00)) ⟨bh, 1, none⟩ (.int .i64 s0.pos)) ⟨bh, 1, none⟩ = some (.int .i64 s0.pos) by simp [go_sem, hc1])
    have B0h := lh (OwnD.mod (OwnD.ext A0h.out ((Ext.rfl' _))) M6 (fun b hb e => by subst e; have h1 := A0h.out.lt hb; (try simp only [World.size_drew] at h1); omega))
    have B1h := lh (Own.mod (Own.ext A1h.out ((Ext.rfl' _))) M6 (fun b hb e => by subst e; have h1 := A1h.out.lt hb; (try simp only [World.size_drew] at h1); omega))
    have e0s := (Ext.set (Ext.set ((((hX1.tr hX2).tr hX3).tr hX4) : Ext (World.drew w18) wa4) (p := ⟨bh, 0, none⟩) (by simp; omega) (.slice Rh00 s0.sts.length dh00)) (p := ⟨bh, 1, none⟩) (by simp; omega) (.int .i64 s0.pos))
    have E0S := lh e0s
    clear e0s M6 hb6 hl6
    go_simp
    try simp only [pg]
    refine hK.out _ _ (by exact ⟨((Ext.rfl' w18).dr.tr E0S.out).cellE q18_0, ((Ext.rfl' w18).dr.tr E0S.out).cellE q18_1, ((Ext.rfl' w18).dr.tr E0S.out).cellE q18_2⟩) fun hh2 => ?_; clear hK K hHeld; have hHeld := hh2; clear hh2
    try simp only [Act.put]
    refine ty 12 ?_
    refine ty 13 ?_
    refine dn ?_
    go_wp2_with fail
    go_meet
    exact ⟨bh, _, _, _, _, _, _, rfl, rfl, rfl, X0, X1, B0h, B1h, DD01h, hlb, lh ((Ext.rfl' w18).dr.tr E0S.out)⟩
   exact AllReadyH.nil
  refine AllReadyH.cons rfl (fun K hK => ?_) ?_
  ·refine held_alFnExactMoveHistory rfl rfl ?_
   intro bh wa1 hb6 hc0 hc1 hf0 hf1 hX1 hz6
   try simp only [World.size_drew] at hb6 hz6
   have hlb : w18.heap.size ≤ bh := by omega
   have Hb6 := lh hb6
   clear hb6
   have sz1 := hX1.size
   try simp only [World.size_drew] at sz1
   try simp only [pg]
   refine hK.out _ _ (by exact ⟨((Ext.rfl' w18).dr.tr hX1).cellE q18_0, ((Ext.rfl' w18).dr.tr hX1).cellE q18_1, ((Ext.rfl' w18).dr.tr hX1).cellE q18_2⟩) fun hh2 => ?_; clear hK K hHeld; have hHeld := hh2; clear hh2
   try simp only [Act.put, pu]
   refine rd1 1 rfl fun K hK => ?_
   go_simp
   refine (HT0.out _ (HN.out.ext ((E2h.out.dr).tr hX1))).mono ?_
   rintro e wa2 ⟨Xh0, hh0, rfl, ho, hX2⟩
   have Oh0 := lh ho
   clear ho
   have sz2 := hX2.size
   try simp only [World.size_drew] at sz2
   try go_wp2_with fail
   refine hK.out _ _ (by exact ⟨((Ext.rfl' w18).dr.tr (hX1.tr hX2)).cellE q18_0, ((Ext.rfl' w18).dr.tr (hX1.tr hX2)).cellE q18_1, ((Ext.rfl' w18).dr.tr (hX1.tr hX2)).cellE q18_2⟩) fun hh2 => ?_; clear hK K hHeld; have hHeld := hh2; clear hh2
   try simp only [Act.put, pu]
   refine rd1 3 rfl fun K hK => ?_
   go_simp
   refine (HT1.out _ (HR.out.ext ((E2h.out.dr).tr (hX1.tr hX2)))).mono ?_
   rintro e wa3 ⟨Xh1, hh1, rfl, ho, hX3⟩
   have Oh1 := lh ho
   clear ho
   have sz3 := hX3.size
   try simp only [World.size_drew] at sz3
   try go_wp2_with fail
   refine hK.out _ _ (by exact ⟨((Ext.rfl' w18).dr.tr ((hX1.tr hX2).tr hX3)).cellE q18_0, ((Ext.rfl' w18).dr.tr ((hX1.tr hX2).tr hX3)).cellE q18_1, ((Ext.rfl' w18).dr.tr ((hX1.tr hX2).tr hX3)).cellE q18_2⟩) fun hh2 => ?_; clear hK K hHeld; have hHeld := hh2; clear hh2
   try simp only [Act.put, pu]
   refine rd1 5 rfl fun K hK => ?_
   go_simp
   refine (HI.out Xh0 _ Xh1 _ _ (OwnN.rdN (OwnD.ext Oh0.out (hX3)) hgl2 Hfl.out) (OwnL.rdL (OwnD.ext Oh1.out ((Ext.rfl' _))) hrl2 Hrr.out)).mono ?_
   rintro e wa4 ⟨Rh00, dh00, zh0, Rh10, dh10, rfl, ho0, ho1, hd01, hX4⟩
   have A0h := lh ho0
   have A1h := lh ho1
   have DD01h := lh hd01
   clear ho0 ho1 hd01
   have sz4 := hX4.size
   try simp only [World.size_drew] at sz4
   try go_wp2_with fail
   refine hK.out _ _ (by exact ⟨((Ext.rfl' w18).dr.tr (((hX1.tr hX2).tr hX3).tr hX4)).cellE q18_0, ((Ext.rfl' w18).dr.tr (((hX1.tr hX2).tr hX3).tr hX4)).cellE q18_1, ((Ext.rfl' w18).dr.tr (((hX1.tr hX2).tr hX3).tr hX4)).cellE q18_2⟩) fun hh2 => ?_; clear hK K hHeld; have hHeld := hh2; clear hh2
   try simp only [Act.put, pu]
   refine ty 6 ?_
   refine ty 7 ?_
   refine ty 8 ?_
   refine ty 9 ?_
   refine rd1 11 rfl fun K hK => ?_
   have hb6 := Hb6.out
   have hl5 := blt hc0
   have hc0 := (((hX2.tr hX3).tr hX4)).cellE hc0
   have hc1 := (((hX2.tr hX3).tr hX4)).cellE hc1
   have hf0 := ((((hX2.tr hX3).tr hX4)).frozen (p := ⟨bh, 0, none⟩) hl5).trans hf0
   have hf1 := ((((hX2.tr hX3).tr hX4)).frozen (p := ⟨bh, 1, none⟩) hl5).trans hf1
   clear hl5
   have hl6 := blt hc0
   have M6 : Mod (fun x => x = bh) wa4 (World.setCell (World.setCell wa4 ⟨bh, 0, none⟩ (.slice Rh00 s0.sts.length dh00)) ⟨bh, 1, none⟩ (.int .i64 s0.pos)) := (Mod.set (F := fun x => x = bh) (Mod.set (F := fun x => x = bh) (Mod.rfl' _ _) (p := ⟨bh, 0, none⟩) (.inl rfl) _) (p := ⟨bh, 1, none⟩) (.inl rfl) _)
   have X0 := lh (show World.cell? (World.setCell (World.setCell wa4 ⟨bh, 0, none⟩ (.slice Rh00 s0.sts.length dh00)) ⟨bh, 1, none⟩ (.int .i64 s0.pos)) ⟨bh, 0, none⟩ = some (.slice Rh00 s0.sts.length dh00) by simp [go_sem, hc0])
   have X1 := lh (show World.cell? (World.setCell (World.setCell wa4 ⟨bh, 0, none⟩ (.slice Rh00 s0.sts.length dh00)) ⟨bh, 1, none⟩ (.int .i64 s0.pos)) ⟨bh, 1, none⟩ = some (.int .i64 s0.pos) by simp [go_sem, hc1])
   have B0h := lh (OwnD.mod (OwnD.ext A0h.out ((Ext.rfl' _))) M6 (fun b hb e => by subst e; have h1 := A0h.out.lt hb; (try simp only [World.size_drew] at h1); omega))
   have B1h := lh (Own.mod (Own.ext A1h.out ((Ext.rfl' _))) M6 (fun b hb e => by subst e; have h1 := A1h.out.lt hb; (try simp only [World.size_drew] at h1); omega))
   have e0s := (Ext.set (Ext.set ((((hX1.tr hX2).tr hX3).tr hX4) : Ext (World.drew w18) wa4) (p := ⟨bh, 0, none⟩) (by simp; omega) (.slice Rh00 s0.sts.length dh00)) (p := ⟨bh, 1, none⟩) (by simp; omega) (.int .i64 s0.pos))
   have E0S := lh e0s
   clear e0s M6 hb6 hl6
   go_simp
   try simp only [pg]
   refine hK.out _ _ (by exact ⟨((Ext.rfl' w18).dr.tr E0S.out).cellE q18_0, ((Ext.rfl' w18).dr.tr E0S.out).cellE q18_1, ((Ext.rfl' w18).dr.tr E0S.out).cellE q18_2⟩) fun hh2 => ?_; clear hK K hHeld; have hHeld := hh2; clear hh2
   try simp only [Act.put]
   refine ty 12 ?_
   refine ty 13 ?_
   refine dn ?_
   go_wp2_with fail
   go_meet
   exact ⟨bh, _, _, _, _, _, _, rfl, rfl, rfl, X0, X1, B0h, B1h, DD01h, hlb, lh ((Ext.rfl' w18).dr.tr E0S.out)⟩
  exact AllReadyH.nil
 case rest =>
 obtain ⟨bh, Rh00, dh00, zh0, Rh10, dh10, Lh, rfl, rfl, rfl, hq0, hq1, hA0, hA1, hDD01, hlb, hE⟩ := hcut
 obtain ⟨w19, rfl⟩ : ∃ W : World, W = wc := ⟨_, rfl⟩
 have ux19 := lh (hE.out)
 have q19_0 := ux19.out.cellE q18_0
 have q19_1 := ux19.out.cellE q18_1
 have q19_2 := ux19.out.cellE q18_2
 have q19_3 := ux19.out.cellE q18_3
 have q19_4 := ux19.out.cellE q18_4
 have q19_5 := ux19.out.cellE q18_5
 have q19_6 := ux19.out.cellE q18_6
 have q19_7 := ux19.out.cellE q18_7
 have q19_8 := ux19.out.cellE q18_8
 have q19_9 := ux19.out.cellE q18_9
 have q19_10 := hq0.out
 have q19_11 := hq1.out
 have z19 := ux19.out.size
 have pbh := blt q19_11
 have Oh0 := hA0
 have Oh1 := hA1
 have Dh01 := hDD01
 clear hE hA0 hA1 hDD01 hq0 hq1 q18_0 q18_1 q18_2 q18_3 q18_4 q18_5 q18_6 q18_7 q18_8 q18_9 b18_0 b18_1 b18_2 b18_3 b18_4 b18_5
 have b19_0 := blt q19_0
 have b19_1 := blt q19_1
 have b19_2 := blt q19_3
 have b19_3 := blt q19_5
 have b19_4 := blt q19_6
 have b19_5 := blt q19_8
 have b19_6 := blt q19_10
 go_wp2_with fail
 refine (HRE0.out Rh00 Rw00 dh00 dw00 _ (OwnL.rdL ((OwnD.ext Oh0.out (Ext.rfl' w19))) Hsm0.out.r Hsm0.out.e) (OwnL.rdL ((OwnD.ext Ow0.out ((((Ext.md (Ext.md (((Ext.md (Ext.md ((((((((Ext.rfl' w3).tr ux4.out).tr ux5.out).tr ux6.out).tr ux7.out).tr ux8.out).tr ux9.out).tr ux10.out) ux11.out (fun b hb => by have := v11.out b hb; omega)) ux12.out (fun b hb => by have := v12.out b hb; omega)).tr ux13.out).tr ux14.out) ux15.out (fun b hb => by have := v15.out b hb; omega)) ux16.out (fun b hb => by have := v16.out b hb; omega)).tr ux17.out).tr ux18.out).tr ux19.out))) Hsm0.out.r Hsm0.out.e)).mono ?_
 rintro e w20 ⟨rfl, hX20⟩
 have ux20 := lh ((Ext.rfl' w19).tr hX20)
 have q20_0 := ux20.out.cellE q19_0
 have q20_1 := ux20.out.cellE q19_1
 have q20_2 := ux20.out.cellE q19_2
 have q20_3 := ux20.out.cellE q19_3
 have q20_4 := ux20.out.cellE q19_4
 have q20_5 := ux20.out.cellE q19_5
 have q20_6 := ux20.out.cellE q19_6
 have q20_7 := ux20.out.cellE q19_7
 have q20_8 := ux20.out.cellE q19_8
 have q20_9 := ux20.out.cellE q19_9
 have q20_10 := ux20.out.cellE q19_10
 have q20_11 := ux20.out.cellE q19_11
 have z20 := ux20.out.size
 clear hX20 q19_0 q19_1 q19_2 q19_3 q19_4 q19_5 q19_6 q19_7 q19_8 q19_9 q19_10 q19_11 b19_0 b19_1 b19_2 b19_3 b19_4 b19_5 b19_6
 have b20_0 := blt q20_0
 have b20_1 := blt q20_1
 have b20_2 := blt q20_3
 have b20_3 := blt q20_5
 have b20_4 := blt q20_6
 have b20_5 := blt q20_8
 have b20_6 := blt q20_10
 go_wp2_with fail
 refine (HRE1.out Rh10 Rw10 dh10 dw10 _ ((Own.ext Oh1.out ((Ext.rfl' w19).tr ux20.out))).rd ((Own.ext Ow1.out (((((Ext.md (Ext.md (((Ext.md (Ext.md ((((((((Ext.rfl' w3).tr ux4.out).tr ux5.out).tr ux6.out).tr ux7.out).tr ux8.out).tr ux9.out).tr ux10.out) ux11.out (fun b hb => by have := v11.out b hb; omega)) ux12.out (fun b hb => by have := v12.out b hb; omega)).tr ux13.out).tr ux14.out) ux15.out (fun b hb => by have := v15.out b hb; omega)) ux16.out (fun b hb => by have := v16.out b hb; omega)).tr ux17.out).tr ux18.out).tr ux19.out).tr ux20.out))).rd).mono ?_
 rintro e w21 ⟨rfl, hX21⟩
 have ux21 := lh ((Ext.rfl' w20).tr hX21)
 have q21_0 := ux21.out.cellE q20_0
 have q21_1 := ux21.out.cellE q20_1
 have q21_2 := ux21.out.cellE q20_2
 have q21_3 := ux21.out.cellE q20_3
 have q21_4 := ux21.out.cellE q20_4
 have q21_5 := ux21.out.cellE q20_5
 have q21_6 := ux21.out.cellE q20_6
 have q21_7 := ux21.out.cellE q20_7
 have q21_8 := ux21.out.cellE q20_8
 have q21_9 := ux21.out.cellE q20_9
 have q21_10 := ux21.out.cellE q20_10
 have q21_11 := ux21.out.cellE q20_11
 have z21 := ux21.out.size
 clear hX21 q20_0 q20_1 q20_2 q20_3 q20_4 q20_5 q20_6 q20_7 q20_8 q20_9 q20_10 q20_11 b20_0 b20_1 b20_2 b20_3 b20_4 b20_5 b20_6
 have b21_0 := blt q21_0
 have b21_1 := blt q21_1
 have b21_2 := blt q21_3
 have b21_3 := blt q21_5
 have b21_4 := blt q21_6
 have b21_5 := blt q21_8
 have b21_6 := blt q21_10
 go_wp2_with fail
 refine (HRH0.out Rg00 dg00 (1) _ (OwnL.rdL (OwnD.ext Mv0_d1.out ((((((Ext.rfl' w16).tr ux17.out).tr ux18.out).tr ux19.out).tr ux20.out).tr ux21.out)) (by simpa using sm0r) (by intro x hx; exact numL_small _ _ Hsm0.out.e x hx)) (by omega) (by omega)).mono ?_
 rintro e w22 ⟨rfl, hX22⟩
 have ux22 := lh ((Ext.rfl' w21).tr hX22)
 have q22_0 := ux22.out.cellE q21_0
 have q22_1 := ux22.out.cellE q21_1
 have q22_2 := ux22.out.cellE q21_2
 have q22_3 := ux22.out.cellE q21_3
 have q22_4 := ux22.out.cellE q21_4
 have q22_5 := ux22.out.cellE q21_5
 have q22_6 := ux22.out.cellE q21_6
 have q22_7 := ux22.out.cellE q21_7
 have q22_8 := ux22.out.cellE q21_8
 have q22_9 := ux22.out.cellE q21_9
 have q22_10 := ux22.out.cellE q21_10
 have q22_11 := ux22.out.cellE q21_11
 have z22 := ux22.out.size
 clear hX22 q21_0 q21_1 q21_2 q21_3 q21_4 q21_5 q21_6 q21_7 q21_8 q21_9 q21_10 q21_11 b21_0 b21_1 b21_2 b21_3 b21_4 b21_5 b21_6
 have b22_0 := blt q22_0
 have b22_1 := blt q22_1
 have b22_2 := blt q22_3
 have b22_3 := blt q22_5
 have b22_4 := blt q22_6
 have b22_5 := blt q22_8
 have b22_6 := blt q22_10
 go_wp2_with fail
 refine (HRH1.out Rg10 dg10 (1 + (totL s0.sts : Int)) _ (Own.ext Mv1.out (((((((Ext.rfl' w16).tr ux17.out).tr ux18.out).tr ux19.out).tr ux20.out).tr ux21.out).tr ux22.out)).rd (by omega) (by omega)).mono ?_
 rintro e w23 ⟨rfl, hX23⟩
 have ux23 := lh ((Ext.rfl' w22).tr hX23)
 have q23_0 := ux23.out.cellE q22_0
 have q23_1 := ux23.out.cellE q22_1
 have q23_2 := ux23.out.cellE q22_2
 have q23_3 := ux23.out.cellE q22_3
 have q23_4 := ux23.out.cellE q22_4
 have q23_5 := ux23.out.cellE q22_5
 have q23_6 := ux23.out.cellE q22_6
 have q23_7 := ux23.out.cellE q22_7
 have q23_8 := ux23.out.cellE q22_8
 have q23_9 := ux23.out.cellE q22_9
 have q23_10 := ux23.out.cellE q22_10
 have q23_11 := ux23.out.cellE q22_11
 have z23 := ux23.out.size
 clear hX23 q22_0 q22_1 q22_2 q22_3 q22_4 q22_5 q22_6 q22_7 q22_8 q22_9 q22_10 q22_11 b22_0 b22_1 b22_2 b22_3 b22_4 b22_5 b22_6
 have b23_0 := blt q23_0
 have b23_1 := blt q23_1
 have b23_2 := blt q23_3
 have b23_3 := blt q23_5
 have b23_4 := blt q23_6
 have b23_5 := blt q23_8
 have b23_6 := blt q23_10
 go_wp2
 go_ret
 exact ⟨rfl, ((((((((Ext.md (Ext.md (((Ext.md (Ext.md ((((((((((E0.out.tr ux1.out).tr ux2.out).tr ux3.out).tr ux4.out).tr ux5.out).tr ux6.out).tr ux7.out).tr ux8.out).tr ux9.out).tr ux10.out) ux11.out (fun b hb => by have := v11.out b hb; omega)) ux12.out (fun b hb => by have := v12.out b hb; omega)).tr ux13.out).tr ux14.out) ux15.out (fun b hb => by have := v15.out b hb; omega)) ux16.out (fun b hb => by have := v16.out b hb; omega)).tr ux17.out).tr ux18.out).tr ux19.out).tr ux20.out).tr ux21.out).tr ux22.out).tr ux23.out)⟩
end Go.Proofs.YteighpaljdlnaaaGreat
