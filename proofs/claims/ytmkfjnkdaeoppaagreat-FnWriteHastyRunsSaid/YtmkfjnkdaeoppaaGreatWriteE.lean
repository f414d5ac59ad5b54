/- WriteEager of the program and of the reference: contracts. Conditions: bounds on lengths. -/
import Derived.Test.YtmkfjnkdaeoppaaGreatTy
import Derived.Test.YtmkfjnkdaeoppaaGreatImplB2
import Derived.Test.YtmkfjnkdaeoppaaGreatSpecY
import Derived.Test.YtmkfjnkdaeoppaaGreatCopyA
import Derived.Test.YtmkfjnkdaeoppaaGreatImplMN
import Derived.Test.YtmkfjnkdaeoppaaGreatFactsAll
namespace Go.Proofs.YtmkfjnkdaeoppaaGreat
open Go.RowKit

theorem sepOf2 {B c1 c2 b : Nat} {A1 A2 : Option Addr} {hs : List (Option Addr × Nat)} {v : List Int} {r : List (List Int)} {w W : World} {cs : List Value} (h : OwnE w B A1 c1 A2 c2 hs ⟨v, r⟩) (e : Ext w W) (hb : Bx W b cs) (hl : w.heap.size ≤ b) (hB : B ≤ w.heap.size) :
  Sep [Th.own B 3 1 A1 v.length c1 (ints v), Th.ownL B A2 c2 r hs, Th.box B b cs] W :=
 ⟨h.v.ext e, fun s hs x hx => by
  simp at hs
  rcases hs with rfl | rfl
  ·exact h.d x hx
  ·show ¬ (x = b)
   have := (Own.lt h.v hx).2
   omega, OwnD.ext h.r e, fun s hs x hx => by
  simp at hs
  subst hs
  show ¬ (x = b)
  have := (OwnD.lt h.r hx).2
  omega, ⟨hb, by omega⟩, by simp, trivial⟩
theorem writeS_shape {g : Sg.Graph} {v : List Int} {r : List (List Int)} {nodes vals : List Int} (hV : Sg.validE g ⟨v, r⟩ = true) (hx : Sg.inRange vals) : (Sg.writeS g ⟨v, r⟩ nodes vals).vals.length = v.length ∧ (Sg.writeS g ⟨v, r⟩ nodes vals).reads.length = r.length := by
 obtain ⟨hG, hvl, hrl, hvr, _⟩ := Sg.validE_parts hV
 have ok : Sg.WrOk g ⟨(Sg.wcells (v, List.replicate g.length false) nodes vals nodes.length).1, r, (Sg.wcells (v, List.replicate g.length false) nodes vals nodes.length).2, []⟩ :=
  ⟨by simp [show v.length = g.length from hvl], hrl, by simp, Sg.wcells_range v _ nodes vals nodes.length (Sg.inR999_range hvr) hx⟩
 have := ok.steps hG g.length (Nat.le_refl _)
 exact ⟨this.v.trans (show v.length = g.length from hvl).symm, this.r.trans (show r.length = g.length from hrl).symm⟩

set_option maxRecDepth 100000 in
set_option maxHeartbeats 8000000 in
theorem i_WriteEager (A Av Ar An Aw : Option Addr) (c cv cr cn cw : Nat) (g : Sg.Graph) (v nodes vals : List Int) (r : List (List Int)) (w : World) (h : RdN w A g) (hv : Rd w 1 Av v.length (ints v)) (hr : RdL w Ar r) (hn : Rd w 1 An nodes.length (ints nodes)) (hw : Rd w 1 Aw vals.length (ints vals)) (hvl : v.length ≤ 1048576) (hcn : nodes.length ≤ cn) (hcm : cn ≤ maxLen) :
  Calls Tryz.prog 58 #[.agg #[.slice A g.length c], .agg #[.slice Av v.length cv, .slice Ar r.length cr], .slice An nodes.length cn, .slice Aw vals.length cw] w fun e w' => ∃ A1 c1 A2 c2 hs A3 c3, e = .returned (.tuple #[.agg #[.slice A1 (Sg.writeOr g ⟨v, r⟩ nodes vals).1.vals.length c1, .slice A2 (Sg.writeOr g ⟨v, r⟩ nodes vals).1.reads.length c2], .slice A3 (Sg.writeOr g ⟨v, r⟩ nodes vals).2.length c3]) ∧ OwnE w' w.heap.size A1 c1 A2 c2 hs (Sg.writeOr g ⟨v, r⟩ nodes vals).1 ∧ Own w' w.heap.size 3 1 A3 (Sg.writeOr g ⟨v, r⟩ nodes vals).2.length c3 (ints (Sg.writeOr g ⟨v, r⟩ nodes vals).2) ∧ (∀ b, (blk A1 = some b ∨ fpD A2 hs b) → ¬ (blk A3 = some b)) ∧ Ext w w' := by
 have hgl := h.1
 have hwb := hw.big
 have hnb := hn.big
 have HV := lh (fun w h hv hr => i_ValidEager A Av Ar c cv cr g v r w h hv hr)
 have HC := lh (fun w h hn => i_cellsDiffer A An c cn g nodes w h hn hcn hcm)
 have HR := lh (fun w h => i_inRange Aw vals.length cw vals w h)
 have H := lh h
 have Hv := lh hv
 have Hr := lh hr
 have Hn := lh hn
 have Hw := lh hw
 clear h hv hr hn hw
 have b0 := Bx.new (World.alloc (World.alloc w (.cells #[.slice A g.length c] 25)) (.cells #[.slice Av v.length cv, .slice Ar r.length cr] 63)) #[.slice none 0 0, .slice none 0 0] 63
 simp only [World.size_alloc] at b0
 have BR0 := lh b0
 clear b0
 have E0 := lh (((((Ext.rfl' w).al (.cells #[.slice A g.length c] 25)).al (.cells #[.slice Av v.length cv, .slice Ar r.length cr] 63)).al (.cells #[.slice none 0 0, .slice none 0 0] 63)) : Ext w (World.alloc (World.alloc (World.alloc w (.cells #[.slice A g.length c] 25)) (.cells #[.slice Av v.length cv, .slice Ar r.length cr] 63)) (.cells #[.slice none 0 0, .slice none 0 0] 63)))
 have qlg : World.cell? (World.alloc (World.alloc (World.alloc w (.cells #[.slice A g.length c] 25)) (.cells #[.slice Av v.length cv, .slice Ar r.length cr] 63)) (.cells #[.slice none 0 0, .slice none 0 0] 63)) ⟨w.heap.size, 0, none⟩ = some (.slice A g.length c) := by simp [go_sem]
 have Qlg := lh qlg
 clear qlg
 have qlv : World.cell? (World.alloc (World.alloc (World.alloc w (.cells #[.slice A g.length c] 25)) (.cells #[.slice Av v.length cv, .slice Ar r.length cr] 63)) (.cells #[.slice none 0 0, .slice none 0 0] 63)) ⟨w.heap.size + 1, 0, none⟩ = some (.slice Av v.length cv) := by simp [go_sem]
 have Qlv := lh qlv
 clear qlv
 have qlr : World.cell? (World.alloc (World.alloc (World.alloc w (.cells #[.slice A g.length c] 25)) (.cells #[.slice Av v.length cv, .slice Ar r.length cr] 63)) (.cells #[.slice none 0 0, .slice none 0 0] 63)) ⟨w.heap.size + 1, 1, none⟩ = some (.slice Ar r.length cr) := by simp [go_sem]
 have Qlr := lh qlr
 clear qlr
 cases hE : Sg.validE g ⟨v, r⟩
 ·have HE := lh hE
  have HS := lh (show (Sg.writeOr g ⟨v, r⟩ nodes vals) = (⟨[], []⟩, []) by unfold Sg.writeOr Sg.mayWrite; rw [hE]; rfl)
  clear hE
  go_enter Tryz.func58, Tryz.ntmps58
  go_wp2_with fail
  refine (HV.out _ (H.out.ext E0.out) (Hv.out.ext E0.out) (Hr.out.ext E0.out)).mono ?_
  rintro e w1 ⟨rfl, he1⟩
  rw [HE.out]
  have U1 := lh ((Ext.rfl' (World.alloc (World.alloc (World.alloc w (.cells #[.slice A g.length c] 25)) (.cells #[.slice Av v.length cv, .slice Ar r.length cr] 63)) (.cells #[.slice none 0 0, .slice none 0 0] 63))).tr he1)
  have E1 := lh (E0.out.tr U1.out)
  have lg_1 := U1.out.cellE Qlg.out
  have lv_1 := U1.out.cellE Qlv.out
  have lr_1 := U1.out.cellE Qlr.out
  clear he1 
  have blg_1 := blt lg_1
  have blv_1 := blt lv_1
  have blr_1 := blt lr_1
  have BR := lh (BR0.out.ext ((Ext.rfl' (World.alloc (World.alloc (World.alloc w (.cells #[.slice A g.length c] 25)) (.cells #[.slice Av v.length cv, .slice Ar r.length cr] 63)) (.cells #[.slice none 0 0, .slice none 0 0] 63))).tr U1.out))
  have f0 := BR.out.free 0
  have f1 := BR.out.free 1
  have x0 := BR.out.cell (j := 0) rfl
  have x1 := BR.out.cell (j := 1) rfl
  have bl := BR.out.lt
  go_wp2
  have s0 : ∀ u0 u1 : Value, World.cell? (World.setCell (World.setCell w1 ⟨w.heap.size + 1 + 1, 0, none⟩ u0) ⟨w.heap.size + 1 + 1, 1, none⟩ u1) ⟨w.heap.size + 1 + 1, 0, none⟩ = some u0 := fun u0 u1 => ((BR.out.set 0 u0).set 1 u1).cell (j := 0) rfl
  have s1 : ∀ u0 u1 : Value, World.cell? (World.setCell (World.setCell w1 ⟨w.heap.size + 1 + 1, 0, none⟩ u0) ⟨w.heap.size + 1 + 1, 1, none⟩ u1) ⟨w.heap.size + 1 + 1, 1, none⟩ = some u1 := fun u0 u1 => ((BR.out.set 0 u0).set 1 u1).cell (j := 1) rfl
  refine bodyPost_ret (v := .tuple #[.agg #[.slice none 0 0, .slice none 0 0], .slice none 0 0]) (by simp [results, Tryz.results58, go_sem, s0, s1]; try rfl) rfl ?_
  rw [HS.out]
  exact ⟨none, 0, none, 0, [], none, 0, rfl, OwnE.nil _ _, Own.nil _ _ _ _, by simp [blk], (E1.out.set (p := ⟨w.heap.size + 1 + 1, 0, none⟩) (show w.heap.size ≤ w.heap.size + 1 + 1 by omega) _).set (p := ⟨w.heap.size + 1 + 1, 1, none⟩) (show w.heap.size ≤ w.heap.size + 1 + 1 by omega) _⟩
 have HE := lh hE
 cases hC : Sg.cellsDiffer g nodes
 ·have HCD := lh hC
  have HS := lh (show (Sg.writeOr g ⟨v, r⟩ nodes vals) = (⟨[], []⟩, []) by unfold Sg.writeOr Sg.mayWrite; rw [hE, hC]; rfl)
  clear hE hC
  go_enter Tryz.func58, Tryz.ntmps58
  go_wp2_with fail
  refine (HV.out _ (H.out.ext E0.out) (Hv.out.ext E0.out) (Hr.out.ext E0.out)).mono ?_
  rintro e w1 ⟨rfl, he1⟩
  rw [HE.out]
  have U1 := lh ((Ext.rfl' (World.alloc (World.alloc (World.alloc w (.cells #[.slice A g.length c] 25)) (.cells #[.slice Av v.length cv, .slice Ar r.length cr] 63)) (.cells #[.slice none 0 0, .slice none 0 0] 63))).tr he1)
  have E1 := lh (E0.out.tr U1.out)
  have lg_1 := U1.out.cellE Qlg.out
  have lv_1 := U1.out.cellE Qlv.out
  have lr_1 := U1.out.cellE Qlr.out
  clear he1 
  have blg_1 := blt lg_1
  have blv_1 := blt lv_1
  have blr_1 := blt lr_1
  go_wp2_with fail
  refine (HC.out _ (H.out.ext E1.out) (Hn.out.ext E1.out)).mono ?_
  rintro e w2 ⟨rfl, he2⟩
  rw [HCD.out]
  have U2 := lh ((Ext.rfl' w1).tr he2)
  have E2 := lh (E1.out.tr U2.out)
  have lg_2 := U2.out.cellE lg_1
  have lv_2 := U2.out.cellE lv_1
  have lr_2 := U2.out.cellE lr_1
  clear he2 lg_1 lv_1 lr_1 blg_1 blv_1 blr_1
  have blg_2 := blt lg_2
  have blv_2 := blt lv_2
  have blr_2 := blt lr_2
  have BR := lh (BR0.out.ext (((Ext.rfl' (World.alloc (World.alloc (World.alloc w (.cells #[.slice A g.length c] 25)) (.cells #[.slice Av v.length cv, .slice Ar r.length cr] 63)) (.cells #[.slice none 0 0, .slice none 0 0] 63))).tr U1.out).tr U2.out))
  have f0 := BR.out.free 0
  have f1 := BR.out.free 1
  have x0 := BR.out.cell (j := 0) rfl
  have x1 := BR.out.cell (j := 1) rfl
  have bl := BR.out.lt
  go_wp2
  have s0 : ∀ u0 u1 : Value, World.cell? (World.setCell (World.setCell w2 ⟨w.heap.size + 1 + 1, 0, none⟩ u0) ⟨w.heap.size + 1 + 1, 1, none⟩ u1) ⟨w.heap.size + 1 + 1, 0, none⟩ = some u0 := fun u0 u1 => ((BR.out.set 0 u0).set 1 u1).cell (j := 0) rfl
  have s1 : ∀ u0 u1 : Value, World.cell? (World.setCell (World.setCell w2 ⟨w.heap.size + 1 + 1, 0, none⟩ u0) ⟨w.heap.size + 1 + 1, 1, none⟩ u1) ⟨w.heap.size + 1 + 1, 1, none⟩ = some u1 := fun u0 u1 => ((BR.out.set 0 u0).set 1 u1).cell (j := 1) rfl
  refine bodyPost_ret (v := .tuple #[.agg #[.slice none 0 0, .slice none 0 0], .slice none 0 0]) (by simp [results, Tryz.results58, go_sem, s0, s1]; try rfl) rfl ?_
  rw [HS.out]
  exact ⟨none, 0, none, 0, [], none, 0, rfl, OwnE.nil _ _, Own.nil _ _ _ _, by simp [blk], (E2.out.set (p := ⟨w.heap.size + 1 + 1, 0, none⟩) (show w.heap.size ≤ w.heap.size + 1 + 1 by omega) _).set (p := ⟨w.heap.size + 1 + 1, 1, none⟩) (show w.heap.size ≤ w.heap.size + 1 + 1 by omega) _⟩
 have HCD := lh hC
 by_cases hL : nodes.length = vals.length
 case neg =>
  have z1 : ((nodes.length : Int) != (vals.length : Int)) = true := by simp; omega
  have HS := lh (show (Sg.writeOr g ⟨v, r⟩ nodes vals) = (⟨[], []⟩, []) by unfold Sg.writeOr Sg.mayWrite; simp [hL])
  clear hE hC hL
  go_enter Tryz.func58, Tryz.ntmps58
  go_wp2_with fail
  refine (HV.out _ (H.out.ext E0.out) (Hv.out.ext E0.out) (Hr.out.ext E0.out)).mono ?_
  rintro e w1 ⟨rfl, he1⟩
  rw [HE.out]
  have U1 := lh ((Ext.rfl' (World.alloc (World.alloc (World.alloc w (.cells #[.slice A g.length c] 25)) (.cells #[.slice Av v.length cv, .slice Ar r.length cr] 63)) (.cells #[.slice none 0 0, .slice none 0 0] 63))).tr he1)
  have E1 := lh (E0.out.tr U1.out)
  have lg_1 := U1.out.cellE Qlg.out
  have lv_1 := U1.out.cellE Qlv.out
  have lr_1 := U1.out.cellE Qlr.out
  clear he1 
  have blg_1 := blt lg_1
  have blv_1 := blt lv_1
  have blr_1 := blt lr_1
  go_wp2_with fail
  refine (HC.out _ (H.out.ext E1.out) (Hn.out.ext E1.out)).mono ?_
  rintro e w2 ⟨rfl, he2⟩
  rw [HCD.out]
  have U2 := lh ((Ext.rfl' w1).tr he2)
  have E2 := lh (E1.out.tr U2.out)
  have lg_2 := U2.out.cellE lg_1
  have lv_2 := U2.out.cellE lv_1
  have lr_2 := U2.out.cellE lr_1
  clear he2 lg_1 lv_1 lr_1 blg_1 blv_1 blr_1
  have blg_2 := blt lg_2
  have blv_2 := blt lv_2
  have blr_2 := blt lr_2
  have BR := lh (BR0.out.ext (((Ext.rfl' (World.alloc (World.alloc (World.alloc w (.cells #[.slice A g.length c] 25)) (.cells #[.slice Av v.length cv, .slice Ar r.length cr] 63)) (.cells #[.slice none 0 0, .slice none 0 0] 63))).tr U1.out).tr U2.out))
  have f0 := BR.out.free 0
  have f1 := BR.out.free 1
  have x0 := BR.out.cell (j := 0) rfl
  have x1 := BR.out.cell (j := 1) rfl
  have bl := BR.out.lt
  go_wp2
  have s0 : ∀ u0 u1 : Value, World.cell? (World.setCell (World.setCell w2 ⟨w.heap.size + 1 + 1, 0, none⟩ u0) ⟨w.heap.size + 1 + 1, 1, none⟩ u1) ⟨w.heap.size + 1 + 1, 0, none⟩ = some u0 := fun u0 u1 => ((BR.out.set 0 u0).set 1 u1).cell (j := 0) rfl
  have s1 : ∀ u0 u1 : Value, World.cell? (World.setCell (World.setCell w2 ⟨w.heap.size + 1 + 1, 0, none⟩ u0) ⟨w.heap.size + 1 + 1, 1, none⟩ u1) ⟨w.heap.size + 1 + 1, 1, none⟩ = some u1 := fun u0 u1 => ((BR.out.set 0 u0).set 1 u1).cell (j := 1) rfl
  refine bodyPost_ret (v := .tuple #[.agg #[.slice none 0 0, .slice none 0 0], .slice none 0 0]) (by simp [results, Tryz.results58, go_sem, s0, s1]; try rfl) rfl ?_
  rw [HS.out]
  exact ⟨none, 0, none, 0, [], none, 0, rfl, OwnE.nil _ _, Own.nil _ _ _ _, by simp [blk], (E2.out.set (p := ⟨w.heap.size + 1 + 1, 0, none⟩) (show w.heap.size ≤ w.heap.size + 1 + 1 by omega) _).set (p := ⟨w.heap.size + 1 + 1, 1, none⟩) (show w.heap.size ≤ w.heap.size + 1 + 1 by omega) _⟩
 have z1 : ((nodes.length : Int) != (vals.length : Int)) = false := by simp; omega
 have HLN := lh hL
 cases hR : Sg.inR999 vals
 ·have HIN := lh hR
  have HS := lh (show (Sg.writeOr g ⟨v, r⟩ nodes vals) = (⟨[], []⟩, []) by unfold Sg.writeOr Sg.mayWrite; rw [hR]; simp)
  clear hE hC hL hR
  go_enter Tryz.func58, Tryz.ntmps58
  go_wp2_with fail
  refine (HV.out _ (H.out.ext E0.out) (Hv.out.ext E0.out) (Hr.out.ext E0.out)).mono ?_
  rintro e w1 ⟨rfl, he1⟩
  rw [HE.out]
  have U1 := lh ((Ext.rfl' (World.alloc (World.alloc (World.alloc w (.cells #[.slice A g.length c] 25)) (.cells #[.slice Av v.length cv, .slice Ar r.length cr] 63)) (.cells #[.slice none 0 0, .slice none 0 0] 63))).tr he1)
  have E1 := lh (E0.out.tr U1.out)
  have lg_1 := U1.out.cellE Qlg.out
  have lv_1 := U1.out.cellE Qlv.out
  have lr_1 := U1.out.cellE Qlr.out
  clear he1 
  have blg_1 := blt lg_1
  have blv_1 := blt lv_1
  have blr_1 := blt lr_1
  go_wp2_with fail
  refine (HC.out _ (H.out.ext E1.out) (Hn.out.ext E1.out)).mono ?_
  rintro e w2 ⟨rfl, he2⟩
  rw [HCD.out]
  have U2 := lh ((Ext.rfl' w1).tr he2)
  have E2 := lh (E1.out.tr U2.out)
  have lg_2 := U2.out.cellE lg_1
  have lv_2 := U2.out.cellE lv_1
  have lr_2 := U2.out.cellE lr_1
  clear he2 lg_1 lv_1 lr_1 blg_1 blv_1 blr_1
  have blg_2 := blt lg_2
  have blv_2 := blt lv_2
  have blr_2 := blt lr_2
  go_wp2_with fail
  refine (HR.out _ (Hw.out.ext E2.out)).mono ?_
  rintro e w3 ⟨rfl, he3⟩
  rw [show (vals.all fun x => Sg.inR x 0 999) = Sg.inR999 vals from rfl, HIN.out]
  have U3 := lh ((Ext.rfl' w2).tr he3)
  have E3 := lh (E2.out.tr U3.out)
  have lg_3 := U3.out.cellE lg_2
  have lv_3 := U3.out.cellE lv_2
  have lr_3 := U3.out.cellE lr_2
  clear he3 lg_2 lv_2 lr_2 blg_2 blv_2 blr_2
  have blg_3 := blt lg_3
  have blv_3 := blt lv_3
  have blr_3 := blt lr_3
  have BR := lh (BR0.out.ext ((((Ext.rfl' (World.alloc (World.alloc (World.alloc w (.cells #[.slice A g.length c] 25)) (.cells #[.slice Av v.length cv, .slice Ar r.length cr] 63)) (.cells #[.slice none 0 0, .slice none 0 0] 63))).tr U1.out).tr U2.out).tr U3.out))
  have f0 := BR.out.free 0
  have f1 := BR.out.free 1
  have x0 := BR.out.cell (j := 0) rfl
  have x1 := BR.out.cell (j := 1) rfl
  have bl := BR.out.lt
  go_wp2
  have s0 : ∀ u0 u1 : Value, World.cell? (World.setCell (World.setCell w3 ⟨w.heap.size + 1 + 1, 0, none⟩ u0) ⟨w.heap.size + 1 + 1, 1, none⟩ u1) ⟨w.heap.size + 1 + 1, 0, none⟩ = some u0 := fun u0 u1 => ((BR.out.set 0 u0).set 1 u1).cell (j := 0) rfl
  have s1 : ∀ u0 u1 : Value, World.cell? (World.setCell (World.setCell w3 ⟨w.heap.size + 1 + 1, 0, none⟩ u0) ⟨w.heap.size + 1 + 1, 1, none⟩ u1) ⟨w.heap.size + 1 + 1, 1, none⟩ = some u1 := fun u0 u1 => ((BR.out.set 0 u0).set 1 u1).cell (j := 1) rfl
  refine bodyPost_ret (v := .tuple #[.agg #[.slice none 0 0, .slice none 0 0], .slice none 0 0]) (by simp [results, Tryz.results58, go_sem, s0, s1]; try rfl) rfl ?_
  rw [HS.out]
  exact ⟨none, 0, none, 0, [], none, 0, rfl, OwnE.nil _ _, Own.nil _ _ _ _, by simp [blk], (E3.out.set (p := ⟨w.heap.size + 1 + 1, 0, none⟩) (show w.heap.size ≤ w.heap.size + 1 + 1 by omega) _).set (p := ⟨w.heap.size + 1 + 1, 1, none⟩) (show w.heap.size ≤ w.heap.size + 1 + 1 by omega) _⟩
 have HIN := lh hR
 have HS := lh (show (Sg.writeOr g ⟨v, r⟩ nodes vals) = (⟨(Sg.writeS g ⟨v, r⟩ nodes vals).vals, (Sg.writeS g ⟨v, r⟩ nodes vals).reads⟩, (Sg.writeS g ⟨v, r⟩ nodes vals).ran) by unfold Sg.writeOr Sg.mayWrite; rw [if_pos (by simp [hE, hC, hL, hR])]; rfl)
 have HSH := lh (writeS_shape (g := g) (v := v) (r := r) (nodes := nodes) hE (Sg.inR999_range hR))
 clear hE hC hL hR
 generalize hX : Sg.writeS g ⟨v, r⟩ nodes vals = X at *
 have HX := lh hX
 clear hX
 go_enter Tryz.func58, Tryz.ntmps58
 go_wp2_with fail
 refine (HV.out _ (H.out.ext E0.out) (Hv.out.ext E0.out) (Hr.out.ext E0.out)).mono ?_
 rintro e w1 ⟨rfl, he1⟩
 rw [HE.out]
 have U1 := lh ((Ext.rfl' (World.alloc (World.alloc (World.alloc w (.cells #[.slice A g.length c] 25)) (.cells #[.slice Av v.length cv, .slice Ar r.length cr] 63)) (.cells #[.slice none 0 0, .slice none 0 0] 63))).tr he1)
 have E1 := lh (E0.out.tr U1.out)
 have lg_1 := U1.out.cellE Qlg.out
 have lv_1 := U1.out.cellE Qlv.out
 have lr_1 := U1.out.cellE Qlr.out
 clear he1 
 have blg_1 := blt lg_1
 have blv_1 := blt lv_1
 have blr_1 := blt lr_1
 go_wp2_with fail
 refine (HC.out _ (H.out.ext E1.out) (Hn.out.ext E1.out)).mono ?_
 rintro e w2 ⟨rfl, he2⟩
 rw [HCD.out]
 have U2 := lh ((Ext.rfl' w1).tr he2)
 have E2 := lh (E1.out.tr U2.out)
 have lg_2 := U2.out.cellE lg_1
 have lv_2 := U2.out.cellE lv_1
 have lr_2 := U2.out.cellE lr_1
 clear he2 lg_1 lv_1 lr_1 blg_1 blv_1 blr_1
 have blg_2 := blt lg_2
 have blv_2 := blt lv_2
 have blr_2 := blt lr_2
 go_wp2_with fail
 refine (HR.out _ (Hw.out.ext E2.out)).mono ?_
 rintro e w3 ⟨rfl, he3⟩
 rw [show (vals.all fun x => Sg.inR x 0 999) = Sg.inR999 vals from rfl, HIN.out]
 have U3 := lh ((Ext.rfl' w2).tr he3)
 have E3 := lh (E2.out.tr U3.out)
 have lg_3 := U3.out.cellE lg_2
 have lv_3 := U3.out.cellE lv_2
 have lr_3 := U3.out.cellE lr_2
 clear he3 lg_2 lv_2 lr_2 blg_2 blv_2 blr_2
 have blg_3 := blt lg_3
 have blv_3 := blt lv_3
 have blr_3 := blt lr_3
 go_wp2_with fail
 refine (i_copyOf Av Ar cv cr v r _ (Hv.out.ext E3.out) (Hr.out.ext E3.out) hvl).mono ?_
 rintro e w4 ⟨A1, c1, A2, c2, hs2, rfl, ho, he4⟩
 have Ho := lh ho
 clear ho
 have U4 := lh ((Ext.rfl' w3).tr he4)
 have E4 := lh (E3.out.tr U4.out)
 have lg_4 := U4.out.cellE lg_3
 have lv_4 := U4.out.cellE lv_3
 have lr_4 := U4.out.cellE lr_3
 clear he4 lg_3 lv_3 lr_3 blg_3 blv_3 blr_3
 have blg_4 := blt lg_4
 have blv_4 := blt lv_4
 have blr_4 := blt lr_4
 go_upto_region 4 with fail
 have BT := lh (Bx.new w4 #[.slice A1 v.length c1, .slice A2 r.length c2] 63)
 have he5 := Ext.rfl' (World.alloc w4 (.cells #[.slice A1 v.length c1, .slice A2 r.length c2] 63))
 have U5 := lh ((Ext.al (Ext.rfl' w4) (.cells #[.slice A1 v.length c1, .slice A2 r.length c2] 63)).tr he5)
 have E5 := lh (E4.out.tr U5.out)
 have lg_5 := U5.out.cellE lg_4
 have lv_5 := U5.out.cellE lv_4
 have lr_5 := U5.out.cellE lr_4
 have tv_5 := he5.cellE (show World.cell? (World.alloc w4 (.cells #[.slice A1 v.length c1, .slice A2 r.length c2] 63)) ⟨w4.heap.size, 0, none⟩ = some (.slice A1 v.length c1) by simp [go_sem])
 have tr_5 := he5.cellE (show World.cell? (World.alloc w4 (.cells #[.slice A1 v.length c1, .slice A2 r.length c2] 63)) ⟨w4.heap.size, 1, none⟩ = some (.slice A2 r.length c2) by simp [go_sem])
 clear he5 lg_4 lv_4 lr_4 blg_4 blv_4 blr_4
 have blg_5 := blt lg_5
 have blv_5 := blt lv_5
 have blr_5 := blt lr_5
 have btv_5 := blt tv_5
 have btr_5 := blt tr_5
 generalize (World.alloc w4 (.cells #[.slice A1 v.length c1, .slice A2 r.length c2] 63)) = w5 at *
 have SP := lh (sepOf2 Ho.out ((Ext.rfl' w4).tr U5.out) BT.out (Nat.le_refl _) U4.out.size)
 have HWR := i_writeE w3.heap.size w3 A A1 A2 An Aw c c1 c2 cn cw g v nodes vals r hs2 w5 (H.out.ext E3.out) (Hn.out.ext E3.out) (Hw.out.ext E3.out) (((Ext.rfl' w3).tr U4.out).tr U5.out) (Nat.le_refl _) ((((Ext.rfl' w3).tr U4.out).tr U5.out)).size [Th.box w3.heap.size w4.heap.size [.slice A1 v.length c1, .slice A2 r.length c2]] SP.out HE.out HCD.out HLN.out (Sg.inR999_range HIN.out)
 rw [HX.out] at HWR
 have HWR2 := lh HWR
 clear HWR
 go_wp2_with fail
 refine HWR2.out.mono ?_
 rintro e w9 ⟨Ad, hs3, rfl, hsp, he9⟩
 have Hsp := lh hsp
 have E9 := lh (E3.out.tr he9)
 have BR := lh ((BR0.out.ext ((((Ext.rfl' (World.alloc (World.alloc (World.alloc w (.cells #[.slice A g.length c] 25)) (.cells #[.slice Av v.length cv, .slice Ar r.length cr] 63)) (.cells #[.slice none 0 0, .slice none 0 0] 63))).tr U1.out).tr U2.out).tr U3.out)).ext he9)
 have BRL := lh ((BR0.out.ext ((((Ext.rfl' (World.alloc (World.alloc (World.alloc w (.cells #[.slice A g.length c] 25)) (.cells #[.slice Av v.length cv, .slice Ar r.length cr] 63)) (.cells #[.slice none 0 0, .slice none 0 0] 63))).tr U1.out).tr U2.out).tr U3.out)).lt)
 have bt := (Sep.get hsp 3 rfl).1
 have t0 := bt.cell (j := 0) rfl
 have t1 := bt.cell (j := 1) rfl
 have bt0 := blt t0
 clear hsp he9 bt lg_5 lv_5 lr_5 tv_5 tr_5 blg_5 blv_5 blr_5 btv_5 btr_5
 have f0 := BR.out.free 0
 have f1 := BR.out.free 1
 have x0 := BR.out.cell (j := 0) rfl
 have x1 := BR.out.cell (j := 1) rfl
 have bl := BR.out.lt
 go_wp2
 have s0 : ∀ u0 u1 : Value, World.cell? (World.setCell (World.setCell w9 ⟨w.heap.size + 1 + 1, 0, none⟩ u0) ⟨w.heap.size + 1 + 1, 1, none⟩ u1) ⟨w.heap.size + 1 + 1, 0, none⟩ = some u0 := fun u0 u1 => ((BR.out.set 0 u0).set 1 u1).cell (j := 0) rfl
 have s1 : ∀ u0 u1 : Value, World.cell? (World.setCell (World.setCell w9 ⟨w.heap.size + 1 + 1, 0, none⟩ u0) ⟨w.heap.size + 1 + 1, 1, none⟩ u1) ⟨w.heap.size + 1 + 1, 1, none⟩ = some u1 := fun u0 u1 => ((BR.out.set 0 u0).set 1 u1).cell (j := 1) rfl
 refine bodyPost_ret (v := .tuple #[.agg #[.slice A1 v.length c1, .slice A2 r.length c2], .slice Ad X.ran.length X.ran.length]) (by simp [results, Tryz.results58, go_sem, s0, s1]; try rfl) rfl ?_
 rw [HS.out]
 have hS := Mod.set (F := fun b => b = w.heap.size + 1 + 1) (Mod.set (F := fun b => b = w.heap.size + 1 + 1) (Mod.rfl' (fun b => b = w.heap.size + 1 + 1) w9) (p := ⟨w.heap.size + 1 + 1, 0, none⟩) (.inl rfl) (.slice A1 v.length c1)) (p := ⟨w.heap.size + 1 + 1, 1, none⟩) (.inl rfl) (.slice A2 r.length c2)
 have hz0 : w.heap.size + 1 + 1 < w3.heap.size := by have := BRL.out; simpa using this
 have o1 := Sep.get Hsp.out 1 rfl
 have o2 := Sep.get Hsp.out 2 rfl
 have o0 := Sep.get Hsp.out 0 rfl
 have d1 := Hsp.out.2.1
 have d2 := Hsp.out.2.2.2.1
 refine ⟨A1, c1, A2, c2, hs3, Ad, X.ran.length, by dsimp only; rw [HSH.out.1, HSH.out.2], ⟨(Own.mod o1 hS (fun b hb e => by have := (Own.lt o1 hb).1; omega)).mono (by omega), OwnD.mono (OwnD.mod o2 hS (fun b hb e => by have := (OwnD.lt o2 hb).1; omega)) (by omega), fun b hb => d2 _ (List.Mem.head _) b hb⟩, (Own.mod o0 hS (fun b hb e => by have := (Own.lt o0 hb).1; omega)).mono (by omega), ?_, (E9.out.set (p := ⟨w.heap.size + 1 + 1, 0, none⟩) (show w.heap.size ≤ w.heap.size + 1 + 1 by omega) _).set (p := ⟨w.heap.size + 1 + 1, 1, none⟩) (show w.heap.size ≤ w.heap.size + 1 + 1 by omega) _⟩
 intro b hb hb'
 rcases hb with hb | hb
 ·exact d1 _ (List.Mem.head _) b hb' hb
 ·exact d1 _ (List.Mem.tail _ (List.Mem.head _)) b hb' hb

end Go.Proofs.YtmkfjnkdaeoppaaGreat
