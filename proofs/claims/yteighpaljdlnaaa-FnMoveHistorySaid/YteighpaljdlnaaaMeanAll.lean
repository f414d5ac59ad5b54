/- Parts of one proof, joined. The program's MustRun: its function values. Conditions: the boxes can be read. The reference's MustRun: its contract. Conditions: bounds on lengths. The reference's common, ChangedBy and WhyChanged: contracts. Conditions: bounds on lengths. The library's DeleteFunc on an own list, and the program's common: contracts. Conditions: bounds on lengths. The program's common, ChangedBy, DepsOf, WhyChanged: contracts. Conditions: bounds on lengths. The program's MeaningOf: its contract at valid arguments. Conditions: bounds on lengths. -/
import Derived.Test.YteighpaljdlnaaaTy
import Derived.Test.YteighpaljdlnaaaImplS
import Derived.Test.YteighpaljdlnaaaSpecTO
import Derived.Test.YteighpaljdlnaaaSpecQRS
import Derived.Test.YteighpaljdlnaaaModelsA
import Derived.Test.YteighpaljdlnaaaImplPX
import Derived.Test.YteighpaljdlnaaaCore
import Derived.Lib.SliceRun
import Derived.Test.YteighpaljdlnaaaImplQ
import Derived.Test.YteighpaljdlnaaaFactsAll
import Derived.Deep.QuietTactic
import Derived.BigQuiet
/- The program's MustRun: its function values. Conditions: the boxes can be read. -/
namespace Go.Proofs.Yteighpaljdlnaaa
open Go.RowKit

def XInv (Bx By : Nat) (Ax Ay : Option Addr) (cx cy n : Nat) (X Y : List Int) (w : World) : Prop :=
 w.cell? ⟨Bx, 0, none⟩ = some (.slice Ax n cx) ∧ w.cell? ⟨By, 0, none⟩ = some (.slice Ay n cy) ∧ Rd w 1 Ax n (ints X) ∧ Rd w 1 Ay n (ints Y)
theorem XInv.ext {Bx By : Nat} {Ax Ay : Option Addr} {cx cy n : Nat} {X Y : List Int} {w w' : World} (h : XInv Bx By Ax Ay cx cy n X Y w) (e : Ext w w') : XInv Bx By Ax Ay cx cy n X Y w' :=
 ⟨e.cellE h.1, e.cellE h.2.1, h.2.2.1.ext e, h.2.2.2.ext e⟩
def MInv (Bg Bx By Br : Nat) (A Ax Ay Ar : Option Addr) (c cx cy cr : Nat) (g : Sg.Graph) (X Y : List Int) (w : World) : Prop :=
 w.cell? ⟨Bg, 0, none⟩ = some (.slice A g.length c) ∧ XInv Bx By Ax Ay cx cy g.length X Y w ∧ w.cell? ⟨Br, 0, none⟩ = some (.slice Ar g.length cr) ∧ RdN w A g ∧ RdL w Ar (Sg.depsTo g X g.length)
theorem MInv.ext {Bg Bx By Br : Nat} {A Ax Ay Ar : Option Addr} {c cx cy cr : Nat} {g : Sg.Graph} {X Y : List Int} {w w' : World} (h : MInv Bg Bx By Br A Ax Ay Ar c cx cy cr g X Y w) (e : Ext w w') : MInv Bg Bx By Br A Ax Ay Ar c cx cy cr g X Y w' :=
 ⟨e.cellE h.1, h.2.1.ext e, e.cellE h.2.2.1, h.2.2.2.1.ext e, h.2.2.2.2.ext e⟩

end Go.Proofs.Yteighpaljdlnaaa

/- The reference's MustRun: its contract. Conditions: bounds on lengths. -/
namespace Go.Proofs.Yteighpaljdlnaaa
open Go.RowKit

end Go.Proofs.Yteighpaljdlnaaa

/- The reference's common, ChangedBy and WhyChanged: contracts. Conditions: bounds on lengths. -/
namespace Go.Proofs.Yteighpaljdlnaaa
open Go.RowKit

def CMN (a b : List Int) (k : Nat) : List Int := Sg.common (a.take k) b
theorem CMN_succ (a b : List Int) (k : Nat) {x : Int} (h : a[k]? = some x) : CMN a b (k + 1) = if x ∈ b then CMN a b k ++ [x] else CMN a b k := by
 unfold CMN Sg.common
 rw [take_snoc a k h, List.filter_append]
 by_cases hx : x ∈ b
 ·rw [if_pos hx]; simp [hx]
 ·rw [if_neg hx]; simp [hx]
theorem CMN_len (a b : List Int) (k : Nat) : (CMN a b k).length ≤ k := by
 unfold CMN Sg.common
 have h1 := List.length_filter_le (fun x => decide (x ∈ b)) (a.take k)
 have h2 : (a.take k).length ≤ k := by simp; omega
 omega

set_option maxHeartbeats 1000000 in
theorem s_common (A B : Option Addr) (ca cb nb : Nat) (a b : List Int) (w : World) (h : Rd w 1 A a.length (ints a)) (k : Rd w 1 B nb (ints b)) (hb : a.length ≤ 4194304) :
  Calls Try.prog 36 #[.slice A a.length ca, .slice B nb cb] w fun e w' => ∃ A' c', e = .returned (.slice A' (Sg.common a b).length c') ∧ Own w' w.heap.size 3 1 A' (Sg.common a b).length c' (ints (Sg.common a b)) ∧ Ext w w' := by
 have HN := lh (fun n => placeIn_neg b n)
 go_enter Try.func36, Try.ntmps36
 go_wp2
 go_loopw [5, 6] (fun v i wr => ∃ (n : Nat) (A' : Option Addr) (c' : Nat), n ≤ a.length ∧ i = .int .i64 n ∧ v = .slice A' (CMN a b n).length c' ∧ Own wr w.heap.size 3 1 A' (CMN a b n).length c' (ints (CMN a b n)) ∧ Ext w wr) (fun _ i _ => a.length - (intOf i).toNat)
 case atStart => exact ⟨0, _, _, Nat.zero_le _, rfl, rfl, Own.new w 3 1 #[] 0 (Nat.le_refl _) (by unfold maxLen; omega) rfl, (Ext.rfl' w).al _⟩
 case round =>
  obtain ⟨n, A', c', hn, rfl, rfl, hown, hext⟩ := hrel
  have hdl := CMN_len a b n
  by_cases hlt : n < a.length
  ·obtain ⟨ba, oa, x, rfl, hx, hcx⟩ := (h.ext hext).at1 hlt
   have H := lh (CMN_succ a b n hx)
   have HP := lh (s_placeIn B nb cb b x wr (k.ext hext))
   clear hx
   by_cases hxy : x ∈ b
   ·have e1 := H.out
    rw [if_pos hxy] at e1
    have E1 := lh e1
    have hp : decide (0 ≤ placeIn b x) = true := by have := (HN.out x).1; rw [decide_eq_true_eq]; exact Int.not_lt.1 (fun h0 => this h0 hxy)
    clear e1 H hxy
    go_wp2_with (first
     | (go_at_call 35; refine HP.out.mono ?_; rintro e w' ⟨rfl, rfl⟩)
     | (at_builtin; refine wpList_app1 rfl rfl eiInt rfl hown rfl rfl (one_int _ _) (by omega) (by omega) hext.size ?_; intro A2 c2 w2 hown2 hg2 hat2))
    go_roundw
    case rel => exact ⟨n + 1, A2, c2, by omega, by go_num, by rw [E1.out]; simp, by rw [E1.out]; simpa using hown2, hext.gr hg2 fun g hg => (hown.lt hg).1⟩
    case measure => simp [intOf]; omega
   ·have e1 := H.out
    rw [if_neg hxy] at e1
    have E1 := lh e1
    have hp : decide (0 ≤ placeIn b x) = false := by have := (HN.out x).2 hxy; simp only [decide_eq_false_iff_not]; omega
    clear e1 H hxy
    go_wp2_with (go_at_call 35; refine HP.out.mono ?_; rintro e w' ⟨rfl, rfl⟩)
    go_roundw
    case rel => exact ⟨n + 1, A', c', by omega, by go_num, by rw [E1.out], by rw [E1.out]; exact hown, hext⟩
    case measure => simp [intOf]; omega
  ·obtain rfl : n = a.length := by omega
   have e1 : CMN a b a.length = Sg.common a b := by unfold CMN; rw [List.take_length]
   rw [e1] at hown ⊢
   go_wp2
   go_ret
   exact ⟨A', c', rfl, hown, hext⟩
theorem common_len (a b : List Int) : (Sg.common a b).length ≤ a.length := List.length_filter_le _ _

def changedOr (g : Sg.Graph) (a b : List Int) : List Int := if (Sg.validG g && Sg.validC g a && Sg.validC g b) = true then Sg.diffL (Sg.mean g a) (Sg.mean g b) else []
theorem changedOr_len (g : Sg.Graph) (a b : List Int) : (changedOr g a b).length ≤ 10 := by
 unfold changedOr
 split
 ·rename_i h
  simp only [Bool.and_eq_true] at h
  have h1 : g.length ≤ 10 := by have := h.1.1; unfold Sg.validG at this; simp only [Bool.and_eq_true, decide_eq_true_eq] at this; exact this.2
  have h2 := Sg.whichL_len (fun i => (Sg.mean g a).getD i 0 != (Sg.mean g b).getD i 0) (Sg.mean g a).length
  simp only [Sg.length_mean] at h2
  unfold Sg.diffL
  simp only [Sg.length_mean]
  omega
 ·simp
theorem whyOr_len (g : Sg.Graph) (a b : List Int) (n : Int) : (Sg.whyOr g a b n).length ≤ 1048576 := by
 unfold Sg.whyOr
 split
 ·rename_i h
  simp only [Bool.and_eq_true] at h
  have h1 : g.length ≤ 10 := by have := h.1.1.1; unfold Sg.validG at this; simp only [Bool.and_eq_true, decide_eq_true_eq] at this; exact this.2
  have hn := h.2
  simp only [Sg.inR, Bool.and_eq_true, decide_eq_true_eq] at hn
  split
  ·have := Sg.whyGo_len (g := g) (Sg.mean g a) (Sg.diffL (Sg.mean g a) (Sg.mean g b)) (n.toNat + 1) n []
   simp only [List.length_nil] at this
   omega
  ·simp
 ·simp

set_option maxHeartbeats 2000000 in
theorem s_ChangedBy (A Aa Ab : Option Addr) (c ca cb : Nat) (g : Sg.Graph) (a b : List Int) (w : World) (h : RdN w A g) (ha : Rd w 1 Aa a.length (ints a)) (hb : Rd w 1 Ab b.length (ints b)) :
  Calls Try.prog 49 #[.agg #[.slice A g.length c], .slice Aa a.length ca, .slice Ab b.length cb] w fun e w' => ∃ A1 c1, e = .returned (.slice A1 (changedOr g a b).length c1) ∧ Own w' w.heap.size 3 1 A1 (changedOr g a b).length c1 (ints (changedOr g a b)) ∧ Ext w w' := by
 have hgl := h.1
 have HVG := lh (s_validGraph A c g)
 have HVA := lh (s_validCells A Aa c ca g a)
 have HVB := lh (s_validCells A Ab c cb g b)
 have H := lh h
 have Ha := lh ha
 have Hb := lh hb
 clear h ha hb
 have E0 := lh (((Ext.rfl' w).al (.cells #[.slice A g.length c] 25)) : Ext w (World.alloc w (.cells #[.slice A g.length c] 25)))
 have qlg : World.cell? (World.alloc w (.cells #[.slice A g.length c] 25)) ⟨w.heap.size, 0, none⟩ = some (.slice A g.length c) := by simp [go_sem]
 have Qlg := lh qlg
 clear qlg
 cases hG : Sg.validG g
 ·have HG := lh hG
  have HS := lh (show changedOr g a b = [] by unfold changedOr; simp [HG.out])
  clear hG
  go_enter Try.func49, Try.ntmps49
  go_wp2_with fail
  refine (HVG.out _ (H.out.ext E0.out)).mono ?_
  rintro e w1 ⟨rfl, he1⟩
  rw [HG.out]
  have U1 := lh ((Ext.rfl' (World.alloc w (.cells #[.slice A g.length c] 25))).tr he1)
  have E1 := lh (E0.out.tr U1.out)
  have lg_1 := U1.out.cellE Qlg.out
  clear he1 
  have blg_1 := blt lg_1
  go_wp2
  go_ret
  rw [HS.out]
  exact ⟨none, 0, rfl, Own.nil _ _ _ _, E1.out⟩
 have HG := lh hG
 clear hG
 cases hA : Sg.validC g a
 ·have HA := lh hA
  have HS := lh (show changedOr g a b = [] by unfold changedOr; simp [HG.out, HA.out])
  clear hA
  go_enter Try.func49, Try.ntmps49
  go_wp2_with fail
  refine (HVG.out _ (H.out.ext E0.out)).mono ?_
  rintro e w1 ⟨rfl, he1⟩
  rw [HG.out]
  have U1 := lh ((Ext.rfl' (World.alloc w (.cells #[.slice A g.length c] 25))).tr he1)
  have E1 := lh (E0.out.tr U1.out)
  have lg_1 := U1.out.cellE Qlg.out
  clear he1 
  have blg_1 := blt lg_1
  go_wp2_with fail
  refine (HVA.out _ (H.out.ext E1.out) (Ha.out.ext E1.out)).mono ?_
  rintro e w2 ⟨rfl, he2⟩
  rw [HA.out]
  have U2 := lh ((Ext.rfl' w1).tr he2)
  have E2 := lh (E1.out.tr U2.out)
  have lg_2 := U2.out.cellE lg_1
  clear he2 lg_1 blg_1
  have blg_2 := blt lg_2
  go_wp2
  go_ret
  rw [HS.out]
  exact ⟨none, 0, rfl, Own.nil _ _ _ _, E2.out⟩
 have HA := lh hA
 clear hA
 cases hB : Sg.validC g b
 ·have HB := lh hB
  have HS := lh (show changedOr g a b = [] by unfold changedOr; simp [HG.out, HA.out, HB.out])
  clear hB
  go_enter Try.func49, Try.ntmps49
  go_wp2_with fail
  refine (HVG.out _ (H.out.ext E0.out)).mono ?_
  rintro e w1 ⟨rfl, he1⟩
  rw [HG.out]
  have U1 := lh ((Ext.rfl' (World.alloc w (.cells #[.slice A g.length c] 25))).tr he1)
  have E1 := lh (E0.out.tr U1.out)
  have lg_1 := U1.out.cellE Qlg.out
  clear he1 
  have blg_1 := blt lg_1
  go_wp2_with fail
  refine (HVA.out _ (H.out.ext E1.out) (Ha.out.ext E1.out)).mono ?_
  rintro e w2 ⟨rfl, he2⟩
  rw [HA.out]
  have U2 := lh ((Ext.rfl' w1).tr he2)
  have E2 := lh (E1.out.tr U2.out)
  have lg_2 := U2.out.cellE lg_1
  clear he2 lg_1 blg_1
  have blg_2 := blt lg_2
  go_wp2_with fail
  refine (HVB.out _ (H.out.ext E2.out) (Hb.out.ext E2.out)).mono ?_
  rintro e w3 ⟨rfl, he3⟩
  rw [HB.out]
  have U3 := lh ((Ext.rfl' w2).tr he3)
  have E3 := lh (E2.out.tr U3.out)
  have lg_3 := U3.out.cellE lg_2
  clear he3 lg_2 blg_2
  have blg_3 := blt lg_3
  go_wp2
  go_ret
  rw [HS.out]
  exact ⟨none, 0, rfl, Own.nil _ _ _ _, E3.out⟩
 have HB := lh hB
 clear hB
 have hg10 : g.length ≤ 10 := by have := HG.out; unfold Sg.validG at this; simp only [Bool.and_eq_true, decide_eq_true_eq] at this; exact this.2
 have HMA := lh (fun w h hc => s_meaning A Aa c ca g a w h hc HG.out HA.out)
 have HMB := lh (fun w h hc => s_meaning A Ab c cb g b w h hc HG.out HB.out)
 have HDF := lh (fun (B1 B2 : Option Addr) (c1 c2 : Nat) (w : World) (h : Rd w 1 B1 g.length (ints (Sg.mean g a))) (kk : Rd w 1 B2 g.length (ints (Sg.mean g b))) => (show Calls Try.prog 34 #[.slice B1 g.length c1, .slice B2 g.length c2] w fun e w' => ∃ A' c', e = .returned (.slice A' (Sg.diffL (Sg.mean g a) (Sg.mean g b)).length c') ∧ Own w' w.heap.size 3 1 A' (Sg.diffL (Sg.mean g a) (Sg.mean g b)).length c' (ints (Sg.diffL (Sg.mean g a) (Sg.mean g b))) ∧ Ext w w' from by
  have := s_differing B1 B2 c1 c2 g.length (Sg.mean g a) (Sg.mean g b) w (by rw [Sg.length_mean]; exact h) kk (by rw [Sg.length_mean]; exact Nat.le_refl _) (by rw [Sg.length_mean]; omega)
  rw [Sg.length_mean] at this
  have e1 : DF (Sg.mean g a) (Sg.mean g b) g.length = Sg.diffL (Sg.mean g a) (Sg.mean g b) := by unfold Sg.diffL; rw [Sg.length_mean]; rfl
  rw [e1] at this
  exact this))
 have HS := lh (show changedOr g a b = Sg.diffL (Sg.mean g a) (Sg.mean g b) by unfold changedOr; simp [HG.out, HA.out, HB.out])
 clear hg10
 go_enter Try.func49, Try.ntmps49
 go_wp2_with fail
 refine (HVG.out _ (H.out.ext E0.out)).mono ?_
 rintro e w1 ⟨rfl, he1⟩
 rw [HG.out]
 have U1 := lh ((Ext.rfl' (World.alloc w (.cells #[.slice A g.length c] 25))).tr he1)
 have E1 := lh (E0.out.tr U1.out)
 have lg_1 := U1.out.cellE Qlg.out
 clear he1 
 have blg_1 := blt lg_1
 go_wp2_with fail
 refine (HVA.out _ (H.out.ext E1.out) (Ha.out.ext E1.out)).mono ?_
 rintro e w2 ⟨rfl, he2⟩
 rw [HA.out]
 have U2 := lh ((Ext.rfl' w1).tr he2)
 have E2 := lh (E1.out.tr U2.out)
 have lg_2 := U2.out.cellE lg_1
 clear he2 lg_1 blg_1
 have blg_2 := blt lg_2
 go_wp2_with fail
 refine (HVB.out _ (H.out.ext E2.out) (Hb.out.ext E2.out)).mono ?_
 rintro e w3 ⟨rfl, he3⟩
 rw [HB.out]
 have U3 := lh ((Ext.rfl' w2).tr he3)
 have E3 := lh (E2.out.tr U3.out)
 have lg_3 := U3.out.cellE lg_2
 clear he3 lg_2 blg_2
 have blg_3 := blt lg_3
 go_wp2_with fail
 refine wp_region_held_drew (S := (fun W => W.cell? ⟨w.heap.size, 0, none⟩ = some (.slice A g.length c))) (by kernel_rfl) ?_ (fun hHeld => ?_)
 ·exact ((Ext.rfl' _).dr).cellE lg_3
 refine ty 0 ?_
 refine ty 1 ?_
 refine ty 3 ?_
 refine ty 4 ?_
 refine rd1 2 rfl fun K hK => ?_
 go_simp
 refine (HMA.out _ (H.out.ext (E3.out.dr)) (Ha.out.ext (E3.out.dr))).mono ?_
 rintro e w4 ⟨A1, c1, rfl, ho, he4⟩
 have Ho1 := lh ho.rd
 clear ho
 have U4 := lh (((Ext.rfl' w3).dr).tr he4)
 have E4 := lh (E3.out.tr U4.out)
 have lg_4 := U4.out.cellE lg_3
 clear he4 lg_3 blg_3
 have blg_4 := blt lg_4
 try go_wp2_with fail
 refine hK.out _ _ (by exact lg_4) fun hh2 => ?_; clear hK K hHeld; have hHeld := hh2; clear hh2
 try simp only [Act.put, pu]
 refine rd1 5 rfl fun K hK => ?_
 go_simp
 refine (HMB.out _ (H.out.ext E4.out) (Hb.out.ext E4.out)).mono ?_
 rintro e w5 ⟨A2, c2, rfl, ho, he5⟩
 have Ho2 := lh ho.rd
 clear ho
 have U5 := lh ((Ext.rfl' w4).tr he5)
 have E5 := lh (E4.out.tr U5.out)
 have lg_5 := U5.out.cellE lg_4
 clear he5 lg_4 blg_4
 have blg_5 := blt lg_5
 try go_wp2_with fail
 refine hK.out _ _ (by exact lg_5) fun hh2 => ?_; clear hK K hHeld; have hHeld := hh2; clear hh2
 try simp only [Act.put, pu]
 refine rd1 6 rfl fun K hK => ?_
 go_simp
 refine (HDF.out A1 A2 c1 c2 _ (Ho1.out.ext ((Ext.rfl' w4).tr U5.out)) Ho2.out).mono ?_
 rintro e w6 ⟨A3, c3, rfl, ho, he6⟩
 have Ho3 := lh ho
 clear ho
 have U6 := lh ((Ext.rfl' w5).tr he6)
 have E6 := lh (E5.out.tr U6.out)
 have lg_6 := U6.out.cellE lg_5
 clear he6 lg_5 blg_5
 have blg_6 := blt lg_6
 try go_wp2_with fail
 refine hK.out _ _ (by exact lg_6) fun hh2 => ?_; clear hK K hHeld; have hHeld := hh2; clear hh2
 try simp only [Act.put, pu]
 refine ty 7 ?_
 refine dn ?_
 have z1 := E5.out.size
 go_wp2
 go_ret
 rw [HS.out]
 exact ⟨A3, c3, rfl, Ho3.out.mono z1, E6.out⟩

set_option maxRecDepth 100000 in
set_option maxHeartbeats 4000000 in
theorem s_WhyChanged (A Aa Ab : Option Addr) (c ca cb : Nat) (g : Sg.Graph) (a b : List Int) (n : Int) (w : World) (h : RdN w A g) (ha : Rd w 1 Aa a.length (ints a)) (hb : Rd w 1 Ab b.length (ints b)) (hn0 : -9223372036854775808 ≤ n) (hn1 : n ≤ 9223372036854775807) :
  Calls Try.prog 8 #[.agg #[.slice A g.length c], .slice Aa a.length ca, .slice Ab b.length cb, .int .i64 n] w fun e w' => ∃ A1 c1, e = .returned (.slice A1 (Sg.whyOr g a b n).length c1) ∧ Own w' w.heap.size 3 1 A1 (Sg.whyOr g a b n).length c1 (ints (Sg.whyOr g a b n)) ∧ Ext w w' := by
 have hgl := h.1
 have HVG := lh (s_validGraph A c g)
 have HVA := lh (s_validCells A Aa c ca g a)
 have HVB := lh (s_validCells A Ab c cb g b)
 have H := lh h
 have Ha := lh ha
 have Hb := lh hb
 clear h ha hb
 have E0 := lh (((Ext.rfl' w).al (.cells #[.slice A g.length c] 25)) : Ext w (World.alloc w (.cells #[.slice A g.length c] 25)))
 have qlg : World.cell? (World.alloc w (.cells #[.slice A g.length c] 25)) ⟨w.heap.size, 0, none⟩ = some (.slice A g.length c) := by simp [go_sem]
 have Qlg := lh qlg
 clear qlg
 cases hG : Sg.validG g
 ·have HG := lh hG
  have HS := lh (show Sg.whyOr g a b n = [] by unfold Sg.whyOr; simp [HG.out])
  clear hG
  go_enter Try.func8, Try.ntmps8
  go_wp2_with fail
  refine (HVG.out _ (H.out.ext E0.out)).mono ?_
  rintro e w1 ⟨rfl, he1⟩
  rw [HG.out]
  have U1 := lh ((Ext.rfl' (World.alloc w (.cells #[.slice A g.length c] 25))).tr he1)
  have E1 := lh (E0.out.tr U1.out)
  have lg_1 := U1.out.cellE Qlg.out
  clear he1 
  have blg_1 := blt lg_1
  go_wp2
  go_ret
  rw [HS.out]
  exact ⟨none, 0, rfl, Own.nil _ _ _ _, E1.out⟩
 have HG := lh hG
 clear hG
 cases hA : Sg.validC g a
 ·have HA := lh hA
  have HS := lh (show Sg.whyOr g a b n = [] by unfold Sg.whyOr; simp [HG.out, HA.out])
  clear hA
  go_enter Try.func8, Try.ntmps8
  go_wp2_with fail
  refine (HVG.out _ (H.out.ext E0.out)).mono ?_
  rintro e w1 ⟨rfl, he1⟩
  rw [HG.out]
  have U1 := lh ((Ext.rfl' (World.alloc w (.cells #[.slice A g.length c] 25))).tr he1)
  have E1 := lh (E0.out.tr U1.out)
  have lg_1 := U1.out.cellE Qlg.out
  clear he1 
  have blg_1 := blt lg_1
  go_wp2_with fail
  refine (HVA.out _ (H.out.ext E1.out) (Ha.out.ext E1.out)).mono ?_
  rintro e w2 ⟨rfl, he2⟩
  rw [HA.out]
  have U2 := lh ((Ext.rfl' w1).tr he2)
  have E2 := lh (E1.out.tr U2.out)
  have lg_2 := U2.out.cellE lg_1
  clear he2 lg_1 blg_1
  have blg_2 := blt lg_2
  go_wp2
  go_ret
  rw [HS.out]
  exact ⟨none, 0, rfl, Own.nil _ _ _ _, E2.out⟩
 have HA := lh hA
 clear hA
 cases hB : Sg.validC g b
 ·have HB := lh hB
  have HS := lh (show Sg.whyOr g a b n = [] by unfold Sg.whyOr; simp [HG.out, HA.out, HB.out])
  clear hB
  go_enter Try.func8, Try.ntmps8
  go_wp2_with fail
  refine (HVG.out _ (H.out.ext E0.out)).mono ?_
  rintro e w1 ⟨rfl, he1⟩
  rw [HG.out]
  have U1 := lh ((Ext.rfl' (World.alloc w (.cells #[.slice A g.length c] 25))).tr he1)
  have E1 := lh (E0.out.tr U1.out)
  have lg_1 := U1.out.cellE Qlg.out
  clear he1 
  have blg_1 := blt lg_1
  go_wp2_with fail
  refine (HVA.out _ (H.out.ext E1.out) (Ha.out.ext E1.out)).mono ?_
  rintro e w2 ⟨rfl, he2⟩
  rw [HA.out]
  have U2 := lh ((Ext.rfl' w1).tr he2)
  have E2 := lh (E1.out.tr U2.out)
  have lg_2 := U2.out.cellE lg_1
  clear he2 lg_1 blg_1
  have blg_2 := blt lg_2
  go_wp2_with fail
  refine (HVB.out _ (H.out.ext E2.out) (Hb.out.ext E2.out)).mono ?_
  rintro e w3 ⟨rfl, he3⟩
  rw [HB.out]
  have U3 := lh ((Ext.rfl' w2).tr he3)
  have E3 := lh (E2.out.tr U3.out)
  have lg_3 := U3.out.cellE lg_2
  clear he3 lg_2 blg_2
  have blg_3 := blt lg_3
  go_wp2
  go_ret
  rw [HS.out]
  exact ⟨none, 0, rfl, Own.nil _ _ _ _, E3.out⟩
 have HB := lh hB
 clear hB
 cases hN : Sg.inR n 0 ((g.length : Int) - 1)
 ·have HN := lh hN
  have HS := lh (show Sg.whyOr g a b n = [] by unfold Sg.whyOr; simp [HG.out, HA.out, HB.out, HN.out])
  clear hN
  go_enter Try.func8, Try.ntmps8
  go_wp2_with fail
  refine (HVG.out _ (H.out.ext E0.out)).mono ?_
  rintro e w1 ⟨rfl, he1⟩
  rw [HG.out]
  have U1 := lh ((Ext.rfl' (World.alloc w (.cells #[.slice A g.length c] 25))).tr he1)
  have E1 := lh (E0.out.tr U1.out)
  have lg_1 := U1.out.cellE Qlg.out
  clear he1 
  have blg_1 := blt lg_1
  go_wp2_with fail
  refine (HVA.out _ (H.out.ext E1.out) (Ha.out.ext E1.out)).mono ?_
  rintro e w2 ⟨rfl, he2⟩
  rw [HA.out]
  have U2 := lh ((Ext.rfl' w1).tr he2)
  have E2 := lh (E1.out.tr U2.out)
  have lg_2 := U2.out.cellE lg_1
  clear he2 lg_1 blg_1
  have blg_2 := blt lg_2
  go_wp2_with fail
  refine (HVB.out _ (H.out.ext E2.out) (Hb.out.ext E2.out)).mono ?_
  rintro e w3 ⟨rfl, he3⟩
  rw [HB.out]
  have U3 := lh ((Ext.rfl' w2).tr he3)
  have E3 := lh (E2.out.tr U3.out)
  have lg_3 := U3.out.cellE lg_2
  clear he3 lg_2 blg_2
  have blg_3 := blt lg_3
  go_wp2_with fail
  refine (s_inRange _ _ _ _).mono ?_
  rintro e w' ⟨rfl, rfl⟩
  rw [HN.out]
  go_wp2
  go_ret
  rw [HS.out]
  exact ⟨none, 0, rfl, Own.nil _ _ _ _, E3.out⟩
 have HN := lh hN
 clear hN
 have hg10 : g.length ≤ 10 := by have := HG.out; unfold Sg.validG at this; simp only [Bool.and_eq_true, decide_eq_true_eq] at this; exact this.2
 have HMA := lh (fun w h hc => s_meaning A Aa c ca g a w h hc HG.out HA.out)
 have HMB := lh (fun w h hc => s_meaning A Ab c cb g b w h hc HG.out HB.out)
 have HDF := lh (fun (B1 B2 : Option Addr) (c1 c2 : Nat) (w : World) (h : Rd w 1 B1 g.length (ints (Sg.mean g a))) (kk : Rd w 1 B2 g.length (ints (Sg.mean g b))) => (show Calls Try.prog 34 #[.slice B1 g.length c1, .slice B2 g.length c2] w fun e w' => ∃ A' c', e = .returned (.slice A' (Sg.diffL (Sg.mean g a) (Sg.mean g b)).length c') ∧ Own w' w.heap.size 3 1 A' (Sg.diffL (Sg.mean g a) (Sg.mean g b)).length c' (ints (Sg.diffL (Sg.mean g a) (Sg.mean g b))) ∧ Ext w w' from by
  have := s_differing B1 B2 c1 c2 g.length (Sg.mean g a) (Sg.mean g b) w (by rw [Sg.length_mean]; exact h) kk (by rw [Sg.length_mean]; exact Nat.le_refl _) (by rw [Sg.length_mean]; omega)
  rw [Sg.length_mean] at this
  have e1 : DF (Sg.mean g a) (Sg.mean g b) g.length = Sg.diffL (Sg.mean g a) (Sg.mean g b) := by unfold Sg.diffL; rw [Sg.length_mean]; rfl
  rw [e1] at this
  exact this))
 have hnr : 0 ≤ n ∧ n ≤ (g.length : Int) - 1 := by have := HN.out; simp only [Sg.inR, Bool.and_eq_true, decide_eq_true_eq] at this; exact this
 obtain ⟨n0, rfl⟩ := Int.eq_ofNat_of_zero_le hnr.1
 have hn9 : n0 < g.length := by omega
 clear hnr hn0 hn1
 have HPL := lh (placeIn_neg (Sg.diffL (Sg.mean g a) (Sg.mean g b)) (n0 : Int))
 by_cases hm : (n0 : Int) ∈ Sg.diffL (Sg.mean g a) (Sg.mean g b)
 case neg =>
  have HS := lh (show Sg.whyOr g a b n0 = [] by unfold Sg.whyOr; simp [HG.out, HA.out, HB.out, HN.out, hm])
  have hp : decide (placeIn (Sg.diffL (Sg.mean g a) (Sg.mean g b)) (n0 : Int) < 0) = true := by have := HPL.out.2 hm; simpa using this
  clear hm
  go_enter Try.func8, Try.ntmps8
  go_wp2_with fail
  refine (HVG.out _ (H.out.ext E0.out)).mono ?_
  rintro e w1 ⟨rfl, he1⟩
  rw [HG.out]
  have U1 := lh ((Ext.rfl' (World.alloc w (.cells #[.slice A g.length c] 25))).tr he1)
  have E1 := lh (E0.out.tr U1.out)
  have lg_1 := U1.out.cellE Qlg.out
  clear he1 
  have blg_1 := blt lg_1
  go_wp2_with fail
  refine (HVA.out _ (H.out.ext E1.out) (Ha.out.ext E1.out)).mono ?_
  rintro e w2 ⟨rfl, he2⟩
  rw [HA.out]
  have U2 := lh ((Ext.rfl' w1).tr he2)
  have E2 := lh (E1.out.tr U2.out)
  have lg_2 := U2.out.cellE lg_1
  clear he2 lg_1 blg_1
  have blg_2 := blt lg_2
  go_wp2_with fail
  refine (HVB.out _ (H.out.ext E2.out) (Hb.out.ext E2.out)).mono ?_
  rintro e w3 ⟨rfl, he3⟩
  rw [HB.out]
  have U3 := lh ((Ext.rfl' w2).tr he3)
  have E3 := lh (E2.out.tr U3.out)
  have lg_3 := U3.out.cellE lg_2
  clear he3 lg_2 blg_2
  have blg_3 := blt lg_3
  go_wp2_with fail
  refine (s_inRange _ _ _ _).mono ?_
  rintro e w' ⟨rfl, rfl⟩
  rw [HN.out]
  go_wp2_with fail
  refine (HMA.out _ (H.out.ext E3.out) (Ha.out.ext E3.out)).mono ?_
  rintro e w4 ⟨A1, c1, rfl, ho, he4⟩
  have Ho1 := lh ho.rd
  clear ho
  have U4 := lh ((Ext.rfl' w3).tr he4)
  have E4 := lh (E3.out.tr U4.out)
  have lg_4 := U4.out.cellE lg_3
  clear he4 lg_3 blg_3
  have blg_4 := blt lg_4
  go_wp2_with fail
  refine (HMB.out _ (H.out.ext E4.out) (Hb.out.ext E4.out)).mono ?_
  rintro e w5 ⟨A2, c2, rfl, ho, he5⟩
  have Ho2 := lh ho.rd
  clear ho
  have U5 := lh ((Ext.rfl' w4).tr he5)
  have E5 := lh (E4.out.tr U5.out)
  have lg_5 := U5.out.cellE lg_4
  clear he5 lg_4 blg_4
  have blg_5 := blt lg_5
  go_wp2_with fail
  refine (HDF.out A1 A2 c1 c2 _ (Ho1.out.ext ((Ext.rfl' w4).tr U5.out)) Ho2.out).mono ?_
  rintro e w6 ⟨A3, c3, rfl, ho, he6⟩
  have Ho3 := lh ho.rd
  clear ho
  have U6 := lh ((Ext.rfl' w5).tr he6)
  have E6 := lh (E5.out.tr U6.out)
  have lg_6 := U6.out.cellE lg_5
  clear he6 lg_5 blg_5
  have blg_6 := blt lg_6
  go_wp2_with fail
  refine (s_placeIn A3 _ c3 _ (n0 : Int) _ (Ho3.out.ext (Ext.al (Ext.rfl' w6) (.cells #[] 3)))).mono ?_
  rintro e w' ⟨rfl, rfl⟩
  go_wp2
  go_ret
  rw [HS.out]
  exact ⟨_, _, rfl, by have := Own.new w6 3 1 #[] 0 (Nat.le_refl _) (by unfold maxLen; omega) rfl; simpa [ints] using this.mono (B' := w.heap.size) E6.out.size, (Ext.al E6.out (.cells #[] 3))⟩
 have HS := lh (show Sg.whyOr g a b n0 = Sg.whyGo g (Sg.mean g a) (Sg.diffL (Sg.mean g a) (Sg.mean g b)) (n0 + 1) n0 [] by unfold Sg.whyOr; simp [HG.out, HA.out, HB.out, HN.out, hm])
 have hp : decide (placeIn (Sg.diffL (Sg.mean g a) (Sg.mean g b)) (n0 : Int) < 0) = false := by have := HPL.out.1; simp only [decide_eq_false_iff_not]; intro h0; exact this h0 hm
 have HM := lh hm
 have HST := lh (fun (i : Nat) (hi : (i : Int) ∈ Sg.diffL (Sg.mean g a) (Sg.mean g b)) (h0 : Sg.kindAt g (i : Int) ≠ 0) (out : List Int) => Sg.whyGo_step HG.out a b hi h0 out)
 have HNS := lh (fun (i : Nat) (hi : (i : Int) ∈ Sg.diffL (Sg.mean g a) (Sg.mean g b)) (h0 : Sg.kindAt g (i : Int) ≠ 0) => Sg.nxt_spec HG.out a b hi h0)
 have HNF := lh (fun (i : Nat) (hi : (i : Int) ∈ Sg.diffL (Sg.mean g a) (Sg.mean g b)) (h0 : Sg.kindAt g (i : Int) ≠ 0) => Sg.nxt_first HG.out a b hi h0)
 have HDL := lh (fun (i : Nat) (hi : (i : Int) ∈ Sg.diffL (Sg.mean g a) (Sg.mean g b)) => (show i < g.length by obtain ⟨j, hj, hl, _⟩ := Sg.mem_diffL.1 hi; rw [Sg.length_mean] at hl; omega))
 have HDE := lh (fun (B1 : Option Addr) (c1 i : Nat) (w : World) (h : RdN w A g) (hv : Rd w 1 B1 g.length (ints (Sg.mean g a))) (hi : i < g.length) => (show Calls Try.prog 37 #[.agg #[.slice A g.length c], .slice B1 g.length c1, .int .i64 i] w fun e w' => ∃ A' c', e = .returned (.slice A' (Sg.depAt g (Sg.mean g a) i).length c') ∧ Own w' w.heap.size 3 1 A' (Sg.depAt g (Sg.mean g a) i).length c' (ints (Sg.depAt g (Sg.mean g a) i)) ∧ Ext w w' from by
  have := s_deps A B1 c c1 g (Sg.mean g a) i w h (by rw [Sg.length_mean]; exact hv) HG.out hi (Sg.length_mean g a) (Sg.meanTo_range HG.out HA.out _ (Nat.le_refl _))
  rw [Sg.length_mean] at this
  exact this))
 have hdl : (Sg.diffL (Sg.mean g a) (Sg.mean g b)).length ≤ 10 := by have := changedOr_len g a b; unfold changedOr at this; simpa [HG.out, HA.out, HB.out] using this
 clear hm
 generalize Sg.diffL (Sg.mean g a) (Sg.mean g b) = ch at *
 generalize Sg.mean g a = X at *
 go_enter Try.func8, Try.ntmps8
 go_wp2_with fail
 refine (HVG.out _ (H.out.ext E0.out)).mono ?_
 rintro e w1 ⟨rfl, he1⟩
 rw [HG.out]
 have U1 := lh ((Ext.rfl' (World.alloc w (.cells #[.slice A g.length c] 25))).tr he1)
 have E1 := lh (E0.out.tr U1.out)
 have lg_1 := U1.out.cellE Qlg.out
 clear he1 
 have blg_1 := blt lg_1
 go_wp2_with fail
 refine (HVA.out _ (H.out.ext E1.out) (Ha.out.ext E1.out)).mono ?_
 rintro e w2 ⟨rfl, he2⟩
 rw [HA.out]
 have U2 := lh ((Ext.rfl' w1).tr he2)
 have E2 := lh (E1.out.tr U2.out)
 have lg_2 := U2.out.cellE lg_1
 clear he2 lg_1 blg_1
 have blg_2 := blt lg_2
 go_wp2_with fail
 refine (HVB.out _ (H.out.ext E2.out) (Hb.out.ext E2.out)).mono ?_
 rintro e w3 ⟨rfl, he3⟩
 rw [HB.out]
 have U3 := lh ((Ext.rfl' w2).tr he3)
 have E3 := lh (E2.out.tr U3.out)
 have lg_3 := U3.out.cellE lg_2
 clear he3 lg_2 blg_2
 have blg_3 := blt lg_3
 go_wp2_with fail
 refine (s_inRange _ _ _ _).mono ?_
 rintro e w' ⟨rfl, rfl⟩
 rw [HN.out]
 go_wp2_with fail
 refine (HMA.out _ (H.out.ext E3.out) (Ha.out.ext E3.out)).mono ?_
 rintro e w4 ⟨A1, c1, rfl, ho, he4⟩
 have Ho1 := lh ho.rd
 clear ho
 have U4 := lh ((Ext.rfl' w3).tr he4)
 have E4 := lh (E3.out.tr U4.out)
 have lg_4 := U4.out.cellE lg_3
 clear he4 lg_3 blg_3
 have blg_4 := blt lg_4
 go_wp2_with fail
 refine (HMB.out _ (H.out.ext E4.out) (Hb.out.ext E4.out)).mono ?_
 rintro e w5 ⟨A2, c2, rfl, ho, he5⟩
 have Ho2 := lh ho.rd
 clear ho
 have U5 := lh ((Ext.rfl' w4).tr he5)
 have E5 := lh (E4.out.tr U5.out)
 have lg_5 := U5.out.cellE lg_4
 clear he5 lg_4 blg_4
 have blg_5 := blt lg_5
 go_wp2_with fail
 refine (HDF.out A1 A2 c1 c2 _ (Ho1.out.ext ((Ext.rfl' w4).tr U5.out)) Ho2.out).mono ?_
 rintro e w6 ⟨A3, c3, rfl, ho, he6⟩
 have Ho3 := lh ho.rd
 clear ho
 have U6 := lh ((Ext.rfl' w5).tr he6)
 have E6 := lh (E5.out.tr U6.out)
 have lg_6 := U6.out.cellE lg_5
 clear he6 lg_5 blg_5
 have blg_6 := blt lg_6
 go_wp2_with fail
 refine (s_placeIn A3 _ c3 _ (n0 : Int) _ (Ho3.out.ext (Ext.al (Ext.rfl' w6) (.cells #[] 3)))).mono ?_
 rintro e w' ⟨rfl, rfl⟩
 go_wp2
 have O0 := lh (show Own (World.alloc w6 (.cells #[] 3)) (w.heap.size + 1) 3 1 (some ⟨w6.heap.size, 0, none⟩) ([] : List Int).length 0 (ints []) from by have := (Own.new w6 3 1 #[] 0 (Nat.le_refl _) (by unfold maxLen; omega) rfl).mono (B' := w.heap.size + 1) (by have := blt lg_6; omega); simpa [ints] using this)
 have EA := lh (show Ext w6 (World.alloc w6 (.cells #[] 3)) from (Ext.rfl' _).al _)
 have LG := lh lg_6
 clear lg_6 blg_6
 go_loopw [3, 11] (fun s3 s11 wr => ∃ (i : Nat) (out : List Int) (A' : Option Addr) (c' : Nat), s3 = .int .i64 i ∧ s11 = .slice A' out.length c' ∧ Hid (Own wr (w.heap.size + 1) 3 1 A' out.length c' (ints out)) ∧ Hid ((i : Int) ∈ ch) ∧ Hid (Sg.whyGo g X ch (i + 1) i out = Sg.whyGo g X ch (n0 + 1) n0 []) ∧ Hid (Ext w6 wr) ∧ out.length + i ≤ 20) (fun s3 _ _ => (intOf s3).toNat)
 case atStart => exact ⟨n0, [], _, _, rfl, rfl, O0.out |> lh, HM, lh rfl, EA, by simp; omega⟩
 case round =>
  obtain ⟨i, out, A', c', rfl, rfl, hO, hI, hW, hE, hL⟩ := hrel
  have hi := HDL.out i hI.out
  have k1 := hE.out.cellE LG.out
  have b1 := blt k1
  obtain ⟨⟨nk, nf⟩, bb, oo, Ap, cp, hng, hA, hkc, hsc, _, _⟩ := (H.out.ext (E6.out.tr hE.out)).at_ hi
  subst hA
  dsimp only at hkc
  have b2 := blt hkc
  have hkd : Sg.kindAt g (i : Int) = nk := by unfold Sg.kindAt; rw [Int.toNat_natCast]; simp [hng]
  have HK := lh hkd
  have hs1 := (E6.out.tr hE.out).size
  clear hng hsc hkd
  by_cases hz : nk = 0
  ·have z1 : (nk != 0) = false := by simp [hz]
   have HF := lh (show Sg.whyGo g X ch (i + 1) i out = (i : Int) :: out from Sg.whyGo_end (by rw [HK.out]; exact hz) i out)
   have N1 := lh (Own.new wr (B := wr.heap.size) 3 1 #[.int .i64 (i : Int)] 1 (Nat.le_refl _) (by unfold maxLen; omega) rfl)
   clear hz
   go_wp2_with (at_builtin; refine wpList_appR rfl rfl eiInt rfl N1.out rfl (hO.out.al _).rd (one_ints _) (by unfold maxLen; omega) (by omega) (by simp) ?_; intro A5 c5 x5 ho5 hg5 hat5)
   go_ret
   have hgr := (Ext.rfl' wr).al (.cells #[.int .i64 (i : Int)] 3)
   rw [HS.out, ← hW.out, HF.out]
   refine ⟨A5, c5, by simp [Nat.add_comm], ?_, (E6.out.tr hE.out).tr (hgr.gr hg5 (fun x hx => by simp [blk] at hx; omega))⟩
   have := ho5.mono (B' := w.heap.size) (by omega)
   simpa [ints, Nat.add_comm] using this
  ·have z1 : (nk != 0) = true := by simp [hz]
   have HNE := lh (show Sg.kindAt g (i : Int) ≠ 0 by rw [HK.out]; exact hz)
   have N1 := lh (Own.new wr (B := wr.heap.size) 3 1 #[.int .i64 (i : Int)] 1 (Nat.le_refl _) (by unfold maxLen; omega) rfl)
   clear hz
   go_wp2_with (at_builtin; refine wpList_appR rfl rfl eiInt rfl N1.out rfl (hO.out.al _).rd (one_ints _) (by unfold maxLen; omega) (by omega) (by simp) ?_; intro A5 c5 x5 ho5 hg5 hat5; have E5 := lh (((Ext.rfl' wr).al (.cells #[.int .i64 (i : Int)] 3)).gr hg5 (fun x hx => by simp [blk] at hx; omega)); have k5 := E5.out.cellE k1; clear k1)
   have O5 := lh (show Own x5 (w.heap.size + 1) 3 1 A5 ((i : Int) :: out).length c5 (ints ((i : Int) :: out)) from by have := ho5.mono (B' := w.heap.size + 1) (by omega); simpa [ints, Nat.add_comm] using this)
   clear ho5 hg5 hat5 b1 hkc b2
   go_wp2_with fail
   refine (HDE.out A1 c1 i _ (H.out.ext ((E6.out.tr hE.out).tr E5.out)) (Ho1.out.ext (((((Ext.rfl' w4).tr U5.out).tr U6.out).tr hE.out).tr E5.out)) hi).mono ?_
   rintro e x6 ⟨A6, c6, rfl, ho6, he6⟩
   have O6 := lh ho6.rd
   have E6 := lh (E5.out.tr he6)
   have O5b := lh (O5.out.ext he6)
   clear ho6 k5
   go_wp2_with fail
   refine (s_common A3 A6 c3 c6 _ ch (Sg.depAt g X i) _ (Ho3.out.ext (((Ext.rfl' w6).tr hE.out).tr E6.out)) O6.out (by omega)).mono ?_
   rintro e x7 ⟨A7, c7, rfl, ho7, he7⟩
   have E7 := lh (E6.out.tr he7)
   have O5c := lh (O5b.out.ext he7)
   have hf := HNF.out i hI.out HNE.out
   rw [Int.toNat_natCast] at hf
   have hl0 := (List.getElem?_eq_some_iff.1 hf).1
   obtain ⟨g7, rfl, hg7⟩ := ho7.at_ (by omega)
   have hc7 := ho7.cell (j := 0) (u := .int .i64 (Sg.nxt g X ch (i : Int))) (by rw [ints_at, hf]; rfl)
   have b7 := blt hc7
   obtain ⟨m, hm⟩ := Int.eq_ofNat_of_zero_le (HNS.out i hI.out HNE.out).2.1
   have hmi : m < i := by have := (HNS.out i hI.out HNE.out).2.2.1; omega
   have HMm := lh (show (m : Int) ∈ ch by rw [← hm]; exact (HNS.out i hI.out HNE.out).1)
   have HW2 := lh (show Sg.whyGo g X ch (m + 1) m ((i : Int) :: out) = Sg.whyGo g X ch (n0 + 1) n0 [] by have := HST.out i hI.out HNE.out out; rw [Int.toNat_natCast, hm, Int.toNat_natCast] at this; rw [← this]; exact hW.out)
   rw [hm] at hc7
   clear hf ho7 he7 hm
   go_wp2
   go_roundw
   case rel => exact ⟨m, (i : Int) :: out, A5, c5, rfl, by simp [Nat.add_comm], O5c, HMm, HW2, lh (hE.out.tr E7.out), by simp; omega⟩
   case measure => simp [intOf]; omega
end Go.Proofs.Yteighpaljdlnaaa

/- The library's DeleteFunc on an own list, and the program's common: contracts. Conditions: bounds on lengths. -/
namespace Go.Proofs.Yteighpaljdlnaaa
open Go.RowKit

theorem findFrom_cases (p : Int → Bool) (l : List Int) (k : Nat) : (findFrom p k l = -1 ∧ l.filter (fun x => !p x) = l) ∨ ∃ j x, findFrom p k l = ((k + j : Nat) : Int) ∧ l[j]? = some x ∧ p x = true ∧ (l.take j).filter (fun x => !p x) = l.take j := by
 induction l generalizing k with
 | nil => exact .inl ⟨rfl, rfl⟩
 | cons x l ih =>
  unfold findFrom
  by_cases h : p x = true
  ·rw [if_pos h]
   exact .inr ⟨0, x, by simp, rfl, h, rfl⟩
  ·rw [if_neg h]
   have h' : p x = false := by simpa using h
   rcases ih (k + 1) with ⟨h1, h2⟩ | ⟨j, y, h1, h2, h3, h4⟩
   ·exact .inl ⟨h1, by simp [h', h2]⟩
   ·exact .inr ⟨j + 1, y, by rw [h1]; congr 1; omega, by simpa using h2, h3, by simp [h', h4]⟩
/-- the row while it is being sifted: i kept of the first j -/
structure Sift (p : Int → Bool) (l : List Int) (i j : Nat) (m : List Int) : Prop where
 len : m.length = l.length
 lt : i < j
 le : j ≤ l.length
 got : m.take i = (l.take j).filter fun x => !p x
 rest : m.drop j = l.drop j
theorem Sift.at_ {p : Int → Bool} {l m : List Int} {i j : Nat} (h : Sift p l i j m) (hj : j < l.length) : ∃ x, l[j]? = some x ∧ m[j]? = some x := by
 have hm : j < m.length := by rw [h.len]; exact hj
 have hx : l[j]? = some l[j] := List.getElem?_eq_getElem hj
 refine ⟨_, hx, ?_⟩
 have h1 := congrArg (fun t => t[0]?) h.rest
 simp only [List.getElem?_drop, Nat.add_zero] at h1
 rw [h1]; exact hx
theorem Sift.skip {p : Int → Bool} {l m : List Int} {i j : Nat} (h : Sift p l i j m) {x : Int} (hx : l[j]? = some x) (hp : p x = true) : Sift p l i (j + 1) m := by
 have hj := (List.getElem?_eq_some_iff.1 hx).1
 refine ⟨h.len, by have := h.lt; omega, hj, ?_, ?_⟩
 ·rw [take_snoc l j hx, List.filter_append, h.got]; simp [hp]
 ·have := congrArg (List.drop 1) h.rest
  simpa [List.drop_drop] using this
theorem Sift.keep {p : Int → Bool} {l m : List Int} {i j : Nat} (h : Sift p l i j m) {x : Int} (hx : l[j]? = some x) (hp : p x = false) : Sift p l (i + 1) (j + 1) (m.set i x) := by
 have hj := (List.getElem?_eq_some_iff.1 hx).1
 have hl := h.lt
 have hm := h.len
 refine ⟨by simpa using h.len, by omega, hj, ?_, ?_⟩
 ·rw [take_snoc l j hx, List.filter_append, ← h.got, take_snoc (m.set i x) i (x := x) (by rw [List.getElem?_set_self (by omega)])]
  rw [List.take_set_of_le (Nat.le_refl _)]
  simp [hp]
 ·rw [List.drop_set_of_lt (by omega)]
  have := congrArg (List.drop 1) h.rest
  simpa [List.drop_drop] using this
theorem Sift.ilen {p : Int → Bool} {l m : List Int} {i : Nat} (h : Sift p l i l.length m) : m.take i = l.filter (fun x => !p x) ∧ (l.filter (fun x => !p x)).length = i := by
 have h1 := h.got
 rw [List.take_length] at h1
 refine ⟨h1, ?_⟩
 rw [← h1]
 have h2 := h.len
 have h3 := h.lt
 simp
 omega
theorem Own.cut {w : World} {B e n c : Nat} {A : Option Addr} {xs : List Value} (h : Own w B e 1 A n c xs) (i : Nat) (hi : i ≤ n) : Own w B e 1 A i c (xs.take i) := by
 have h1 := h.1
 refine ⟨by simp; omega, Nat.le_trans hi h.2.1, h.2.2.1, ?_⟩
 rcases h.2.2.2 with h2 | ⟨g, cur, ha, hb, hh, hc, ht⟩
 ·exact .inl h2
 ·refine .inr ⟨g, cur, ha, hb, hh, hc, ?_⟩
  rw [← ht, List.take_take]
  congr 1
  omega
theorem Own.behind {B e g n c : Nat} {xs : List Value} (vs : List Value) : ∀ (w : World) (o : Nat), Own w B e 1 (some ⟨g, 0, none⟩) n c xs → n ≤ o → Own (w.setCells g o vs) B e 1 (some ⟨g, 0, none⟩) n c xs := by
 induction vs with
 | nil => intro w o h _; exact h
 | cons v vs ih =>
  intro w o h ho
  have h1 := h.st o v
  have hl := h.1
  rw [List.set_eq_of_length_le (by omega)] at h1
  exact ih _ (o + 1) h1 (by omega)
theorem Mod.cells {F : Nat → Prop} {a : World} (g : Nat) (hg : F g) (vs : List Value) : ∀ (w : World) (o : Nat), Mod F a w → Mod F a (w.setCells g o vs) := by
 induction vs with
 | nil => intro w o h; exact h
 | cons v vs ih => intro w o h; exact ih _ (o + 1) (h.set (.inl hg) v)

set_option maxHeartbeats 2000000 in
theorem i_DeleteFunc {fid : Nat} {caps : List Value} {inv : World → Prop} {p : Int → Bool} {dom : Int → Prop} (C : Prd Try.prog fid caps inv p dom) (B : Nat) (A : Option Addr) (n c : Nat) (l : List Int) (w : World) (h : Own w B 3 1 A n c (ints l)) (hi : inv w) (hd : ∀ x ∈ l, dom x)
  (hmd : ∀ w w', inv w → Mod (fun b => blk A = some b) w w' → inv w') (hb : n ≤ 1048576) :
  Calls Try.prog 56 #[.slice A n c, .func (.func fid) #[] caps.toArray] w fun e w' => e = .returned (.slice A (l.filter fun x => !p x).length c) ∧ Own w' B 3 1 A (l.filter fun x => !p x).length c (ints (l.filter fun x => !p x)) ∧ Mod (fun b => blk A = some b) w w' := by
 have hln := h.len
 have HIF := lh (i_IndexFunc C A n c l w h.rd hi hd)
 have hent := C.ent
 have HC := lh C
 have HD := lh hd
 have HI := lh hi
 have HM := lh hmd
 have Ho := lh h
 have hcap := h.2.1
 have hcm := h.2.2.1
 unfold maxLen at hcm
 clear C hi hd hmd
 rcases findFrom_cases p l 0 with ⟨h1, h2⟩ | ⟨k0, x0, h1, h2, h3, h4⟩
 ·have H1 := lh h1
  have H2 := lh h2
  have Hl := lh hln
  clear h1 h2 h hln
  go_enter Try.func56, Try.ntmps56
  go_wp2_with fail
  refine HIF.out.mono ?_
  rintro e w1 ⟨rfl, he1⟩
  rw [H1.out]
  go_wp2
  go_ret
  rw [H2.out, Hl.out]
  exact ⟨rfl, Ho.out.ext he1, Mod.of he1⟩
 ·rw [Nat.zero_add] at h1
  have hk0 : k0 < l.length := (List.getElem?_eq_some_iff.1 h2).1
  obtain ⟨g, rfl, hg⟩ := h.at_ (show 0 < n * 1 by omega)
  have hS : Sift p l k0 (k0 + 1) l := ⟨rfl, by omega, hk0, by rw [take_snoc l k0 h2, List.filter_append, h4]; simp [h3], rfl⟩
  have HS := lh hS
  have H1 := lh h1
  have hne : ((k0 : Int) == -1) = false := by rw [beq_eq_false_iff_ne]; omega
  obtain rfl := hln
  clear h1 h2 h3 h4 h hS
  go_enter Try.func56, Try.ntmps56
  go_wp2_with fail
  refine HIF.out.mono ?_
  rintro e w1 ⟨rfl, he1⟩
  rw [H1.out]
  go_wp2
  have E1 := lh (Mod.of (F := fun b => blk (some (⟨g, 0, none⟩ : Addr)) = some b) he1)
  have O1 := lh (Ho.out.ext he1)
  clear he1
  go_loopw [5, 6] (fun si sj wr => ∃ (i j : Nat) (m : List Int), si = .int .i64 i ∧ sj = .int .i64 j ∧ Hid (Sift p l i j m) ∧ Hid (Own wr B 3 1 (some ⟨g, 0, none⟩) l.length c (ints m)) ∧ Hid (Mod (fun b => blk (some (⟨g, 0, none⟩ : Addr)) = some b) w wr)) (fun _ sj _ => l.length - (intOf sj).toNat)
  case atStart => exact ⟨k0, k0 + 1, l, rfl, by go_num, HS, O1, E1⟩
  case round =>
   obtain ⟨i, j, m, rfl, rfl, hS, hO, hE⟩ := hrel
   have hij := hS.out.lt
   have hjl := hS.out.le
   have hml := hS.out.len
   have hlt0 := hO.out.lt (g := g) rfl
   by_cases hlt : j < l.length
   ·obtain ⟨x, hx, hmx⟩ := hS.out.at_ hlt
    have hcx := hO.out.cell (j := j) (u := .int .i64 x) (by rw [ints_at, hmx]; rfl)
    obtain ⟨y, hy⟩ : ∃ y, m[i]? = some y := ⟨_, List.getElem?_eq_getElem (by omega)⟩
    have hcy := hO.out.cell (j := i) (u := .int .i64 y) (by rw [ints_at, hy]; rfl)
    have hfy := hO.out.free i
    have Hx := lh hx
    have Hdx := lh (HD.out x (List.mem_of_getElem? hx))
    clear hx hmx hy
    cases hp : p x
    ·have Hp := lh hp
     clear hp
     go_wp2_with fail
     refine (HC.out.call _ x (HM.out _ _ HI.out hE.out) Hdx.out).mono ?_
     rw [Hp.out]
     rintro e w2 ⟨rfl, he2⟩
     have k1 := he2.cellE hcy
     have k2 := (he2.frozen (p := ⟨g, i, none⟩) hlt0.2).trans hfy
     have b2 := blt k1
     clear hcx hcy hfy
     go_wp2
     go_roundw
     case rel => exact ⟨i + 1, j + 1, m.set i x, by go_num, by go_num, lh (hS.out.keep Hx.out Hp.out), lh (by rw [← ints_set]; exact (hO.out.ext he2).st i _), lh (Mod.set (p := ⟨g, i, none⟩) (hE.out.tr' (Mod.of he2)) (.inl rfl) _)⟩
     case measure => simp [intOf]; omega
    ·have Hp := lh hp
     clear hp
     go_wp2_with fail
     refine (HC.out.call _ x (HM.out _ _ HI.out hE.out) Hdx.out).mono ?_
     rw [Hp.out]
     rintro e w2 ⟨rfl, he2⟩
     clear hcx hcy hfy
     go_wp2
     go_roundw
     case rel => exact ⟨i, j + 1, m, rfl, by go_num, lh (hS.out.skip Hx.out Hp.out), lh (hO.out.ext he2), lh (hE.out.tr' (Mod.of he2))⟩
     case measure => simp [intOf]; omega
   ·obtain rfl : j = l.length := by omega
    have HL := lh hS.out.ilen
    have hcl : ∀ ty, (Builtin.clear_ #[26] ty #[.slice (some ⟨g, i, none⟩) (l.length - i) (c - i)]).run Try.prog wr = .ok (.tuple #[]) (wr.setCells g i (List.replicate (l.length - i) (.int .i64 0))) := fun ty =>
     Lib.run_clear_slice wr _ _ ty _ Try.underlying26 Try.zeroValue3 rfl rfl g i _ _ (by omega) (fun t ht => by
      have : (ints m)[i + t]? = some (.int .i64 (m[i + t]'(by omega))) := by rw [ints_at, List.getElem?_eq_getElem (by omega)]; rfl
      rw [hO.out.cell this]; rfl) (fun t ht => hO.out.free _)
    have HO2 := lh ((Own.behind (List.replicate (l.length - i) (Value.int .i64 0)) wr i (hO.out.cut i (by omega)) (Nat.le_refl _)))
    have HE2 := lh (Mod.cells (F := fun b => blk (some (⟨g, 0, none⟩ : Addr)) = some b) g rfl (List.replicate (l.length - i) (Value.int .i64 0)) wr i hE.out)
    have hic : i ≤ c := by omega
    have hil : i ≤ l.length := by omega
    go_wp2
    go_ret
    rw [HL.out.2]
    refine ⟨rfl, ?_, HE2.out⟩
    have := HO2.out
    rw [ints_take, HL.out.1] at this
    exact this
end Go.Proofs.Yteighpaljdlnaaa

/- The program's common, ChangedBy, DepsOf, WhyChanged: contracts. Conditions: bounds on lengths. -/
namespace Go.Proofs.Yteighpaljdlnaaa
open Go.RowKit

def CInv (B : Nat) (Ab : Option Addr) (cb : Nat) (b : List Int) (w : World) : Prop := w.cell? ⟨B, 0, none⟩ = some (.slice Ab b.length cb) ∧ Rd w 1 Ab b.length (ints b)
theorem prd_common1 (B : Nat) (Ab : Option Addr) (cb : Nat) (b : List Int) : Prd Try.prog 58 [.pointer (some ⟨B, 0, none⟩)] (CInv B Ab cb b) (fun k => !decide (k ∈ b)) (fun _ => True) where
 ent := ent_of Try.func58 rfl (by kernel_rfl)
 call := fun w k h _ => by
  obtain ⟨h1, h2⟩ := h
  have HC := lh (i_Contains Ab b.length cb b k w h2)
  have hb := blt h1
  clear h2
  go_enter Try.func58, Try.ntmps58
  go_wp2_with fail
  refine HC.out.mono ?_
  rintro e w1 ⟨rfl, he1⟩
  go_wp2
  go_ret
  exact ⟨rfl, he1⟩
 ext := fun _ _ h e => ⟨e.cellE h.1, h.2.ext e⟩

set_option maxHeartbeats 1000000 in
theorem i_common (Aa Ab : Option Addr) (ca cb : Nat) (a b : List Int) (w : World) (ha : Rd w 1 Aa a.length (ints a)) (hb : Rd w 1 Ab b.length (ints b)) (hal : a.length ≤ 1048576) :
  Calls Try.prog 26 #[.slice Aa a.length ca, .slice Ab b.length cb] w fun e w' => ∃ A' c', e = .returned (.slice A' (Sg.common a b).length c') ∧ Own w' w.heap.size 3 1 A' (Sg.common a b).length c' (ints (Sg.common a b)) ∧ Ext w w' := by
 have hoff : 0 < b.length * 1 → ∀ x, blk Ab = some x → x < w.heap.size := fun hn x hx => by
  obtain ⟨y, hy⟩ : ∃ y, b[0]? = some y := ⟨_, List.getElem?_eq_getElem (by omega)⟩
  obtain ⟨b0, o0, z, rfl, _, hc⟩ := hb.at1 (k := 0) (by omega)
  simp [blk] at hx
  subst hx
  exact blt hc
 have hf : (a.filter fun x => !(!decide (x ∈ b))) = Sg.common a b := by unfold Sg.common; congr 1; funext x; simp
 have HF := lh hf
 have HO := lh hoff
 have Ha := lh ha
 have Hb := lh hb
 have HCL := lh (fun w h => i_Clone Aa a.length ca a w h (by omega))
 clear hoff ha hb hf

 have E0 := lh (((Ext.rfl' w).al (.cells #[.slice Ab b.length cb] 26)) : Ext w (World.alloc w (.cells #[.slice Ab b.length cb] 26)))
 have qlb : World.cell? (World.alloc w (.cells #[.slice Ab b.length cb] 26)) ⟨w.heap.size, 0, none⟩ = some (.slice Ab b.length cb) := by simp [go_sem]
 have Qlb := lh qlb
 clear qlb
 go_enter Try.func26, Try.ntmps26
 go_wp2_with fail
 refine (HCL.out _ (Ha.out.ext E0.out)).mono ?_
 rintro e w1 ⟨A1, c1, rfl, ho, he1⟩
 have Ho := lh (ho.mono (B' := w.heap.size + 1) (by simp))
 clear ho
 have U1 := lh ((Ext.rfl' (World.alloc w (.cells #[.slice Ab b.length cb] 26))).tr he1)
 have E1 := lh (E0.out.tr U1.out)
 have lb_1 := U1.out.cellE Qlb.out
 clear he1 
 have blb_1 := blt lb_1
 go_wp2_with fail
 refine (i_DeleteFunc (prd_common1 w.heap.size Ab cb b) (w.heap.size + 1) A1 a.length c1 a _ Ho.out ⟨lb_1, Hb.out.ext E1.out⟩ (fun _ _ => trivial) (fun x y hi hm => ⟨hm.cellE hi.1 (fun e => by have := (Ho.out.lt e).1; omega), hi.2.mod0 hm (fun hn z hz e => by have h1 := HO.out hn z hz; have h2 := (Ho.out.lt e).1; omega)⟩) hal).mono ?_
 rintro e w2 ⟨rfl, ho2, hm2⟩
 have Ho2 := lh ho2
 have Hm2 := lh hm2
 clear ho2 hm2
 go_wp2
 go_ret
 have e1 := HF.out
 have h1 := Ho2.out
 rw [e1] at h1
 exact ⟨A1, c1, rfl, h1.mono (by omega), Ext.md E1.out Hm2.out (fun x e => by have := (Ho.out.lt e).1; omega)⟩

theorem i_Min (A : Option Addr) (c : Nat) (l : List Int) (w : World) (h : Rd w 1 A l.length (ints l)) (hn : 0 < l.length) : Calls Try.prog 27 #[.slice A l.length c] w fun e w' => e = .returned (.int .i64 (Sg.minL l)) ∧ w = w' := by
 obtain ⟨b, o, rfl, hc⟩ := h.2.2 (by omega)
 refine (Try.slices_Min_int b o l.length c l w hn (Nat.le_refl _) h.big (fun j hj => hc j _ ?_)).mono fun e w' hh => ?_
 ·rw [ints_at, List.getD_eq_getElem?_getD, List.getElem?_eq_getElem hj]; rfl
 ·rw [List.take_length] at hh
  exact ⟨hh.1, hh.2.symm⟩
theorem Own.redo {B e g n c : Nat} (vs : List Value) : ∀ (w : World) (o : Nat) (xs : List Value), Own w B e 1 (some ⟨g, 0, none⟩) n c xs → o + vs.length ≤ n → Own (w.setCells g o vs) B e 1 (some ⟨g, 0, none⟩) n c (xs.take o ++ vs ++ xs.drop (o + vs.length)) := by
 induction vs with
 | nil => intro w o xs h _; simpa [World.setCells] using h
 | cons v vs ih =>
  intro w o xs h ho
  simp only [List.length_cons] at ho
  have hl := h.1
  have h1 := ih _ (o + 1) _ (h.st o v) (by omega)
  have e1 : (xs.set o v).take (o + 1) ++ vs ++ (xs.set o v).drop (o + 1 + vs.length) = xs.take o ++ v :: vs ++ xs.drop (o + (v :: vs).length) := by
   rw [List.drop_set_of_lt (by omega), take_snoc (xs.set o v) o (x := v) (by rw [List.getElem?_set_self (by omega)]), List.take_set_of_le (Nat.le_refl _)]
   simp [Nat.add_assoc, Nat.add_comm 1]
  rw [e1] at h1
  exact h1
theorem i_Reverse {B : Nat} (A : Option Addr) (c : Nat) (l : List Int) (w : World) (h : Own w B 3 1 A l.length c (ints l)) (hn : 0 < l.length) : Calls Try.prog 28 #[.slice A l.length c] w fun e w' => e = .returned (.tuple #[]) ∧ Own w' B 3 1 A l.length c (ints l.reverse) ∧ Mod (fun b => blk A = some b) w w' := by
 obtain ⟨g, rfl, hg⟩ := h.at_ (by omega)
 have hbig := h.rd.big
 refine (Try.slices_Reverse_int_cells g 0 l.length c l w (Nat.le_refl _) hbig (fun j hj => ?_) (fun j hj => ?_)).mono fun e w' hh => ?_
 ·rw [Nat.zero_add]
  exact h.cell (by rw [ints_at, List.getD_eq_getElem?_getD, List.getElem?_eq_getElem hj]; rfl)
 ·rw [Nat.zero_add]; exact h.free j
 ·obtain ⟨rfl, q, rfl⟩ := hh
  rw [List.take_length]
  have e0 : Ext w (w.drewN q) := (Ext.rfl' w).drN q
  refine ⟨rfl, ?_, Mod.cells (F := fun b => blk (some (⟨g, 0, none⟩ : Addr)) = some b) g rfl _ _ 0 (Mod.of e0)⟩
  have := Own.redo (l.reverse.map (Value.int .i64)) _ 0 _ (h.ext e0) (by simp)
  have e1 : (ints l).take 0 ++ l.reverse.map (Value.int .i64) ++ (ints l).drop (0 + (l.reverse.map (Value.int .i64)).length) = ints l.reverse := by simp [ints]
  rw [e1] at this
  exact this

theorem prd_changed1 (Bx By : Nat) (Ax Ay : Option Addr) (cx cy n : Nat) (X Y : List Int) : Prd Try.prog 43 [.pointer (some ⟨Bx, 0, none⟩), .pointer (some ⟨By, 0, none⟩)] (XInv Bx By Ax Ay cx cy n X Y) (fun k => Sg.rd X k != Sg.rd Y k) (fun k => 0 ≤ k ∧ k < n) where
 ent := ent_of Try.func43 rfl (by kernel_rfl)
 call := fun w k h hk => by
  obtain ⟨h1, h2, h3, h4⟩ := h
  obtain ⟨j, rfl⟩ := Int.eq_ofNat_of_zero_le hk.1
  have hj : j < n := by omega
  have hb := h3.big
  obtain ⟨ba, oa, x, rfl, hx, hcx⟩ := h3.at1 hj
  obtain ⟨bb, ob, y, rfl, hy, hcy⟩ := h4.at1 hj
  have HP := lh (show (Sg.rd X j != Sg.rd Y j) = (x != y) by simp [Sg.rd, hx, hy])
  clear hx hy h3 h4 hk
  go_enter Try.func43, Try.ntmps43
  go_wp2
  go_quiet (fail)
  go_wp2
  go_ret
  exact ⟨ret_bool (by rw [HP.out]), (Ext.rfl' _).drN _⟩
 ext := fun _ _ h e => h.ext e

set_option maxHeartbeats 2000000 in
theorem i_ChangedBy (A Aa Ab : Option Addr) (c ca cb : Nat) (g : Sg.Graph) (a b : List Int) (w : World) (h : RdN w A g) (ha : Rd w 1 Aa a.length (ints a)) (hb : Rd w 1 Ab b.length (ints b)) :
  Calls Try.prog 10 #[.agg #[.slice A g.length c], .slice Aa a.length ca, .slice Ab b.length cb] w fun e w' => ∃ A1, e = .returned (.slice A1 (changedOr g a b).length (changedOr g a b).length) ∧ Own w' w.heap.size 3 1 A1 (changedOr g a b).length (changedOr g a b).length (ints (changedOr g a b)) ∧ Ext w w' := by
 have hgl := h.1
 have HVA := lh (i_ValidCells A Aa c ca g a)
 have HVB := lh (i_ValidCells A Ab c cb g b)
 have H := lh h
 have Ha := lh ha
 have Hb := lh hb
 clear h ha hb
 have E0 := lh (((Ext.rfl' w).al (.cells #[.slice A g.length c] 25)) : Ext w (World.alloc w (.cells #[.slice A g.length c] 25)))
 have qlg : World.cell? (World.alloc w (.cells #[.slice A g.length c] 25)) ⟨w.heap.size, 0, none⟩ = some (.slice A g.length c) := by simp [go_sem]
 have Qlg := lh qlg
 clear qlg
 cases hA : (Sg.validG g && Sg.validC g a)
 ·have HA := lh hA
  have HS := lh (show changedOr g a b = [] by have e1 := HA.out; unfold changedOr; simp only [e1, Bool.false_and]; rfl)
  clear hA
  go_enter Try.func10, Try.ntmps10
  go_wp2_with fail
  refine (HVA.out _ (H.out.ext E0.out) (Ha.out.ext E0.out)).mono ?_
  rintro e w1 ⟨rfl, he1⟩
  rw [HA.out]
  have U1 := lh ((Ext.rfl' (World.alloc w (.cells #[.slice A g.length c] 25))).tr he1)
  have E1 := lh (E0.out.tr U1.out)
  have lg_1 := U1.out.cellE Qlg.out
  clear he1 
  have blg_1 := blt lg_1
  go_wp2
  go_ret
  rw [HS.out]
  exact ⟨none, rfl, Own.nil _ _ _ _, E1.out⟩
 have HA := lh hA
 clear hA
 cases hB : (Sg.validG g && Sg.validC g b)
 ·have HB := lh hB
  have HS := lh (show changedOr g a b = [] by have e1 := HA.out; have e2 := HB.out; simp only [Bool.and_eq_true] at e1; unfold changedOr; rw [e1.1] at e2 ⊢; rw [e1.2]; simp only [Bool.true_and] at e2 ⊢; rw [e2]; rfl)
  clear hB
  go_enter Try.func10, Try.ntmps10
  go_wp2_with fail
  refine (HVA.out _ (H.out.ext E0.out) (Ha.out.ext E0.out)).mono ?_
  rintro e w1 ⟨rfl, he1⟩
  rw [HA.out]
  have U1 := lh ((Ext.rfl' (World.alloc w (.cells #[.slice A g.length c] 25))).tr he1)
  have E1 := lh (E0.out.tr U1.out)
  have lg_1 := U1.out.cellE Qlg.out
  clear he1 
  have blg_1 := blt lg_1
  go_wp2_with fail
  refine (HVB.out _ (H.out.ext E1.out) (Hb.out.ext E1.out)).mono ?_
  rintro e w2 ⟨rfl, he2⟩
  rw [HB.out]
  have U2 := lh ((Ext.rfl' w1).tr he2)
  have E2 := lh (E1.out.tr U2.out)
  have lg_2 := U2.out.cellE lg_1
  clear he2 lg_1 blg_1
  have blg_2 := blt lg_2
  go_wp2
  go_ret
  rw [HS.out]
  exact ⟨none, rfl, Own.nil _ _ _ _, E2.out⟩
 have HB := lh hB
 clear hB
 have hG : Sg.validG g = true := by have := HA.out; simp only [Bool.and_eq_true] at this; exact this.1
 have hCa : Sg.validC g a = true := by have := HA.out; simp only [Bool.and_eq_true] at this; exact this.2
 have hCb : Sg.validC g b = true := by have := HB.out; simp only [Bool.and_eq_true] at this; exact this.2
 have HS := lh (show changedOr g a b = Sg.whichL (fun i => Sg.rd (Sg.mean g a) (i : Int) != Sg.rd (Sg.mean g b) (i : Int)) g.length by unfold changedOr; rw [hG, hCa, hCb]; simp only [Bool.and_self, if_true]; unfold Sg.diffL; rw [Sg.length_mean]; exact Sg.whichL_congr (fun i _ => by simp [Sg.rd]))
 have HMA := lh (fun w h hc => i_meaning A Aa c ca g a w h hc hG hCa)
 have HMB := lh (fun w h hc => i_meaning A Ab c cb g b w h hc hG hCb)
 clear hG hCa hCb
 generalize Sg.mean g a = X at *
 generalize Sg.mean g b = Y at *
 go_enter Try.func10, Try.ntmps10
 go_wp2_with fail
 refine (HVA.out _ (H.out.ext E0.out) (Ha.out.ext E0.out)).mono ?_
 rintro e w1 ⟨rfl, he1⟩
 rw [HA.out]
 have U1 := lh ((Ext.rfl' (World.alloc w (.cells #[.slice A g.length c] 25))).tr he1)
 have E1 := lh (E0.out.tr U1.out)
 have lg_1 := U1.out.cellE Qlg.out
 clear he1 
 have blg_1 := blt lg_1
 go_wp2_with fail
 refine (HVB.out _ (H.out.ext E1.out) (Hb.out.ext E1.out)).mono ?_
 rintro e w2 ⟨rfl, he2⟩
 rw [HB.out]
 have U2 := lh ((Ext.rfl' w1).tr he2)
 have E2 := lh (E1.out.tr U2.out)
 have lg_2 := U2.out.cellE lg_1
 clear he2 lg_1 blg_1
 have blg_2 := blt lg_2
 go_wp2_with fail
 refine (HMA.out _ (H.out.ext E2.out) (Ha.out.ext E2.out)).mono ?_
 rintro e w3 ⟨Ax, Ar, hs, rfl, hox, hor, hdx, he3⟩
 have Hx := lh hox.rd
 clear hox hor hdx
 have U3 := lh ((Ext.rfl' w2).tr he3)
 have E3 := lh (E2.out.tr U3.out)
 have lg_3 := U3.out.cellE lg_2
 clear he3 lg_2 blg_2
 have blg_3 := blt lg_3
 go_wp2_with fail
 refine (HMB.out _ (H.out.ext (Ext.al E3.out (.cells #[.slice Ax g.length g.length] 26))) (Hb.out.ext (Ext.al E3.out (.cells #[.slice Ax g.length g.length] 26)))).mono ?_
 rintro e w4 ⟨Ay, Ar2, hs2, rfl, hoy, hor2, hdy, he4⟩
 have Hy := lh hoy.rd
 clear hoy hor2 hdy
 have U4 := lh ((Ext.al (Ext.rfl' w3) (.cells #[.slice Ax g.length g.length] 26)).tr he4)
 have E4 := lh (E3.out.tr U4.out)
 have lg_4 := U4.out.cellE lg_3
 have kx_4 := he4.cellE (show World.cell? (World.alloc w3 (.cells #[.slice Ax g.length g.length] 26)) ⟨w3.heap.size, 0, none⟩ = some (.slice Ax g.length g.length) by simp [go_sem])
 clear he4 lg_3 blg_3
 have blg_4 := blt lg_4
 have bkx_4 := blt kx_4
 go_wp2_with fail
 refine (i_which (prd_changed1 w3.heap.size w4.heap.size Ax Ay g.length g.length g.length X Y) A g.length c _ ⟨((Ext.rfl' w4).al _).cellE kx_4, (show World.cell? (World.alloc w4 (.cells #[.slice Ay g.length g.length] 26)) ⟨w4.heap.size, 0, none⟩ = some (.slice Ay g.length g.length) by simp [go_sem]), Hx.out.ext (Ext.al ((Ext.rfl' w3).tr U4.out) (.cells #[.slice Ay g.length g.length] 26)), Hy.out.ext (Ext.al (Ext.rfl' w4) (.cells #[.slice Ay g.length g.length] 26))⟩ (fun k hk => ⟨by omega, by omega⟩) hgl).mono ?_
 rintro e w5 ⟨A7, rfl, ho7, he5⟩
 have Ho7 := lh ho7
 clear ho7
 have U5 := lh ((Ext.al (Ext.rfl' w4) (.cells #[.slice Ay g.length g.length] 26)).tr he5)
 have E5 := lh (E4.out.tr U5.out)
 have lg_5 := U5.out.cellE lg_4
 have kx_5 := U5.out.cellE kx_4
 have ky_5 := he5.cellE (show World.cell? (World.alloc w4 (.cells #[.slice Ay g.length g.length] 26)) ⟨w4.heap.size, 0, none⟩ = some (.slice Ay g.length g.length) by simp [go_sem])
 clear he5 lg_4 kx_4 blg_4 bkx_4
 have blg_5 := blt lg_5
 have bkx_5 := blt kx_5
 have bky_5 := blt ky_5
 have z6 : w.heap.size ≤ ((World.alloc w4 (.cells #[.slice Ay g.length g.length] 26))).heap.size := (E4.out.al _).size
 go_wp2
 go_ret
 rw [HS.out]
 exact ⟨A7, rfl, Ho7.out.mono z6, E5.out⟩

set_option maxHeartbeats 1000000 in
theorem i_DepsOf (A Aa : Option Addr) (c ca : Nat) (g : Sg.Graph) (a : List Int) (w : World) (h : RdN w A g) (ha : Rd w 1 Aa a.length (ints a)) (hG : Sg.validG g = true) (hC : Sg.validC g a = true) :
  Calls Try.prog 12 #[.agg #[.slice A g.length c], .slice Aa a.length ca] w fun e w' => ∃ A2 hs, e = .returned (.slice A2 g.length g.length) ∧ OwnL w' w.heap.size A2 g.length (Sg.depsTo g (Sg.mean g a) g.length) hs ∧ Ext w w' := by
 have HVA := lh (i_ValidCells A Aa c ca g a)
 have HA := lh (show (Sg.validG g && Sg.validC g a) = true by rw [hG, hC]; rfl)
 have HMA := lh (fun w h hc => i_meaning A Aa c ca g a w h hc hG hC)
 have H := lh h
 have Ha := lh ha
 clear h ha hG hC
 have E0 := lh (((Ext.rfl' w).al (.cells #[.slice A g.length c] 25)) : Ext w (World.alloc w (.cells #[.slice A g.length c] 25)))
 have qlg : World.cell? (World.alloc w (.cells #[.slice A g.length c] 25)) ⟨w.heap.size, 0, none⟩ = some (.slice A g.length c) := by simp [go_sem]
 have Qlg := lh qlg
 clear qlg
 go_enter Try.func12, Try.ntmps12
 go_wp2_with fail
 refine (HVA.out _ (H.out.ext E0.out) (Ha.out.ext E0.out)).mono ?_
 rintro e w1 ⟨rfl, he1⟩
 rw [HA.out]
 have U1 := lh ((Ext.rfl' (World.alloc w (.cells #[.slice A g.length c] 25))).tr he1)
 have E1 := lh (E0.out.tr U1.out)
 have lg_1 := U1.out.cellE Qlg.out
 clear he1 
 have blg_1 := blt lg_1
 go_wp2_with fail
 refine (HMA.out _ (H.out.ext E1.out) (Ha.out.ext E1.out)).mono ?_
 rintro e w2 ⟨Ax, Ar, hs, rfl, hox, hor, hdx, he2⟩
 have Hr := lh hor
 clear hox hor hdx
 have U2 := lh ((Ext.rfl' w1).tr he2)
 have E2 := lh (E1.out.tr U2.out)
 have lg_2 := U2.out.cellE lg_1
 clear he2 lg_1 blg_1
 have blg_2 := blt lg_2
 have z1 := E1.out.size
 go_wp2
 go_ret
 exact ⟨Ar, hs, rfl, OwnD.mono Hr.out z1, E2.out⟩
end Go.Proofs.Yteighpaljdlnaaa

/- The program's MeaningOf: its contract at valid arguments. Conditions: bounds on lengths. -/
namespace Go.Proofs.Yteighpaljdlnaaa
open Go.RowKit
end Go.Proofs.Yteighpaljdlnaaa
