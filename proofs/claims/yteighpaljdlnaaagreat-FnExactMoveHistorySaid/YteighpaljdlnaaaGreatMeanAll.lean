/- Parts of one proof, joined. The program's MustRun: its function values. Conditions: the boxes can be read. The reference's MustRun: its contract. Conditions: bounds on lengths. The reference's common, ChangedBy and WhyChanged: contracts. Conditions: bounds on lengths. The library's DeleteFunc on an own list, and the program's common: contracts. Conditions: bounds on lengths. The program's common, ChangedBy, DepsOf, WhyChanged: contracts. Conditions: bounds on lengths. The program's MeaningOf: its contract at valid arguments. Conditions: bounds on lengths. -/
import Derived.Test.YteighpaljdlnaaaGreatTy
import Derived.Test.YteighpaljdlnaaaGreatImplS
import Derived.Test.YteighpaljdlnaaaGreatSpecTO
import Derived.Test.YteighpaljdlnaaaGreatSpecQRS
import Derived.Test.YteighpaljdlnaaaGreatModelsA
import Derived.Test.YteighpaljdlnaaaGreatImplPX
import Derived.Test.YteighpaljdlnaaaGreatCore
import Derived.Lib.SliceRun
import Derived.Test.YteighpaljdlnaaaGreatImplQ
import Derived.Test.YteighpaljdlnaaaGreatFactsAll
import Derived.Deep.QuietTactic
import Derived.BigQuiet
/- The program's MustRun: its function values. Conditions: the boxes can be read. -/
namespace Go.Proofs.YteighpaljdlnaaaGreat
open Go.RowKit

def XInv (Bx By : Nat) (Ax Ay : Option Addr) (cx cy n : Nat) (X Y : List Int) (w : World) : Prop :=
 w.cell? ⟨Bx, 0, none⟩ = some (.slice Ax n cx) ∧ w.cell? ⟨By, 0, none⟩ = some (.slice Ay n cy) ∧ Rd w 1 Ax n (ints X) ∧ Rd w 1 Ay n (ints Y)
theorem XInv.ext {Bx By : Nat} {Ax Ay : Option Addr} {cx cy n : Nat} {X Y : List Int} {w w' : World} (h : XInv Bx By Ax Ay cx cy n X Y w) (e : Ext w w') : XInv Bx By Ax Ay cx cy n X Y w' :=
 ⟨e.cellE h.1, e.cellE h.2.1, h.2.2.1.ext e, h.2.2.2.ext e⟩
def MInv (Bg Bx By Br : Nat) (A Ax Ay Ar : Option Addr) (c cx cy cr : Nat) (g : Sg.Graph) (X Y : List Int) (w : World) : Prop :=
 w.cell? ⟨Bg, 0, none⟩ = some (.slice A g.length c) ∧ XInv Bx By Ax Ay cx cy g.length X Y w ∧ w.cell? ⟨Br, 0, none⟩ = some (.slice Ar g.length cr) ∧ RdN w A g ∧ RdL w Ar (Sg.depsTo g X g.length)
theorem MInv.ext {Bg Bx By Br : Nat} {A Ax Ay Ar : Option Addr} {c cx cy cr : Nat} {g : Sg.Graph} {X Y : List Int} {w w' : World} (h : MInv Bg Bx By Br A Ax Ay Ar c cx cy cr g X Y w) (e : Ext w w') : MInv Bg Bx By Br A Ax Ay Ar c cx cy cr g X Y w' :=
 ⟨e.cellE h.1, h.2.1.ext e, e.cellE h.2.2.1, h.2.2.2.1.ext e, h.2.2.2.2.ext e⟩

end Go.Proofs.YteighpaljdlnaaaGreat

/- The reference's MustRun: its contract. Conditions: bounds on lengths. -/
namespace Go.Proofs.YteighpaljdlnaaaGreat
open Go.RowKit

end Go.Proofs.YteighpaljdlnaaaGreat

/- The reference's common, ChangedBy and WhyChanged: contracts. Conditions: bounds on lengths. -/
namespace Go.Proofs.YteighpaljdlnaaaGreat
open Go.RowKit

def CMN (a b : List Int) (k : Nat) : List Int := Sg.common (a.take k) b
theorem CMN_succ (a b : List Int) (k : Nat) {x : Int} (h : a[k]? = some x) : CMN a b (k + 1) = if x ∈ b then CMN a b k ++ [x] else CMN a b k := by
 unfold CMN Sg.common
 rw [take_snoc a k h, List.filter_append]
 by_cases hx : x ∈ b
 ·rw [if_pos hx]; simp [hx]
 ·rw [if_neg hx]; simp [hx]
theorem CMN_len (a b : List Int) (k : Nat) : (CMN a b k).length ≤ k := by
 unfold CMN Sg.common
 have h1 := List.length_filter_le (fun x => decide (x ∈ b)) (a.take k)
 have h2 : (a.take k).length ≤ k := by simp; omega
 omega

theorem common_len (a b : List Int) : (Sg.common a b).length ≤ a.length := List.length_filter_le _ _

def changedOr (g : Sg.Graph) (a b : List Int) : List Int := if (Sg.validG g && Sg.validC g a && Sg.validC g b) = true then Sg.diffL (Sg.mean g a) (Sg.mean g b) else []
theorem changedOr_len (g : Sg.Graph) (a b : List Int) : (changedOr g a b).length ≤ 10 := by
 unfold changedOr
 split
 ·rename_i h
  simp only [Bool.and_eq_true] at h
  have h1 : g.length ≤ 10 := by have := h.1.1; unfold Sg.validG at this; simp only [Bool.and_eq_true, decide_eq_true_eq] at this; exact this.2
  have h2 := Sg.whichL_len (fun i => (Sg.mean g a).getD i 0 != (Sg.mean g b).getD i 0) (Sg.mean g a).length
  simp only [Sg.length_mean] at h2
  unfold Sg.diffL
  simp only [Sg.length_mean]
  omega
 ·simp
theorem whyOr_len (g : Sg.Graph) (a b : List Int) (n : Int) : (Sg.whyOr g a b n).length ≤ 1048576 := by
 unfold Sg.whyOr
 split
 ·rename_i h
  simp only [Bool.and_eq_true] at h
  have h1 : g.length ≤ 10 := by have := h.1.1.1; unfold Sg.validG at this; simp only [Bool.and_eq_true, decide_eq_true_eq] at this; exact this.2
  have hn := h.2
  simp only [Sg.inR, Bool.and_eq_true, decide_eq_true_eq] at hn
  split
  ·have := Sg.whyGo_len (g := g) (Sg.mean g a) (Sg.diffL (Sg.mean g a) (Sg.mean g b)) (n.toNat + 1) n []
   simp only [List.length_nil] at this
   omega
  ·simp
 ·simp

set_option maxHeartbeats 2000000 in
theorem s_ChangedBy (A Aa Ab : Option Addr) (c ca cb : Nat) (g : Sg.Graph) (a b : List Int) (w : World) (h : RdN w A g) (ha : Rd w 1 Aa a.length (ints a)) (hb : Rd w 1 Ab b.length (ints b)) :
  Calls Tryz.prog 23 #[.agg #[.slice A g.length c], .slice Aa a.length ca, .slice Ab b.length cb] w fun e w' => ∃ A1 c1, e = .returned (.slice A1 (changedOr g a b).length c1) ∧ Own w' w.heap.size 3 1 A1 (changedOr g a b).length c1 (ints (changedOr g a b)) ∧ Ext w w' := by
 have hgl := h.1
 have HVG := lh (s_validGraph A c g)
 have HVA := lh (s_validCells A Aa c ca g a)
 have HVB := lh (s_validCells A Ab c cb g b)
 have H := lh h
 have Ha := lh ha
 have Hb := lh hb
 clear h ha hb
 have E0 := lh (((Ext.rfl' w).al (.cells #[.slice A g.length c] 36)) : Ext w (World.alloc w (.cells #[.slice A g.length c] 36)))
 have qlg : World.cell? (World.alloc w (.cells #[.slice A g.length c] 36)) ⟨w.heap.size, 0, none⟩ = some (.slice A g.length c) := by simp [go_sem]
 have Qlg := lh qlg
 clear qlg
 cases hG : Sg.validG g
 ·have HG := lh hG
  have HS := lh (show changedOr g a b = [] by unfold changedOr; simp [HG.out])
  clear hG
  go_enter Tryz.func23, Tryz.ntmps23
  go_wp2_with fail
  refine (HVG.out _ (H.out.ext E0.out)).mono ?_
  rintro e w1 ⟨rfl, he1⟩
  rw [HG.out]
  have U1 := lh ((Ext.rfl' (World.alloc w (.cells #[.slice A g.length c] 36))).tr he1)
  have E1 := lh (E0.out.tr U1.out)
  have lg_1 := U1.out.cellE Qlg.out
  clear he1 
  have blg_1 := blt lg_1
  go_wp2
  go_ret
  rw [HS.out]
  exact ⟨none, 0, rfl, Own.nil _ _ _ _, E1.out⟩
 have HG := lh hG
 clear hG
 cases hA : Sg.validC g a
 ·have HA := lh hA
  have HS := lh (show changedOr g a b = [] by unfold changedOr; simp [HG.out, HA.out])
  clear hA
  go_enter Tryz.func23, Tryz.ntmps23
  go_wp2_with fail
  refine (HVG.out _ (H.out.ext E0.out)).mono ?_
  rintro e w1 ⟨rfl, he1⟩
  rw [HG.out]
  have U1 := lh ((Ext.rfl' (World.alloc w (.cells #[.slice A g.length c] 36))).tr he1)
  have E1 := lh (E0.out.tr U1.out)
  have lg_1 := U1.out.cellE Qlg.out
  clear he1 
  have blg_1 := blt lg_1
  go_wp2_with fail
  refine (HVA.out _ (H.out.ext E1.out) (Ha.out.ext E1.out)).mono ?_
  rintro e w2 ⟨rfl, he2⟩
  rw [HA.out]
  have U2 := lh ((Ext.rfl' w1).tr he2)
  have E2 := lh (E1.out.tr U2.out)
  have lg_2 := U2.out.cellE lg_1
  clear he2 lg_1 blg_1
  have blg_2 := blt lg_2
  go_wp2
  go_ret
  rw [HS.out]
  exact ⟨none, 0, rfl, Own.nil _ _ _ _, E2.out⟩
 have HA := lh hA
 clear hA
 cases hB : Sg.validC g b
 ·have HB := lh hB
  have HS := lh (show changedOr g a b = [] by unfold changedOr; simp [HG.out, HA.out, HB.out])
  clear hB
  go_enter Tryz.func23, Tryz.ntmps23
  go_wp2_with fail
  refine (HVG.out _ (H.out.ext E0.out)).mono ?_
  rintro e w1 ⟨rfl, he1⟩
  rw [HG.out]
  have U1 := lh ((Ext.rfl' (World.alloc w (.cells #[.slice A g.length c] 36))).tr he1)
  have E1 := lh (E0.out.tr U1.out)
  have lg_1 := U1.out.cellE Qlg.out
  clear he1 
  have blg_1 := blt lg_1
  go_wp2_with fail
  refine (HVA.out _ (H.out.ext E1.out) (Ha.out.ext E1.out)).mono ?_
  rintro e w2 ⟨rfl, he2⟩
  rw [HA.out]
  have U2 := lh ((Ext.rfl' w1).tr he2)
  have E2 := lh (E1.out.tr U2.out)
  have lg_2 := U2.out.cellE lg_1
  clear he2 lg_1 blg_1
  have blg_2 := blt lg_2
  go_wp2_with fail
  refine (HVB.out _ (H.out.ext E2.out) (Hb.out.ext E2.out)).mono ?_
  rintro e w3 ⟨rfl, he3⟩
  rw [HB.out]
  have U3 := lh ((Ext.rfl' w2).tr he3)
  have E3 := lh (E2.out.tr U3.out)
  have lg_3 := U3.out.cellE lg_2
  clear he3 lg_2 blg_2
  have blg_3 := blt lg_3
  go_wp2
  go_ret
  rw [HS.out]
  exact ⟨none, 0, rfl, Own.nil _ _ _ _, E3.out⟩
 have HB := lh hB
 clear hB
 have hg10 : g.length ≤ 10 := by have := HG.out; unfold Sg.validG at this; simp only [Bool.and_eq_true, decide_eq_true_eq] at this; exact this.2
 have HMA := lh (fun w h hc => s_meaning A Aa c ca g a w h hc HG.out HA.out)
 have HMB := lh (fun w h hc => s_meaning A Ab c cb g b w h hc HG.out HB.out)
 have HDF := lh (fun (B1 B2 : Option Addr) (c1 c2 : Nat) (w : World) (h : Rd w 1 B1 g.length (ints (Sg.mean g a))) (kk : Rd w 1 B2 g.length (ints (Sg.mean g b))) => (show Calls Tryz.prog 40 #[.slice B1 g.length c1, .slice B2 g.length c2] w fun e w' => ∃ A' c', e = .returned (.slice A' (Sg.diffL (Sg.mean g a) (Sg.mean g b)).length c') ∧ Own w' w.heap.size 3 1 A' (Sg.diffL (Sg.mean g a) (Sg.mean g b)).length c' (ints (Sg.diffL (Sg.mean g a) (Sg.mean g b))) ∧ Ext w w' from by
  have := s_differing B1 B2 c1 c2 g.length (Sg.mean g a) (Sg.mean g b) w (by rw [Sg.length_mean]; exact h) kk (by rw [Sg.length_mean]; exact Nat.le_refl _) (by rw [Sg.length_mean]; omega)
  rw [Sg.length_mean] at this
  have e1 : DF (Sg.mean g a) (Sg.mean g b) g.length = Sg.diffL (Sg.mean g a) (Sg.mean g b) := by unfold Sg.diffL; rw [Sg.length_mean]; rfl
  rw [e1] at this
  exact this))
 have HS := lh (show changedOr g a b = Sg.diffL (Sg.mean g a) (Sg.mean g b) by unfold changedOr; simp [HG.out, HA.out, HB.out])
 clear hg10
 go_enter Tryz.func23, Tryz.ntmps23
 go_wp2_with fail
 refine (HVG.out _ (H.out.ext E0.out)).mono ?_
 rintro e w1 ⟨rfl, he1⟩
 rw [HG.out]
 have U1 := lh ((Ext.rfl' (World.alloc w (.cells #[.slice A g.length c] 36))).tr he1)
 have E1 := lh (E0.out.tr U1.out)
 have lg_1 := U1.out.cellE Qlg.out
 clear he1 
 have blg_1 := blt lg_1
 go_wp2_with fail
 refine (HVA.out _ (H.out.ext E1.out) (Ha.out.ext E1.out)).mono ?_
 rintro e w2 ⟨rfl, he2⟩
 rw [HA.out]
 have U2 := lh ((Ext.rfl' w1).tr he2)
 have E2 := lh (E1.out.tr U2.out)
 have lg_2 := U2.out.cellE lg_1
 clear he2 lg_1 blg_1
 have blg_2 := blt lg_2
 go_wp2_with fail
 refine (HVB.out _ (H.out.ext E2.out) (Hb.out.ext E2.out)).mono ?_
 rintro e w3 ⟨rfl, he3⟩
 rw [HB.out]
 have U3 := lh ((Ext.rfl' w2).tr he3)
 have E3 := lh (E2.out.tr U3.out)
 have lg_3 := U3.out.cellE lg_2
 clear he3 lg_2 blg_2
 have blg_3 := blt lg_3
 go_wp2_with fail
 refine wp_region_held_drew (S := (fun W => W.cell? ⟨w.heap.size, 0, none⟩ = some (.slice A g.length c))) (by kernel_rfl) ?_ (fun hHeld => ?_)
 ·exact ((Ext.rfl' _).dr).cellE lg_3
 refine ty 0 ?_
 refine ty 1 ?_
 refine ty 3 ?_
 refine ty 4 ?_
 refine rd1 2 rfl fun K hK => ?_
 go_simp
 refine (HMA.out _ (H.out.ext (E3.out.dr)) (Ha.out.ext (E3.out.dr))).mono ?_
 rintro e w4 ⟨A1, c1, rfl, ho, he4⟩
 have Ho1 := lh ho.rd
 clear ho
 have U4 := lh (((Ext.rfl' w3).dr).tr he4)
 have E4 := lh (E3.out.tr U4.out)
 have lg_4 := U4.out.cellE lg_3
 clear he4 lg_3 blg_3
 have blg_4 := blt lg_4
 try go_wp2_with fail
 refine hK.out _ _ (by exact lg_4) fun hh2 => ?_; clear hK K hHeld; have hHeld := hh2; clear hh2
 try simp only [Act.put, pu]
 refine rd1 5 rfl fun K hK => ?_
 go_simp
 refine (HMB.out _ (H.out.ext E4.out) (Hb.out.ext E4.out)).mono ?_
 rintro e w5 ⟨A2, c2, rfl, ho, he5⟩
 have Ho2 := lh ho.rd
 clear ho
 have U5 := lh ((Ext.rfl' w4).tr he5)
 have E5 := lh (E4.out.tr U5.out)
 have lg_5 := U5.out.cellE lg_4
 clear he5 lg_4 blg_4
 have blg_5 := blt lg_5
 try go_wp2_with fail
 refine hK.out _ _ (by exact lg_5) fun hh2 => ?_; clear hK K hHeld; have hHeld := hh2; clear hh2
 try simp only [Act.put, pu]
 refine rd1 6 rfl fun K hK => ?_
 go_simp
 refine (HDF.out A1 A2 c1 c2 _ (Ho1.out.ext ((Ext.rfl' w4).tr U5.out)) Ho2.out).mono ?_
 rintro e w6 ⟨A3, c3, rfl, ho, he6⟩
 have Ho3 := lh ho
 clear ho
 have U6 := lh ((Ext.rfl' w5).tr he6)
 have E6 := lh (E5.out.tr U6.out)
 have lg_6 := U6.out.cellE lg_5
 clear he6 lg_5 blg_5
 have blg_6 := blt lg_6
 try go_wp2_with fail
 refine hK.out _ _ (by exact lg_6) fun hh2 => ?_; clear hK K hHeld; have hHeld := hh2; clear hh2
 try simp only [Act.put, pu]
 refine ty 7 ?_
 refine dn ?_
 have z1 := E5.out.size
 go_wp2
 go_ret
 rw [HS.out]
 exact ⟨A3, c3, rfl, Ho3.out.mono z1, E6.out⟩

end Go.Proofs.YteighpaljdlnaaaGreat

/- The library's DeleteFunc on an own list, and the program's common: contracts. Conditions: bounds on lengths. -/
namespace Go.Proofs.YteighpaljdlnaaaGreat
open Go.RowKit

theorem findFrom_cases (p : Int → Bool) (l : List Int) (k : Nat) : (findFrom p k l = -1 ∧ l.filter (fun x => !p x) = l) ∨ ∃ j x, findFrom p k l = ((k + j : Nat) : Int) ∧ l[j]? = some x ∧ p x = true ∧ (l.take j).filter (fun x => !p x) = l.take j := by
 induction l generalizing k with
 | nil => exact .inl ⟨rfl, rfl⟩
 | cons x l ih =>
  unfold findFrom
  by_cases h : p x = true
  ·rw [if_pos h]
   exact .inr ⟨0, x, by simp, rfl, h, rfl⟩
  ·rw [if_neg h]
   have h' : p x = false := by simpa using h
   rcases ih (k + 1) with ⟨h1, h2⟩ | ⟨j, y, h1, h2, h3, h4⟩
   ·exact .inl ⟨h1, by simp [h', h2]⟩
   ·exact .inr ⟨j + 1, y, by rw [h1]; congr 1; omega, by simpa using h2, h3, by simp [h', h4]⟩
/-- the row while it is being sifted: i kept of the first j -/
structure Sift (p : Int → Bool) (l : List Int) (i j : Nat) (m : List Int) : Prop where
 len : m.length = l.length
 lt : i < j
 le : j ≤ l.length
 got : m.take i = (l.take j).filter fun x => !p x
 rest : m.drop j = l.drop j
theorem Sift.at_ {p : Int → Bool} {l m : List Int} {i j : Nat} (h : Sift p l i j m) (hj : j < l.length) : ∃ x, l[j]? = some x ∧ m[j]? = some x := by
 have hm : j < m.length := by rw [h.len]; exact hj
 have hx : l[j]? = some l[j] := List.getElem?_eq_getElem hj
 refine ⟨_, hx, ?_⟩
 have h1 := congrArg (fun t => t[0]?) h.rest
 simp only [List.getElem?_drop, Nat.add_zero] at h1
 rw [h1]; exact hx
theorem Sift.skip {p : Int → Bool} {l m : List Int} {i j : Nat} (h : Sift p l i j m) {x : Int} (hx : l[j]? = some x) (hp : p x = true) : Sift p l i (j + 1) m := by
 have hj := (List.getElem?_eq_some_iff.1 hx).1
 refine ⟨h.len, by have := h.lt; omega, hj, ?_, ?_⟩
 ·rw [take_snoc l j hx, List.filter_append, h.got]; simp [hp]
 ·have := congrArg (List.drop 1) h.rest
  simpa [List.drop_drop] using this
theorem Sift.keep {p : Int → Bool} {l m : List Int} {i j : Nat} (h : Sift p l i j m) {x : Int} (hx : l[j]? = some x) (hp : p x = false) : Sift p l (i + 1) (j + 1) (m.set i x) := by
 have hj := (List.getElem?_eq_some_iff.1 hx).1
 have hl := h.lt
 have hm := h.len
 refine ⟨by simpa using h.len, by omega, hj, ?_, ?_⟩
 ·rw [take_snoc l j hx, List.filter_append, ← h.got, take_snoc (m.set i x) i (x := x) (by rw [List.getElem?_set_self (by omega)])]
  rw [List.take_set_of_le (Nat.le_refl _)]
  simp [hp]
 ·rw [List.drop_set_of_lt (by omega)]
  have := congrArg (List.drop 1) h.rest
  simpa [List.drop_drop] using this
theorem Sift.ilen {p : Int → Bool} {l m : List Int} {i : Nat} (h : Sift p l i l.length m) : m.take i = l.filter (fun x => !p x) ∧ (l.filter (fun x => !p x)).length = i := by
 have h1 := h.got
 rw [List.take_length] at h1
 refine ⟨h1, ?_⟩
 rw [← h1]
 have h2 := h.len
 have h3 := h.lt
 simp
 omega
theorem Own.cut {w : World} {B e n c : Nat} {A : Option Addr} {xs : List Value} (h : Own w B e 1 A n c xs) (i : Nat) (hi : i ≤ n) : Own w B e 1 A i c (xs.take i) := by
 have h1 := h.1
 refine ⟨by simp; omega, Nat.le_trans hi h.2.1, h.2.2.1, ?_⟩
 rcases h.2.2.2 with h2 | ⟨g, cur, ha, hb, hh, hc, ht⟩
 ·exact .inl h2
 ·refine .inr ⟨g, cur, ha, hb, hh, hc, ?_⟩
  rw [← ht, List.take_take]
  congr 1
  omega
theorem Own.behind {B e g n c : Nat} {xs : List Value} (vs : List Value) : ∀ (w : World) (o : Nat), Own w B e 1 (some ⟨g, 0, none⟩) n c xs → n ≤ o → Own (w.setCells g o vs) B e 1 (some ⟨g, 0, none⟩) n c xs := by
 induction vs with
 | nil => intro w o h _; exact h
 | cons v vs ih =>
  intro w o h ho
  have h1 := h.st o v
  have hl := h.1
  rw [List.set_eq_of_length_le (by omega)] at h1
  exact ih _ (o + 1) h1 (by omega)
theorem Mod.cells {F : Nat → Prop} {a : World} (g : Nat) (hg : F g) (vs : List Value) : ∀ (w : World) (o : Nat), Mod F a w → Mod F a (w.setCells g o vs) := by
 induction vs with
 | nil => intro w o h; exact h
 | cons v vs ih => intro w o h; exact ih _ (o + 1) (h.set (.inl hg) v)

end Go.Proofs.YteighpaljdlnaaaGreat

/- The program's common, ChangedBy, DepsOf, WhyChanged: contracts. Conditions: bounds on lengths. -/
namespace Go.Proofs.YteighpaljdlnaaaGreat
open Go.RowKit

def CInv (B : Nat) (Ab : Option Addr) (cb : Nat) (b : List Int) (w : World) : Prop := w.cell? ⟨B, 0, none⟩ = some (.slice Ab b.length cb) ∧ Rd w 1 Ab b.length (ints b)
theorem Own.redo {B e g n c : Nat} (vs : List Value) : ∀ (w : World) (o : Nat) (xs : List Value), Own w B e 1 (some ⟨g, 0, none⟩) n c xs → o + vs.length ≤ n → Own (w.setCells g o vs) B e 1 (some ⟨g, 0, none⟩) n c (xs.take o ++ vs ++ xs.drop (o + vs.length)) := by
 induction vs with
 | nil => intro w o xs h _; simpa [World.setCells] using h
 | cons v vs ih =>
  intro w o xs h ho
  simp only [List.length_cons] at ho
  have hl := h.1
  have h1 := ih _ (o + 1) _ (h.st o v) (by omega)
  have e1 : (xs.set o v).take (o + 1) ++ vs ++ (xs.set o v).drop (o + 1 + vs.length) = xs.take o ++ v :: vs ++ xs.drop (o + (v :: vs).length) := by
   rw [List.drop_set_of_lt (by omega), take_snoc (xs.set o v) o (x := v) (by rw [List.getElem?_set_self (by omega)]), List.take_set_of_le (Nat.le_refl _)]
   simp [Nat.add_assoc, Nat.add_comm 1]
  rw [e1] at h1
  exact h1
theorem prd_changed1 (Bx By : Nat) (Ax Ay : Option Addr) (cx cy n : Nat) (X Y : List Int) : Prd Tryz.prog 51 [.pointer (some ⟨Bx, 0, none⟩), .pointer (some ⟨By, 0, none⟩)] (XInv Bx By Ax Ay cx cy n X Y) (fun k => Sg.rd X k != Sg.rd Y k) (fun k => 0 ≤ k ∧ k < n) where
 ent := ent_of Tryz.func51 rfl (by kernel_rfl)
 call := fun w k h hk => by
  obtain ⟨h1, h2, h3, h4⟩ := h
  obtain ⟨j, rfl⟩ := Int.eq_ofNat_of_zero_le hk.1
  have hj : j < n := by omega
  have hb := h3.big
  obtain ⟨ba, oa, x, rfl, hx, hcx⟩ := h3.at1 hj
  obtain ⟨bb, ob, y, rfl, hy, hcy⟩ := h4.at1 hj
  have HP := lh (show (Sg.rd X j != Sg.rd Y j) = (x != y) by simp [Sg.rd, hx, hy])
  clear hx hy h3 h4 hk
  go_enter Tryz.func51, Tryz.ntmps51
  go_wp2
  go_quiet (fail)
  go_wp2
  go_ret
  exact ⟨ret_bool (by rw [HP.out]), (Ext.rfl' _).drN _⟩
 ext := fun _ _ h e => h.ext e

set_option maxHeartbeats 2000000 in
theorem i_ChangedBy (A Aa Ab : Option Addr) (c ca cb : Nat) (g : Sg.Graph) (a b : List Int) (w : World) (h : RdN w A g) (ha : Rd w 1 Aa a.length (ints a)) (hb : Rd w 1 Ab b.length (ints b)) :
  Calls Tryz.prog 29 #[.agg #[.slice A g.length c], .slice Aa a.length ca, .slice Ab b.length cb] w fun e w' => ∃ A1, e = .returned (.slice A1 (changedOr g a b).length (changedOr g a b).length) ∧ Own w' w.heap.size 3 1 A1 (changedOr g a b).length (changedOr g a b).length (ints (changedOr g a b)) ∧ Ext w w' := by
 have hgl := h.1
 have HVA := lh (i_ValidCells A Aa c ca g a)
 have HVB := lh (i_ValidCells A Ab c cb g b)
 have H := lh h
 have Ha := lh ha
 have Hb := lh hb
 clear h ha hb
 have E0 := lh (((Ext.rfl' w).al (.cells #[.slice A g.length c] 36)) : Ext w (World.alloc w (.cells #[.slice A g.length c] 36)))
 have qlg : World.cell? (World.alloc w (.cells #[.slice A g.length c] 36)) ⟨w.heap.size, 0, none⟩ = some (.slice A g.length c) := by simp [go_sem]
 have Qlg := lh qlg
 clear qlg
 cases hA : (Sg.validG g && Sg.validC g a)
 ·have HA := lh hA
  have HS := lh (show changedOr g a b = [] by have e1 := HA.out; unfold changedOr; simp only [e1, Bool.false_and]; rfl)
  clear hA
  go_enter Tryz.func29, Tryz.ntmps29
  go_wp2_with fail
  refine (HVA.out _ (H.out.ext E0.out) (Ha.out.ext E0.out)).mono ?_
  rintro e w1 ⟨rfl, he1⟩
  rw [HA.out]
  have U1 := lh ((Ext.rfl' (World.alloc w (.cells #[.slice A g.length c] 36))).tr he1)
  have E1 := lh (E0.out.tr U1.out)
  have lg_1 := U1.out.cellE Qlg.out
  clear he1 
  have blg_1 := blt lg_1
  go_wp2
  go_ret
  rw [HS.out]
  exact ⟨none, rfl, Own.nil _ _ _ _, E1.out⟩
 have HA := lh hA
 clear hA
 cases hB : (Sg.validG g && Sg.validC g b)
 ·have HB := lh hB
  have HS := lh (show changedOr g a b = [] by have e1 := HA.out; have e2 := HB.out; simp only [Bool.and_eq_true] at e1; unfold changedOr; rw [e1.1] at e2 ⊢; rw [e1.2]; simp only [Bool.true_and] at e2 ⊢; rw [e2]; rfl)
  clear hB
  go_enter Tryz.func29, Tryz.ntmps29
  go_wp2_with fail
  refine (HVA.out _ (H.out.ext E0.out) (Ha.out.ext E0.out)).mono ?_
  rintro e w1 ⟨rfl, he1⟩
  rw [HA.out]
  have U1 := lh ((Ext.rfl' (World.alloc w (.cells #[.slice A g.length c] 36))).tr he1)
  have E1 := lh (E0.out.tr U1.out)
  have lg_1 := U1.out.cellE Qlg.out
  clear he1 
  have blg_1 := blt lg_1
  go_wp2_with fail
  refine (HVB.out _ (H.out.ext E1.out) (Hb.out.ext E1.out)).mono ?_
  rintro e w2 ⟨rfl, he2⟩
  rw [HB.out]
  have U2 := lh ((Ext.rfl' w1).tr he2)
  have E2 := lh (E1.out.tr U2.out)
  have lg_2 := U2.out.cellE lg_1
  clear he2 lg_1 blg_1
  have blg_2 := blt lg_2
  go_wp2
  go_ret
  rw [HS.out]
  exact ⟨none, rfl, Own.nil _ _ _ _, E2.out⟩
 have HB := lh hB
 clear hB
 have hG : Sg.validG g = true := by have := HA.out; simp only [Bool.and_eq_true] at this; exact this.1
 have hCa : Sg.validC g a = true := by have := HA.out; simp only [Bool.and_eq_true] at this; exact this.2
 have hCb : Sg.validC g b = true := by have := HB.out; simp only [Bool.and_eq_true] at this; exact this.2
 have HS := lh (show changedOr g a b = Sg.whichL (fun i => Sg.rd (Sg.mean g a) (i : Int) != Sg.rd (Sg.mean g b) (i : Int)) g.length by unfold changedOr; rw [hG, hCa, hCb]; simp only [Bool.and_self, if_true]; unfold Sg.diffL; rw [Sg.length_mean]; exact Sg.whichL_congr (fun i _ => by simp [Sg.rd]))
 have HMA := lh (fun w h hc => i_meaning A Aa c ca g a w h hc hG hCa)
 have HMB := lh (fun w h hc => i_meaning A Ab c cb g b w h hc hG hCb)
 clear hG hCa hCb
 generalize Sg.mean g a = X at *
 generalize Sg.mean g b = Y at *
 go_enter Tryz.func29, Tryz.ntmps29
 go_wp2_with fail
 refine (HVA.out _ (H.out.ext E0.out) (Ha.out.ext E0.out)).mono ?_
 rintro e w1 ⟨rfl, he1⟩
 rw [HA.out]
 have U1 := lh ((Ext.rfl' (World.alloc w (.cells #[.slice A g.length c] 36))).tr he1)
 have E1 := lh (E0.out.tr U1.out)
 have lg_1 := U1.out.cellE Qlg.out
 clear he1 
 have blg_1 := blt lg_1
 go_wp2_with fail
 refine (HVB.out _ (H.out.ext E1.out) (Hb.out.ext E1.out)).mono ?_
 rintro e w2 ⟨rfl, he2⟩
 rw [HB.out]
 have U2 := lh ((Ext.rfl' w1).tr he2)
 have E2 := lh (E1.out.tr U2.out)
 have lg_2 := U2.out.cellE lg_1
 clear he2 lg_1 blg_1
 have blg_2 := blt lg_2
 go_wp2_with fail
 refine (HMA.out _ (H.out.ext E2.out) (Ha.out.ext E2.out)).mono ?_
 rintro e w3 ⟨Ax, Ar, hs, rfl, hox, hor, hdx, he3⟩
 have Hx := lh hox.rd
 clear hox hor hdx
 have U3 := lh ((Ext.rfl' w2).tr he3)
 have E3 := lh (E2.out.tr U3.out)
 have lg_3 := U3.out.cellE lg_2
 clear he3 lg_2 blg_2
 have blg_3 := blt lg_3
 go_wp2_with fail
 refine (HMB.out _ (H.out.ext (Ext.al E3.out (.cells #[.slice Ax g.length g.length] 31))) (Hb.out.ext (Ext.al E3.out (.cells #[.slice Ax g.length g.length] 31)))).mono ?_
 rintro e w4 ⟨Ay, Ar2, hs2, rfl, hoy, hor2, hdy, he4⟩
 have Hy := lh hoy.rd
 clear hoy hor2 hdy
 have U4 := lh ((Ext.al (Ext.rfl' w3) (.cells #[.slice Ax g.length g.length] 31)).tr he4)
 have E4 := lh (E3.out.tr U4.out)
 have lg_4 := U4.out.cellE lg_3
 have kx_4 := he4.cellE (show World.cell? (World.alloc w3 (.cells #[.slice Ax g.length g.length] 31)) ⟨w3.heap.size, 0, none⟩ = some (.slice Ax g.length g.length) by simp [go_sem])
 clear he4 lg_3 blg_3
 have blg_4 := blt lg_4
 have bkx_4 := blt kx_4
 go_wp2_with fail
 refine (i_which (prd_changed1 w3.heap.size w4.heap.size Ax Ay g.length g.length g.length X Y) A g.length c _ ⟨((Ext.rfl' w4).al _).cellE kx_4, (show World.cell? (World.alloc w4 (.cells #[.slice Ay g.length g.length] 31)) ⟨w4.heap.size, 0, none⟩ = some (.slice Ay g.length g.length) by simp [go_sem]), Hx.out.ext (Ext.al ((Ext.rfl' w3).tr U4.out) (.cells #[.slice Ay g.length g.length] 31)), Hy.out.ext (Ext.al (Ext.rfl' w4) (.cells #[.slice Ay g.length g.length] 31))⟩ (fun k hk => ⟨by omega, by omega⟩) hgl).mono ?_
 rintro e w5 ⟨A7, rfl, ho7, he5⟩
 have Ho7 := lh ho7
 clear ho7
 have U5 := lh ((Ext.al (Ext.rfl' w4) (.cells #[.slice Ay g.length g.length] 31)).tr he5)
 have E5 := lh (E4.out.tr U5.out)
 have lg_5 := U5.out.cellE lg_4
 have kx_5 := U5.out.cellE kx_4
 have ky_5 := he5.cellE (show World.cell? (World.alloc w4 (.cells #[.slice Ay g.length g.length] 31)) ⟨w4.heap.size, 0, none⟩ = some (.slice Ay g.length g.length) by simp [go_sem])
 clear he5 lg_4 kx_4 blg_4 bkx_4
 have blg_5 := blt lg_5
 have bkx_5 := blt kx_5
 have bky_5 := blt ky_5
 have z6 : w.heap.size ≤ ((World.alloc w4 (.cells #[.slice Ay g.length g.length] 31))).heap.size := (E4.out.al _).size
 go_wp2
 go_ret
 rw [HS.out]
 exact ⟨A7, rfl, Ho7.out.mono z6, E5.out⟩

end Go.Proofs.YteighpaljdlnaaaGreat

/- The program's MeaningOf: its contract at valid arguments. Conditions: bounds on lengths. -/
namespace Go.Proofs.YteighpaljdlnaaaGreat
open Go.RowKit
end Go.Proofs.YteighpaljdlnaaaGreat
