/- Parts of one proof, joined. The program's MustRun: its function values. Conditions: the boxes can be read. The reference's MustRun: its contract. Conditions: bounds on lengths. The reference's common, ChangedBy and WhyChanged: contracts. Conditions: bounds on lengths. The library's DeleteFunc on an own list, and the program's common: contracts. Conditions: bounds on lengths. The program's common, ChangedBy, DepsOf, WhyChanged: contracts. Conditions: bounds on lengths. The program's MeaningOf: its contract at valid arguments. Conditions: bounds on lengths. -/
import Derived.Test.YtdnlpklmihoapaaGreatDoorTy
import Derived.Test.YtdnlpklmihoapaaGreatDoorImplS
import Derived.Test.YtdnlpklmihoapaaGreatDoorSpecTO
import Derived.Test.YtdnlpklmihoapaaGreatDoorSpecQRS
import Derived.Test.YtdnlpklmihoapaaGreatDoorModelsA
import Derived.Test.YtdnlpklmihoapaaGreatDoorImplPX
import Derived.Test.YtdnlpklmihoapaaGreatDoorCore
import Derived.Lib.SliceRun
import Derived.Test.YtdnlpklmihoapaaGreatDoorImplQ
import Derived.Test.YtdnlpklmihoapaaGreatDoorFactsAll
import Derived.Deep.QuietTactic
import Derived.BigQuiet
/- The program's MustRun: its function values. Conditions: the boxes can be read. -/
namespace Go.Proofs.YtdnlpklmihoapaaGreatDoor
open Go.RowKit

def XInv (Bx By : Nat) (Ax Ay : Option Addr) (cx cy n : Nat) (X Y : List Int) (w : World) : Prop :=
 w.cell? ⟨Bx, 0, none⟩ = some (.slice Ax n cx) ∧ w.cell? ⟨By, 0, none⟩ = some (.slice Ay n cy) ∧ Rd w 1 Ax n (ints X) ∧ Rd w 1 Ay n (ints Y)
theorem XInv.ext {Bx By : Nat} {Ax Ay : Option Addr} {cx cy n : Nat} {X Y : List Int} {w w' : World} (h : XInv Bx By Ax Ay cx cy n X Y w) (e : Ext w w') : XInv Bx By Ax Ay cx cy n X Y w' :=
 ⟨e.cellE h.1, e.cellE h.2.1, h.2.2.1.ext e, h.2.2.2.ext e⟩
def MInv (Bg Bx By Br : Nat) (A Ax Ay Ar : Option Addr) (c cx cy cr : Nat) (g : Sg.Graph) (X Y : List Int) (w : World) : Prop :=
 w.cell? ⟨Bg, 0, none⟩ = some (.slice A g.length c) ∧ XInv Bx By Ax Ay cx cy g.length X Y w ∧ w.cell? ⟨Br, 0, none⟩ = some (.slice Ar g.length cr) ∧ RdN w A g ∧ RdL w Ar (Sg.depsTo g X g.length)
theorem MInv.ext {Bg Bx By Br : Nat} {A Ax Ay Ar : Option Addr} {c cx cy cr : Nat} {g : Sg.Graph} {X Y : List Int} {w w' : World} (h : MInv Bg Bx By Br A Ax Ay Ar c cx cy cr g X Y w) (e : Ext w w') : MInv Bg Bx By Br A Ax Ay Ar c cx cy cr g X Y w' :=
 ⟨e.cellE h.1, h.2.1.ext e, e.cellE h.2.2.1, h.2.2.2.1.ext e, h.2.2.2.2.ext e⟩

end Go.Proofs.YtdnlpklmihoapaaGreatDoor

/- The reference's MustRun: its contract. Conditions: bounds on lengths. -/
namespace Go.Proofs.YtdnlpklmihoapaaGreatDoor
open Go.RowKit

end Go.Proofs.YtdnlpklmihoapaaGreatDoor

/- The reference's common, ChangedBy and WhyChanged: contracts. Conditions: bounds on lengths. -/
namespace Go.Proofs.YtdnlpklmihoapaaGreatDoor
open Go.RowKit

end Go.Proofs.YtdnlpklmihoapaaGreatDoor

/- The library's DeleteFunc on an own list, and the program's common: contracts. Conditions: bounds on lengths. -/
namespace Go.Proofs.YtdnlpklmihoapaaGreatDoor
open Go.RowKit

/-- the row while it is being sifted: i kept of the first j -/
structure Sift (p : Int → Bool) (l : List Int) (i j : Nat) (m : List Int) : Prop where
 len : m.length = l.length
 lt : i < j
 le : j ≤ l.length
 got : m.take i = (l.take j).filter fun x => !p x
 rest : m.drop j = l.drop j
theorem Sift.at_ {p : Int → Bool} {l m : List Int} {i j : Nat} (h : Sift p l i j m) (hj : j < l.length) : ∃ x, l[j]? = some x ∧ m[j]? = some x := by
 have hm : j < m.length := by rw [h.len]; exact hj
 have hx : l[j]? = some l[j] := List.getElem?_eq_getElem hj
 refine ⟨_, hx, ?_⟩
 have h1 := congrArg (fun t => t[0]?) h.rest
 simp only [List.getElem?_drop, Nat.add_zero] at h1
 rw [h1]; exact hx
theorem Sift.skip {p : Int → Bool} {l m : List Int} {i j : Nat} (h : Sift p l i j m) {x : Int} (hx : l[j]? = some x) (hp : p x = true) : Sift p l i (j + 1) m := by
 have hj := (List.getElem?_eq_some_iff.1 hx).1
 refine ⟨h.len, by have := h.lt; omega, hj, ?_, ?_⟩
 ·rw [take_snoc l j hx, List.filter_append, h.got]; simp [hp]
 ·have := congrArg (List.drop 1) h.rest
  simpa [List.drop_drop] using this
theorem Sift.keep {p : Int → Bool} {l m : List Int} {i j : Nat} (h : Sift p l i j m) {x : Int} (hx : l[j]? = some x) (hp : p x = false) : Sift p l (i + 1) (j + 1) (m.set i x) := by
 have hj := (List.getElem?_eq_some_iff.1 hx).1
 have hl := h.lt
 have hm := h.len
 refine ⟨by simpa using h.len, by omega, hj, ?_, ?_⟩
 ·rw [take_snoc l j hx, List.filter_append, ← h.got, take_snoc (m.set i x) i (x := x) (by rw [List.getElem?_set_self (by omega)])]
  rw [List.take_set_of_le (Nat.le_refl _)]
  simp [hp]
 ·rw [List.drop_set_of_lt (by omega)]
  have := congrArg (List.drop 1) h.rest
  simpa [List.drop_drop] using this
theorem Own.cut {w : World} {B e n c : Nat} {A : Option Addr} {xs : List Value} (h : Own w B e 1 A n c xs) (i : Nat) (hi : i ≤ n) : Own w B e 1 A i c (xs.take i) := by
 have h1 := h.1
 refine ⟨by simp; omega, Nat.le_trans hi h.2.1, h.2.2.1, ?_⟩
 rcases h.2.2.2 with h2 | ⟨g, cur, ha, hb, hh, hc, ht⟩
 ·exact .inl h2
 ·refine .inr ⟨g, cur, ha, hb, hh, hc, ?_⟩
  rw [← ht, List.take_take]
  congr 1
  omega
theorem Own.behind {B e g n c : Nat} {xs : List Value} (vs : List Value) : ∀ (w : World) (o : Nat), Own w B e 1 (some ⟨g, 0, none⟩) n c xs → n ≤ o → Own (w.setCells g o vs) B e 1 (some ⟨g, 0, none⟩) n c xs := by
 induction vs with
 | nil => intro w o h _; exact h
 | cons v vs ih =>
  intro w o h ho
  have h1 := h.st o v
  have hl := h.1
  rw [List.set_eq_of_length_le (by omega)] at h1
  exact ih _ (o + 1) h1 (by omega)
theorem Mod.cells {F : Nat → Prop} {a : World} (g : Nat) (hg : F g) (vs : List Value) : ∀ (w : World) (o : Nat), Mod F a w → Mod F a (w.setCells g o vs) := by
 induction vs with
 | nil => intro w o h; exact h
 | cons v vs ih => intro w o h; exact ih _ (o + 1) (h.set (.inl hg) v)

end Go.Proofs.YtdnlpklmihoapaaGreatDoor

/- The program's common, ChangedBy, DepsOf, WhyChanged: contracts. Conditions: bounds on lengths. -/
namespace Go.Proofs.YtdnlpklmihoapaaGreatDoor
open Go.RowKit

end Go.Proofs.YtdnlpklmihoapaaGreatDoor

/- The program's MeaningOf: its contract at valid arguments. Conditions: bounds on lengths. -/
namespace Go.Proofs.YtdnlpklmihoapaaGreatDoor
open Go.RowKit
set_option maxHeartbeats 1000000 in
theorem i_MeaningOf (A Aa : Option Addr) (c ca : Nat) (g : Sg.Graph) (a : List Int) (w : World) (h : RdN w A g) (ha : Rd w 1 Aa a.length (ints a)) (hG : Sg.validG g = true) (hC : Sg.validC g a = true) :
  Calls Tryz.prog 21 #[.agg #[.slice A g.length c], .slice Aa a.length ca] w fun e w' => ∃ A2, e = .returned (.slice A2 (Sg.mean g a).length g.length) ∧ Own w' w.heap.size 3 1 A2 (Sg.mean g a).length g.length (ints (Sg.mean g a)) ∧ Ext w w' := by
 have HVA := lh (i_ValidCells A Aa c ca g a)
 have HA := lh (show (Sg.validG g && Sg.validC g a) = true by rw [hG, hC]; rfl)
 have HMA := lh (fun w h hc => i_meaning A Aa c ca g a w h hc hG hC)
 have H := lh h
 have Ha := lh ha
 clear h ha hG hC
 have E0 := lh (((Ext.rfl' w).al (.cells #[.slice A g.length c] 24)) : Ext w (World.alloc w (.cells #[.slice A g.length c] 24)))
 have qlg : World.cell? (World.alloc w (.cells #[.slice A g.length c] 24)) ⟨w.heap.size, 0, none⟩ = some (.slice A g.length c) := by simp [go_sem]
 have Qlg := lh qlg
 clear qlg
 go_enter Tryz.func21, Tryz.ntmps21
 go_wp2_with fail
 refine (HVA.out _ (H.out.ext E0.out) (Ha.out.ext E0.out)).mono ?_
 rintro e w1 ⟨rfl, he1⟩
 rw [HA.out]
 have U1 := lh ((Ext.rfl' (World.alloc w (.cells #[.slice A g.length c] 24))).tr he1)
 have E1 := lh (E0.out.tr U1.out)
 have lg_1 := U1.out.cellE Qlg.out
 clear he1
 have blg_1 := blt lg_1
 go_wp2_with fail
 refine (HMA.out _ (H.out.ext E1.out) (Ha.out.ext E1.out)).mono ?_
 rintro e w2 ⟨Ax, Ar, hs, rfl, hox, hor, hdx, he2⟩
 have Hx := lh hox
 clear hox hor hdx
 have E2 := lh (E1.out.tr he2)
 clear he2 lg_1 blg_1
 have z1 := E1.out.size
 go_wp2
 go_ret
 exact ⟨Ax, by rw [Sg.length_mean]; rfl, by rw [Sg.length_mean]; exact Hx.out.mono z1, E2.out⟩
end Go.Proofs.YtdnlpklmihoapaaGreatDoor
