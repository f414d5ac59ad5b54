/- The program's common, ChangedBy, DepsOf, WhyChanged: contracts. Conditions: bounds on lengths. -/
import Derived.Test.YtkbihkggneaeeaaImplY
import Derived.Test.YtkbihkggneaeeaaImplT
import Derived.Test.YtkbihkggneaeeaaImplQ
import Derived.Test.YtkbihkggneaeeaaSpecV
import Derived.Test.YtkbihkggneaeeaaLawP
import Derived.Deep.QuietTactic
import Derived.BigQuiet
namespace Go.Proofs.Ytkbihkggneaeeaa
open Go.RowKit

def CInv (B : Nat) (Ab : Option Addr) (cb : Nat) (b : List Int) (w : World) : Prop := w.cell? ⟨B, 0, none⟩ = some (.slice Ab b.length cb) ∧ Rd w 1 Ab b.length (ints b)
theorem prd_common1 (B : Nat) (Ab : Option Addr) (cb : Nat) (b : List Int) : Prd Try.prog 98 [.pointer (some ⟨B, 0, none⟩)] (CInv B Ab cb b) (fun k => !decide (k ∈ b)) (fun _ => True) where
  ent := ent_of Try.func98 rfl (by kernel_rfl)
  call := fun w k h _ => by
    obtain ⟨h1, h2⟩ := h
    have HC := Lib.hid (i_Contains Ab b.length cb b k w h2)
    have hb := blt h1
    clear h2
    go_enter Try.func98, Try.ntmps98
    go_wp2_with fail
    refine HC.out.mono ?_
    rintro e w1 ⟨rfl, he1⟩
    go_wp2
    go_ret
    exact ⟨rfl, he1⟩
  ext := fun _ _ h e => ⟨e.cellE h.1, h.2.ext e⟩

set_option maxHeartbeats 1000000 in
theorem i_common (Aa Ab : Option Addr) (ca cb : Nat) (a b : List Int) (w : World) (ha : Rd w 1 Aa a.length (ints a)) (hb : Rd w 1 Ab b.length (ints b)) (hal : a.length ≤ 1048576) :
    Calls Try.prog 64 #[.slice Aa a.length ca, .slice Ab b.length cb] w fun e w' => ∃ A' c', e = .returned (.slice A' (Sg.common a b).length c') ∧ Own w' w.heap.size 3 1 A' (Sg.common a b).length c' (ints (Sg.common a b)) ∧ Ext w w' := by
  have hoff : 0 < b.length * 1 → ∀ x, blk Ab = some x → x < w.heap.size := fun hn x hx => by
    obtain ⟨y, hy⟩ : ∃ y, b[0]? = some y := ⟨_, List.getElem?_eq_getElem (by omega)⟩
    obtain ⟨b0, o0, z, rfl, _, hc⟩ := hb.at1 (k := 0) (by omega)
    simp [blk] at hx
    subst hx
    exact blt hc
  have hf : (a.filter fun x => !(!decide (x ∈ b))) = Sg.common a b := by unfold Sg.common; congr 1; funext x; simp
  have HF := Lib.hid hf
  have HO := Lib.hid hoff
  have Ha := Lib.hid ha
  have Hb := Lib.hid hb
  have HCL := Lib.hid (fun w h => i_Clone Aa a.length ca a w h (by omega))
  clear hoff ha hb hf

  have E0 := Lib.hid (((Ext.rfl' w).al (.cells #[.slice Ab b.length cb] 26)) : Ext w (World.alloc w (.cells #[.slice Ab b.length cb] 26)))
  have qlb : World.cell? (World.alloc w (.cells #[.slice Ab b.length cb] 26)) ⟨w.heap.size, 0, none⟩ = some (.slice Ab b.length cb) := by simp [go_sem]
  have Qlb := Lib.hid qlb
  clear qlb
  go_enter Try.func64, Try.ntmps64
  go_wp2_with fail
  refine (HCL.out _ (Ha.out.ext E0.out)).mono ?_
  rintro e w1 ⟨A1, c1, rfl, ho, he1⟩
  have Ho := Lib.hid (ho.mono (B' := w.heap.size + 1) (by simp))
  clear ho
  have U1 := Lib.hid ((Ext.rfl' (World.alloc w (.cells #[.slice Ab b.length cb] 26))).tr he1)
  have E1 := Lib.hid (E0.out.tr U1.out)
  have lb_1 := U1.out.cellE Qlb.out
  clear he1 
  have blb_1 := blt lb_1
  go_wp2_with fail
  refine (i_DeleteFunc (prd_common1 w.heap.size Ab cb b) (w.heap.size + 1) A1 a.length c1 a _ Ho.out ⟨lb_1, Hb.out.ext E1.out⟩ (fun _ _ => trivial) (fun x y hi hm => ⟨hm.cellE hi.1 (fun e => by have := (Ho.out.lt e).1; omega), hi.2.mod0 hm (fun hn z hz e => by have h1 := HO.out hn z hz; have h2 := (Ho.out.lt e).1; omega)⟩) hal).mono ?_
  rintro e w2 ⟨rfl, ho2, hm2⟩
  have Ho2 := Lib.hid ho2
  have Hm2 := Lib.hid hm2
  clear ho2 hm2
  go_wp2
  go_ret
  have e1 := HF.out
  have h1 := Ho2.out
  rw [e1] at h1
  exact ⟨A1, c1, rfl, h1.mono (by omega), Ext.md E1.out Hm2.out (fun x e => by have := (Ho.out.lt e).1; omega)⟩

theorem i_Min (A : Option Addr) (c : Nat) (l : List Int) (w : World) (h : Rd w 1 A l.length (ints l)) (hn : 0 < l.length) : Calls Try.prog 65 #[.slice A l.length c] w fun e w' => e = .returned (.int .i64 (Sg.minL l)) ∧ w = w' := by
  obtain ⟨b, o, rfl, hc⟩ := h.2.2 (by omega)
  refine (Try.slices_Min_int b o l.length c l w hn (Nat.le_refl _) h.big (fun j hj => hc j _ ?_)).mono fun e w' hh => ?_
  · rw [ints_at, List.getD_eq_getElem?_getD, List.getElem?_eq_getElem hj]; rfl
  · rw [List.take_length] at hh
    exact ⟨hh.1, hh.2.symm⟩
theorem Own.redo {B e g n c : Nat} (vs : List Value) : ∀ (w : World) (o : Nat) (xs : List Value), Own w B e 1 (some ⟨g, 0, none⟩) n c xs → o + vs.length ≤ n → Own (w.setCells g o vs) B e 1 (some ⟨g, 0, none⟩) n c (xs.take o ++ vs ++ xs.drop (o + vs.length)) := by
  induction vs with
  | nil => intro w o xs h _; simpa [World.setCells] using h
  | cons v vs ih =>
    intro w o xs h ho
    simp only [List.length_cons] at ho
    have hl := h.1
    have h1 := ih _ (o + 1) _ (h.st o v) (by omega)
    have e1 : (xs.set o v).take (o + 1) ++ vs ++ (xs.set o v).drop (o + 1 + vs.length) = xs.take o ++ v :: vs ++ xs.drop (o + (v :: vs).length) := by
      rw [List.drop_set_of_lt (by omega), take_snoc (xs.set o v) o (x := v) (by rw [List.getElem?_set_self (by omega)]), List.take_set_of_le (Nat.le_refl _)]
      simp [Nat.add_assoc, Nat.add_comm 1]
    rw [e1] at h1
    exact h1
theorem i_Reverse {B : Nat} (A : Option Addr) (c : Nat) (l : List Int) (w : World) (h : Own w B 3 1 A l.length c (ints l)) (hn : 0 < l.length) : Calls Try.prog 66 #[.slice A l.length c] w fun e w' => e = .returned (.tuple #[]) ∧ Own w' B 3 1 A l.length c (ints l.reverse) ∧ Mod (fun b => blk A = some b) w w' := by
  obtain ⟨g, rfl, hg⟩ := h.at_ (by omega)
  have hbig := h.rd.big
  refine (Try.slices_Reverse_int_cells g 0 l.length c l w (Nat.le_refl _) hbig (fun j hj => ?_) (fun j hj => ?_)).mono fun e w' hh => ?_
  · rw [Nat.zero_add]
    exact h.cell (by rw [ints_at, List.getD_eq_getElem?_getD, List.getElem?_eq_getElem hj]; rfl)
  · rw [Nat.zero_add]; exact h.free j
  · obtain ⟨rfl, q, rfl⟩ := hh
    rw [List.take_length]
    have e0 : Ext w (w.drewN q) := (Ext.rfl' w).drN q
    refine ⟨rfl, ?_, Mod.cells (F := fun b => blk (some (⟨g, 0, none⟩ : Addr)) = some b) g rfl _ _ 0 (Mod.of e0)⟩
    have := Own.redo (l.reverse.map (Value.int .i64)) _ 0 _ (h.ext e0) (by simp)
    have e1 : (ints l).take 0 ++ l.reverse.map (Value.int .i64) ++ (ints l).drop (0 + (l.reverse.map (Value.int .i64)).length) = ints l.reverse := by simp [ints]
    rw [e1] at this
    exact this

theorem prd_changed1 (Bx By : Nat) (Ax Ay : Option Addr) (cx cy n : Nat) (X Y : List Int) : Prd Try.prog 56 [.pointer (some ⟨Bx, 0, none⟩), .pointer (some ⟨By, 0, none⟩)] (XInv Bx By Ax Ay cx cy n X Y) (fun k => Sg.rd X k != Sg.rd Y k) (fun k => 0 ≤ k ∧ k < n) where
  ent := ent_of Try.func56 rfl (by kernel_rfl)
  call := fun w k h hk => by
    obtain ⟨h1, h2, h3, h4⟩ := h
    obtain ⟨j, rfl⟩ := Int.eq_ofNat_of_zero_le hk.1
    have hj : j < n := by omega
    have hb := h3.big
    obtain ⟨ba, oa, x, rfl, hx, hcx⟩ := h3.at1 hj
    obtain ⟨bb, ob, y, rfl, hy, hcy⟩ := h4.at1 hj
    have HP := Lib.hid (show (Sg.rd X j != Sg.rd Y j) = (x != y) by simp [Sg.rd, hx, hy])
    clear hx hy h3 h4 hk
    go_enter Try.func56, Try.ntmps56
    go_wp2
    go_quiet (fail)
    go_wp2
    go_ret
    exact ⟨ret_bool (by rw [HP.out]), (Ext.rfl' _).drN _⟩
  ext := fun _ _ h e => h.ext e

set_option maxHeartbeats 2000000 in
theorem i_ChangedBy (A Aa Ab : Option Addr) (c ca cb : Nat) (g : Sg.Graph) (a b : List Int) (w : World) (h : RdN w A g) (ha : Rd w 1 Aa a.length (ints a)) (hb : Rd w 1 Ab b.length (ints b)) :
    Calls Try.prog 23 #[.agg #[.slice A g.length c], .slice Aa a.length ca, .slice Ab b.length cb] w fun e w' => ∃ A1, e = .returned (.slice A1 (changedOr g a b).length (changedOr g a b).length) ∧ Own w' w.heap.size 3 1 A1 (changedOr g a b).length (changedOr g a b).length (ints (changedOr g a b)) ∧ Ext w w' := by
  have hgl := h.1
  have HVA := Lib.hid (i_ValidCells A Aa c ca g a)
  have HVB := Lib.hid (i_ValidCells A Ab c cb g b)
  have H := Lib.hid h
  have Ha := Lib.hid ha
  have Hb := Lib.hid hb
  clear h ha hb
  have E0 := Lib.hid (((Ext.rfl' w).al (.cells #[.slice A g.length c] 25)) : Ext w (World.alloc w (.cells #[.slice A g.length c] 25)))
  have qlg : World.cell? (World.alloc w (.cells #[.slice A g.length c] 25)) ⟨w.heap.size, 0, none⟩ = some (.slice A g.length c) := by simp [go_sem]
  have Qlg := Lib.hid qlg
  clear qlg
  cases hA : (Sg.validG g && Sg.validC g a)
  · have HA := Lib.hid hA
    have HS := Lib.hid (show changedOr g a b = [] by have e1 := HA.out; unfold changedOr; simp only [e1, Bool.false_and]; rfl)
    clear hA
    go_enter Try.func23, Try.ntmps23
    go_wp2_with fail
    refine (HVA.out _ (H.out.ext E0.out) (Ha.out.ext E0.out)).mono ?_
    rintro e w1 ⟨rfl, he1⟩
    rw [HA.out]
    have U1 := Lib.hid ((Ext.rfl' (World.alloc w (.cells #[.slice A g.length c] 25))).tr he1)
    have E1 := Lib.hid (E0.out.tr U1.out)
    have lg_1 := U1.out.cellE Qlg.out
    clear he1 
    have blg_1 := blt lg_1
    go_wp2
    go_ret
    rw [HS.out]
    exact ⟨none, rfl, Own.nil _ _ _ _, E1.out⟩
  have HA := Lib.hid hA
  clear hA
  cases hB : (Sg.validG g && Sg.validC g b)
  · have HB := Lib.hid hB
    have HS := Lib.hid (show changedOr g a b = [] by have e1 := HA.out; have e2 := HB.out; simp only [Bool.and_eq_true] at e1; unfold changedOr; rw [e1.1] at e2 ⊢; rw [e1.2]; simp only [Bool.true_and] at e2 ⊢; rw [e2]; rfl)
    clear hB
    go_enter Try.func23, Try.ntmps23
    go_wp2_with fail
    refine (HVA.out _ (H.out.ext E0.out) (Ha.out.ext E0.out)).mono ?_
    rintro e w1 ⟨rfl, he1⟩
    rw [HA.out]
    have U1 := Lib.hid ((Ext.rfl' (World.alloc w (.cells #[.slice A g.length c] 25))).tr he1)
    have E1 := Lib.hid (E0.out.tr U1.out)
    have lg_1 := U1.out.cellE Qlg.out
    clear he1 
    have blg_1 := blt lg_1
    go_wp2_with fail
    refine (HVB.out _ (H.out.ext E1.out) (Hb.out.ext E1.out)).mono ?_
    rintro e w2 ⟨rfl, he2⟩
    rw [HB.out]
    have U2 := Lib.hid ((Ext.rfl' w1).tr he2)
    have E2 := Lib.hid (E1.out.tr U2.out)
    have lg_2 := U2.out.cellE lg_1
    clear he2 lg_1 blg_1
    have blg_2 := blt lg_2
    go_wp2
    go_ret
    rw [HS.out]
    exact ⟨none, rfl, Own.nil _ _ _ _, E2.out⟩
  have HB := Lib.hid hB
  clear hB
  have hG : Sg.validG g = true := by have := HA.out; simp only [Bool.and_eq_true] at this; exact this.1
  have hCa : Sg.validC g a = true := by have := HA.out; simp only [Bool.and_eq_true] at this; exact this.2
  have hCb : Sg.validC g b = true := by have := HB.out; simp only [Bool.and_eq_true] at this; exact this.2
  have HS := Lib.hid (show changedOr g a b = Sg.whichL (fun i => Sg.rd (Sg.mean g a) (i : Int) != Sg.rd (Sg.mean g b) (i : Int)) g.length by unfold changedOr; rw [hG, hCa, hCb]; simp only [Bool.and_self, if_true]; unfold Sg.diffL; rw [Sg.length_mean]; exact Sg.whichL_congr (fun i _ => by simp [Sg.rd]))
  have HMA := Lib.hid (fun w h hc => i_meaning A Aa c ca g a w h hc hG hCa)
  have HMB := Lib.hid (fun w h hc => i_meaning A Ab c cb g b w h hc hG hCb)
  clear hG hCa hCb
  generalize Sg.mean g a = X at *
  generalize Sg.mean g b = Y at *
  go_enter Try.func23, Try.ntmps23
  go_wp2_with fail
  refine (HVA.out _ (H.out.ext E0.out) (Ha.out.ext E0.out)).mono ?_
  rintro e w1 ⟨rfl, he1⟩
  rw [HA.out]
  have U1 := Lib.hid ((Ext.rfl' (World.alloc w (.cells #[.slice A g.length c] 25))).tr he1)
  have E1 := Lib.hid (E0.out.tr U1.out)
  have lg_1 := U1.out.cellE Qlg.out
  clear he1 
  have blg_1 := blt lg_1
  go_wp2_with fail
  refine (HVB.out _ (H.out.ext E1.out) (Hb.out.ext E1.out)).mono ?_
  rintro e w2 ⟨rfl, he2⟩
  rw [HB.out]
  have U2 := Lib.hid ((Ext.rfl' w1).tr he2)
  have E2 := Lib.hid (E1.out.tr U2.out)
  have lg_2 := U2.out.cellE lg_1
  clear he2 lg_1 blg_1
  have blg_2 := blt lg_2
  go_wp2_with fail
  refine (HMA.out _ (H.out.ext E2.out) (Ha.out.ext E2.out)).mono ?_
  rintro e w3 ⟨Ax, Ar, hs, rfl, hox, hor, hdx, he3⟩
  have Hx := Lib.hid hox.rd
  clear hox hor hdx
  have U3 := Lib.hid ((Ext.rfl' w2).tr he3)
  have E3 := Lib.hid (E2.out.tr U3.out)
  have lg_3 := U3.out.cellE lg_2
  clear he3 lg_2 blg_2
  have blg_3 := blt lg_3
  go_wp2_with fail
  refine (HMB.out _ (H.out.ext (Ext.al E3.out (.cells #[.slice Ax g.length g.length] 26))) (Hb.out.ext (Ext.al E3.out (.cells #[.slice Ax g.length g.length] 26)))).mono ?_
  rintro e w4 ⟨Ay, Ar2, hs2, rfl, hoy, hor2, hdy, he4⟩
  have Hy := Lib.hid hoy.rd
  clear hoy hor2 hdy
  have U4 := Lib.hid ((Ext.al (Ext.rfl' w3) (.cells #[.slice Ax g.length g.length] 26)).tr he4)
  have E4 := Lib.hid (E3.out.tr U4.out)
  have lg_4 := U4.out.cellE lg_3
  have kx_4 := he4.cellE (show World.cell? (World.alloc w3 (.cells #[.slice Ax g.length g.length] 26)) ⟨w3.heap.size, 0, none⟩ = some (.slice Ax g.length g.length) by simp [go_sem])
  clear he4 lg_3 blg_3
  have blg_4 := blt lg_4
  have bkx_4 := blt kx_4
  go_wp2_with fail
  refine (i_which (prd_changed1 w3.heap.size w4.heap.size Ax Ay g.length g.length g.length X Y) A g.length c _ ⟨((Ext.rfl' w4).al _).cellE kx_4, (show World.cell? (World.alloc w4 (.cells #[.slice Ay g.length g.length] 26)) ⟨w4.heap.size, 0, none⟩ = some (.slice Ay g.length g.length) by simp [go_sem]), Hx.out.ext (Ext.al ((Ext.rfl' w3).tr U4.out) (.cells #[.slice Ay g.length g.length] 26)), Hy.out.ext (Ext.al (Ext.rfl' w4) (.cells #[.slice Ay g.length g.length] 26))⟩ (fun k hk => ⟨by omega, by omega⟩) hgl).mono ?_
  rintro e w5 ⟨A7, rfl, ho7, he5⟩
  have Ho7 := Lib.hid ho7
  clear ho7
  have U5 := Lib.hid ((Ext.al (Ext.rfl' w4) (.cells #[.slice Ay g.length g.length] 26)).tr he5)
  have E5 := Lib.hid (E4.out.tr U5.out)
  have lg_5 := U5.out.cellE lg_4
  have kx_5 := U5.out.cellE kx_4
  have ky_5 := he5.cellE (show World.cell? (World.alloc w4 (.cells #[.slice Ay g.length g.length] 26)) ⟨w4.heap.size, 0, none⟩ = some (.slice Ay g.length g.length) by simp [go_sem])
  clear he5 lg_4 kx_4 blg_4 bkx_4
  have blg_5 := blt lg_5
  have bkx_5 := blt kx_5
  have bky_5 := blt ky_5
  have z6 : w.heap.size ≤ ((World.alloc w4 (.cells #[.slice Ay g.length g.length] 26))).heap.size := (E4.out.al _).size
  go_wp2
  go_ret
  rw [HS.out]
  exact ⟨A7, rfl, Ho7.out.mono z6, E5.out⟩

set_option maxHeartbeats 1000000 in
theorem i_DepsOf (A Aa : Option Addr) (c ca : Nat) (g : Sg.Graph) (a : List Int) (w : World) (h : RdN w A g) (ha : Rd w 1 Aa a.length (ints a)) (hG : Sg.validG g = true) (hC : Sg.validC g a = true) :
    Calls Try.prog 16 #[.agg #[.slice A g.length c], .slice Aa a.length ca] w fun e w' => ∃ A2 hs, e = .returned (.slice A2 g.length g.length) ∧ OwnL w' w.heap.size A2 g.length (Sg.depsTo g (Sg.mean g a) g.length) hs ∧ Ext w w' := by
  have HVA := Lib.hid (i_ValidCells A Aa c ca g a)
  have HA := Lib.hid (show (Sg.validG g && Sg.validC g a) = true by rw [hG, hC]; rfl)
  have HMA := Lib.hid (fun w h hc => i_meaning A Aa c ca g a w h hc hG hC)
  have H := Lib.hid h
  have Ha := Lib.hid ha
  clear h ha hG hC
  have E0 := Lib.hid (((Ext.rfl' w).al (.cells #[.slice A g.length c] 25)) : Ext w (World.alloc w (.cells #[.slice A g.length c] 25)))
  have qlg : World.cell? (World.alloc w (.cells #[.slice A g.length c] 25)) ⟨w.heap.size, 0, none⟩ = some (.slice A g.length c) := by simp [go_sem]
  have Qlg := Lib.hid qlg
  clear qlg
  go_enter Try.func16, Try.ntmps16
  go_wp2_with fail
  refine (HVA.out _ (H.out.ext E0.out) (Ha.out.ext E0.out)).mono ?_
  rintro e w1 ⟨rfl, he1⟩
  rw [HA.out]
  have U1 := Lib.hid ((Ext.rfl' (World.alloc w (.cells #[.slice A g.length c] 25))).tr he1)
  have E1 := Lib.hid (E0.out.tr U1.out)
  have lg_1 := U1.out.cellE Qlg.out
  clear he1 
  have blg_1 := blt lg_1
  go_wp2_with fail
  refine (HMA.out _ (H.out.ext E1.out) (Ha.out.ext E1.out)).mono ?_
  rintro e w2 ⟨Ax, Ar, hs, rfl, hox, hor, hdx, he2⟩
  have Hr := Lib.hid hor
  clear hox hor hdx
  have U2 := Lib.hid ((Ext.rfl' w1).tr he2)
  have E2 := Lib.hid (E1.out.tr U2.out)
  have lg_2 := U2.out.cellE lg_1
  clear he2 lg_1 blg_1
  have blg_2 := blt lg_2
  have z1 := E1.out.size
  go_wp2
  go_ret
  exact ⟨Ar, hs, rfl, OwnD.mono Hr.out z1, E2.out⟩
end Go.Proofs.Ytkbihkggneaeeaa
