/- The reference's eagerOf, and the draws of states: contracts. Conditions: bounds on the number of draws. -/
import Derived.Test.YtmkfjnkdaeoppaaGreatTy
import Derived.Test.YtmkfjnkdaeoppaaGreatDrawTwo
import Derived.Test.YtmkfjnkdaeoppaaGreatSpecThree
import Derived.Test.YtmkfjnkdaeoppaaGreatSepAll
import Derived.Test.YtmkfjnkdaeoppaaGreatFactsAll
namespace Go.Proofs.YtmkfjnkdaeoppaaGreat
open Go.RowKit

theorem RdL.tail {w : World} {b o : Nat} {ll : List (List Int)} (h : RdL w (some ⟨b, o, none⟩) ll) : RdL w (some ⟨b, o + 1, none⟩) (ll.drop 1) := by
 refine ⟨by have := h.1; simp; omega, fun i l hl => ?_⟩
 rw [List.getElem?_drop] at hl
 obtain ⟨b0, o0, Al, cl, ha, h1, h2, h3⟩ := h.2 (1 + i) l hl
 simp only [Option.some.injEq, Addr.mk.injEq, and_true] at ha
 obtain ⟨rfl, rfl⟩ := ha
 exact ⟨b, o + 1, Al, cl, rfl, by rw [show o + 1 + i = o + (1 + i) from by omega]; exact h1, h2, h3⟩
theorem RdL.mod {F : Nat → Prop} {w w' : World} {A : Option Addr} {ll : List (List Int)} (h : RdL w A ll) (k : Mod F w w') (hA : 0 < ll.length → ∀ b, blk A = some b → ¬ F b) (hl : ∀ (i : Nat) (l : List Int) (b o : Nat) (Al : Option Addr) (cl : Nat), ll[i]? = some l → A = some ⟨b, o, none⟩ → w.cell? ⟨b, o + i, none⟩ = some (.slice Al l.length cl) → ∀ x, blk Al = some x → ¬ F x) : RdL w' A ll := by
 refine ⟨h.1, fun i l hi => ?_⟩
 obtain ⟨b, o, Al, cl, ha, h1, h2, h3⟩ := h.2 i l hi
 have hil := (List.getElem?_eq_some_iff.1 hi).1
 exact ⟨b, o, Al, cl, ha, k.cellE h1 (hA (by omega) b (by rw [ha]; rfl)), h2.mod k (fun x hx => hl i l b o Al cl hi ha h1 x hx), h3⟩
/-- what stays readable whatever the reader and the results' boxes become -/
def EF (_R L : Nat) (A : Option Addr) (g : Sg.Graph) (Av : Option Addr) (v : List Int) (Ar : Option Addr) (r : List (List Int)) (W : World) : Prop :=
 ∀ W', Mod (fun b => b < L + 2) W W' → RdN W' A g ∧ Rd W' 1 Av v.length (ints v) ∧ RdL W' Ar r
def Eagered (R m : Nat) (w : World) (e : Ending) (w' : World) : Prop := ∃ (g : Sg.Graph) (A : Option Addr) (c : Nat) (v : List Int) (Av : Option Addr) (cv : Nat) (r : List (List Int)) (Ar : Option Addr) (cr : Nat),
 e = .returned (.tuple #[.agg #[.slice A g.length c], .agg #[.slice Av v.length cv, .slice Ar r.length cr]]) ∧ 2 ≤ g.length ∧ g.length ≤ 10 ∧ v.length ≤ 11 ∧ r.length ≤ 10 ∧
 (∀ W, Mod (fun b => b ≤ R ∨ b < w.heap.size) w' W → RdN W A g ∧ Rd W 1 Av v.length (ints v) ∧ RdL W Ar r) ∧ Rdr w' R (m + 1600) ∧ Mod (fun b => b = R) w w'
theorem nilsOwn {w : World} {B b n : Nat} (h : Own w B 26 1 (some ⟨b, 0, none⟩) n n (List.replicate n (.slice none 0 0))) : OwnL w B (some ⟨b, 0, none⟩) n (List.replicate n []) (List.replicate n (none, 0)) := by
 have hd : ∀ k : Nat, dcells (listIts (List.replicate k [])) (List.replicate k (none, 0)) = List.replicate k (.slice none 0 0) := by
  intro k
  induction k with
  | zero => rfl
  | succ k ih => simp only [List.replicate_succ, listIts, List.map_cons, dcells] at ih ⊢; rw [ih]; rfl
 refine ⟨by simp, ?_, ?_, ?_, ?_⟩
 ·rw [hd]; simpa using h
 ·intro i it x hi hx
  have hx2 := List.eq_of_mem_replicate (List.mem_of_getElem? hx)
  subst hx2
  unfold listIts at hi
  have hi2 := List.mem_of_getElem? hi
  rw [List.mem_map] at hi2
  obtain ⟨l, hl, rfl⟩ := hi2
  obtain rfl := List.eq_of_mem_replicate hl
  exact Own.nil _ _ _ _
 ·intro i j x y _ hx _ b hb
  have hx2 := List.eq_of_mem_replicate (List.mem_of_getElem? hx)
  subst hx2
  simp [blk] at hb
 ·intro i x hx b _ hb
  have hx2 := List.eq_of_mem_replicate (List.mem_of_getElem? hx)
  subst hx2
  simp [blk] at hb
theorem EF.fin {R L : Nat} {A Av Ar : Option Addr} {g : Sg.Graph} {v : List Int} {r : List (List Int)} {W W' : World} (_hR : R < L) (h : EF R L A g Av v Ar r W) (hm : Mod (fun b => b = L ∨ b = L + 1) W W') : ∀ X, Mod (fun b => b ≤ R ∨ b < L) W' X → RdN X A g ∧ Rd X 1 Av v.length (ints v) ∧ RdL X Ar r :=
 fun X hX => h X ((hm.mono (F' := fun b => b < L + 2) (fun b _ e => by omega)).tr' (hX.mono (fun b _ e => by omega)))
theorem EF.own {R L cr : Nat} {A Av Ar : Option Addr} {g : Sg.Graph} {hs hs2 : List (Option Addr × Nat)} {v : List Int} {r : List (List Int)} {W : World} {c cv : Nat} (_hR : R < L) (hK : GOK (L + 2) R A c g hs W) (hv : Own W (L + 2) 3 1 Av v.length cv (ints v)) (hr : OwnL W (L + 2) Ar cr r hs2) (hrl : r.length ≤ 1048576) (hrr : ∀ l ∈ r, l.length ≤ 1048576) : EF R L A g Av v Ar r W :=
 fun W' hm => ⟨(hK.mod hm (fun b e => by omega)).rd, (hv.mod hm (fun b hb e => by have := (hv.lt hb).1; omega)).rd, OwnL.rdL (OwnD.mod hr hm (fun b hb e => by have := (hr.lt hb).1; omega)) hrl hrr⟩

set_option maxRecDepth 100000 in
set_option maxHeartbeats 16000000 in
theorem s_eagerOf (R m : Nat) (w : World) (h : Rdr w R m) (hm : m ≤ 500000) :
  Calls Tryz.prog 96 #[.pointer (some ⟨R, 0, none⟩)] w (Eagered R m w) := by
 have hRl := h.lt
 have E0 : Ext w (World.alloc (World.alloc w (.cells #[.slice none 0 0] 25)) (.cells #[.slice none 0 0, .slice none 0 0] 63)) := ((Ext.rfl' w).al _).al _
 have H0 := lh (h.ext E0)
 have M0 := lh (Mod.of (F := fun b => b = R) E0)
 have b0 := (Bx.new w #[.slice none 0 0] 25).al (.cells #[.slice none 0 0, .slice none 0 0] 63)
 have B0 := lh b0
 have d0 := Bx.new (World.alloc w (.cells #[.slice none 0 0] 25)) #[.slice none 0 0, .slice none 0 0] 63
 simp only [World.size_alloc] at d0
 have D0 := lh d0
 clear h E0 b0 d0
 go_enter Tryz.func96, Tryz.ntmps96
 go_wp2_with fail
 refine (s_graphOf R m _ H0.out (by omega)).mono ?_
 rintro e w1 ⟨g, A, c, hs, cl, Ac, cc, rfl, hk1, ho1, hl1, hl2, hdj, hr1, hm1⟩
 have hsz1 := hm1.size
 simp only [World.size_alloc] at hsz1
 have M1 := lh ((M0.out.tr' hm1).al (.cells #[.slice A g.length c] 25))
 have B1 := lh ((B0.out.mod hm1 (by omega)).al (.cells #[.slice A g.length c] 25))
 have D1 := lh ((D0.out.mod hm1 (by omega)).al (.cells #[.slice A g.length c] 25))
 have K1 := lh ((hk1.mono (B' := w.heap.size + 2) (by simp)).ext ((Ext.rfl' w1).al (.cells #[.slice A g.length c] 25)))
 have O1 := lh ((ho1.mono (B' := w.heap.size + 2) (by simp)).al (.cells #[.slice A g.length c] 25))
 have R1 := lh (hr1.ext ((Ext.rfl' w1).al (.cells #[.slice A g.length c] 25)))
 have hlo := hk1.lo
 have hhi := hk1.hi
 have q1 : World.cell? (World.alloc w1 (.cells #[.slice A g.length c] 25)) ⟨w1.heap.size, 0, none⟩ = some (.slice A g.length c) := by simp [go_sem]
 have KB := lh (show ∀ b, fpD A hs b → b < w1.heap.size from fun b hb => (hk1.own.lt hb).2)
 have HVG := lh (s_validGraph A c g)
 have HVC := lh (s_validCells A Ac c cc g cl)
 clear hk1 ho1 hr1 hm1 M0 B0 D0 H0 hdj
 go_upto_region 2 with fail
 generalize hWW : World.alloc w1 (.cells #[.slice A g.length c] 25) = W1 at *
 have hWs : w1.heap.size < W1.heap.size := by rw [← hWW]; simp
 clear hWW
 have b1 := blt q1
 cases hV : (Sg.validG g && Sg.validC g cl)
 ·cases hG : Sg.validG g
  ·have HG := lh hG
   clear hV hG
   go_wp2_with fail
   refine (HVG.out _ K1.out.rd).mono ?_
   rintro e w2 ⟨rfl, he2⟩
   rw [HG.out]
   have M2 := lh (M1.out.tr' (Mod.of he2))
   have B2 := lh (B1.out.ext he2)
   have D2 := lh (D1.out.ext he2)
   have K2 := lh (K1.out.ext he2)
   have O2 := lh (O1.out.ext he2)
   have R2 := lh (R1.out.ext he2)
   have q2 := he2.cellE q1
   have b2 := blt q2
   have hs2 := he2.size
   clear he2 q1 b1 M1 B1 D1 K1 O1 R1
   obtain ⟨w3, rfl⟩ : ∃ w3 : World, w3 = w2 := ⟨_, rfl⟩
   have M3 := M2
   have B3 := B2
   have D3 := D2
   have K3 := K2
   have O3 := O2
   have R3 := R2
   have q3 := q2
   have b3 := b2
   have hs3 := Nat.le_refl w3.heap.size
   clear q2 b2 M2 B2 D2 K2 O2 R2
   have dr3 : Ext w3 (World.drew w3) := (Ext.rfl' _).dr
   have BD := lh (B3.out.ext dr3)
   have DD := lh (D3.out.ext dr3)
   have f0 := BD.out.free 0
   have x0 := BD.out.cell (j := 0) rfl
   have bl := DD.out.lt
   clear dr3
   go_wp2_with fail
   refine wp_region_held_drew (S := (fun W => W.cell? ⟨w1.heap.size, 0, none⟩ = some (.slice A g.length c))) (by kernel_rfl) ?_ (fun hHeld => ?_)
   ·exact ((Ext.rfl' _).dr).cellE q3
   refine ty 0 ?_
   refine ty 1 ?_
   refine ty 2 ?_
   refine ty 3 ?_
   refine ty 4 ?_
   refine wpAnyH_ready (rs := [5, 7]) (by kernel_rfl) (by simp) ?_
   refine AllReadyH.cons rfl (fun K hK => ?_) ?_
   ·refine held_mkb rfl rfl eiInts (B := w.heap.size + 2) rfl rfl (by omega) (by omega) (by first | (simp; omega) | (simp only [World.size_setCell]; simp; omega)) ?_
    intro nb wm hnb hmk hme
    rw [made_one _ _ rfl] at hmk
    have HMK := lh hmk
    have HNB := lh hnb
    clear hmk hnb
    have fm := hme
    have qm := hme.cellE (((Ext.rfl' _).dr).cellE q3)
    have BM := lh (BD.out.ext hme)
    have DM := lh (DD.out.ext hme)
    have fb := BM.out.free 0
    have xb := BM.out.cell (j := 0) rfl
    have bb := BM.out.lt
    have g0 := DM.out.free 0
    have g1 := DM.out.free 1
    have y0 := DM.out.cell (j := 0) rfl
    have y1 := DM.out.cell (j := 1) rfl
    have bm := DM.out.lt
    have RM := lh (R3.out.ext (((Ext.rfl' _).dr).tr hme))
    have MM := lh (M3.out.tr' (Mod.of (((Ext.rfl' _).dr).tr hme)))
    have KM := lh (K3.out.ext (((Ext.rfl' _).dr).tr hme))
    have OM := lh (O3.out.ext (((Ext.rfl' _).dr).tr hme))
    try simp only [pg]
    refine hK.out _ _ (by exact qm) fun hh2 => ?_; clear hK K hHeld; have hHeld := hh2; clear hh2
    try simp only [Act.put, pu]
    refine ty 6 ?_
    refine rd1 7 rfl fun K hK => ?_
    go_simp
    try simp only [pg]
    refine hK.out _ _ (by exact (co).trans qm) fun hh2 => ?_; clear hK K hHeld; have hHeld := hh2; clear hh2
    try simp only [Act.put]
    refine rd1 8 rfl fun K hK => ?_
    go_simp
    try simp only [pg]
    refine hK.out _ _ (by exact (co).trans ((co).trans ((co).trans qm))) fun hh2 => ?_; clear hK K hHeld; have hHeld := hh2; clear hh2
    try simp only [Act.put]
    refine dn ?_
    have HEF := lh (EF.own (R := R) (L := w.heap.size) hRl KM.out OM.out (show OwnL wm (w.heap.size + 2) (some ⟨nb, 0, none⟩) g.length (List.replicate g.length []) (List.replicate g.length (none, 0)) from nilsOwn HMK.out) (by simp; omega) (by intro l hl; rw [List.eq_of_mem_replicate hl]; simp))
    have hvl9 : cl.length ≤ 11 := hl2
    have hrl9 : (List.replicate g.length ([] : List Int)).length ≤ 10 := by simp; omega
    have hRP : (List.replicate g.length ([] : List Int)).length = g.length := by simp
    have HRP := lh hRP
    clear hRP
    go_wp2
    have hS := lh (Mod.set (F := fun b => b = w.heap.size ∨ b = w.heap.size + 1) (Mod.set (F := fun b => b = w.heap.size ∨ b = w.heap.size + 1) (Mod.set (F := fun b => b = w.heap.size ∨ b = w.heap.size + 1) (Mod.rfl' (fun b => b = w.heap.size ∨ b = w.heap.size + 1) wm) (p := ⟨w.heap.size, 0, none⟩) (.inl (.inl rfl)) (.slice A g.length c)) (p := ⟨w.heap.size + 1, 0, none⟩) (.inl (.inr rfl)) (.slice Ac cl.length cc)) (p := ⟨w.heap.size + 1, 1, none⟩) (.inl (.inr rfl)) (.slice (some ⟨nb, 0, none⟩) (List.replicate g.length ([] : List Int)).length g.length))
    have s0 : ∀ u0 u1 u2 : Value, World.cell? (World.setCell (World.setCell (World.setCell wm ⟨w.heap.size, 0, none⟩ u0) ⟨w.heap.size + 1, 0, none⟩ u1) ⟨w.heap.size + 1, 1, none⟩ u2) ⟨w.heap.size, 0, none⟩ = some u0 := fun u0 u1 u2 => (((BM.out.set 0 u0).oth (show w.heap.size + 1 ≠ w.heap.size by omega) u1).oth (show w.heap.size + 1 ≠ w.heap.size by omega) u2).cell (j := 0) rfl
    have s1 : ∀ u0 u1 u2 : Value, World.cell? (World.setCell (World.setCell (World.setCell wm ⟨w.heap.size, 0, none⟩ u0) ⟨w.heap.size + 1, 0, none⟩ u1) ⟨w.heap.size + 1, 1, none⟩ u2) ⟨w.heap.size + 1, 0, none⟩ = some u1 := fun u0 u1 u2 => (((DM.out.oth (show w.heap.size ≠ w.heap.size + 1 by omega) u0).set 0 u1).set 1 u2).cell (j := 0) rfl
    have s2 : ∀ u0 u1 u2 : Value, World.cell? (World.setCell (World.setCell (World.setCell wm ⟨w.heap.size, 0, none⟩ u0) ⟨w.heap.size + 1, 0, none⟩ u1) ⟨w.heap.size + 1, 1, none⟩ u2) ⟨w.heap.size + 1, 1, none⟩ = some u2 := fun u0 u1 u2 => (((DM.out.oth (show w.heap.size ≠ w.heap.size + 1 by omega) u0).set 0 u1).set 1 u2).cell (j := 1) rfl
    refine bodyPost_ret (v := .tuple #[.agg #[.slice A g.length c], .agg #[.slice Ac cl.length cc, .slice (some ⟨nb, 0, none⟩) (List.replicate g.length ([] : List Int)).length g.length]]) (by simp [results, Tryz.results96, go_sem, s0, s1, s2]; try rfl) rfl ?_
    try simp only [List.length_set, List.length_drop] at hS
    rw [List.length_replicate] at hS
    exact ⟨g, A, c, cl, Ac, cc, (List.replicate g.length ([] : List Int)), (some ⟨nb, 0, none⟩), g.length, rfl, hlo, hhi, hvl9, hrl9, EF.fin hRl HEF.out hS.out, (RM.out.mod hS.out (fun b e => by omega)).more (by omega), MM.out.tr hS.out (fun b e => .inr (by omega))⟩
   refine AllReadyH.cons rfl (fun K hK => ?_) ?_
   ·go_simp
    try simp only [pg]
    refine hK.out _ _ (by exact (co).trans (((Ext.rfl' _).dr).cellE q3)) fun hh2 => ?_; clear hK K hHeld; have hHeld := hh2; clear hh2
    try simp only [Act.put]
    refine rd1 5 rfl fun K hK => ?_
    refine held_mkb rfl rfl eiInts (B := w.heap.size + 2) rfl rfl (by omega) (by omega) (by first | (simp; omega) | (simp only [World.size_setCell]; simp; omega)) ?_
    intro nb wm hnb hmk hme
    rw [made_one _ _ rfl] at hmk
    have HMK := lh hmk
    have HNB := lh hnb
    clear hmk hnb
    have qm := hme.cellE ((co).trans (((Ext.rfl' _).dr).cellE q3))
    have hS0 := lh (Mod.set (F := fun b => b = w.heap.size) (Mod.rfl' (fun b => b = w.heap.size) (World.drew w3)) (p := ⟨w.heap.size, 0, none⟩) (.inl rfl) (.slice A g.length c))
    have BM := lh ((BD.out.set 0 (.slice A g.length c)).ext hme)
    have DM := lh ((DD.out.oth (show w.heap.size ≠ w.heap.size + 1 by omega) _).ext hme)
    have g0 := DM.out.free 0
    have g1 := DM.out.free 1
    have y0 := DM.out.cell (j := 0) rfl
    have y1 := DM.out.cell (j := 1) rfl
    have bm := DM.out.lt
    have RM := lh (((R3.out.ext ((Ext.rfl' _).dr)).mod hS0.out (fun b e => by omega)).ext hme)
    have MM := lh (((M3.out.tr' (Mod.of ((Ext.rfl' _).dr))).tr hS0.out (fun b e => .inr (by omega))).tr' (Mod.of hme))
    have KM := lh (((K3.out.ext ((Ext.rfl' _).dr)).mod hS0.out (fun b e => by omega)).ext hme)
    have OM := lh (((O3.out.ext ((Ext.rfl' _).dr)).mod hS0.out (fun b hb e => by have := (O3.out.lt hb).1; omega)).ext hme)
    try simp only [pg]
    refine hK.out _ _ (by exact qm) fun hh2 => ?_; clear hK K hHeld; have hHeld := hh2; clear hh2
    try simp only [Act.put, pu]
    refine ty 6 ?_
    refine rd1 8 rfl fun K hK => ?_
    go_simp
    try simp only [pg]
    refine hK.out _ _ (by exact (co).trans ((co).trans qm)) fun hh2 => ?_; clear hK K hHeld; have hHeld := hh2; clear hh2
    try simp only [Act.put]
    refine dn ?_
    have HEF := lh (EF.own (R := R) (L := w.heap.size) hRl KM.out OM.out (show OwnL wm (w.heap.size + 2) (some ⟨nb, 0, none⟩) g.length (List.replicate g.length []) (List.replicate g.length (none, 0)) from nilsOwn HMK.out) (by simp; omega) (by intro l hl; rw [List.eq_of_mem_replicate hl]; simp))
    have hvl9 : cl.length ≤ 11 := hl2
    have hrl9 : (List.replicate g.length ([] : List Int)).length ≤ 10 := by simp; omega
    have hRP : (List.replicate g.length ([] : List Int)).length = g.length := by simp
    have HRP := lh hRP
    clear hRP
    go_wp2
    have hS := lh (Mod.set (F := fun b => b = w.heap.size ∨ b = w.heap.size + 1) (Mod.set (F := fun b => b = w.heap.size ∨ b = w.heap.size + 1) (Mod.rfl' (fun b => b = w.heap.size ∨ b = w.heap.size + 1) wm) (p := ⟨w.heap.size + 1, 0, none⟩) (.inl (.inr rfl)) (.slice Ac cl.length cc)) (p := ⟨w.heap.size + 1, 1, none⟩) (.inl (.inr rfl)) (.slice (some ⟨nb, 0, none⟩) (List.replicate g.length ([] : List Int)).length g.length))
    have s0 : ∀ u1 u2 : Value, World.cell? (World.setCell (World.setCell wm ⟨w.heap.size + 1, 0, none⟩ u1) ⟨w.heap.size + 1, 1, none⟩ u2) ⟨w.heap.size, 0, none⟩ = some (.slice A g.length c) := fun u1 u2 => ((BM.out.oth (show w.heap.size + 1 ≠ w.heap.size by omega) u1).oth (show w.heap.size + 1 ≠ w.heap.size by omega) u2).cell (j := 0) rfl
    have s1 : ∀ u1 u2 : Value, World.cell? (World.setCell (World.setCell wm ⟨w.heap.size + 1, 0, none⟩ u1) ⟨w.heap.size + 1, 1, none⟩ u2) ⟨w.heap.size + 1, 0, none⟩ = some u1 := fun u1 u2 => ((DM.out.set 0 u1).set 1 u2).cell (j := 0) rfl
    have s2 : ∀ u1 u2 : Value, World.cell? (World.setCell (World.setCell wm ⟨w.heap.size + 1, 0, none⟩ u1) ⟨w.heap.size + 1, 1, none⟩ u2) ⟨w.heap.size + 1, 1, none⟩ = some u2 := fun u1 u2 => ((DM.out.set 0 u1).set 1 u2).cell (j := 1) rfl
    refine bodyPost_ret (v := .tuple #[.agg #[.slice A g.length c], .agg #[.slice Ac cl.length cc, .slice (some ⟨nb, 0, none⟩) (List.replicate g.length ([] : List Int)).length g.length]]) (by simp [results, Tryz.results96, go_sem, s0, s1, s2]; try rfl) rfl ?_
    rw [List.length_replicate] at hS
    exact ⟨g, A, c, cl, Ac, cc, (List.replicate g.length ([] : List Int)), (some ⟨nb, 0, none⟩), g.length, rfl, hlo, hhi, hvl9, hrl9, EF.fin hRl HEF.out hS.out, (RM.out.mod hS.out (fun b e => by omega)).more (by omega), MM.out.tr hS.out (fun b e => .inr (by omega))⟩
   exact AllReadyH.nil
  ·have HG := lh hG
   have HC := lh (show Sg.validC g cl = false by rw [hG] at hV; simpa using hV)
   clear hV hG
   go_wp2_with fail
   refine (HVG.out _ K1.out.rd).mono ?_
   rintro e w2 ⟨rfl, he2⟩
   rw [HG.out]
   have M2 := lh (M1.out.tr' (Mod.of he2))
   have B2 := lh (B1.out.ext he2)
   have D2 := lh (D1.out.ext he2)
   have K2 := lh (K1.out.ext he2)
   have O2 := lh (O1.out.ext he2)
   have R2 := lh (R1.out.ext he2)
   have q2 := he2.cellE q1
   have b2 := blt q2
   have hs2 := he2.size
   clear he2 q1 b1 M1 B1 D1 K1 O1 R1
   go_wp2_with fail
   refine (HVC.out _ K2.out.rd O2.out.rd).mono ?_
   rintro e w3 ⟨rfl, he3⟩
   rw [HC.out]
   have M3 := lh (M2.out.tr' (Mod.of he3))
   have B3 := lh (B2.out.ext he3)
   have D3 := lh (D2.out.ext he3)
   have K3 := lh (K2.out.ext he3)
   have O3 := lh (O2.out.ext he3)
   have R3 := lh (R2.out.ext he3)
   have q3 := he3.cellE q2
   have b3 := blt q3
   have hs3 := he3.size
   clear he3 q2 b2 M2 B2 D2 K2 O2 R2
   have dr3 : Ext w3 (World.drew w3) := (Ext.rfl' _).dr
   have BD := lh (B3.out.ext dr3)
   have DD := lh (D3.out.ext dr3)
   have f0 := BD.out.free 0
   have x0 := BD.out.cell (j := 0) rfl
   have bl := DD.out.lt
   clear dr3
   go_wp2_with fail
   refine wp_region_held_drew (S := (fun W => W.cell? ⟨w1.heap.size, 0, none⟩ = some (.slice A g.length c))) (by kernel_rfl) ?_ (fun hHeld => ?_)
   ·exact ((Ext.rfl' _).dr).cellE q3
   refine ty 0 ?_
   refine ty 1 ?_
   refine ty 2 ?_
   refine ty 3 ?_
   refine ty 4 ?_
   refine wpAnyH_ready (rs := [5, 7]) (by kernel_rfl) (by simp) ?_
   refine AllReadyH.cons rfl (fun K hK => ?_) ?_
   ·refine held_mkb rfl rfl eiInts (B := w.heap.size + 2) rfl rfl (by omega) (by omega) (by first | (simp; omega) | (simp only [World.size_setCell]; simp; omega)) ?_
    intro nb wm hnb hmk hme
    rw [made_one _ _ rfl] at hmk
    have HMK := lh hmk
    have HNB := lh hnb
    clear hmk hnb
    have fm := hme
    have qm := hme.cellE (((Ext.rfl' _).dr).cellE q3)
    have BM := lh (BD.out.ext hme)
    have DM := lh (DD.out.ext hme)
    have fb := BM.out.free 0
    have xb := BM.out.cell (j := 0) rfl
    have bb := BM.out.lt
    have g0 := DM.out.free 0
    have g1 := DM.out.free 1
    have y0 := DM.out.cell (j := 0) rfl
    have y1 := DM.out.cell (j := 1) rfl
    have bm := DM.out.lt
    have RM := lh (R3.out.ext (((Ext.rfl' _).dr).tr hme))
    have MM := lh (M3.out.tr' (Mod.of (((Ext.rfl' _).dr).tr hme)))
    have KM := lh (K3.out.ext (((Ext.rfl' _).dr).tr hme))
    have OM := lh (O3.out.ext (((Ext.rfl' _).dr).tr hme))
    try simp only [pg]
    refine hK.out _ _ (by exact qm) fun hh2 => ?_; clear hK K hHeld; have hHeld := hh2; clear hh2
    try simp only [Act.put, pu]
    refine ty 6 ?_
    refine rd1 7 rfl fun K hK => ?_
    go_simp
    try simp only [pg]
    refine hK.out _ _ (by exact (co).trans qm) fun hh2 => ?_; clear hK K hHeld; have hHeld := hh2; clear hh2
    try simp only [Act.put]
    refine rd1 8 rfl fun K hK => ?_
    go_simp
    try simp only [pg]
    refine hK.out _ _ (by exact (co).trans ((co).trans ((co).trans qm))) fun hh2 => ?_; clear hK K hHeld; have hHeld := hh2; clear hh2
    try simp only [Act.put]
    refine dn ?_
    have HEF := lh (EF.own (R := R) (L := w.heap.size) hRl KM.out OM.out (show OwnL wm (w.heap.size + 2) (some ⟨nb, 0, none⟩) g.length (List.replicate g.length []) (List.replicate g.length (none, 0)) from nilsOwn HMK.out) (by simp; omega) (by intro l hl; rw [List.eq_of_mem_replicate hl]; simp))
    have hvl9 : cl.length ≤ 11 := hl2
    have hrl9 : (List.replicate g.length ([] : List Int)).length ≤ 10 := by simp; omega
    have hRP : (List.replicate g.length ([] : List Int)).length = g.length := by simp
    have HRP := lh hRP
    clear hRP
    go_wp2
    have hS := lh (Mod.set (F := fun b => b = w.heap.size ∨ b = w.heap.size + 1) (Mod.set (F := fun b => b = w.heap.size ∨ b = w.heap.size + 1) (Mod.set (F := fun b => b = w.heap.size ∨ b = w.heap.size + 1) (Mod.rfl' (fun b => b = w.heap.size ∨ b = w.heap.size + 1) wm) (p := ⟨w.heap.size, 0, none⟩) (.inl (.inl rfl)) (.slice A g.length c)) (p := ⟨w.heap.size + 1, 0, none⟩) (.inl (.inr rfl)) (.slice Ac cl.length cc)) (p := ⟨w.heap.size + 1, 1, none⟩) (.inl (.inr rfl)) (.slice (some ⟨nb, 0, none⟩) (List.replicate g.length ([] : List Int)).length g.length))
    have s0 : ∀ u0 u1 u2 : Value, World.cell? (World.setCell (World.setCell (World.setCell wm ⟨w.heap.size, 0, none⟩ u0) ⟨w.heap.size + 1, 0, none⟩ u1) ⟨w.heap.size + 1, 1, none⟩ u2) ⟨w.heap.size, 0, none⟩ = some u0 := fun u0 u1 u2 => (((BM.out.set 0 u0).oth (show w.heap.size + 1 ≠ w.heap.size by omega) u1).oth (show w.heap.size + 1 ≠ w.heap.size by omega) u2).cell (j := 0) rfl
    have s1 : ∀ u0 u1 u2 : Value, World.cell? (World.setCell (World.setCell (World.setCell wm ⟨w.heap.size, 0, none⟩ u0) ⟨w.heap.size + 1, 0, none⟩ u1) ⟨w.heap.size + 1, 1, none⟩ u2) ⟨w.heap.size + 1, 0, none⟩ = some u1 := fun u0 u1 u2 => (((DM.out.oth (show w.heap.size ≠ w.heap.size + 1 by omega) u0).set 0 u1).set 1 u2).cell (j := 0) rfl
    have s2 : ∀ u0 u1 u2 : Value, World.cell? (World.setCell (World.setCell (World.setCell wm ⟨w.heap.size, 0, none⟩ u0) ⟨w.heap.size + 1, 0, none⟩ u1) ⟨w.heap.size + 1, 1, none⟩ u2) ⟨w.heap.size + 1, 1, none⟩ = some u2 := fun u0 u1 u2 => (((DM.out.oth (show w.heap.size ≠ w.heap.size + 1 by omega) u0).set 0 u1).set 1 u2).cell (j := 1) rfl
    refine bodyPost_ret (v := .tuple #[.agg #[.slice A g.length c], .agg #[.slice Ac cl.length cc, .slice (some ⟨nb, 0, none⟩) (List.replicate g.length ([] : List Int)).length g.length]]) (by simp [results, Tryz.results96, go_sem, s0, s1, s2]; try rfl) rfl ?_
    try simp only [List.length_set, List.length_drop] at hS
    rw [List.length_replicate] at hS
    exact ⟨g, A, c, cl, Ac, cc, (List.replicate g.length ([] : List Int)), (some ⟨nb, 0, none⟩), g.length, rfl, hlo, hhi, hvl9, hrl9, EF.fin hRl HEF.out hS.out, (RM.out.mod hS.out (fun b e => by omega)).more (by omega), MM.out.tr hS.out (fun b e => .inr (by omega))⟩
   refine AllReadyH.cons rfl (fun K hK => ?_) ?_
   ·go_simp
    try simp only [pg]
    refine hK.out _ _ (by exact (co).trans (((Ext.rfl' _).dr).cellE q3)) fun hh2 => ?_; clear hK K hHeld; have hHeld := hh2; clear hh2
    try simp only [Act.put]
    refine rd1 5 rfl fun K hK => ?_
    refine held_mkb rfl rfl eiInts (B := w.heap.size + 2) rfl rfl (by omega) (by omega) (by first | (simp; omega) | (simp only [World.size_setCell]; simp; omega)) ?_
    intro nb wm hnb hmk hme
    rw [made_one _ _ rfl] at hmk
    have HMK := lh hmk
    have HNB := lh hnb
    clear hmk hnb
    have qm := hme.cellE ((co).trans (((Ext.rfl' _).dr).cellE q3))
    have hS0 := lh (Mod.set (F := fun b => b = w.heap.size) (Mod.rfl' (fun b => b = w.heap.size) (World.drew w3)) (p := ⟨w.heap.size, 0, none⟩) (.inl rfl) (.slice A g.length c))
    have BM := lh ((BD.out.set 0 (.slice A g.length c)).ext hme)
    have DM := lh ((DD.out.oth (show w.heap.size ≠ w.heap.size + 1 by omega) _).ext hme)
    have g0 := DM.out.free 0
    have g1 := DM.out.free 1
    have y0 := DM.out.cell (j := 0) rfl
    have y1 := DM.out.cell (j := 1) rfl
    have bm := DM.out.lt
    have RM := lh (((R3.out.ext ((Ext.rfl' _).dr)).mod hS0.out (fun b e => by omega)).ext hme)
    have MM := lh (((M3.out.tr' (Mod.of ((Ext.rfl' _).dr))).tr hS0.out (fun b e => .inr (by omega))).tr' (Mod.of hme))
    have KM := lh (((K3.out.ext ((Ext.rfl' _).dr)).mod hS0.out (fun b e => by omega)).ext hme)
    have OM := lh (((O3.out.ext ((Ext.rfl' _).dr)).mod hS0.out (fun b hb e => by have := (O3.out.lt hb).1; omega)).ext hme)
    try simp only [pg]
    refine hK.out _ _ (by exact qm) fun hh2 => ?_; clear hK K hHeld; have hHeld := hh2; clear hh2
    try simp only [Act.put, pu]
    refine ty 6 ?_
    refine rd1 8 rfl fun K hK => ?_
    go_simp
    try simp only [pg]
    refine hK.out _ _ (by exact (co).trans ((co).trans qm)) fun hh2 => ?_; clear hK K hHeld; have hHeld := hh2; clear hh2
    try simp only [Act.put]
    refine dn ?_
    have HEF := lh (EF.own (R := R) (L := w.heap.size) hRl KM.out OM.out (show OwnL wm (w.heap.size + 2) (some ⟨nb, 0, none⟩) g.length (List.replicate g.length []) (List.replicate g.length (none, 0)) from nilsOwn HMK.out) (by simp; omega) (by intro l hl; rw [List.eq_of_mem_replicate hl]; simp))
    have hvl9 : cl.length ≤ 11 := hl2
    have hrl9 : (List.replicate g.length ([] : List Int)).length ≤ 10 := by simp; omega
    have hRP : (List.replicate g.length ([] : List Int)).length = g.length := by simp
    have HRP := lh hRP
    clear hRP
    go_wp2
    have hS := lh (Mod.set (F := fun b => b = w.heap.size ∨ b = w.heap.size + 1) (Mod.set (F := fun b => b = w.heap.size ∨ b = w.heap.size + 1) (Mod.rfl' (fun b => b = w.heap.size ∨ b = w.heap.size + 1) wm) (p := ⟨w.heap.size + 1, 0, none⟩) (.inl (.inr rfl)) (.slice Ac cl.length cc)) (p := ⟨w.heap.size + 1, 1, none⟩) (.inl (.inr rfl)) (.slice (some ⟨nb, 0, none⟩) (List.replicate g.length ([] : List Int)).length g.length))
    have s0 : ∀ u1 u2 : Value, World.cell? (World.setCell (World.setCell wm ⟨w.heap.size + 1, 0, none⟩ u1) ⟨w.heap.size + 1, 1, none⟩ u2) ⟨w.heap.size, 0, none⟩ = some (.slice A g.length c) := fun u1 u2 => ((BM.out.oth (show w.heap.size + 1 ≠ w.heap.size by omega) u1).oth (show w.heap.size + 1 ≠ w.heap.size by omega) u2).cell (j := 0) rfl
    have s1 : ∀ u1 u2 : Value, World.cell? (World.setCell (World.setCell wm ⟨w.heap.size + 1, 0, none⟩ u1) ⟨w.heap.size + 1, 1, none⟩ u2) ⟨w.heap.size + 1, 0, none⟩ = some u1 := fun u1 u2 => ((DM.out.set 0 u1).set 1 u2).cell (j := 0) rfl
    have s2 : ∀ u1 u2 : Value, World.cell? (World.setCell (World.setCell wm ⟨w.heap.size + 1, 0, none⟩ u1) ⟨w.heap.size + 1, 1, none⟩ u2) ⟨w.heap.size + 1, 1, none⟩ = some u2 := fun u1 u2 => ((DM.out.set 0 u1).set 1 u2).cell (j := 1) rfl
    refine bodyPost_ret (v := .tuple #[.agg #[.slice A g.length c], .agg #[.slice Ac cl.length cc, .slice (some ⟨nb, 0, none⟩) (List.replicate g.length ([] : List Int)).length g.length]]) (by simp [results, Tryz.results96, go_sem, s0, s1, s2]; try rfl) rfl ?_
    rw [List.length_replicate] at hS
    exact ⟨g, A, c, cl, Ac, cc, (List.replicate g.length ([] : List Int)), (some ⟨nb, 0, none⟩), g.length, rfl, hlo, hhi, hvl9, hrl9, EF.fin hRl HEF.out hS.out, (RM.out.mod hS.out (fun b e => by omega)).more (by omega), MM.out.tr hS.out (fun b e => .inr (by omega))⟩
   exact AllReadyH.nil
 ·have hG : Sg.validG g = true := by simp only [Bool.and_eq_true] at hV; exact hV.1
  have hC : Sg.validC g cl = true := by simp only [Bool.and_eq_true] at hV; exact hV.2
  have HSE := lh (fun w h hc => s_startEager A Ac c cc g cl w h hc hG hC)
  have HG := lh hG
  have HC := lh hC
  have hvl9 : (Sg.mean g cl).length = g.length := Sg.length_mean g cl
  have hrl9 : (Sg.depsTo g (Sg.mean g cl) g.length).length = g.length := by simp
  have HRB := lh (show ∀ l ∈ Sg.depsTo g (Sg.mean g cl) g.length, l.length ≤ 4096 from fun l hl => by unfold Sg.depsTo at hl; obtain ⟨i, hi, rfl⟩ := List.mem_map.1 hl; exact Sg.depAt_len hG _ (List.mem_range.1 hi))
  clear hV hG hC
  generalize hv0 : Sg.mean g cl = v at *
  generalize hr0 : Sg.depsTo g v g.length = r at *
  clear hv0 hr0
  go_wp2_with fail
  refine (HVG.out _ K1.out.rd).mono ?_
  rintro e w2 ⟨rfl, he2⟩
  rw [HG.out]
  have M2 := lh (M1.out.tr' (Mod.of he2))
  have B2 := lh (B1.out.ext he2)
  have D2 := lh (D1.out.ext he2)
  have K2 := lh (K1.out.ext he2)
  have O2 := lh (O1.out.ext he2)
  have R2 := lh (R1.out.ext he2)
  have q2 := he2.cellE q1
  have b2 := blt q2
  have hs2 := he2.size
  clear he2 q1 b1 M1 B1 D1 K1 O1 R1
  go_wp2_with fail
  refine (HVC.out _ K2.out.rd O2.out.rd).mono ?_
  rintro e w3 ⟨rfl, he3⟩
  rw [HC.out]
  have M3 := lh (M2.out.tr' (Mod.of he3))
  have B3 := lh (B2.out.ext he3)
  have D3 := lh (D2.out.ext he3)
  have K3 := lh (K2.out.ext he3)
  have O3 := lh (O2.out.ext he3)
  have R3 := lh (R2.out.ext he3)
  have q3 := he3.cellE q2
  have b3 := blt q3
  have hs3 := he3.size
  clear he3 q2 b2 M2 B2 D2 K2 O2 R2
  have HVL := lh hvl9
  have HRL := lh hrl9
  have hvl10 : v.length ≤ 10 := by omega
  have hrl10 : r.length ≤ 10 := by omega
  have hrlo : 2 ≤ r.length := by omega
  have hvlo : 2 ≤ v.length := by omega
  clear hvl9 hrl9
  have HSF := lh (show ∀ w, RdN w A g → Rd w 1 Ac cl.length (ints cl) → Calls Tryz.prog 133 #[.agg #[.slice A g.length c], .slice Ac cl.length cc] w fun e w' => ∃ A1 c1 A2 c2 hs, e = .returned (.agg #[.slice A1 v.length c1, .slice A2 r.length c2]) ∧ Own w' w.heap.size 3 1 A1 v.length c1 (ints v) ∧ OwnL w' w.heap.size A2 c2 r hs ∧ (∀ b, blk A1 = some b → ¬ fpD A2 hs b) ∧ Ext w w' from fun w h hc => by have := HSE.out w h hc; rw [HVL.out, HRL.out]; exact this)
  clear HSE
  go_wp2_with fail
  refine (HSF.out _ K3.out.rd O3.out.rd).mono ?_
  rintro e w4 ⟨A1, c1, A2, c2, hs4, rfl, hov, hor, hdv, he4⟩
  have hs4s := he4.size
  have M4 := lh ((M3.out.tr' (Mod.of he4)).al (.cells #[.slice A1 v.length c1, .slice A2 r.length c2] 63))
  have B4 := lh ((B3.out.ext he4).al (.cells #[.slice A1 v.length c1, .slice A2 r.length c2] 63))
  have D4 := lh ((D3.out.ext he4).al (.cells #[.slice A1 v.length c1, .slice A2 r.length c2] 63))
  have K4 := lh ((K3.out.ext he4).ext ((Ext.rfl' w4).al (.cells #[.slice A1 v.length c1, .slice A2 r.length c2] 63)))
  have R4 := lh ((R3.out.ext he4).ext ((Ext.rfl' w4).al (.cells #[.slice A1 v.length c1, .slice A2 r.length c2] 63)))
  have V4 := lh ((hov.mono (B' := w.heap.size + 2) (by omega)).al (.cells #[.slice A1 v.length c1, .slice A2 r.length c2] 63))
  have L4 := lh (OwnD.ext (OwnD.mono hor (B' := w.heap.size + 2) (by omega)) ((Ext.rfl' w4).al (.cells #[.slice A1 v.length c1, .slice A2 r.length c2] 63)))
  have DV := lh hdv
  have VL := lh (show (∀ b, blk A1 = some b → b < w4.heap.size) ∧ ∀ b, fpD A2 hs4 b → b < w4.heap.size from ⟨fun b hb => (hov.lt hb).2, fun b hb => (hor.lt hb).2⟩)
  have q4 := ((Ext.rfl' w4).al (.cells #[.slice A1 v.length c1, .slice A2 r.length c2] 63)).cellE (he4.cellE q3)
  have p0 : World.cell? (World.alloc w4 (.cells #[.slice A1 v.length c1, .slice A2 r.length c2] 63)) ⟨w4.heap.size, 0, none⟩ = some (.slice A1 v.length c1) := by simp [go_sem]
  have p1 : World.cell? (World.alloc w4 (.cells #[.slice A1 v.length c1, .slice A2 r.length c2] 63)) ⟨w4.heap.size, 1, none⟩ = some (.slice A2 r.length c2) := by simp [go_sem]
  have NV := lh (show (∀ b, blk A1 = some b → w1.heap.size < b) ∧ ∀ b, fpD A2 hs4 b → w1.heap.size < b from ⟨fun b hb => by have := (hov.lt hb).1; omega, fun b hb => by have := (hor.lt hb).1; omega⟩)
  have SB4 := lh (Bx.new w4 #[.slice A1 v.length c1, .slice A2 r.length c2] 63)
  clear hov hor hdv he4 q3 b3 M3 B3 D3 K3 R3 O3
  go_upto_region 5 with fail
  generalize hWW : World.alloc w4 (.cells #[.slice A1 v.length c1, .slice A2 r.length c2] 63) = W4 at *
  have hW4 : w4.heap.size < W4.heap.size := by rw [← hWW]; simp
  clear hWW
  have b4 := blt q4
  have b40 := blt p0
  go_wp2_with fail
  refine (s_pick R (m + 1500) (g.length : Int) _ R4.out (by omega) (by omega) (by omega)).mono ?_
  rintro e w5 ⟨x, rfl, hx0, hx1, hr5, hm5⟩
  obtain ⟨k, rfl⟩ := Int.eq_ofNat_of_zero_le hx0
  have hk : k < g.length := by omega
  have hkv : k < v.length := by rw [HVL.out]; exact hk
  have hkr : k < r.length := by rw [HRL.out]; exact hk
  have M5 := lh (M4.out.tr' hm5)
  have B5 := lh (B4.out.mod hm5 (by omega))
  have D5 := lh (D4.out.mod hm5 (by omega))
  have K5 := lh (K4.out.mod hm5 (fun b e => by omega))
  have R5 := lh (hr5)
  have V5 := lh (V4.out.mod hm5 (fun b hb e => by have := (V4.out.lt hb).1; omega))
  have L5 := lh (OwnD.mod L4.out hm5 (fun b hb e => by have := (OwnD.lt L4.out hb).1; omega))
  have SB5 := lh (SB4.out.mod hm5 (by omega))
  have q5 := hm5.cellE q4 (by omega)
  have p05 := hm5.cellE p0 (by omega)
  have p15 := hm5.cellE p1 (by omega)
  have hs5 := hm5.size
  clear hx0 hx1 hr5 hm5 SB4 M4 B4 D4 K4 R4 V4 L4 q4 p0 p1 b4 b40
  have b5 := blt q5
  have b50 := blt p05
  go_wp2_with fail
  refine (s_pick R (m + 1501) 24 _ R5.out (by omega) (by omega) (by omega)).mono ?_
  rintro e w6 ⟨x, rfl, hx0, hx1, hr6, hm6⟩
  have M6 := lh (M5.out.tr' hm6)
  have B6 := lh (B5.out.mod hm6 (by omega))
  have D6 := lh (D5.out.mod hm6 (by omega))
  have K6 := lh (K5.out.mod hm6 (fun b e => by omega))
  have R6 := lh (hr6)
  have V6 := lh (V5.out.mod hm6 (fun b hb e => by have := (V5.out.lt hb).1; omega))
  have L6 := lh (OwnD.mod L5.out hm6 (fun b hb e => by have := (OwnD.lt L5.out hb).1; omega))
  have SB6 := lh (SB5.out.mod hm6 (by omega))
  have q6 := hm6.cellE q5 (by omega)
  have p06 := hm6.cellE p05 (by omega)
  have p16 := hm6.cellE p15 (by omega)
  have hs6 := hm6.size
  clear hx0 hx1 hr6 hm6 SB5 M5 B5 D5 K5 R5 V5 L5 q5 p05 p15 b5 b50
  have b6 := blt q6
  have b60 := blt p06
  have hws6 : w4.heap.size < w6.heap.size := by omega
  by_cases h0 : x = 0
  ·have z1 : (x == 0) = true := by simp [h0]
   clear h0
   obtain ⟨bv, rfl, hbv⟩ := V6.out.at_ (by omega)
   go_upto_if 39 with fail
   go_wp2_with fail
   refine wp_region_held_drew (S := (fun W => W.cell? ⟨w4.heap.size, 0, none⟩ = some (.slice (some ⟨bv, 0, none⟩) v.length c1))) (by kernel_rfl) ?_ (fun hHeld => ?_)
   ·exact ((Ext.rfl' _).dr).cellE p06
   refine ty 0 ?_
   refine ty 1 ?_
   refine ty 2 ?_
   refine ty 3 ?_
   refine rd1 4 rfl fun K hK => ?_
   go_simp
   refine hK.out _ _ (by exact (((Ext.rfl' _).dr).al _).cellE p06) fun hh2 => ?_; clear hK K hHeld; have hHeld := hh2; clear hh2
   try simp only [Act.put, pu]
   refine rd1 5 rfl fun K hK => ?_
   go_simp
   have RL := (Own.new (World.drew w6) (B := 0) 3 1 #[.int .i64 (-1), .int .i64 1000, .int .i64 7] 3 (Nat.zero_le _) (by unfold maxLen; omega) rfl).rd
   refine (s_one R (m + 1502) _ 3 [-1, 1000, 7] _ (R6.out.ext (((Ext.rfl' w6).dr).al (.cells #[.int .i64 (-1), .int .i64 1000, .int .i64 7] 3))) RL (by simp) (by simp) (by intro y hy; simp [blk] at hy; have := R6.out.lt; omega) (by omega)).mono ?_
   rintro e w7 ⟨y, rfl, hy, hr7, hm7⟩
   have M7 := lh ((M6.out.tr' (Mod.of (((Ext.rfl' w6).dr).al (.cells #[.int .i64 (-1), .int .i64 1000, .int .i64 7] 3)))).tr' hm7)
   have B7 := lh ((B6.out.ext (((Ext.rfl' w6).dr).al (.cells #[.int .i64 (-1), .int .i64 1000, .int .i64 7] 3))).mod hm7 (by omega))
   have D7 := lh ((D6.out.ext (((Ext.rfl' w6).dr).al (.cells #[.int .i64 (-1), .int .i64 1000, .int .i64 7] 3))).mod hm7 (by omega))
   have K7 := lh ((K6.out.ext (((Ext.rfl' w6).dr).al (.cells #[.int .i64 (-1), .int .i64 1000, .int .i64 7] 3))).mod hm7 (fun b e => by omega))
   have R7 := lh (hr7)
   have V7 := lh ((V6.out.ext (((Ext.rfl' w6).dr).al (.cells #[.int .i64 (-1), .int .i64 1000, .int .i64 7] 3))).mod hm7 (fun b hb e => by have := (V6.out.lt hb).1; omega))
   have L7 := lh (OwnD.mod (OwnD.ext L6.out (((Ext.rfl' w6).dr).al (.cells #[.int .i64 (-1), .int .i64 1000, .int .i64 7] 3))) hm7 (fun b hb e => by have := (OwnD.lt L6.out hb).1; omega))
   have q7 := hm7.cellE ((((Ext.rfl' w6).dr).al (.cells #[.int .i64 (-1), .int .i64 1000, .int .i64 7] 3)).cellE q6) (by omega)
   have p07 := hm7.cellE ((((Ext.rfl' w6).dr).al (.cells #[.int .i64 (-1), .int .i64 1000, .int .i64 7] 3)).cellE p06) (by omega)
   have p17 := hm7.cellE ((((Ext.rfl' w6).dr).al (.cells #[.int .i64 (-1), .int .i64 1000, .int .i64 7] 3)).cellE p16) (by omega)
   have hs7 := hm7.size
   obtain ⟨y0, hy0⟩ : ∃ y0, v[k]? = some y0 := ⟨_, List.getElem?_eq_getElem hkv⟩
   have ck := V7.out.cell (j := k) (u := .int .i64 y0) (by rw [ints_at, hy0]; rfl)
   have fk := V7.out.free k
   have bk := blt ck
   have hS7 := lh (Mod.set (F := fun b => b = bv) (Mod.rfl' (fun b => b = bv) w7) (p := ⟨bv, k, none⟩) (.inl rfl) (.int .i64 y))
   have hbv4 : bv < w4.heap.size := VL.out.1 bv rfl
   have hNV := NV.out.1 bv rfl
   have p08 := hS7.out.cellE p07 (by omega)
   clear hy hr7 hm7 RL hy0
   try go_wp2_with fail
   refine hK.out _ _ (by exact p07) fun hh2 => ?_; clear hK K hHeld; have hHeld := hh2; clear hh2
   try simp only [Act.put, pu]
   refine ty 6 ?_
   refine rd1 7 rfl fun K hK => ?_
   go_simp
   refine hK.out _ _ (by exact p08) fun hh2 => ?_; clear hK K hHeld; have hHeld := hh2; clear hh2
   try simp only [Act.put]
   refine dn ?_
   have V8 := lh (show Own (World.setCell w7 ⟨bv, k, none⟩ (.int .i64 y)) (w.heap.size + 2) 3 1 (some ⟨bv, 0, none⟩) (v.set k y).length c1 (ints (v.set k y)) from by have := V7.out.st k (.int .i64 y); rw [ints_set] at this; simpa using this)
   have L8 := lh (OwnD.mod L7.out hS7.out (fun b hb e => by subst e; exact DV.out b rfl hb))
   have K8 := lh (⟨OwnD.mod K7.out.own hS7.out (fun b hb e => by have := KB.out b hb; omega), K7.out.lo, K7.out.hi, K7.out.nf⟩ : GOK (w.heap.size + 2) R A c g hs (World.setCell w7 ⟨bv, k, none⟩ (.int .i64 y)))
   have B8 := lh (B7.out.mod hS7.out (by omega))
   have D8 := lh (D7.out.mod hS7.out (by omega))
   have R8 := lh (R7.out.mod hS7.out (fun b e => by omega))
   have M8 := lh (M7.out.tr hS7.out (fun b e => .inr (by omega)))
   have q8 := hS7.out.cellE q7 (by omega)
   have p18 := hS7.out.cellE p17 (by omega)
   have hvs : (v.set k y).length = v.length := by simp
   generalize World.setCell w7 ⟨bv, k, none⟩ (Value.int IntKind.i64 y) = w8 at *
   rw [← hvs] at p08
   have hs8 := blt q8
   have q9 := q8
   have p0 := p08
   have p1 := p18
   have BF := lh (B8.out)
   have DF := lh (D8.out)
   have RF := lh (R8.out)
   have MF := lh (M8.out)
   have hef := EF.own (R := R) (L := w.heap.size) hRl K8.out V8.out L8.out (by omega) (fun l hl => Nat.le_trans (HRB.out l hl) (by omega))
   have HEF := lh hef
   have hvl9 : (v.set k y).length ≤ 11 := by simp; omega
   have hrl9 : r.length ≤ 10 := by omega
   clear hef
   have bq9 := blt q9
   have bp0 := blt p0
   have f0 := BF.out.free 0
   have g0 := DF.out.free 0
   have g1 := DF.out.free 1
   have x0 := BF.out.cell (j := 0) rfl
   have y0 := DF.out.cell (j := 0) rfl
   have y1 := DF.out.cell (j := 1) rfl
   have bl := DF.out.lt
   go_wp2_with fail
   refine wp_region_held_drew (S := (fun W => W.cell? ⟨w1.heap.size, 0, none⟩ = some (.slice A g.length c) ∧ W.cell? ⟨w4.heap.size, 0, none⟩ = some (.slice (some ⟨bv, 0, none⟩) (v.set k y).length c1) ∧ W.cell? ⟨w4.heap.size, 1, none⟩ = some (.slice A2 r.length c2))) (by kernel_rfl) ?_ (fun hHeld => ?_)
   ·exact ⟨((Ext.rfl' _).dr).cellE q9, ((Ext.rfl' _).dr).cellE p0, ((Ext.rfl' _).dr).cellE p1⟩
   refine ty 0 ?_
   refine ty 1 ?_
   refine rd1 2 rfl fun K hK => ?_
   go_simp
   refine hK.out _ _ (by exact ⟨((Ext.rfl' _).dr).cellE ((co).trans q9), ((Ext.rfl' _).dr).cellE ((co).trans p0), ((Ext.rfl' _).dr).cellE ((co).trans p1)⟩) fun hh2 => ?_; clear hK K hHeld; have hHeld := hh2; clear hh2
   try simp only [Act.put]
   refine rd1 3 rfl fun K hK => ?_
   go_simp
   refine hK.out _ _ (by exact ⟨((Ext.rfl' _).dr).cellE ((co).trans ((co).trans ((co).trans q9))), ((Ext.rfl' _).dr).cellE ((co).trans ((co).trans ((co).trans p0))), ((Ext.rfl' _).dr).cellE ((co).trans ((co).trans ((co).trans p1)))⟩) fun hh2 => ?_; clear hK K hHeld; have hHeld := hh2; clear hh2
   try simp only [Act.put]
   refine dn ?_
   go_wp2
   have hS := lh (Mod.dr (Mod.set (F := fun b => b = w.heap.size ∨ b = w.heap.size + 1) (Mod.set (F := fun b => b = w.heap.size ∨ b = w.heap.size + 1) (Mod.set (F := fun b => b = w.heap.size ∨ b = w.heap.size + 1) (Mod.rfl' (fun b => b = w.heap.size ∨ b = w.heap.size + 1) w8) (p := ⟨w.heap.size, 0, none⟩) (.inl (.inl rfl)) (.slice A g.length c)) (p := ⟨w.heap.size + 1, 0, none⟩) (.inl (.inr rfl)) (.slice (some ⟨bv, 0, none⟩) (v.set k y).length c1)) (p := ⟨w.heap.size + 1, 1, none⟩) (.inl (.inr rfl)) (.slice A2 r.length c2)))
   have s0 : ∀ u0 u1 u2 : Value, World.cell? (World.setCell (World.setCell (World.setCell w8 ⟨w.heap.size, 0, none⟩ u0) ⟨w.heap.size + 1, 0, none⟩ u1) ⟨w.heap.size + 1, 1, none⟩ u2) ⟨w.heap.size, 0, none⟩ = some u0 := fun u0 u1 u2 => (((BF.out.set 0 u0).oth (show w.heap.size + 1 ≠ w.heap.size by omega) u1).oth (show w.heap.size + 1 ≠ w.heap.size by omega) u2).cell (j := 0) rfl
   have s1 : ∀ u0 u1 u2 : Value, World.cell? (World.setCell (World.setCell (World.setCell w8 ⟨w.heap.size, 0, none⟩ u0) ⟨w.heap.size + 1, 0, none⟩ u1) ⟨w.heap.size + 1, 1, none⟩ u2) ⟨w.heap.size + 1, 0, none⟩ = some u1 := fun u0 u1 u2 => (((DF.out.oth (show w.heap.size ≠ w.heap.size + 1 by omega) u0).set 0 u1).set 1 u2).cell (j := 0) rfl
   have s2 : ∀ u0 u1 u2 : Value, World.cell? (World.setCell (World.setCell (World.setCell w8 ⟨w.heap.size, 0, none⟩ u0) ⟨w.heap.size + 1, 0, none⟩ u1) ⟨w.heap.size + 1, 1, none⟩ u2) ⟨w.heap.size + 1, 1, none⟩ = some u2 := fun u0 u1 u2 => (((DF.out.oth (show w.heap.size ≠ w.heap.size + 1 by omega) u0).set 0 u1).set 1 u2).cell (j := 1) rfl
   refine bodyPost_ret (v := .tuple #[.agg #[.slice A g.length c], .agg #[.slice (some ⟨bv, 0, none⟩) (v.set k y).length c1, .slice A2 r.length c2]]) (by simp [results, Tryz.results96, go_sem, s0, s1, s2]; try rfl) rfl ?_
   try simp only [List.length_set] at hS
   exact ⟨g, A, c, (v.set k y), (some ⟨bv, 0, none⟩), c1, r, A2, c2, rfl, hlo, hhi, hvl9, hrl9, EF.fin hRl HEF.out hS.out, (RF.out.mod hS.out (fun b e => by omega)).more (by omega), MF.out.tr hS.out (fun b e => .inr (by omega))⟩
  ·have z1 : (x == 0) = false := by rw [beq_eq_false_iff_ne]; exact h0
   clear h0
   by_cases h1 : x = 1
   ·have z2 : (x == 1) = true := by simp [h1]
    clear h1
    obtain ⟨br, rfl, hbr⟩ := (OwnD.out L6.out).at_ (by simp; omega)
    obtain ⟨l0, _, _, Al0, cl0, hl0, hAe, hlc, _, _⟩ := (OwnL.rdL L6.out (by omega) (fun l hl => Nat.le_trans (HRB.out l hl) (by omega))).at_ hkr
    simp only [Option.some.injEq, Addr.mk.injEq, and_true] at hAe
    obtain ⟨rfl, rfl⟩ := hAe
    simp only [Nat.zero_add] at hlc
    have hbr4 : br < w4.heap.size := VL.out.2 br (.inl rfl)
    have hNR := NV.out.2 br (.inl rfl)
    have E7 := lh ((Ext.rfl' w6).al (.cells #[.int .i64 0] 3))
    have hlc7 := E7.out.cellE hlc
    have blc := blt hlc
    have frk := (OwnD.out L6.out).free k
    have on := Own.new w6 (B := w6.heap.size) 3 1 #[.int .i64 0] 1 (Nat.le_refl _) (by unfold maxLen; omega) rfl
    have L8 := lh (OwnL.put L6.out E7.out (by have := (OwnD.lt L6.out (b := br) (.inl rfl)).1; omega) hkr [0] (A0 := some ⟨w6.heap.size, 0, none⟩) (c0 := 1) (by simpa [ints] using on) rfl)
    have hS7 := lh ((Mod.of (F := fun b => b = br) E7.out).set (p := ⟨br, k, none⟩) (.inl rfl) (.slice (some ⟨w6.heap.size, 0, none⟩) [(0 : Int)].length 1))
    clear on hl0
    go_upto_region 13 with fail
    have V8 := lh (V6.out.mod hS7.out (fun b hb e => by subst e; exact DV.out b hb (.inl rfl)))
    have K8 := lh (⟨OwnD.mod K6.out.own hS7.out (fun b hb e => by have := KB.out b hb; omega), K6.out.lo, K6.out.hi, K6.out.nf⟩ : GOK (w.heap.size + 2) R A c g hs _)
    have B8 := lh (B6.out.mod hS7.out (by omega))
    have D8 := lh (D6.out.mod hS7.out (by omega))
    have R8 := lh (R6.out.mod hS7.out (fun b e => by omega))
    have M8 := lh (M6.out.tr hS7.out (fun b e => .inr (by omega)))
    have q8 := hS7.out.cellE q6 (by omega)
    have p08 := hS7.out.cellE p06 (by omega)
    have p18 := hS7.out.cellE p16 (by omega)
    have hrs : (r.set k [0]).length = r.length := by simp
    simp only [List.length_singleton] at hS7 L8 V8 K8 B8 D8 R8 M8 q8 p08 p18
    have hcm : World.setCell (World.alloc w6 (.cells #[.int .i64 0] 3)) ⟨br, k, none⟩ (Value.slice (some ⟨w6.heap.size, 0, none⟩) 1 1) = World.alloc (World.setCell w6 ⟨br, k, none⟩ (Value.slice (some ⟨w6.heap.size, 0, none⟩) 1 1)) (.cells #[.int .i64 0] 3) := World.setCell_alloc_past _ _ _ _ (by omega)
    rw [hcm] at hS7 L8 V8 K8 B8 D8 R8 M8 q8 p08 p18
    clear hcm
    generalize World.alloc (World.setCell w6 ⟨br, k, none⟩ (Value.slice (some ⟨w6.heap.size, 0, none⟩) 1 1)) (.cells #[.int .i64 0] 3) = w8 at *
    rw [← hrs] at p18
    have hs8 := blt q8
    have q9 := q8
    have p0 := p08
    have p1 := p18
    have BF := lh (B8.out)
    have DF := lh (D8.out)
    have RF := lh (R8.out)
    have MF := lh (M8.out)
    have hef := EF.own (R := R) (L := w.heap.size) hRl K8.out V8.out L8.out (by simp; omega) (fun l hl => by rcases List.mem_or_eq_of_mem_set hl with hl | rfl; exact Nat.le_trans (HRB.out l hl) (by omega); simp)
    have HEF := lh hef
    have hvl9 : v.length ≤ 11 := by omega
    have hrl9 : (r.set k [0]).length ≤ 10 := by simp; omega
    clear hef
    have bq9 := blt q9
    have bp0 := blt p0
    have f0 := BF.out.free 0
    have g0 := DF.out.free 0
    have g1 := DF.out.free 1
    have x0 := BF.out.cell (j := 0) rfl
    have y0 := DF.out.cell (j := 0) rfl
    have y1 := DF.out.cell (j := 1) rfl
    have bl := DF.out.lt
    go_wp2_with fail
    refine wp_region_held_drew (S := (fun W => W.cell? ⟨w1.heap.size, 0, none⟩ = some (.slice A g.length c) ∧ W.cell? ⟨w4.heap.size, 0, none⟩ = some (.slice A1 v.length c1) ∧ W.cell? ⟨w4.heap.size, 1, none⟩ = some (.slice (some ⟨br, 0, none⟩) (r.set k [0]).length c2))) (by kernel_rfl) ?_ (fun hHeld => ?_)
    ·exact ⟨((Ext.rfl' _).dr).cellE q9, ((Ext.rfl' _).dr).cellE p0, ((Ext.rfl' _).dr).cellE p1⟩
    refine ty 0 ?_
    refine ty 1 ?_
    refine rd1 2 rfl fun K hK => ?_
    go_simp
    refine hK.out _ _ (by exact ⟨((Ext.rfl' _).dr).cellE ((co).trans q9), ((Ext.rfl' _).dr).cellE ((co).trans p0), ((Ext.rfl' _).dr).cellE ((co).trans p1)⟩) fun hh2 => ?_; clear hK K hHeld; have hHeld := hh2; clear hh2
    try simp only [Act.put]
    refine rd1 3 rfl fun K hK => ?_
    go_simp
    refine hK.out _ _ (by exact ⟨((Ext.rfl' _).dr).cellE ((co).trans ((co).trans ((co).trans q9))), ((Ext.rfl' _).dr).cellE ((co).trans ((co).trans ((co).trans p0))), ((Ext.rfl' _).dr).cellE ((co).trans ((co).trans ((co).trans p1)))⟩) fun hh2 => ?_; clear hK K hHeld; have hHeld := hh2; clear hh2
    try simp only [Act.put]
    refine dn ?_
    go_wp2
    have hS := lh (Mod.dr (Mod.set (F := fun b => b = w.heap.size ∨ b = w.heap.size + 1) (Mod.set (F := fun b => b = w.heap.size ∨ b = w.heap.size + 1) (Mod.set (F := fun b => b = w.heap.size ∨ b = w.heap.size + 1) (Mod.rfl' (fun b => b = w.heap.size ∨ b = w.heap.size + 1) w8) (p := ⟨w.heap.size, 0, none⟩) (.inl (.inl rfl)) (.slice A g.length c)) (p := ⟨w.heap.size + 1, 0, none⟩) (.inl (.inr rfl)) (.slice A1 v.length c1)) (p := ⟨w.heap.size + 1, 1, none⟩) (.inl (.inr rfl)) (.slice (some ⟨br, 0, none⟩) (r.set k [0]).length c2)))
    have s0 : ∀ u0 u1 u2 : Value, World.cell? (World.setCell (World.setCell (World.setCell w8 ⟨w.heap.size, 0, none⟩ u0) ⟨w.heap.size + 1, 0, none⟩ u1) ⟨w.heap.size + 1, 1, none⟩ u2) ⟨w.heap.size, 0, none⟩ = some u0 := fun u0 u1 u2 => (((BF.out.set 0 u0).oth (show w.heap.size + 1 ≠ w.heap.size by omega) u1).oth (show w.heap.size + 1 ≠ w.heap.size by omega) u2).cell (j := 0) rfl
    have s1 : ∀ u0 u1 u2 : Value, World.cell? (World.setCell (World.setCell (World.setCell w8 ⟨w.heap.size, 0, none⟩ u0) ⟨w.heap.size + 1, 0, none⟩ u1) ⟨w.heap.size + 1, 1, none⟩ u2) ⟨w.heap.size + 1, 0, none⟩ = some u1 := fun u0 u1 u2 => (((DF.out.oth (show w.heap.size ≠ w.heap.size + 1 by omega) u0).set 0 u1).set 1 u2).cell (j := 0) rfl
    have s2 : ∀ u0 u1 u2 : Value, World.cell? (World.setCell (World.setCell (World.setCell w8 ⟨w.heap.size, 0, none⟩ u0) ⟨w.heap.size + 1, 0, none⟩ u1) ⟨w.heap.size + 1, 1, none⟩ u2) ⟨w.heap.size + 1, 1, none⟩ = some u2 := fun u0 u1 u2 => (((DF.out.oth (show w.heap.size ≠ w.heap.size + 1 by omega) u0).set 0 u1).set 1 u2).cell (j := 1) rfl
    refine bodyPost_ret (v := .tuple #[.agg #[.slice A g.length c], .agg #[.slice A1 v.length c1, .slice (some ⟨br, 0, none⟩) (r.set k [0]).length c2]]) (by simp [results, Tryz.results96, go_sem, s0, s1, s2]; try rfl) rfl ?_
    try simp only [List.length_set] at hS
    exact ⟨g, A, c, v, A1, c1, (r.set k [0]), (some ⟨br, 0, none⟩), c2, rfl, hlo, hhi, hvl9, hrl9, EF.fin hRl HEF.out hS.out, (RF.out.mod hS.out (fun b e => by omega)).more (by omega), MF.out.tr hS.out (fun b e => .inr (by omega))⟩
   ·have z2 : (x == 1) = false := by rw [beq_eq_false_iff_ne]; exact h1
    clear h1
    by_cases h2 : x = 2
    ·have z3 : (x == 2) = true := by simp [h2]
     clear h2
     obtain ⟨br, rfl, hbr⟩ := (OwnD.out L6.out).at_ (by simp; omega)
     have hc2 : r.length ≤ c2 := by have := (OwnD.out L6.out).2.1; simpa using this
     have i0 : (1 : Int) ≤ (c2 : Int) := by omega
     have i1 : 1 ≤ c2 := by omega
     have i2 : ¬ c2 = 1 := by omega
     have fst := SB6.out.free 1
     have hds : (r.drop 1).length = r.length - 1 := by simp
     have HDS := lh hds
     clear hds
     go_upto_region 13 with fail
     have hS7 := lh (Mod.set (F := fun b => b = w4.heap.size) (Mod.rfl' (fun b => b = w4.heap.size) w6) (p := ⟨w4.heap.size, 1, none⟩) (.inl rfl) (.slice (some ⟨br, 1, none⟩) (r.length - 1) (c2 - 1)))
     have V8 := lh (V6.out.mod hS7.out (fun b hb e => by have := VL.out.1 b hb; omega))
     have L8 := lh (OwnD.mod L6.out hS7.out (fun b hb e => by have := VL.out.2 b hb; omega))
     have K8 := lh (⟨OwnD.mod K6.out.own hS7.out (fun b hb e => by have := KB.out b hb; omega), K6.out.lo, K6.out.hi, K6.out.nf⟩ : GOK (w.heap.size + 2) R A c g hs _)
     have B8 := lh (B6.out.mod hS7.out (by omega))
     have D8 := lh (D6.out.mod hS7.out (by omega))
     have R8 := lh (R6.out.mod hS7.out (fun b e => by omega))
     have M8 := lh (M6.out.tr hS7.out (fun b e => .inr (by omega)))
     have q8 := hS7.out.cellE q6 (by omega)
     have sb8 := SB6.out.set 1 (.slice (some ⟨br, 1, none⟩) (r.length - 1) (c2 - 1))
     have p08 := sb8.cell (j := 0) rfl
     have p18 := sb8.cell (j := 1) rfl
     clear sb8
     generalize World.setCell w6 ⟨w4.heap.size, 1, none⟩ (Value.slice (some ⟨br, 1, none⟩) (r.length - 1) (c2 - 1)) = w8 at *
     rw [← HDS.out] at p18
     have hs8 := blt q8
     have efr := EF.own (R := R) (L := w.heap.size) hRl K8.out V8.out L8.out (by omega) (fun l hl => Nat.le_trans (HRB.out l hl) (by omega))
     have q9 := q8
     have p0 := p08
     have p1 := p18
     have BF := lh (B8.out)
     have DF := lh (D8.out)
     have RF := lh (R8.out)
     have MF := lh (M8.out)
     have hef := (show EF R w.heap.size A g A1 v (some ⟨br, 1, none⟩) (r.drop 1) w8 from fun W' hW => ⟨(efr W' hW).1, (efr W' hW).2.1, by have := RdL.tail (efr W' hW).2.2; simpa using this⟩)
     have HEF := lh hef
     have hvl9 : v.length ≤ 11 := by omega
     have hrl9 : (r.drop 1).length ≤ 10 := by simp; omega
     clear hef
     have bq9 := blt q9
     have bp0 := blt p0
     have f0 := BF.out.free 0
     have g0 := DF.out.free 0
     have g1 := DF.out.free 1
     have x0 := BF.out.cell (j := 0) rfl
     have y0 := DF.out.cell (j := 0) rfl
     have y1 := DF.out.cell (j := 1) rfl
     have bl := DF.out.lt
     go_wp2_with fail
     refine wp_region_held_drew (S := (fun W => W.cell? ⟨w1.heap.size, 0, none⟩ = some (.slice A g.length c) ∧ W.cell? ⟨w4.heap.size, 0, none⟩ = some (.slice A1 v.length c1) ∧ W.cell? ⟨w4.heap.size, 1, none⟩ = some (.slice (some ⟨br, 1, none⟩) (r.drop 1).length (c2 - 1)))) (by kernel_rfl) ?_ (fun hHeld => ?_)
     ·exact ⟨((Ext.rfl' _).dr).cellE q9, ((Ext.rfl' _).dr).cellE p0, ((Ext.rfl' _).dr).cellE p1⟩
     refine ty 0 ?_
     refine ty 1 ?_
     refine rd1 2 rfl fun K hK => ?_
     go_simp
     refine hK.out _ _ (by exact ⟨((Ext.rfl' _).dr).cellE ((co).trans q9), ((Ext.rfl' _).dr).cellE ((co).trans p0), ((Ext.rfl' _).dr).cellE ((co).trans p1)⟩) fun hh2 => ?_; clear hK K hHeld; have hHeld := hh2; clear hh2
     try simp only [Act.put]
     refine rd1 3 rfl fun K hK => ?_
     go_simp
     refine hK.out _ _ (by exact ⟨((Ext.rfl' _).dr).cellE ((co).trans ((co).trans ((co).trans q9))), ((Ext.rfl' _).dr).cellE ((co).trans ((co).trans ((co).trans p0))), ((Ext.rfl' _).dr).cellE ((co).trans ((co).trans ((co).trans p1)))⟩) fun hh2 => ?_; clear hK K hHeld; have hHeld := hh2; clear hh2
     try simp only [Act.put]
     refine dn ?_
     go_wp2
     have hS := lh (Mod.dr (Mod.set (F := fun b => b = w.heap.size ∨ b = w.heap.size + 1) (Mod.set (F := fun b => b = w.heap.size ∨ b = w.heap.size + 1) (Mod.set (F := fun b => b = w.heap.size ∨ b = w.heap.size + 1) (Mod.rfl' (fun b => b = w.heap.size ∨ b = w.heap.size + 1) w8) (p := ⟨w.heap.size, 0, none⟩) (.inl (.inl rfl)) (.slice A g.length c)) (p := ⟨w.heap.size + 1, 0, none⟩) (.inl (.inr rfl)) (.slice A1 v.length c1)) (p := ⟨w.heap.size + 1, 1, none⟩) (.inl (.inr rfl)) (.slice (some ⟨br, 1, none⟩) (r.drop 1).length (c2 - 1))))
     have s0 : ∀ u0 u1 u2 : Value, World.cell? (World.setCell (World.setCell (World.setCell w8 ⟨w.heap.size, 0, none⟩ u0) ⟨w.heap.size + 1, 0, none⟩ u1) ⟨w.heap.size + 1, 1, none⟩ u2) ⟨w.heap.size, 0, none⟩ = some u0 := fun u0 u1 u2 => (((BF.out.set 0 u0).oth (show w.heap.size + 1 ≠ w.heap.size by omega) u1).oth (show w.heap.size + 1 ≠ w.heap.size by omega) u2).cell (j := 0) rfl
     have s1 : ∀ u0 u1 u2 : Value, World.cell? (World.setCell (World.setCell (World.setCell w8 ⟨w.heap.size, 0, none⟩ u0) ⟨w.heap.size + 1, 0, none⟩ u1) ⟨w.heap.size + 1, 1, none⟩ u2) ⟨w.heap.size + 1, 0, none⟩ = some u1 := fun u0 u1 u2 => (((DF.out.oth (show w.heap.size ≠ w.heap.size + 1 by omega) u0).set 0 u1).set 1 u2).cell (j := 0) rfl
     have s2 : ∀ u0 u1 u2 : Value, World.cell? (World.setCell (World.setCell (World.setCell w8 ⟨w.heap.size, 0, none⟩ u0) ⟨w.heap.size + 1, 0, none⟩ u1) ⟨w.heap.size + 1, 1, none⟩ u2) ⟨w.heap.size + 1, 1, none⟩ = some u2 := fun u0 u1 u2 => (((DF.out.oth (show w.heap.size ≠ w.heap.size + 1 by omega) u0).set 0 u1).set 1 u2).cell (j := 1) rfl
     refine bodyPost_ret (v := .tuple #[.agg #[.slice A g.length c], .agg #[.slice A1 v.length c1, .slice (some ⟨br, 1, none⟩) (r.drop 1).length (c2 - 1)]]) (by simp [results, Tryz.results96, go_sem, s0, s1, s2]; try rfl) rfl ?_
     try simp only [List.length_drop] at hS
     exact ⟨g, A, c, v, A1, c1, (r.drop 1), (some ⟨br, 1, none⟩), (c2 - 1), rfl, hlo, hhi, hvl9, hrl9, EF.fin hRl HEF.out hS.out, (RF.out.mod hS.out (fun b e => by omega)).more (by omega), MF.out.tr hS.out (fun b e => .inr (by omega))⟩
    ·have z3 : (x == 2) = false := by rw [beq_eq_false_iff_ne]; exact h2
     clear h2
     go_upto_region 13 with fail
     have q9 := q6
     have p0 := p06
     have p1 := p16
     have BF := lh (B6.out)
     have DF := lh (D6.out)
     have RF := lh (R6.out)
     have MF := lh (M6.out)
     have hef := EF.own (R := R) (L := w.heap.size) hRl K6.out V6.out L6.out (by omega) (fun l hl => Nat.le_trans (HRB.out l hl) (by omega))
     have HEF := lh hef
     have hvl9 : v.length ≤ 11 := by omega
     have hrl9 : r.length ≤ 10 := by omega
     clear hef
     have bq9 := blt q9
     have bp0 := blt p0
     have f0 := BF.out.free 0
     have g0 := DF.out.free 0
     have g1 := DF.out.free 1
     have x0 := BF.out.cell (j := 0) rfl
     have y0 := DF.out.cell (j := 0) rfl
     have y1 := DF.out.cell (j := 1) rfl
     have bl := DF.out.lt
     go_wp2_with fail
     refine wp_region_held_drew (S := (fun W => W.cell? ⟨w1.heap.size, 0, none⟩ = some (.slice A g.length c) ∧ W.cell? ⟨w4.heap.size, 0, none⟩ = some (.slice A1 v.length c1) ∧ W.cell? ⟨w4.heap.size, 1, none⟩ = some (.slice A2 r.length c2))) (by kernel_rfl) ?_ (fun hHeld => ?_)
     ·exact ⟨((Ext.rfl' _).dr).cellE q9, ((Ext.rfl' _).dr).cellE p0, ((Ext.rfl' _).dr).cellE p1⟩
     refine ty 0 ?_
     refine ty 1 ?_
     refine rd1 2 rfl fun K hK => ?_
     go_simp
     refine hK.out _ _ (by exact ⟨((Ext.rfl' _).dr).cellE ((co).trans q9), ((Ext.rfl' _).dr).cellE ((co).trans p0), ((Ext.rfl' _).dr).cellE ((co).trans p1)⟩) fun hh2 => ?_; clear hK K hHeld; have hHeld := hh2; clear hh2
     try simp only [Act.put]
     refine rd1 3 rfl fun K hK => ?_
     go_simp
     refine hK.out _ _ (by exact ⟨((Ext.rfl' _).dr).cellE ((co).trans ((co).trans ((co).trans q9))), ((Ext.rfl' _).dr).cellE ((co).trans ((co).trans ((co).trans p0))), ((Ext.rfl' _).dr).cellE ((co).trans ((co).trans ((co).trans p1)))⟩) fun hh2 => ?_; clear hK K hHeld; have hHeld := hh2; clear hh2
     try simp only [Act.put]
     refine dn ?_
     go_wp2
     have hS := lh (Mod.dr (Mod.set (F := fun b => b = w.heap.size ∨ b = w.heap.size + 1) (Mod.set (F := fun b => b = w.heap.size ∨ b = w.heap.size + 1) (Mod.set (F := fun b => b = w.heap.size ∨ b = w.heap.size + 1) (Mod.rfl' (fun b => b = w.heap.size ∨ b = w.heap.size + 1) w6) (p := ⟨w.heap.size, 0, none⟩) (.inl (.inl rfl)) (.slice A g.length c)) (p := ⟨w.heap.size + 1, 0, none⟩) (.inl (.inr rfl)) (.slice A1 v.length c1)) (p := ⟨w.heap.size + 1, 1, none⟩) (.inl (.inr rfl)) (.slice A2 r.length c2)))
     have s0 : ∀ u0 u1 u2 : Value, World.cell? (World.setCell (World.setCell (World.setCell w6 ⟨w.heap.size, 0, none⟩ u0) ⟨w.heap.size + 1, 0, none⟩ u1) ⟨w.heap.size + 1, 1, none⟩ u2) ⟨w.heap.size, 0, none⟩ = some u0 := fun u0 u1 u2 => (((BF.out.set 0 u0).oth (show w.heap.size + 1 ≠ w.heap.size by omega) u1).oth (show w.heap.size + 1 ≠ w.heap.size by omega) u2).cell (j := 0) rfl
     have s1 : ∀ u0 u1 u2 : Value, World.cell? (World.setCell (World.setCell (World.setCell w6 ⟨w.heap.size, 0, none⟩ u0) ⟨w.heap.size + 1, 0, none⟩ u1) ⟨w.heap.size + 1, 1, none⟩ u2) ⟨w.heap.size + 1, 0, none⟩ = some u1 := fun u0 u1 u2 => (((DF.out.oth (show w.heap.size ≠ w.heap.size + 1 by omega) u0).set 0 u1).set 1 u2).cell (j := 0) rfl
     have s2 : ∀ u0 u1 u2 : Value, World.cell? (World.setCell (World.setCell (World.setCell w6 ⟨w.heap.size, 0, none⟩ u0) ⟨w.heap.size + 1, 0, none⟩ u1) ⟨w.heap.size + 1, 1, none⟩ u2) ⟨w.heap.size + 1, 1, none⟩ = some u2 := fun u0 u1 u2 => (((DF.out.oth (show w.heap.size ≠ w.heap.size + 1 by omega) u0).set 0 u1).set 1 u2).cell (j := 1) rfl
     refine bodyPost_ret (v := .tuple #[.agg #[.slice A g.length c], .agg #[.slice A1 v.length c1, .slice A2 r.length c2]]) (by simp [results, Tryz.results96, go_sem, s0, s1, s2]; try rfl) rfl ?_
     try simp only [List.length_set, List.length_drop] at hS
     exact ⟨g, A, c, v, A1, c1, r, A2, c2, rfl, hlo, hhi, hvl9, hrl9, EF.fin hRl HEF.out hS.out, (RF.out.mod hS.out (fun b e => by omega)).more (by omega), MF.out.tr hS.out (fun b e => .inr (by omega))⟩
end Go.Proofs.YtmkfjnkdaeoppaaGreat
