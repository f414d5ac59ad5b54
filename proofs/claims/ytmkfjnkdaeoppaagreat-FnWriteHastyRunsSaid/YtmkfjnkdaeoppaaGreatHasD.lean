/- WriteHasty of the program: its contract. Conditions: bounds on lengths. -/
import Derived.Test.YtmkfjnkdaeoppaaGreatTy
import Derived.Test.YtmkfjnkdaeoppaaGreatHasB
import Derived.Test.YtmkfjnkdaeoppaaGreatHasC
import Derived.Test.YtmkfjnkdaeoppaaGreatFactsAll
import Derived.Test.YtmkfjnkdaeoppaaGreatImplMN
import Derived.Test.YtmkfjnkdaeoppaaGreatCellA
import Derived.Test.YtmkfjnkdaeoppaaGreatCopyA
import Derived.Deep.DeepCutAuto
namespace Go.Proofs.YtmkfjnkdaeoppaaGreat
open Go.RowKit

/-- what WriteHasty leaves -/
def ER (w : World) (s0 : Sg.Eager) (s1 : List Int) (e : Ending) (w' : World) : Prop := ∃ R00 d00 R01 d01 z0 R10 d10, e = .returned (.tuple #[.agg #[.slice R00 s0.vals.length d00, .slice R01 s0.reads.length d01], .slice R10 s1.length d10]) ∧ OwnE w' w.heap.size R00 d00 R01 d01 z0 s0 ∧ Own w' w.heap.size 3 1 R10 s1.length d10 (ints s1) ∧ (∀ b, (blk R00 = some b ∨ fpD R01 z0 b) → ¬ (blk R10 = some b)) ∧ Ext w w'
theorem Bx.set2 {w : World} {b : Nat} {x0 x1 : Value} (h : Bx w b [x0, x1]) (u0 u1 : Value) : Bx ((w.setCell ⟨b, 0, none⟩ u0).setCell ⟨b, 1, none⟩ u1) b [u0, u1] := (h.set 0 u0).set 1 u1
theorem HQ.of {w0 W : World} {L gv cv gr cr c : Nat} {A : Option Addr} {ts : List (Th w0.heap.size)} {hs : List (Option Addr × Nat)} {v : List Int} {r : List (List Int)} (e : Ext w0 W) (Z : OwnE W w0.heap.size (some ⟨gv, 0, none⟩) cv (some ⟨gr, 0, none⟩) cr hs ⟨v, r⟩)
  (lv : v.length = L) (lr : r.length = L) (o : Own W w0.heap.size 3 1 A 0 c []) (ht : Sep ts W) (d1 : ∀ b, (blk (some ⟨gv, 0, none⟩) = some b ∨ fpD (some ⟨gr, 0, none⟩) hs b) → blk A ≠ some b ∧ ∀ t ∈ ts, ¬ t.fp b) (d2 : ∀ b, blk A = some b → ∀ t ∈ ts, ¬ t.fp b) :
  ∃ F, HQ w0 L gv cv gr cr A c ts ⟨v, r, []⟩ F W ∧ ∀ b, F b → (blk (some ⟨gv, 0, none⟩) = some b ∨ fpD (some ⟨gr, 0, none⟩) hs b) ∨ blk A = some b ∨ ∃ t ∈ ts, t.fp b := by
 have zv := Z.v
 dsimp only at zv
 rw [lv] at zv
 refine ⟨_, ⟨e, ⟨hs, ⟨zv, ?_, Z.r, ?_, o, ?_, ht⟩, fun b => Iff.rfl⟩, lr⟩, fun b hb => ?_⟩
 ·intro y hy b hb hb'
  rcases List.mem_cons.1 hy with rfl | hy
  ·exact Z.d b hb hb'
  ·rcases List.mem_cons.1 hy with rfl | hy
   ·exact (d1 b (.inl hb)).1 hb'
   ·exact (d1 b (.inl hb)).2 y hy hb'
 ·intro y hy b hb hb'
  rcases List.mem_cons.1 hy with rfl | hy
  ·exact (d1 b (.inr hb)).1 hb'
  ·exact (d1 b (.inr hb)).2 y hy hb'
 ·intro y hy b hb hb'
  exact d2 b hb y hy hb'
 ·obtain ⟨y, hy, hyb⟩ := hb
  rcases List.mem_cons.1 hy with rfl | hy
  ·exact .inl (.inl hyb)
  ·rcases List.mem_cons.1 hy with rfl | hy
   ·exact .inl (.inr hyb)
   ·rcases List.mem_cons.1 hy with rfl | hy
    ·exact .inr (.inl hyb)
    ·exact .inr (.inr ⟨y, hy, hyb⟩)
theorem HQ.back {w0 W : World} {L gv cv gr cr c : Nat} {A : Option Addr} {ts : List (Th w0.heap.size)} {s : Sg.HS} {F : Nat → Prop} (h : HQ w0 L gv cv gr cr A c ts s F W) :
  ∃ hs, OwnE W w0.heap.size (some ⟨gv, 0, none⟩) cv (some ⟨gr, 0, none⟩) cr hs ⟨s.vals, s.reads⟩ ∧ Own W w0.heap.size 3 1 A s.ran.length c (ints s.ran) ∧ (∀ b, (blk (some ⟨gv, 0, none⟩) = some b ∨ fpD (some ⟨gr, 0, none⟩) hs b) → ¬ (blk A = some b)) ∧ s.vals.length = L ∧ s.reads.length = L ∧ ∀ b, (blk (some ⟨gv, 0, none⟩) = some b ∨ fpD (some ⟨gr, 0, none⟩) hs b) ∨ blk A = some b → F b := by
 obtain ⟨hs, hS, hF⟩ := h.ex
 have zv := h.v
 rw [← h.vl] at zv
 refine ⟨hs, ⟨zv, Sep.get hS 1 rfl, fun b hb hf => ?_⟩, Sep.get hS 2 rfl, fun b hb hf => ?_, h.vl, h.rl, fun b hb => ?_⟩
 ·exact hS.2.1 (Th.ownL w0.heap.size (some ⟨gr, 0, none⟩) cr s.reads hs) (by simp) b hb hf
 ·rcases hb with hb | hb
  ·exact hS.2.1 (Th.own w0.heap.size 3 1 A s.ran.length c (ints s.ran)) (by simp) b hb hf
  ·exact hS.2.2.2.1 (Th.own w0.heap.size 3 1 A s.ran.length c (ints s.ran)) (by simp) b hb hf
 ·rcases hb with (hb | hb) | hb
  ·exact (hF b).2 ⟨_, List.mem_of_getElem? (i := 0) rfl, hb⟩
  ·exact (hF b).2 ⟨_, List.mem_of_getElem? (i := 1) rfl, hb⟩
  ·exact (hF b).2 ⟨_, List.mem_of_getElem? (i := 2) rfl, hb⟩
theorem OwnE.some2 {w : World} {B c1 c2 : Nat} {A1 A2 : Option Addr} {hs : List (Option Addr × Nat)} {v : List Int} {r : List (List Int)} (h : OwnE w B A1 c1 A2 c2 hs ⟨v, r⟩) (h1 : 0 < v.length) (h2 : 0 < r.length) : ∃ gv gr, A1 = some ⟨gv, 0, none⟩ ∧ A2 = some ⟨gr, 0, none⟩ := by
 obtain ⟨gv, e1, _⟩ := h.v.at_ (by simpa using h1)
 obtain ⟨gr, e2, _⟩ := h.r.out.at_ (by simpa using h2)
 exact ⟨gv, gr, e1, e2⟩
theorem OwnE.ltB {w : World} {B c1 c2 : Nat} {A1 A2 : Option Addr} {hs : List (Option Addr × Nat)} {st : Sg.Eager} (h : OwnE w B A1 c1 A2 c2 hs st) {b : Nat} (hb : blk A1 = some b ∨ fpD A2 hs b) : B ≤ b ∧ b < w.heap.size := hb.elim (fun e => h.v.lt e) (fun e => OwnD.lt h.r e)
theorem OwnE.monoB {w : World} {B B' c1 c2 : Nat} {A1 A2 : Option Addr} {hs : List (Option Addr × Nat)} {st : Sg.Eager} (h : OwnE w B A1 c1 A2 c2 hs st) (hB : B' ≤ B) : OwnE w B' A1 c1 A2 c2 hs st := ⟨h.v.mono hB, OwnD.mono h.r hB, h.d⟩
theorem OwnE.extB {w w' : World} {B c1 c2 : Nat} {A1 A2 : Option Addr} {hs : List (Option Addr × Nat)} {st : Sg.Eager} (h : OwnE w B A1 c1 A2 c2 hs st) (e : Ext w w') : OwnE w' B A1 c1 A2 c2 hs st := ⟨h.v.ext e, OwnD.ext h.r e, h.d⟩
theorem OwnE.modB {F : Nat → Prop} {w w' : World} {B c1 c2 : Nat} {A1 A2 : Option Addr} {hs : List (Option Addr × Nat)} {st : Sg.Eager} (h : OwnE w B A1 c1 A2 c2 hs st) (m : Mod F w w') (hF : ∀ b, (blk A1 = some b ∨ fpD A2 hs b) → ¬ F b) : OwnE w' B A1 c1 A2 c2 hs st := ⟨h.v.mod m fun b hb => hF b (.inl hb), OwnD.mod h.r m fun b hb => hF b (.inr hb), h.d⟩

set_option maxRecDepth 100000 in
set_option maxHeartbeats 8000000 in
theorem i_WriteHasty (A Av Ar : Option Addr) (c cv cr : Nat) (g : Sg.Graph) (v : List Int) (r : List (List Int)) (n x : Int) (w : World) (h : RdN w A g) (hv : Rd w 1 Av v.length (ints v)) (hr : RdL w Ar r) (hvl : v.length ≤ 1048576) :
  Calls Tryz.prog 54 #[.agg #[.slice A g.length c], .agg #[.slice Av v.length cv, .slice Ar r.length cr], .int .i64 n, .int .i64 x] w (ER w (Sg.hastyO g ⟨v, r⟩ n x).1 (Sg.hastyO g ⟨v, r⟩ n x).2) := by
 have hgl := h.1
 have HV := lh (fun w h hv hr => i_ValidEager A Av Ar c cv cr g v r w h hv hr)
 have HC := lh (fun w h => i_cellB A c g n w h)
 have HI := lh (fun w => i_in x 0 999 w)
 have H := lh h
 have Hv := lh hv
 have Hr := lh hr
 clear h hv hr
 obtain ⟨W1, hW1⟩ : ∃ W1, W1 = World.alloc (World.alloc (World.alloc w (.cells #[.slice A g.length c] 25)) (.cells #[.slice Av v.length cv, .slice Ar r.length cr] 63)) (.cells #[.slice none 0 0, .slice none 0 0] 63) := ⟨_, rfl⟩
 have e1 : Ext w W1 := by rw [hW1]; exact (((Ext.rfl' w).al _).al _).al _
 have z1 : W1.heap.size = w.heap.size + 1 + 1 + 1 := by rw [hW1]; simp
 have BG := lh (show Bx W1 w.heap.size [.slice A g.length c] by rw [hW1]; exact ((Bx.new w _ _).al _).al _)
 have BS := lh (show Bx W1 (w.heap.size + 1) [.slice Av v.length cv, .slice Ar r.length cr] by
  have h1 := (Bx.new (World.alloc w (.cells #[.slice A g.length c] 25)) #[.slice Av v.length cv, .slice Ar r.length cr] 63).al (.cells #[.slice none 0 0, .slice none 0 0] 63)
  simp only [World.size_alloc] at h1
  rw [hW1]; exact h1)
 have BR := lh (show Bx W1 (w.heap.size + 1 + 1) [.slice none 0 0, .slice none 0 0] by
  have h1 := Bx.new (World.alloc (World.alloc w (.cells #[.slice A g.length c] 25)) (.cells #[.slice Av v.length cv, .slice Ar r.length cr] 63)) #[.slice none 0 0, .slice none 0 0] 63
  simp only [World.size_alloc] at h1
  rw [hW1]; exact h1)
 have E1 := lh e1
 have Z1 := lh z1
 clear e1 z1
 go_enter Tryz.func54, Tryz.ntmps54
 go_upto_region 1 with fail
 rw [← hW1]
 clear hW1
 obtain ⟨N, hN⟩ : ∃ N, w.heap.size = N := ⟨_, rfl⟩
 have HN := lh hN
 rw [hN] at BG BS BR Z1
 simp only [hN]
 clear hN
 have g0 := (BG.out.ext (Ext.rfl' W1)).cell (j := 0) rfl
 have s0 := (BS.out.ext (Ext.rfl' W1)).cell (j := 0) rfl
 have s1 := (BS.out.ext (Ext.rfl' W1)).cell (j := 1) rfl
 have bg0 := blt g0
 have bs0 := blt s0
 go_wp2_with fail
 refine (HV.out _ (H.out.ext E1.out) (Hv.out.ext E1.out) (Hr.out.ext E1.out)).mono ?_
 rintro e w2 ⟨rfl, he2⟩
 have U2 := lh he2
 clear he2 g0 s0 s1 bg0 bs0
 have g0 := (BG.out.ext U2.out).cell (j := 0) rfl
 have s0 := (BS.out.ext U2.out).cell (j := 0) rfl
 have s1 := (BS.out.ext U2.out).cell (j := 1) rfl
 have bg0 := blt g0
 have bs0 := blt s0
 cases hE : Sg.validE g ⟨v, r⟩
 ·have HS := lh (show Sg.hastyO g ⟨v, r⟩ n x = (⟨[], []⟩, []) by unfold Sg.hastyO Sg.mayHasty; rw [hE]; rfl)
  clear hE
  have BRf := lh (BR.out.ext U2.out)
  have f0 := BRf.out.free 0
  have f1 := BRf.out.free 1
  have x0 := BRf.out.cell (j := 0) rfl
  have x1 := BRf.out.cell (j := 1) rfl
  have bl := BRf.out.lt
  have r0 := (BRf.out.set2 (.slice none 0 0) (.slice none 0 0)).cell (j := 0) rfl
  have r1 := (BRf.out.set2 (.slice none 0 0) (.slice none 0 0)).cell (j := 1) rfl
  clear g0 s0 s1 bg0 bs0
  go_wp2
  refine bodyPost_ret (v := .tuple #[.agg #[.slice none 0 0, .slice none 0 0], .slice none 0 0]) (by simp [results, Tryz.results54, go_sem, r0, r1]; try rfl) rfl ?_
  rw [HS.out]
  exact ⟨none, 0, none, 0, [], none, 0, rfl, OwnE.nil _ _, by simpa [ints] using Own.nil _ _ 3 1, by simp [blk], Ext.md (E1.out.tr U2.out) (Mod.set2 w2 (N + 1 + 1) _ _) (fun b e => by have := HN.out; omega)⟩
 have HE := lh hE
 go_wp2_with fail
 refine (HC.out _ (H.out.ext (E1.out.tr U2.out))).mono ?_
 rintro e w3 ⟨rfl, he3⟩
 have U3 := lh (U2.out.tr he3)
 clear he3 g0 s0 s1 bg0 bs0
 have g0 := (BG.out.ext U3.out).cell (j := 0) rfl
 have s0 := (BS.out.ext U3.out).cell (j := 0) rfl
 have s1 := (BS.out.ext U3.out).cell (j := 1) rfl
 have bg0 := blt g0
 have bs0 := blt s0
 cases hC : Sg.isCell g n
 ·have HS := lh (show Sg.hastyO g ⟨v, r⟩ n x = (⟨[], []⟩, []) by unfold Sg.hastyO Sg.mayHasty; rw [hE, hC]; rfl)
  clear hE hC
  have BRf := lh (BR.out.ext U3.out)
  have f0 := BRf.out.free 0
  have f1 := BRf.out.free 1
  have x0 := BRf.out.cell (j := 0) rfl
  have x1 := BRf.out.cell (j := 1) rfl
  have bl := BRf.out.lt
  have r0 := (BRf.out.set2 (.slice none 0 0) (.slice none 0 0)).cell (j := 0) rfl
  have r1 := (BRf.out.set2 (.slice none 0 0) (.slice none 0 0)).cell (j := 1) rfl
  clear g0 s0 s1 bg0 bs0
  go_wp2
  refine bodyPost_ret (v := .tuple #[.agg #[.slice none 0 0, .slice none 0 0], .slice none 0 0]) (by simp [results, Tryz.results54, go_sem, r0, r1]; try rfl) rfl ?_
  rw [HS.out]
  exact ⟨none, 0, none, 0, [], none, 0, rfl, OwnE.nil _ _, by simpa [ints] using Own.nil _ _ 3 1, by simp [blk], Ext.md (E1.out.tr U3.out) (Mod.set2 w3 (N + 1 + 1) _ _) (fun b e => by have := HN.out; omega)⟩
 go_wp2_with fail
 refine (HI.out _).mono ?_
 rintro e w' ⟨rfl, rfl⟩
 cases hX : Sg.inR x 0 999
 ·have HS := lh (show Sg.hastyO g ⟨v, r⟩ n x = (⟨[], []⟩, []) by unfold Sg.hastyO Sg.mayHasty; rw [hE, hC, hX]; rfl)
  clear hE hC hX
  have BRf := lh (BR.out.ext U3.out)
  have f0 := BRf.out.free 0
  have f1 := BRf.out.free 1
  have x0 := BRf.out.cell (j := 0) rfl
  have x1 := BRf.out.cell (j := 1) rfl
  have bl := BRf.out.lt
  have r0 := (BRf.out.set2 (.slice none 0 0) (.slice none 0 0)).cell (j := 0) rfl
  have r1 := (BRf.out.set2 (.slice none 0 0) (.slice none 0 0)).cell (j := 1) rfl
  clear g0 s0 s1 bg0 bs0
  go_wp2
  refine bodyPost_ret (v := .tuple #[.agg #[.slice none 0 0, .slice none 0 0], .slice none 0 0]) (by simp [results, Tryz.results54, go_sem, r0, r1]; try rfl) rfl ?_
  rw [HS.out]
  exact ⟨none, 0, none, 0, [], none, 0, rfl, OwnE.nil _ _, by simpa [ints] using Own.nil _ _ 3 1, by simp [blk], Ext.md (E1.out.tr U3.out) (Mod.set2 w3 (N + 1 + 1) _ _) (fun b e => by have := HN.out; omega)⟩
 have HS := lh (show Sg.hastyO g ⟨v, r⟩ n x = (⟨(Sg.hastyR g ⟨v, r⟩ n.toNat x).vals, (Sg.hastyR g ⟨v, r⟩ n.toNat x).reads⟩, (Sg.hastyR g ⟨v, r⟩ n.toNat x).ran) by unfold Sg.hastyO Sg.mayHasty; rw [hE, hC, hX]; rfl)
 obtain ⟨k, nd, rfl, hnd, _⟩ := Sg.isCell_at hC
 have hkg : k < g.length := (List.getElem?_eq_some_iff.1 hnd).1
 have hx9 : 0 ≤ x ∧ x ≤ 999 := by
  unfold Sg.inR at hX
  simp only [Bool.and_eq_true, decide_eq_true_eq] at hX
  exact hX
 obtain ⟨hG, hvg, hrg, _, _⟩ := Sg.validE_parts HE.out
 have HG := lh hG
 have HLN := lh (And.intro (show v.length = g.length from hvg) (show r.length = g.length from hrg))
 have hg10 := validG_len hG
 have HX9 := lh hx9
 rw [Int.toNat_natCast] at HS
 clear hE hC hX hnd hG hvg hrg
 go_wp2_with fail
 refine (i_copyOf Av Ar cv cr v r _ (Hv.out.ext (E1.out.tr U3.out)) (Hr.out.ext (E1.out.tr U3.out)) hvl).mono ?_
 rintro e w4 ⟨A1, c1, A2, c2, hs, rfl, hoz, he4⟩
 obtain ⟨gv, gr, rfl, rfl⟩ := hoz.some2 (by have := HLN.out.1; omega) (by have := HLN.out.2; omega)
 have OZ := lh hoz
 have U4 := lh he4
 have OL := lh (fun b (hb : blk (some ⟨gv, 0, none⟩) = some b ∨ fpD (some ⟨gr, 0, none⟩) hs b) => OZ.out.ltB hb)
 have hs3 := U3.out.size
 have hs4 := U4.out.size
 have hz1 := Z1.out
 clear hoz he4 g0 s0 s1 bg0 bs0
 go_upto_region 7 with fail
 have BO := lh (show Bx (World.alloc (World.alloc (World.alloc w4 (.cells #[.slice (some ⟨gv, 0, none⟩) v.length c1, .slice (some ⟨gr, 0, none⟩) r.length c2] 63)) (.cells #[.slice none 0 0] 26)) (.cells #[.func (.func 98) #[] #[.pointer (some ⟨N, 0, none⟩), .pointer (some ⟨w4.heap.size, 0, none⟩), .pointer (some ⟨w4.heap.size + 1, 0, none⟩), .pointer (some ⟨w4.heap.size + 1 + 1, 0, none⟩)]] 96)) w4.heap.size [.slice (some ⟨gv, 0, none⟩) g.length c1, .slice (some ⟨gr, 0, none⟩) g.length c2] by
  have h1 := ((Bx.new w4 #[.slice (some ⟨gv, 0, none⟩) v.length c1, .slice (some ⟨gr, 0, none⟩) r.length c2] 63).al (.cells #[.slice none 0 0] 26)).al (.cells #[.func (.func 98) #[] #[.pointer (some ⟨N, 0, none⟩), .pointer (some ⟨w4.heap.size, 0, none⟩), .pointer (some ⟨w4.heap.size + 1, 0, none⟩), .pointer (some ⟨w4.heap.size + 1 + 1, 0, none⟩)]] 96)
  have hl : ([.slice (some ⟨gv, 0, none⟩) v.length c1, .slice (some ⟨gr, 0, none⟩) r.length c2] : List Value) = [.slice (some ⟨gv, 0, none⟩) g.length c1, .slice (some ⟨gr, 0, none⟩) g.length c2] := by rw [HLN.out.1, HLN.out.2]
  rw [← hl]; exact h1)
 have BL := lh (show Bx (World.alloc (World.alloc (World.alloc w4 (.cells #[.slice (some ⟨gv, 0, none⟩) v.length c1, .slice (some ⟨gr, 0, none⟩) r.length c2] 63)) (.cells #[.slice none 0 0] 26)) (.cells #[.func (.func 98) #[] #[.pointer (some ⟨N, 0, none⟩), .pointer (some ⟨w4.heap.size, 0, none⟩), .pointer (some ⟨w4.heap.size + 1, 0, none⟩), .pointer (some ⟨w4.heap.size + 1 + 1, 0, none⟩)]] 96)) (w4.heap.size + 1) [.slice none 0 0] by
  have h1 := (Bx.new (World.alloc w4 (.cells #[.slice (some ⟨gv, 0, none⟩) v.length c1, .slice (some ⟨gr, 0, none⟩) r.length c2] 63)) #[.slice none 0 0] 26).al (.cells #[.func (.func 98) #[] #[.pointer (some ⟨N, 0, none⟩), .pointer (some ⟨w4.heap.size, 0, none⟩), .pointer (some ⟨w4.heap.size + 1, 0, none⟩), .pointer (some ⟨w4.heap.size + 1 + 1, 0, none⟩)]] 96)
  simp only [World.size_alloc] at h1
  exact h1)
 have BT := lh (show Bx (World.alloc (World.alloc (World.alloc w4 (.cells #[.slice (some ⟨gv, 0, none⟩) v.length c1, .slice (some ⟨gr, 0, none⟩) r.length c2] 63)) (.cells #[.slice none 0 0] 26)) (.cells #[.func (.func 98) #[] #[.pointer (some ⟨N, 0, none⟩), .pointer (some ⟨w4.heap.size, 0, none⟩), .pointer (some ⟨w4.heap.size + 1, 0, none⟩), .pointer (some ⟨w4.heap.size + 1 + 1, 0, none⟩)]] 96)) (w4.heap.size + 1 + 1) [.func (.func 98) #[] #[.pointer (some ⟨N, 0, none⟩), .pointer (some ⟨w4.heap.size, 0, none⟩), .pointer (some ⟨w4.heap.size + 1, 0, none⟩), .pointer (some ⟨w4.heap.size + 1 + 1, 0, none⟩)]] by
  have h1 := Bx.new (World.alloc (World.alloc w4 (.cells #[.slice (some ⟨gv, 0, none⟩) v.length c1, .slice (some ⟨gr, 0, none⟩) r.length c2] 63)) (.cells #[.slice none 0 0] 26)) #[.func (.func 98) #[] #[.pointer (some ⟨N, 0, none⟩), .pointer (some ⟨w4.heap.size, 0, none⟩), .pointer (some ⟨w4.heap.size + 1, 0, none⟩), .pointer (some ⟨w4.heap.size + 1 + 1, 0, none⟩)]] 96
  simp only [World.size_alloc] at h1
  exact h1)
 have U5 := lh ((((Ext.rfl' w4).al (.cells #[.slice (some ⟨gv, 0, none⟩) v.length c1, .slice (some ⟨gr, 0, none⟩) r.length c2] 63)).al (.cells #[.slice none 0 0] 26)).al (.cells #[.func (.func 98) #[] #[.pointer (some ⟨N, 0, none⟩), .pointer (some ⟨w4.heap.size, 0, none⟩), .pointer (some ⟨w4.heap.size + 1, 0, none⟩), .pointer (some ⟨w4.heap.size + 1 + 1, 0, none⟩)]] 96))
 generalize (World.alloc (World.alloc (World.alloc w4 (.cells #[.slice (some ⟨gv, 0, none⟩) v.length c1, .slice (some ⟨gr, 0, none⟩) r.length c2] 63)) (.cells #[.slice none 0 0] 26)) (.cells #[.func (.func 98) #[] #[.pointer (some ⟨N, 0, none⟩), .pointer (some ⟨w4.heap.size, 0, none⟩), .pointer (some ⟨w4.heap.size + 1, 0, none⟩), .pointer (some ⟨w4.heap.size + 1 + 1, 0, none⟩)]] 96)) = w5 at *
 have U35 := lh (U4.out.tr U5.out)
 have hBt := BT.out.lt
 have hst := HN.out
 obtain ⟨F5, hQ5, hF5⟩ := HQ.of (w0 := w) (L := g.length) (A := none) (c := 0) (ts := tsI w.heap.size g.length gv c1 gr c2 (w4.heap.size + 1) N w4.heap.size (w4.heap.size + 1 + 1) g.length c A none 0 0) (E1.out.tr (U3.out.tr U35.out)) ((OZ.out.extB U5.out).monoB (by have := E1.out.size; omega)) HLN.out.1 HLN.out.2 (Own.nil _ _ _ _)
  ⟨⟨BL.out, by omega⟩, fun y hy b hb hb' => by
    simp only [List.mem_cons, List.not_mem_nil, or_false] at hy
    have h1 : b = w4.heap.size + 1 := hb
    rcases hy with rfl | rfl | rfl
    ·have h2 : b = N := hb'
     omega
    ·have h2 : b = w4.heap.size := hb'
     omega
    ·have h2 : b = w4.heap.size + 1 + 1 := hb'
     omega,
   ⟨(BG.out.ext (U3.out.tr U35.out)), by omega⟩, fun y hy b hb hb' => by
    simp only [List.mem_cons, List.not_mem_nil, or_false] at hy
    have h1 : b = N := hb
    rcases hy with rfl | rfl
    ·have h2 : b = w4.heap.size := hb'
     omega
    ·have h2 : b = w4.heap.size + 1 + 1 := hb'
     omega,
   ⟨BO.out, by omega⟩, fun y hy b hb hb' => by
    simp only [List.mem_cons, List.not_mem_nil, or_false] at hy
    subst hy
    have h1 : b = w4.heap.size := hb
    have h2 : b = w4.heap.size + 1 + 1 := hb'
    omega,
   ⟨BT.out, by omega⟩, (fun y hy => by cases hy), trivial⟩
  (fun b hb => ⟨by simp [blk], fun y hy hf => by
    have hlt := OL.out b hb
    simp only [tsI, List.mem_cons, List.not_mem_nil, or_false] at hy
    rcases hy with rfl | rfl | rfl | rfl
    ·have h2 : b = w4.heap.size + 1 := hf
     omega
    ·have h2 : b = N := hf
     omega
    ·have h2 : b = w4.heap.size := hf
     omega
    ·have h2 : b = w4.heap.size + 1 + 1 := hf
     omega⟩) (fun b hb => by simp [blk] at hb)
 have nR : ¬ F5 (N + 1 + 1) := fun hf => by
  rcases hF5 _ hf with e | e | ⟨y, hy, e⟩
  ·have := (OL.out _ e).1; omega
  ·simp [blk] at e
  ·simp only [tsI, List.mem_cons, List.not_mem_nil, or_false] at hy
   rcases hy with rfl | rfl | rfl | rfl
   ·have h2 : N + 1 + 1 = w4.heap.size + 1 := e
    omega
   ·have h2 : N + 1 + 1 = N := e
    omega
   ·have h2 : N + 1 + 1 = w4.heap.size := e
    omega
   ·have h2 : N + 1 + 1 = w4.heap.size + 1 + 1 := e
    omega
 have S5 := lh (show EH w g.length gv c1 gr c2 (w4.heap.size + 1) N w4.heap.size (w4.heap.size + 1 + 1) g.length c A ⟨v, r, []⟩ F5 w5 from ⟨none, 0, hQ5⟩)
 have NR := lh nR
 obtain ⟨cv5, fv5, bv5⟩ := hQ5.val hkg
 have HY := lh (show v.getD k 0 = v.getD k 0 from rfl)
 have HRS := lh (show Sg.hastyR g ⟨v, r⟩ k x = if v.getD k 0 = x then ⟨v, r, []⟩ else Sg.hastyS g 201 k ⟨v.set k x, r, []⟩ from rfl)
 have HIN := lh (Sg.HIn.of (n := k) HE.out HX9.out)
 have Q5 := lh hQ5
 clear hQ5 hF5 nR hst
 dsimp only at cv5
 generalize v.getD k 0 = y0 at *
 have o0 := BO.out.cell (j := 0) rfl
 have bo := blt o0
 generalize Sg.hastyR g ⟨v, r⟩ k x = u at *
 go_upto_if 38 with fail
 go_cut [] (fun wx => Hid (EG w g.length gv c1 gr c2 (w4.heap.size + 1) N w4.heap.size (w4.heap.size + 1 + 1) g.length c A u F5 w5 wx))
 case first =>
  by_cases hy : y0 = x
  ·have z1 : (y0 != x) = false := by simp [hy]
   have HY2 := lh hy
   clear hy
   go_wp2_with fail
   go_meet
   exact lh (by rw [HRS.out, if_pos HY2.out]; exact S5.out.start)
  ·have z1 : (y0 != x) = true := by simp [hy]
   have HY2 := lh hy
   clear hy
   go_upto_region 9 with fail
   obtain ⟨F6, hQ6, hm6, hF6⟩ := Q5.out.setVal k x
   have S6 := lh (show EH w g.length gv c1 gr c2 (w4.heap.size + 1) N w4.heap.size (w4.heap.size + 1 + 1) g.length c A ⟨v.set k x, r, []⟩ F6 (World.setCell w5 ⟨gv, k, none⟩ (.int .i64 x)) from ⟨none, 0, hQ6⟩)
   have MF6 := lh (And.intro hm6 hF6)
   have t0 := (hQ6.t (i := 3) rfl).1.cell (j := 0) rfl
   have bt0 := blt t0
   have hent := ent_of (P := Tryz.prog) Tryz.func98 rfl (by kernel_rfl)
   clear hQ6 hm6 hF6 o0 bo cv5 fv5 bv5
   generalize World.setCell w5 ⟨gv, k, none⟩ (.int .i64 x) = w6 at *
   go_wp2_with fail
   refine (c_tell w g.length gv c1 gr c2 (w4.heap.size + 1) N w4.heap.size (w4.heap.size + 1 + 1) c A g H.out HG.out rfl 201 k ⟨v.set k x, r, []⟩ F6 w6 (by simp) hkg HIN.out S6.out).mono ?_
   rintro e w7 ⟨rfl, hG7⟩
   have G7 := lh hG7
   clear hG7 t0 bt0 hent
   go_wp2_with fail
   go_meet
   exact lh (by rw [HRS.out, if_neg HY2.out]; exact EG.tr1 MF6.out.1 MF6.out.2 G7.out)
 case rest =>
  obtain ⟨F6, ⟨A6, c6, hQ6⟩, hm6, hF6⟩ := hcut.out
  obtain ⟨w6, rfl⟩ : ∃ w6 : World, w6 = wc := ⟨_, rfl⟩
  have p0 := (hQ6.t (i := 2) rfl).1.cell (j := 0) rfl
  have p1 := (hQ6.t (i := 2) rfl).1.cell (j := 1) rfl
  have y0' := (hQ6.t (i := 0) rfl).1.cell (j := 0) rfl
  have bp0 := blt p0
  have by0 := blt y0'
  have hle6 := hQ6.o.2.1
  have hmx6 := hQ6.o.2.2.1
  have Q6 := lh hQ6
  have M6 := lh hm6
  have NB := lh (show ∀ b, F6 b → b ≠ N + 1 + 1 from fun b hb e => by
   subst e
   rcases hF6 _ hb with h | h
   ·exact NR.out h
   ·omega)
  clear hQ6 hm6 hF6 hcut o0 bo cv5 fv5 bv5
  have BRf := lh ((BR.out.ext (U3.out.tr U35.out)).mod M6.out NR.out)
  have f0 := BRf.out.free 0
  have f1 := BRf.out.free 1
  have x0 := BRf.out.cell (j := 0) rfl
  have x1 := BRf.out.cell (j := 1) rfl
  have bl := BRf.out.lt
  go_upto_region 10 with fail
  go_cut [9] (fun s8 wx => s8 = .slice A6 u.ran.length u.ran.length ∧ Hid (Bx wx (N + 1 + 1) [.slice (some ⟨gv, 0, none⟩) g.length c1, .slice (some ⟨gr, 0, none⟩) g.length c2]) ∧ Hid (Mod (fun b => b = N + 1 + 1) w6 wx))
  case first =>
   refine wp_region_held_drew (S := (fun W => W.cell? ⟨w4.heap.size, 0, none⟩ = some (.slice (some ⟨gv, 0, none⟩) g.length c1) ∧ W.cell? ⟨w4.heap.size, 1, none⟩ = some (.slice (some ⟨gr, 0, none⟩) g.length c2) ∧ W.cell? ⟨w4.heap.size + 1, 0, none⟩ = some (.slice A6 u.ran.length c6))) (by kernel_rfl) ?_ (fun hHeld => ?_)
   ·exact ⟨((Ext.rfl' _).dr).cellE p0, ((Ext.rfl' _).dr).cellE p1, ((Ext.rfl' _).dr).cellE y0'⟩
   refine ty 0 ?_
   refine ty 1 ?_
   refine rd1 2 rfl fun K hK => ?_
   go_simp
   refine (i_Clip A6 u.ran.length c6 _ hle6 hmx6).mono ?_
   rintro e w7 ⟨rfl, hw7⟩
   subst hw7
   try go_wp2_with fail
   refine hK.out _ _ (by exact (by first | exact ⟨p0, p1, y0'⟩ | exact ⟨((Ext.rfl' _).dr).cellE p0, ((Ext.rfl' _).dr).cellE p1, ((Ext.rfl' _).dr).cellE y0'⟩)) fun hh2 => ?_; clear hK K hHeld; have hHeld := hh2; clear hh2
   try simp only [Act.put, pu]
   refine rd1 3 rfl fun K hK => ?_
   go_simp
   refine hK.out _ _ (by exact (by first | exact ⟨(Mod.set2 _ _ _ _).cellE p0 (by omega), (Mod.set2 _ _ _ _).cellE p1 (by omega), (Mod.set2 _ _ _ _).cellE y0' (by omega)⟩ | exact ⟨((Ext.rfl' _).dr).cellE ((Mod.set2 _ _ _ _).cellE p0 (by omega)), ((Ext.rfl' _).dr).cellE ((Mod.set2 _ _ _ _).cellE p1 (by omega)), ((Ext.rfl' _).dr).cellE ((Mod.set2 _ _ _ _).cellE y0' (by omega))⟩ | exact ⟨(Mod.set2 _ _ _ _).cellE (((Ext.rfl' _).dr).cellE p0) (by omega), (Mod.set2 _ _ _ _).cellE (((Ext.rfl' _).dr).cellE p1) (by omega), (Mod.set2 _ _ _ _).cellE (((Ext.rfl' _).dr).cellE y0') (by omega)⟩)) fun hh2 => ?_; clear hK K hHeld; have hHeld := hh2; clear hh2
   try simp only [Act.put]
   refine ty 4 ?_
   refine dn ?_
   go_wp2_with fail
   go_meet
   exact ⟨rfl, lh (by first | exact BRf.out.set2 _ _ | exact (BRf.out.set2 _ _).ext ((Ext.rfl' _).dr) | exact (BRf.out.ext ((Ext.rfl' _).dr)).set2 _ _), lh (by first | exact Mod.set2 _ _ _ _ | exact (Mod.set2 _ _ _ _).dr | exact (Mod.of ((Ext.rfl' _).dr)).tr' (Mod.set2 _ _ _ _))⟩
  case rest =>
   obtain ⟨rfl, hBf, hMf⟩ := hcut
   have r0 := hBf.out.cell (j := 0) rfl
   have r1 := hBf.out.cell (j := 1) rfl
   clear p0 p1 y0' x0 x1 f0 f1
   go_wp2
   refine bodyPost_ret (v := .tuple #[.agg #[.slice (some ⟨gv, 0, none⟩) g.length c1, .slice (some ⟨gr, 0, none⟩) g.length c2], .slice A6 u.ran.length u.ran.length]) (by simp [results, Tryz.results54, go_sem, r0, r1]; try rfl) rfl ?_
   rw [HS.out]
   obtain ⟨hs6, hZ6, hO6, hD6, lv6, lr6, hFF⟩ := Q6.out.back
   refine ⟨some ⟨gv, 0, none⟩, c1, some ⟨gr, 0, none⟩, c2, hs6, A6, u.ran.length, ?_, hZ6.modB hMf.out (fun b hb e => NB.out b (hFF b (.inl hb)) e), hO6.clip.mod hMf.out (fun b hb e => NB.out b (hFF b (.inr hb)) e), hD6, ?_⟩
   ·dsimp only
    rw [show u.vals.length = g.length from lv6, show u.reads.length = g.length from lr6]
   ·exact Ext.md Q6.out.old hMf.out (fun b e => by have := HN.out; omega)
end Go.Proofs.YtmkfjnkdaeoppaaGreat
