/- The program's session over any function value that does what is due: its contract. Conditions: valid acts and cells. -/
import Derived.Test.YtaklkcjlihdlkaaGreatTy
import Derived.Test.YtaklkcjlihdlkaaGreatSesA
import Derived.IntWalk
namespace Go.Proofs.YtaklkcjlihdlkaaGreat
open Go.RowKit

/-- a function value that does what is due: its number and what it has captured; inv: the things that it turns (k: how many acts were done) -/
structure Flu (P : Program) (fid : Nat) (caps : List Value) (g : Sg.Graph) (a : World) {σ : Type} (inv : Nat → σ → List (Th a.heap.size) → Prop) (fl : σ → List Int → List Bool → σ) : Prop where
 ent : ∀ (args : Array Value) (w : World), (callFunc fid args).run P w = .ok (.enter fid args) w
 call : ∀ (k : Nat) (s : σ) (ts rs : List (Th a.heap.size)) (w : World) (Ap As : Option Addr) (cp cs n m : Nat) (p : List Int) (st : List Bool), inv k s ts → k < 30 → Sg.validC g p = true → p.length = n → st.length = m → m = g.length → Ext a w →
  Sep (Th.own a.heap.size 3 1 Ap n cp (ints p) :: Th.own a.heap.size 4 1 As m cs (bools st) :: (ts ++ rs)) w →
  Calls P fid ((.slice Ap n cp :: .slice As m cs :: caps).toArray) w fun e w' => e = .returned (.tuple #[]) ∧ Ext a w' ∧ ∃ ts', inv (k + 1) (fl s p st) ts' ∧ Sep (ts' ++ rs) w'
 up : ∀ k s ts, inv k s ts → inv (k + 1) s ts

theorem two_out {α : Type _} (x y p q : α) (ts rs : List α) : (x :: y :: p :: q :: (ts ++ rs)).Perm (y :: x :: (ts ++ (p :: q :: rs))) :=
 (List.Perm.swap y x _).trans (((List.perm_middle.trans (List.perm_middle.cons _)).symm.cons _).cons _)
theorem two_back {α : Type _} (p q : α) (ts rs : List α) : (ts ++ (p :: q :: rs)).Perm (p :: q :: (ts ++ rs)) := List.perm_middle.trans (List.perm_middle.cons _)
theorem Own.bn {w : World} {B e : Nat} {A : Option Addr} {n c : Nat} {xs : List Value} (h : Own w B e 1 A n c xs) (hn : 0 < n) : ∃ b, A = some ⟨b, 0, none⟩ ∧ B ≤ b := h.at_ (by omega)

set_option maxRecDepth 100000 in
set_option maxHeartbeats 16000000 in
theorem i_session {fid : Nat} {caps : List Value} {g : Sg.Graph} {a : World} {σ : Type} {inv : Nat → σ → List (Th a.heap.size) → Prop} {fl : σ → List Int → List Bool → σ} (F : Flu Tryz.prog fid caps g a inv fl)
  (A Ac Al : Option Addr) (c cc cl : Nat) (x : List Int) (l : List Sg.Act) (W : World) (hx : Rd a 1 Ac x.length (ints x)) (hl : Rd a 3 Al l.length (acts l)) (s0 : σ) (ts rs : List (Th a.heap.size)) (hE : Ext a W) (hS : Sep (ts ++ rs) W) (hi : inv 0 s0 ts)
  (hC : Sg.validC g x = true) (hA : ∀ y ∈ l, Sg.actOk g y = true) (h30 : l.length ≤ 30) (hg : g.length ≤ 1048576) :
  Calls Tryz.prog 50 #[.agg #[.slice A g.length c], .slice Ac x.length cc, .slice Al l.length cl, .func (.func fid) #[] caps.toArray] W fun e w' =>
   e = .returned (.int .i64 ((Sg.runS fl (Sg.ses0 g x, s0) l).1.opn : Int)) ∧ Ext a w' ∧ ∃ ts', inv l.length (Sg.runS fl (Sg.ses0 g x, s0) l).2 ts' ∧ Sep (ts' ++ rs) w' := by
 have hent := F.ent
 have HF := lh F
 have hxl : x.length = g.length := Sg.length_validC hC
 obtain ⟨Q, hQ⟩ : ∃ Q : Nat → Sg.Ses × σ, ∀ k, Q k = Sg.runS fl (Sg.ses0 g x, s0) (l.take k) := ⟨_, fun _ => rfl⟩
 have hq : ∀ k y, l[k]? = some y → Q (k + 1) = Sg.stepR fl (Q k) y := fun k y hy => by rw [hQ, hQ, take_snoc l k hy, Sg.runS_snoc]
 have hok : ∀ k, k ≤ l.length → Sg.SesOk g (Q k).1 k := fun k hk => by rw [hQ]; exact Sg.runS_ok fl (Sg.ses0_ok hC) l hA k hk
 have h0 : Q 0 = (Sg.ses0 g x, s0) := by rw [hQ]; rfl
 have he : Sg.runS fl (Sg.ses0 g x, s0) l = Q l.length := by rw [hQ, List.take_length]
 rw [he]
 have HQ := lh hq
 have HOK := lh hok
 have H0 := lh h0
 have HA := lh hA
 have HX := lh hx
 have HL := lh hl
 have HXL := lh hxl
 have hx4 : x.length ≤ 1048576 := by omega
 have hbl := hl.big
 have HS := lh hS
 have HE := lh hE
 have HI := lh hi
 have hsz := hE.size
 have H30 := lh h30
 have b0 := (Ext.rfl' W).al (.cells #[.slice A g.length c] 25)
 have B0 := lh b0
 have q0 : World.cell? (World.alloc W (.cells #[.slice A g.length c] 25)) ⟨W.heap.size, 0, none⟩ = some (.slice A g.length c) := by simp [go_sem]
 have Q0 := lh q0
 clear F hQ hq hok h0 he hA hx hl hxl hS hE hi h30 hC b0 q0
 go_enter Tryz.func50, Tryz.ntmps50
 go_wp2_with fail
 refine (i_clone Ac x.length cc x _ (HX.out.ext (HE.out.tr B0.out)) (by omega)).mono ?_
 rintro e w1 ⟨An, rfl, hn, he1⟩
 have hn' := hn.mono (B' := a.heap.size) (by simp; omega)
 have S1 := lh (Sep.add HS.out (B0.out.tr he1) (Th.own a.heap.size 3 1 An x.length x.length (ints x)) hn' (fun b hb => by have := (hn.lt hb).1; simp at this; omega))
 have E1 := lh (HE.out.tr (B0.out.tr he1))
 have g1 := he1.cellE Q0.out
 have bg1 := blt g1
 have sz1 := (B0.out.tr he1).size
 clear hn hn' he1 HS Q0
 go_wp2_with fail
 refine (i_size A g.length c _).mono ?_
 rintro e w2 ⟨rfl, he2⟩
 have S2 := lh (Sep.ext S1.out he2)
 have E2 := lh (E1.out.tr he2)
 have sz2 := he2.size
 clear he2 g1 bg1 S1 E1
 go_upto_region 4 with (at_make; refine wpList_mk rfl rfl eiBool (B := w2.heap.size) rfl rfl (by omega) (by omega) (Nat.le_refl _) ?_; intro w3 hown hext; rw [made_one _ _ rfl, show List.replicate g.length (Value.bool false) = bools (List.replicate g.length false) by simp [bools]] at hown; have O3 := lh hown; have E3 := lh hext; clear hown hext)
 have S3 := lh (Sep.add S2.out E3.out (Th.own a.heap.size 4 1 (some ⟨w2.heap.size, 0, none⟩) g.length g.length (bools (List.replicate g.length false))) (O3.out.mono (by have := E2.out.size; omega)) (fun b hb => (O3.out.lt hb).1))
 have E4 := lh (E2.out.tr E3.out)
 clear O3 E3 S2 E2
 have hbs : w2.heap.size = w2.heap.size := rfl
 generalize w2.heap.size = bs at *
 clear hbs
 go_wp2_with fail
 go_loopw [11, 22] (fun o i wr => ∃ (k : Nat) (ts : List (Th a.heap.size)), k ≤ l.length ∧ i = .int .i64 k ∧ o = .int .i64 ((Q k).1.opn : Int) ∧ Hid (inv k (Q k).2 ts) ∧ Hid (Ext a wr) ∧
  Hid (Sep (Th.own a.heap.size 4 1 (some ⟨bs, 0, none⟩) g.length g.length (bools (Q k).1.stop) :: Th.own a.heap.size 3 1 An x.length x.length (ints (Q k).1.pend) :: (ts ++ rs)) wr)) (fun _ i _ => l.length - (intOf i).toNat)
 case atStart => exact ⟨0, ts, Nat.zero_le _, rfl, by rw [H0.out]; rfl, by rw [H0.out]; exact HI, E4, by rw [H0.out]; exact S3⟩
 case round =>
  clear S3 E4 HI H0
  obtain ⟨k, ts, hk, rfl, rfl, hI, hER, hSR⟩ := hrel
  have hko := HOK.out k hk
  have Hko := lh hko
  have hopn := hko.o
  have hop30 : (Q k).1.opn ≤ 30 := by have := H30.out; omega
  clear hko hopn
  by_cases hlt : k < l.length
  ·obtain ⟨bo, oo, ⟨ak, an, av⟩, rfl, ha, hc0, hc1, hc2⟩ := (HL.out.ext hER.out).atA hlt
   dsimp only at *
   have HQ1 := lh (HQ.out k _ ha)
   have HAO := lh (HA.out _ (List.mem_of_getElem? ha))
   have bc0 := blt hc0
   have bc1 := blt hc1
   have bc2 := blt hc2
   have hko1 := HOK.out (k + 1) (by omega)
   have HK1 := lh hko1
   clear ha hko1
   have eA := (Ext.rfl' wr).al (.cells #[.int .i64 ak, .int .i64 an, .int .i64 av] 63)
   have a0 : World.cell? (World.alloc wr (.cells #[.int .i64 ak, .int .i64 an, .int .i64 av] 63)) ⟨wr.heap.size, 0, none⟩ = some (.int .i64 ak) := by simp [go_sem]
   have a1 : World.cell? (World.alloc wr (.cells #[.int .i64 ak, .int .i64 an, .int .i64 av] 63)) ⟨wr.heap.size, 1, none⟩ = some (.int .i64 an) := by simp [go_sem]
   have a2 : World.cell? (World.alloc wr (.cells #[.int .i64 ak, .int .i64 an, .int .i64 av] 63)) ⟨wr.heap.size, 2, none⟩ = some (.int .i64 av) := by simp [go_sem]
   have hsw : wr.heap.size < (World.alloc wr (.cells #[.int .i64 ak, .int .i64 an, .int .i64 av] 63)).heap.size := by simp
   have EA := lh eA
   have A0 := lh a0
   have A1 := lh a1
   have A2 := lh a2
   clear eA a0 a1 a2
   go_upto_region 8 with fail
   generalize World.alloc wr (.cells #[.int .i64 ak, .int .i64 an, .int .i64 av] 63) = v1 at *
   have a0 := A0.out
   have a1 := A1.out
   have a2 := A2.out
   have SV := lh (Sep.ext hSR.out EA.out)
   have EV := lh (hER.out.tr EA.out)
   have hba : a.heap.size ≤ wr.heap.size := hER.out.size
   have hbsr : bs < wr.heap.size := ((Sep.get hSR.out 0 rfl : Own _ _ _ _ _ _ _ _).lt (g := bs) rfl).2
   have hbnr : ∀ b, blk An = some b → b < wr.heap.size := fun b hb => ((Sep.get hSR.out 1 rfl : Own _ _ _ _ _ _ _ _).lt hb).2
   have HBN := lh hbnr
   clear A0 A1 A2 EA hSR hER hc0 hc1 hc2 bc0 bc1 bc2 hbnr
   generalize wr.heap.size = ba at *
   have hkl := hk
   have hk30 : k < 30 := by have := H30.out; omega
   have hgx := HXL.out
   generalize Q k = q at *
   obtain ⟨⟨o, p, s⟩, z⟩ := q
   dsimp only at *
   have hok := Hko.out
   have hpl : p.length = x.length := (Sg.length_validC hok.c).trans hgx.symm
   have hsl : s.length = g.length := hok.s
   have HPL := lh hpl
   have HSL := lh hsl
   have HG := lh hgx
   clear hok hpl hsl hgx
   by_cases hk0 : ak = 0
   ·subst hk0
    have hao := HAO.out
    unfold Sg.actOk at hao
    simp only [if_true, Bool.and_eq_true] at hao
    obtain ⟨hci, hvi⟩ := hao
    have hci2 := hci
    unfold Sg.isCell at hci2
    simp only [Bool.and_eq_true, decide_eq_true_eq, Sg.inR] at hci2
    obtain ⟨j, rfl⟩ := Int.eq_ofNat_of_zero_le hci2.1.1
    have hj : j < x.length := by have := HG.out; omega
    have hjx : (j : Int) < (x.length : Int) := by omega
    clear hci2 hvi hci
    obtain ⟨bn, rfl, hbn⟩ := (Sep.get SV.out 1 rfl : Own _ _ _ _ _ _ _ _).bn (show 0 < x.length by omega)
    have hN : Own v1 a.heap.size 3 1 (some ⟨bn, 0, none⟩) x.length x.length (ints p) := Sep.get SV.out 1 rfl
    obtain ⟨u, hu⟩ : ∃ u, (ints p)[j]? = some u := ⟨_, List.getElem?_eq_getElem (by rw [hN.1]; omega)⟩
    have r0 := hN.cell hu
    have q0 := hN.free j
    have ltn := (hN.lt (g := bn) rfl).2
    have hbna := HBN.out bn rfl
    have SV2 := lh (Sep.st SV.out 1 rfl ⟨bn, j, none⟩ (.int .i64 av) rfl (Th.own a.heap.size 3 1 (some ⟨bn, 0, none⟩) x.length x.length (ints (p.set j av))) (by have h9 := hN.st j (.int .i64 av); rw [show (ints p).set j (.int .i64 av) = ints (p.set j av) by simp [ints, List.map_set]] at h9; exact h9) (fun b hb => hb))
    have EV2 := lh (EV.out.set (p := ⟨bn, j, none⟩) hbn (.int .i64 av))
    have f0 : World.cell? (v1.setCell ⟨bn, j, none⟩ (.int .i64 av)) ⟨ba, 0, none⟩ = some (.int .i64 0) := (co).trans a0
    have szs : (v1.setCell ⟨bn, j, none⟩ (.int .i64 av)).heap.size = v1.heap.size := by simp [go_sem]
    have Fz := lh szs
    clear hu hN HBN szs SV EV
    by_cases ho : o = 0
    ·subst ho
     have HN := lh (show Q (k + 1) = (⟨0, p.set j av, s⟩, fl z (p.set j av) s) from by rw [HQ1.out]; simp [Sg.stepR, Sg.stepS])
     clear HQ1
     go_wp2_with fail
     have hpc := HK1.out.c
     rw [HN.out] at hpc
     have HPC := lh hpc
     clear hpc a0 a1 a2 r0 q0 f0
     generalize World.setCell v1 ⟨bn, j, none⟩ (.int .i64 av) = v2 at *
     refine (i_clone _ x.length x.length (p.set j av) _ (Own.rd (Sep.get SV2.out 1 rfl)) (by omega)).mono ?_
     rintro e v3 ⟨Ap, rfl, hp, hep⟩
     have SV3 := lh (Sep.add SV2.out hep (Th.own a.heap.size 3 1 Ap x.length x.length (ints (p.set j av))) (hp.mono (by have := EV2.out.size; omega)) (fun b hb => (hp.lt hb).1))
     have EV3 := lh (EV2.out.tr hep)
     clear SV2 EV2 hp hep
     go_wp2_with fail
     refine (i_cloneB bs g.length g.length s _ (Own.rd (Sep.get SV3.out 1 rfl)) (by omega)).mono ?_
     rintro e v4 ⟨As, rfl, hp, hep⟩
     have SV4 := lh (Sep.add SV3.out hep (Th.own a.heap.size 4 1 As g.length g.length (bools s)) (hp.mono (by have := EV3.out.size; omega)) (fun b hb => (hp.lt hb).1))
     have EV4 := lh (EV3.out.tr hep)
     clear SV3 EV3 hp hep
     go_wp2_with fail
     refine (HF.out.call k z ts (Th.own a.heap.size 4 1 (some ⟨bs, 0, none⟩) g.length g.length (bools s) :: Th.own a.heap.size 3 1 (some ⟨bn, 0, none⟩) x.length x.length (ints (p.set j av)) :: rs) _ Ap As _ _ x.length g.length (p.set j av) s hI.out hk30 HPC.out (by rw [List.length_set]; exact HPL.out) HSL.out rfl EV4.out (SV4.out.perm (two_out _ _ _ _ _ _))).mono ?_
     rintro e v5 ⟨rfl, hE5, ts', hI5, hS5⟩
     have HE5 := lh hE5
     have HI5 := lh hI5
     have HS5 := lh (hS5.perm (two_back _ _ _ _))
     clear hE5 hI5 hS5
     go_wp2
     go_roundw
     case rel => exact ⟨k + 1, ts', by omega, by go_num, by have h9 := HN.out; simp [h9], lh (by rw [HN.out]; exact HI5.out), HE5, lh (by rw [HN.out]; exact HS5.out)⟩
     case measure => simp [intOf]; omega
    ·have y0 : ((o : Int) == 0) = false := by simp; omega
     have HN := lh (show Q (k + 1) = (⟨o, p.set j av, s⟩, z) from by rw [HQ1.out]; simp [Sg.stepR, Sg.stepS, ho])
     clear HQ1 ho
     go_wp2
     go_roundw
     case rel => exact ⟨k + 1, ts, by omega, by go_num, by have h9 := HN.out; simp [h9], lh (by rw [HN.out]; exact HF.out.up _ _ _ hI.out), EV2, lh (by rw [HN.out]; exact SV2.out)⟩
     case measure => simp [intOf]; omega
   have y0 : (ak == 0) = false := by simp [hk0]
   by_cases hk1 : ak = 1
   ·subst hk1
    have hao := HAO.out
    unfold Sg.actOk at hao
    simp [Sg.inR] at hao
    obtain ⟨j, rfl⟩ := Int.eq_ofNat_of_zero_le hao.1.1.1
    have hj : j < g.length := by omega
    have hjx : (j : Int) < (g.length : Int) := by omega
    clear hao
    have hN : Own v1 a.heap.size 4 1 (some ⟨bs, 0, none⟩) g.length g.length (bools s) := Sep.get SV.out 0 rfl
    obtain ⟨u, hu⟩ : ∃ u, (bools s)[j]? = some u := ⟨_, List.getElem?_eq_getElem (by rw [hN.1]; omega)⟩
    have r0 := hN.cell hu
    have q0 := hN.free j
    have ltn := (hN.lt (g := bs) rfl)
    have SV2 := lh (Sep.st SV.out 0 rfl ⟨bs, j, none⟩ (.bool true) rfl (Th.own a.heap.size 4 1 (some ⟨bs, 0, none⟩) g.length g.length (bools (s.set j true))) (by have h9 := hN.st j (.bool true); rw [show (bools s).set j (.bool true) = bools (s.set j true) by simp [bools, List.map_set]] at h9; exact h9) (fun b hb => hb))
    have EV2 := lh (EV.out.set (p := ⟨bs, j, none⟩) ltn.1 (.bool true))
    have HN := lh (show Q (k + 1) = (⟨o, p, s.set j true⟩, z) from by rw [HQ1.out]; simp [Sg.stepR, Sg.stepS])
    clear hu hN SV EV HQ1
    go_wp2
    go_roundw
    case rel => exact ⟨k + 1, ts, by omega, by go_num, by have h9 := HN.out; simp [h9], lh (by rw [HN.out]; exact HF.out.up _ _ _ hI.out), EV2, lh (by rw [HN.out]; exact SV2.out)⟩
    case measure => simp [intOf]; omega
   have y1 : (ak == 1) = false := by simp [hk1]
   by_cases hk2 : ak = 2
   ·subst hk2
    have HN := lh (show Q (k + 1) = (⟨o + 1, p, s⟩, z) from by rw [HQ1.out]; simp [Sg.stepR, Sg.stepS])
    clear HQ1
    go_wp2
    go_roundw
    case rel => exact ⟨k + 1, ts, by omega, by go_num, by have h9 := HN.out; simp [h9], lh (by rw [HN.out]; exact HF.out.up _ _ _ hI.out), EV, lh (by rw [HN.out]; exact SV.out)⟩
    case measure => simp [intOf]; omega
   have y2 : (ak == 2) = false := by simp [hk2]
   obtain rfl : ak = 3 := by
    have hao := HAO.out
    unfold Sg.actOk at hao
    rw [if_neg hk0, if_neg hk1] at hao
    split at hao
    ·rename_i h; rcases h with h | h
     ·exact absurd h hk2
     ·exact h
    ·cases hao
   by_cases ho : o = 1
   ·subst ho
    have HN := lh (show Q (k + 1) = (⟨0, p, s⟩, fl z p s) from by rw [HQ1.out]; simp [Sg.stepR, Sg.stepS])
    clear HQ1
    go_wp2_with fail
    have hpc := HK1.out.c
    rw [HN.out] at hpc
    have HPC := lh hpc
    clear hpc a0 a1 a2
    refine (i_clone _ x.length x.length p _ (Own.rd (Sep.get SV.out 1 rfl)) (by omega)).mono ?_
    rintro e v3 ⟨Ap, rfl, hp, hep⟩
    have SV3 := lh (Sep.add SV.out hep (Th.own a.heap.size 3 1 Ap x.length x.length (ints p)) (hp.mono (by have := EV.out.size; omega)) (fun b hb => (hp.lt hb).1))
    have EV3 := lh (EV.out.tr hep)
    clear SV EV hp hep
    go_wp2_with fail
    refine (i_cloneB bs g.length g.length s _ (Own.rd (Sep.get SV3.out 1 rfl)) (by omega)).mono ?_
    rintro e v4 ⟨As, rfl, hp, hep⟩
    have SV4 := lh (Sep.add SV3.out hep (Th.own a.heap.size 4 1 As g.length g.length (bools s)) (hp.mono (by have := EV3.out.size; omega)) (fun b hb => (hp.lt hb).1))
    have EV4 := lh (EV3.out.tr hep)
    clear SV3 EV3 hp hep
    go_wp2_with fail
    refine (HF.out.call k z ts (Th.own a.heap.size 4 1 (some ⟨bs, 0, none⟩) g.length g.length (bools s) :: Th.own a.heap.size 3 1 An x.length x.length (ints p) :: rs) _ Ap As _ _ x.length g.length p s hI.out hk30 HPC.out HPL.out HSL.out rfl EV4.out (SV4.out.perm (two_out _ _ _ _ _ _))).mono ?_
    rintro e v5 ⟨rfl, hE5, ts', hI5, hS5⟩
    have HE5 := lh hE5
    have HI5 := lh hI5
    have HS5 := lh (hS5.perm (two_back _ _ _ _))
    clear hE5 hI5 hS5
    go_wp2
    go_roundw
    case rel => exact ⟨k + 1, ts', by omega, by go_num, by have h9 := HN.out; simp [h9], lh (by rw [HN.out]; exact HI5.out), HE5, lh (by rw [HN.out]; exact HS5.out)⟩
    case measure => simp [intOf]; omega
   ·have y3 : ((o : Int) == 1) = false := by simp; omega
    have HN := lh (show Q (k + 1) = (⟨o - 1, p, s⟩, z) from by rw [HQ1.out]; simp [Sg.stepR, Sg.stepS, ho])
    clear HQ1
    rcases o with _ | _ | m
    ·go_wp2
     go_roundw
     case rel => exact ⟨k + 1, ts, by omega, by go_num, by have h9 := HN.out; simp [h9]; omega, lh (by rw [HN.out]; exact HF.out.up _ _ _ hI.out), EV, lh (by rw [HN.out]; exact SV.out)⟩
     case measure => simp [intOf]; omega
    ·exact absurd rfl ho
    ·have iw : IntKind.i64.wrap (((m + 1 + 1 : Nat) : Int) - 1) = ((m + 1 : Nat) : Int) := by rw [show (((m + 1 + 1 : Nat) : Int) - 1) = ((m + 1 : Nat) : Int) by omega]; exact IntWalk.i64_in _ (by omega)
     go_wp2
     go_roundw
     case rel => exact ⟨k + 1, ts, by omega, by go_num, by have h9 := HN.out; simp [h9]; omega, lh (by rw [HN.out]; exact HF.out.up _ _ _ hI.out), EV, lh (by rw [HN.out]; exact SV.out)⟩
     case measure => simp [intOf]; omega
  ·obtain rfl : k = l.length := by omega
   go_wp2
   go_ret
   exact ⟨rfl, hER.out, ts, hI.out, Sep.tail (Sep.tail hSR.out)⟩
end Go.Proofs.YtaklkcjlihdlkaaGreat
