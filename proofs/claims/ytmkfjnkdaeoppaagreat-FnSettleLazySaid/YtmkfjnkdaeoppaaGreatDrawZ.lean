/- The reference's lazyOf: its contract. Conditions: bounds on the number of draws. -/
import Derived.Test.YtmkfjnkdaeoppaaGreatTy
import Derived.Test.YtmkfjnkdaeoppaaGreatDrawTwo
import Derived.Test.YtmkfjnkdaeoppaaGreatSpecThree
import Derived.Test.YtmkfjnkdaeoppaaGreatSepAll
import Derived.Test.YtmkfjnkdaeoppaaGreatStartY
import Derived.Test.YtmkfjnkdaeoppaaGreatLazTwo
import Derived.Test.YtmkfjnkdaeoppaaGreatLazJ
import Derived.Test.YtmkfjnkdaeoppaaGreatLazQ
namespace Go.Proofs.YtmkfjnkdaeoppaaGreat
open Go.RowKit

theorem nilsOwnZ {w : World} {B b n : Nat} (h : Own w B 26 1 (some ⟨b, 0, none⟩) n n (List.replicate n (.slice none 0 0))) : OwnL w B (some ⟨b, 0, none⟩) n (List.replicate n []) (List.replicate n (none, 0)) := by
 have hd : ∀ k : Nat, dcells (listIts (List.replicate k [])) (List.replicate k (none, 0)) = List.replicate k (.slice none 0 0) := by
  intro k
  induction k with
  | zero => rfl
  | succ k ih => simp only [List.replicate_succ, listIts, List.map_cons, dcells] at ih ⊢; rw [ih]; rfl
 refine ⟨by simp, ?_, ?_, ?_, ?_⟩
 ·rw [hd]; simpa using h
 ·intro i it x hi hx
  have hx2 := List.eq_of_mem_replicate (List.mem_of_getElem? hx)
  subst hx2
  unfold listIts at hi
  have hi2 := List.mem_of_getElem? hi
  rw [List.mem_map] at hi2
  obtain ⟨l, hl, rfl⟩ := hi2
  obtain rfl := List.eq_of_mem_replicate hl
  exact Own.nil _ _ _ _
 ·intro i j x y _ hx _ b hb
  have hx2 := List.eq_of_mem_replicate (List.mem_of_getElem? hx)
  subst hx2
  simp [blk] at hb
 ·intro i x hx b _ hb
  have hx2 := List.eq_of_mem_replicate (List.mem_of_getElem? hx)
  subst hx2
  simp [blk] at hb
def Lazied (R m : Nat) (w : World) (e : Ending) (w' : World) : Prop := ∃ (g : Sg.Graph) (A : Option Addr) (c : Nat) (v : List Int) (Av : Option Addr) (cv : Nat) (r : List (List Int)) (Ar : Option Addr) (cr : Nat) (q : List Int) (Aq : Option Addr) (cq : Nat),
 e = .returned (.tuple #[.agg #[.slice A g.length c], .agg #[.slice Av v.length cv, .slice Ar r.length cr, .slice Aq q.length cq]]) ∧ 2 ≤ g.length ∧ g.length ≤ 10 ∧ v.length ≤ 11 ∧ r.length ≤ 10 ∧ q.length ≤ 10 ∧
 (∀ W, Mod (fun b => b ≤ R ∨ b < w.heap.size) w' W → RdN W A g ∧ Rd W 1 Av v.length (ints v) ∧ RdLC W Ar r ∧ Rd W 1 Aq q.length (ints q)) ∧ Rdr w' R (m + 1600) ∧ Mod (fun b => b = R) w w'

theorem inR_of {g : Sg.Graph} {k : Nat} (hk : k < g.length) : Sg.inR (k : Int) 0 ((g.length : Int) - 1) = true := by unfold Sg.inR; simp; omega
theorem mayForget_of {g : Sg.Graph} {st : Sg.Lazy} {k : Nat} (hV : Sg.validL g st = true) (hk : k < g.length) (hc : Sg.isCell g (k : Int) = false) : Sg.mayForgetL g ⟨st.vals, st.reads, st.cols⟩ (k : Int) = true := by unfold Sg.mayForgetL; rw [hc, inR_of hk, show Sg.validL g ⟨st.vals, st.reads, st.cols⟩ = true from hV]; rfl
theorem mayRead_of {g : Sg.Graph} {st : Sg.Lazy} {k : Nat} (hV : Sg.validL g st = true) (hk : k < g.length) : (Sg.validL g ⟨st.vals, st.reads, st.cols⟩ && Sg.inR (k : Int) 0 ((g.length : Int) - 1)) = true := by rw [inR_of hk, show Sg.validL g ⟨st.vals, st.reads, st.cols⟩ = true from hV]; rfl
theorem forgetL_ok {g : Sg.Graph} {st : Sg.Lazy} {k : Nat} (hV : Sg.validL g st = true) (hk : k < g.length) (hc : Sg.isCell g (k : Int) = false) : Sg.validL g (Sg.forgetL st k) = true := by
 have hn : g[k]? = some g[k] := List.getElem?_eq_getElem hk
 refine Sg.forgetL_valid hV hn fun h0 => ?_
 have : Sg.isCell g (k : Int) = true := by unfold Sg.isCell Sg.kindAt; rw [inR_of hk]; simp [hn, h0]
 rw [this] at hc
 cases hc
theorem readL_ok {g : Sg.Graph} {st : Sg.Lazy} {k : Nat} (hV : Sg.validL g st = true) (hk : k < g.length) : Sg.validL g (Sg.readS g st (k : Int)).st = true := by
 have hs := Sg.validL_shape hV
 have h10 := Sg.validG_len10 hs.1
 exact (Sg.cleanS_cleaned hs.1 10 k ⟨st, []⟩ (by omega) hk hV).1.ok

set_option maxRecDepth 100000 in
set_option maxHeartbeats 16000000 in
theorem s_lazyOf (R m : Nat) (w : World) (h : Rdr w R m) (hm : m ≤ 500000) :
  Calls Tryz.prog 61 #[.pointer (some ⟨R, 0, none⟩)] w (Lazied R m w) := by
 have hRl := h.lt
 have E0 : Ext w (World.alloc (World.alloc w (.cells #[.slice none 0 0] 25)) (.cells #[.slice none 0 0, .slice none 0 0, .slice none 0 0] 29)) := ((Ext.rfl' w).al _).al _
 have H0 := lh (h.ext E0)
 have M0 := lh (Mod.of (F := fun b => b = R) E0)
 have b0 := (Bx.new w #[.slice none 0 0] 25).al (.cells #[.slice none 0 0, .slice none 0 0, .slice none 0 0] 29)
 have B0 := lh b0
 have d0 := Bx.new (World.alloc w (.cells #[.slice none 0 0] 25)) #[.slice none 0 0, .slice none 0 0, .slice none 0 0] 29
 simp only [World.size_alloc] at d0
 have D0 := lh d0
 clear h E0 b0 d0
 go_enter Tryz.func61, Tryz.ntmps61
 go_wp2_with fail
 refine (s_graphOf R m _ H0.out (by omega)).mono ?_
 rintro e w1 ⟨g, A, c, hs, cl, Ac, cc, rfl, hk1, ho1, hl1, hl2, hdj, hr1, hm1⟩
 have hsz1 := hm1.size
 simp only [World.size_alloc] at hsz1
 have M1 := lh ((M0.out.tr' hm1).al (.cells #[.slice A g.length c] 25))
 have B1 := lh ((B0.out.mod hm1 (by omega)).al (.cells #[.slice A g.length c] 25))
 have D1 := lh ((D0.out.mod hm1 (by omega)).al (.cells #[.slice A g.length c] 25))
 have G1 := lh (Bx.new w1 #[.slice A g.length c] 25)
 have K1 := lh ((hk1.mono (B' := w.heap.size + 2) (by simp)).ext ((Ext.rfl' w1).al (.cells #[.slice A g.length c] 25)))
 have O1 := lh ((ho1.mono (B' := w.heap.size + 2) (by simp)).al (.cells #[.slice A g.length c] 25))
 have R1 := lh (hr1.ext ((Ext.rfl' w1).al (.cells #[.slice A g.length c] 25)))
 have hlo := hk1.lo
 have hhi := hk1.hi
 have KB := lh (show ∀ b, fpD A hs b → b < w1.heap.size from fun b hb => (hk1.own.lt hb).2)
 have HVG := lh (s_validGraph A c g)
 have HVC := lh (s_validCells A Ac c cc g cl)
 clear hk1 ho1 hr1 hm1 M0 B0 D0 H0 hdj
 go_upto_region 2 with fail
 generalize hWW : World.alloc w1 (.cells #[.slice A g.length c] 25) = W1 at *
 have hWs : w1.heap.size < W1.heap.size := by rw [← hWW]; simp
 clear hWW
 have q1 := G1.out.cell (j := 0) rfl
 have b1 := blt q1
 cases hV : (Sg.validG g && Sg.validC g cl)
 ·cases hG : Sg.validG g
  ·have HG := lh hG
   clear hV hG
   go_wp2_with fail
   refine (HVG.out _ K1.out.rd).mono ?_
   rintro e w2 ⟨rfl, he2⟩
   rw [HG.out]
   have M2 := lh (M1.out.tr' (Mod.of he2))
   have B2 := lh (B1.out.ext he2)
   have D2 := lh (D1.out.ext he2)
   have G2 := lh (G1.out.ext he2)
   have K2 := lh (K1.out.ext he2)
   have O2 := lh (O1.out.ext he2)
   have R2 := lh (R1.out.ext he2)
   have q2 := he2.cellE q1
   have b2 := blt q2
   have hs2 := he2.size
   clear he2 q1 b1 M1 B1 D1 G1 K1 O1 R1
   obtain ⟨w3, rfl⟩ : ∃ w3 : World, w3 = w2 := ⟨_, rfl⟩
   have M3 := M2
   have B3 := B2
   have D3 := D2
   have G3 := G2
   have K3 := K2
   have O3 := O2
   have R3 := R2
   have q3 := q2
   have hs3 := Nat.le_refl w3.heap.size
   clear M2 B2 D2 G2 K2 O2 R2 q2
   have dr3 : Ext w3 (World.drew w3) := (Ext.rfl' _).dr
   have B_0 := lh (B3.out.ext dr3)
   have D_0 := lh (D3.out.ext dr3)
   have R_0 := lh (R3.out.ext dr3)
   have K_0 := lh (K3.out.ext dr3)
   have O_0 := lh (O3.out.ext dr3)
   have M_0 := lh (M3.out.tr' (Mod.of dr3))
   have q_0 := lh (dr3.cellE q3)
   clear dr3 B3 D3 R3 K3 O3 M3
   have f0_0 := B_0.out.free 0
   have x0_0 := B_0.out.cell (j := 0) rfl
   have g0_0 := D_0.out.free 0
   have g1_0 := D_0.out.free 1
   have g2_0 := D_0.out.free 2
   have y0_0 := D_0.out.cell (j := 0) rfl
   have y1_0 := D_0.out.cell (j := 1) rfl
   have y2_0 := D_0.out.cell (j := 2) rfl
   have bl_0 := D_0.out.lt
   go_wp2_with fail
   refine wp_region_held_drew (S := (fun W => W.cell? ⟨w1.heap.size, 0, none⟩ = some (.slice A g.length c))) (by kernel_rfl) ?_ (fun hHeld => ?_)
   ·exact q_0.out
   refine ty 0 ?_
   refine ty 1 ?_
   refine ty 2 ?_
   refine ty 3 ?_
   refine ty 4 ?_
   refine ty 6 ?_
   refine ty 7 ?_
   refine ty 8 ?_
   refine wpAnyH_ready (rs := [5, 9, 11]) (by kernel_rfl) (by simp) ?_
   refine AllReadyH.cons rfl (fun K hK => ?_) ?_
   ·refine held_mkb rfl rfl eiInts (B := w.heap.size + 2) rfl rfl (by omega) (by omega) (by first | omega | (simp; omega) | (simp only [World.size_setCell]; simp; omega)) ?_
    intro nb5 wm1 hnb5 hmk5 hme1
    rw [made_one _ _ rfl] at hmk5
    have MK5_1 := lh hmk5
    have hsz_1 : w.heap.size + 2 ≤ wm1.heap.size := by have := hme1.size; first | omega | (simp at this; omega)
    have B_1 := lh (B_0.out.ext hme1)
    have D_1 := lh (D_0.out.ext hme1)
    have R_1 := lh (R_0.out.ext hme1)
    have K_1 := lh (K_0.out.ext hme1)
    have O_1 := lh (O_0.out.ext hme1)
    have M_1 := lh (M_0.out.tr' (Mod.of hme1))
    have q_1 := lh (hme1.cellE q_0.out)
    clear hnb5 hmk5 hme1
    have f0_1 := B_1.out.free 0
    have x0_1 := B_1.out.cell (j := 0) rfl
    have g0_1 := D_1.out.free 0
    have g1_1 := D_1.out.free 1
    have g2_1 := D_1.out.free 2
    have y0_1 := D_1.out.cell (j := 0) rfl
    have y1_1 := D_1.out.cell (j := 1) rfl
    have y2_1 := D_1.out.cell (j := 2) rfl
    have bl_1 := D_1.out.lt
    try simp only [pg]
    refine hK.out _ _ (by exact q_1.out) fun hh2 => ?_; clear hK K hHeld; have hHeld := hh2; clear hh2
    try simp only [Act.put, pu]
    refine wpAnyH_ready (rs := [9, 11]) (by kernel_rfl) (by simp) ?_
    refine AllReadyH.cons rfl (fun K hK => ?_) ?_
    ·refine held_mkb rfl rfl eiInt (B := w.heap.size + 2) rfl rfl (by omega) (by omega) (by first | omega | (simp; omega) | (simp only [World.size_setCell]; simp; omega)) ?_
     intro nb9 wm2 hnb9 hmk9 hme2
     rw [made_one _ _ rfl] at hmk9
     have MK9_2 := lh hmk9
     have hsz_2 : w.heap.size + 2 ≤ wm2.heap.size := by have := hme2.size; first | omega | (simp at this; omega)
     have B_2 := lh (B_1.out.ext hme2)
     have D_2 := lh (D_1.out.ext hme2)
     have R_2 := lh (R_1.out.ext hme2)
     have K_2 := lh (K_1.out.ext hme2)
     have O_2 := lh (O_1.out.ext hme2)
     have M_2 := lh (M_1.out.tr' (Mod.of hme2))
     have q_2 := lh (hme2.cellE q_1.out)
     have MK5_2 := lh (MK5_1.out.ext hme2)
     clear hnb9 hmk9 hme2
     have f0_2 := B_2.out.free 0
     have x0_2 := B_2.out.cell (j := 0) rfl
     have g0_2 := D_2.out.free 0
     have g1_2 := D_2.out.free 1
     have g2_2 := D_2.out.free 2
     have y0_2 := D_2.out.cell (j := 0) rfl
     have y1_2 := D_2.out.cell (j := 1) rfl
     have y2_2 := D_2.out.cell (j := 2) rfl
     have bl_2 := D_2.out.lt
     try simp only [pg]
     refine hK.out _ _ (by exact q_2.out) fun hh2 => ?_; clear hK K hHeld; have hHeld := hh2; clear hh2
     try simp only [Act.put, pu]
     refine ty 10 ?_
     refine rd1 11 rfl fun K hK => ?_
     go_simp
     have hS_3 := lh (Mod.set (F := fun b => b = w.heap.size) (Mod.rfl' (fun b => b = w.heap.size) wm2) (p := ⟨w.heap.size, 0, none⟩) (.inl rfl) (.slice A g.length c))
     have B_3 := lh (B_2.out.set 0 (.slice A g.length c))
     have D_3 := lh (D_2.out.mod hS_3.out (by omega))
     have R_3 := lh (R_2.out.mod hS_3.out (fun b e => by omega))
     have K_3 := lh (K_2.out.mod hS_3.out (fun b e => by omega))
     have O_3 := lh (O_2.out.mod hS_3.out (fun b hb e => by have := (O_2.out.lt hb).1; omega))
     have M_3 := lh (M_2.out.tr hS_3.out (fun b e => .inr (by omega)))
     have q_3 := lh (hS_3.out.cellE q_2.out (by omega))
     have MK5_3 := lh (MK5_2.out.mod hS_3.out (fun b hb e => by have := (MK5_2.out.lt hb).1; omega))
     have MK9_3 := lh (MK9_2.out.mod hS_3.out (fun b hb e => by have := (MK9_2.out.lt hb).1; omega))
     have f0_3 := B_3.out.free 0
     have x0_3 := B_3.out.cell (j := 0) rfl
     have g0_3 := D_3.out.free 0
     have g1_3 := D_3.out.free 1
     have g2_3 := D_3.out.free 2
     have y0_3 := D_3.out.cell (j := 0) rfl
     have y1_3 := D_3.out.cell (j := 1) rfl
     have y2_3 := D_3.out.cell (j := 2) rfl
     have bl_3 := D_3.out.lt
     try simp only [pg]
     refine hK.out _ _ (by exact q_3.out) fun hh2 => ?_; clear hK K hHeld; have hHeld := hh2; clear hh2
     try simp only [Act.put]
     refine rd1 12 rfl fun K hK => ?_
     go_simp
     try simp only [pg]
     refine hK.out _ _ (by exact ((co).trans ((co).trans ((co).trans q_3.out)))) fun hh2 => ?_; clear hK K hHeld; have hHeld := hh2; clear hh2
     try simp only [Act.put]
     refine dn ?_
     go_wp2
     have bx0 : Bx (World.setCell (World.setCell (World.setCell (World.setCell wm2 ⟨w.heap.size, 0, none⟩ (.slice A g.length c)) ⟨w.heap.size + 1, 0, none⟩ (.slice Ac cl.length cc)) ⟨w.heap.size + 1, 1, none⟩ (.slice (some ⟨nb5, 0, none⟩) g.length g.length)) ⟨w.heap.size + 1, 2, none⟩ (.slice (some ⟨nb9, 0, none⟩) g.length g.length)) w.heap.size [(.slice A g.length c)] := ((B_3.out.oth (show w.heap.size + 1 ≠ w.heap.size by omega) (.slice Ac cl.length cc)).oth (show w.heap.size + 1 ≠ w.heap.size by omega) (.slice (some ⟨nb5, 0, none⟩) g.length g.length)).oth (show w.heap.size + 1 ≠ w.heap.size by omega) (.slice (some ⟨nb9, 0, none⟩) g.length g.length)
     have bx1 : Bx (World.setCell (World.setCell (World.setCell (World.setCell wm2 ⟨w.heap.size, 0, none⟩ (.slice A g.length c)) ⟨w.heap.size + 1, 0, none⟩ (.slice Ac cl.length cc)) ⟨w.heap.size + 1, 1, none⟩ (.slice (some ⟨nb5, 0, none⟩) g.length g.length)) ⟨w.heap.size + 1, 2, none⟩ (.slice (some ⟨nb9, 0, none⟩) g.length g.length)) (w.heap.size + 1) [(.slice Ac cl.length cc), (.slice (some ⟨nb5, 0, none⟩) g.length g.length), (.slice (some ⟨nb9, 0, none⟩) g.length g.length)] := Bx.set3z D_3.out (.slice Ac cl.length cc) (.slice (some ⟨nb5, 0, none⟩) g.length g.length) (.slice (some ⟨nb9, 0, none⟩) g.length g.length)
     have s0 := bx0.cell (j := 0) rfl
     have s1 := bx1.cell (j := 0) rfl
     have s2 := bx1.cell (j := 1) rfl
     have s3 := bx1.cell (j := 2) rfl
     have hm3 := Mod.set3z (World.setCell wm2 ⟨w.heap.size, 0, none⟩ (.slice A g.length c)) (w.heap.size + 1) (.slice Ac cl.length cc) (.slice (some ⟨nb5, 0, none⟩) g.length g.length) (.slice (some ⟨nb9, 0, none⟩) g.length g.length)
     have hm : Mod (fun b => b = w.heap.size ∨ b = w.heap.size + 1) (World.setCell wm2 ⟨w.heap.size, 0, none⟩ (.slice A g.length c)) (World.setCell (World.setCell (World.setCell (World.setCell wm2 ⟨w.heap.size, 0, none⟩ (.slice A g.length c)) ⟨w.heap.size + 1, 0, none⟩ (.slice Ac cl.length cc)) ⟨w.heap.size + 1, 1, none⟩ (.slice (some ⟨nb5, 0, none⟩) g.length g.length)) ⟨w.heap.size + 1, 2, none⟩ (.slice (some ⟨nb9, 0, none⟩) g.length g.length)) := hm3.mono (fun b _ e => .inr e)
     have hfin : ZF w.heap.size A g Ac cl (some ⟨nb5, 0, none⟩) (List.replicate g.length []) (some ⟨nb9, 0, none⟩) (List.replicate g.length 0) (World.setCell wm2 ⟨w.heap.size, 0, none⟩ (.slice A g.length c)) := fun W' hW' =>
      ⟨(K_3.out.mod hW' (fun b e => by omega)).rd, (O_3.out.mod hW' (fun b hb e => by have := (O_3.out.lt hb).1; omega)).rd, OwnL.rdLC (OwnD.mod (nilsOwnZ MK5_3.out) hW' (fun b hb e => by have := (OwnD.lt (nilsOwnZ MK5_3.out) hb).1; omega)) (by simp; omega) (by intro l hl; rw [List.eq_of_mem_replicate hl]; simp), by
       have := (MK9_3.out.mod hW' (fun b hb e => by have := (MK9_3.out.lt hb).1; omega)).rd
       simpa [ints] using this⟩
     refine bodyPost_ret (v := .tuple #[.agg #[(.slice A g.length c)], .agg #[(.slice Ac cl.length cc), (.slice (some ⟨nb5, 0, none⟩) g.length g.length), (.slice (some ⟨nb9, 0, none⟩) g.length g.length)]]) (by simp [results, Tryz.results61, go_sem, s0, s1, s2, s3]; try rfl) rfl ?_
     exact ⟨g, A, c, cl, Ac, cc, List.replicate g.length [], _, g.length, List.replicate g.length 0, _, g.length, by simp, hlo, hhi, by omega, by simp; omega, by simp; omega, ZF.fin hRl hfin hm, (R_3.out.mod hm (fun b e => by omega)).more (by omega), M_3.out.tr hm (fun b e => .inr (by omega))⟩
    refine AllReadyH.cons rfl (fun K hK => ?_) ?_
    ·go_simp
     have hS_2 := lh (Mod.set (F := fun b => b = w.heap.size) (Mod.rfl' (fun b => b = w.heap.size) wm1) (p := ⟨w.heap.size, 0, none⟩) (.inl rfl) (.slice A g.length c))
     have B_2 := lh (B_1.out.set 0 (.slice A g.length c))
     have D_2 := lh (D_1.out.mod hS_2.out (by omega))
     have R_2 := lh (R_1.out.mod hS_2.out (fun b e => by omega))
     have K_2 := lh (K_1.out.mod hS_2.out (fun b e => by omega))
     have O_2 := lh (O_1.out.mod hS_2.out (fun b hb e => by have := (O_1.out.lt hb).1; omega))
     have M_2 := lh (M_1.out.tr hS_2.out (fun b e => .inr (by omega)))
     have q_2 := lh (hS_2.out.cellE q_1.out (by omega))
     have MK5_2 := lh (MK5_1.out.mod hS_2.out (fun b hb e => by have := (MK5_1.out.lt hb).1; omega))
     have f0_2 := B_2.out.free 0
     have x0_2 := B_2.out.cell (j := 0) rfl
     have g0_2 := D_2.out.free 0
     have g1_2 := D_2.out.free 1
     have g2_2 := D_2.out.free 2
     have y0_2 := D_2.out.cell (j := 0) rfl
     have y1_2 := D_2.out.cell (j := 1) rfl
     have y2_2 := D_2.out.cell (j := 2) rfl
     have bl_2 := D_2.out.lt
     try simp only [pg]
     refine hK.out _ _ (by exact q_2.out) fun hh2 => ?_; clear hK K hHeld; have hHeld := hh2; clear hh2
     try simp only [Act.put]
     refine rd1 9 rfl fun K hK => ?_
     refine held_mkb rfl rfl eiInt (B := w.heap.size + 2) rfl rfl (by omega) (by omega) (by first | omega | (simp; omega) | (simp only [World.size_setCell]; simp; omega)) ?_
     intro nb9 wm3 hnb9 hmk9 hme3
     rw [made_one _ _ rfl] at hmk9
     have MK9_3 := lh hmk9
     have hsz_3 : w.heap.size + 2 ≤ wm3.heap.size := by have := hme3.size; first | omega | (simp at this; omega)
     have B_3 := lh (B_2.out.ext hme3)
     have D_3 := lh (D_2.out.ext hme3)
     have R_3 := lh (R_2.out.ext hme3)
     have K_3 := lh (K_2.out.ext hme3)
     have O_3 := lh (O_2.out.ext hme3)
     have M_3 := lh (M_2.out.tr' (Mod.of hme3))
     have q_3 := lh (hme3.cellE q_2.out)
     have MK5_3 := lh (MK5_2.out.ext hme3)
     clear hnb9 hmk9 hme3
     have f0_3 := B_3.out.free 0
     have x0_3 := B_3.out.cell (j := 0) rfl
     have g0_3 := D_3.out.free 0
     have g1_3 := D_3.out.free 1
     have g2_3 := D_3.out.free 2
     have y0_3 := D_3.out.cell (j := 0) rfl
     have y1_3 := D_3.out.cell (j := 1) rfl
     have y2_3 := D_3.out.cell (j := 2) rfl
     have bl_3 := D_3.out.lt
     try simp only [pg]
     refine hK.out _ _ (by exact q_3.out) fun hh2 => ?_; clear hK K hHeld; have hHeld := hh2; clear hh2
     try simp only [Act.put, pu]
     refine ty 10 ?_
     refine rd1 12 rfl fun K hK => ?_
     go_simp
     try simp only [pg]
     refine hK.out _ _ (by exact ((co).trans ((co).trans ((co).trans q_3.out)))) fun hh2 => ?_; clear hK K hHeld; have hHeld := hh2; clear hh2
     try simp only [Act.put]
     refine dn ?_
     go_wp2
     have bx0 : Bx (World.setCell (World.setCell (World.setCell wm3 ⟨w.heap.size + 1, 0, none⟩ (.slice Ac cl.length cc)) ⟨w.heap.size + 1, 1, none⟩ (.slice (some ⟨nb5, 0, none⟩) g.length g.length)) ⟨w.heap.size + 1, 2, none⟩ (.slice (some ⟨nb9, 0, none⟩) g.length g.length)) w.heap.size [(.slice A g.length c)] := ((B_3.out.oth (show w.heap.size + 1 ≠ w.heap.size by omega) (.slice Ac cl.length cc)).oth (show w.heap.size + 1 ≠ w.heap.size by omega) (.slice (some ⟨nb5, 0, none⟩) g.length g.length)).oth (show w.heap.size + 1 ≠ w.heap.size by omega) (.slice (some ⟨nb9, 0, none⟩) g.length g.length)
     have bx1 : Bx (World.setCell (World.setCell (World.setCell wm3 ⟨w.heap.size + 1, 0, none⟩ (.slice Ac cl.length cc)) ⟨w.heap.size + 1, 1, none⟩ (.slice (some ⟨nb5, 0, none⟩) g.length g.length)) ⟨w.heap.size + 1, 2, none⟩ (.slice (some ⟨nb9, 0, none⟩) g.length g.length)) (w.heap.size + 1) [(.slice Ac cl.length cc), (.slice (some ⟨nb5, 0, none⟩) g.length g.length), (.slice (some ⟨nb9, 0, none⟩) g.length g.length)] := Bx.set3z D_3.out (.slice Ac cl.length cc) (.slice (some ⟨nb5, 0, none⟩) g.length g.length) (.slice (some ⟨nb9, 0, none⟩) g.length g.length)
     have s0 := bx0.cell (j := 0) rfl
     have s1 := bx1.cell (j := 0) rfl
     have s2 := bx1.cell (j := 1) rfl
     have s3 := bx1.cell (j := 2) rfl
     have hm3 := Mod.set3z wm3 (w.heap.size + 1) (.slice Ac cl.length cc) (.slice (some ⟨nb5, 0, none⟩) g.length g.length) (.slice (some ⟨nb9, 0, none⟩) g.length g.length)
     have hm : Mod (fun b => b = w.heap.size ∨ b = w.heap.size + 1) wm3 (World.setCell (World.setCell (World.setCell wm3 ⟨w.heap.size + 1, 0, none⟩ (.slice Ac cl.length cc)) ⟨w.heap.size + 1, 1, none⟩ (.slice (some ⟨nb5, 0, none⟩) g.length g.length)) ⟨w.heap.size + 1, 2, none⟩ (.slice (some ⟨nb9, 0, none⟩) g.length g.length)) := hm3.mono (fun b _ e => .inr e)
     have hfin : ZF w.heap.size A g Ac cl (some ⟨nb5, 0, none⟩) (List.replicate g.length []) (some ⟨nb9, 0, none⟩) (List.replicate g.length 0) wm3 := fun W' hW' =>
      ⟨(K_3.out.mod hW' (fun b e => by omega)).rd, (O_3.out.mod hW' (fun b hb e => by have := (O_3.out.lt hb).1; omega)).rd, OwnL.rdLC (OwnD.mod (nilsOwnZ MK5_3.out) hW' (fun b hb e => by have := (OwnD.lt (nilsOwnZ MK5_3.out) hb).1; omega)) (by simp; omega) (by intro l hl; rw [List.eq_of_mem_replicate hl]; simp), by
       have := (MK9_3.out.mod hW' (fun b hb e => by have := (MK9_3.out.lt hb).1; omega)).rd
       simpa [ints] using this⟩
     refine bodyPost_ret (v := .tuple #[.agg #[(.slice A g.length c)], .agg #[(.slice Ac cl.length cc), (.slice (some ⟨nb5, 0, none⟩) g.length g.length), (.slice (some ⟨nb9, 0, none⟩) g.length g.length)]]) (by simp [results, Tryz.results61, go_sem, s0, s1, s2, s3]; try rfl) rfl ?_
     exact ⟨g, A, c, cl, Ac, cc, List.replicate g.length [], _, g.length, List.replicate g.length 0, _, g.length, by simp, hlo, hhi, by omega, by simp; omega, by simp; omega, ZF.fin hRl hfin hm, (R_3.out.mod hm (fun b e => by omega)).more (by omega), M_3.out.tr hm (fun b e => .inr (by omega))⟩
    exact AllReadyH.nil
   refine AllReadyH.cons rfl (fun K hK => ?_) ?_
   ·refine held_mkb rfl rfl eiInt (B := w.heap.size + 2) rfl rfl (by omega) (by omega) (by first | omega | (simp; omega) | (simp only [World.size_setCell]; simp; omega)) ?_
    intro nb9 wm1 hnb9 hmk9 hme1
    rw [made_one _ _ rfl] at hmk9
    have MK9_1 := lh hmk9
    have hsz_1 : w.heap.size + 2 ≤ wm1.heap.size := by have := hme1.size; first | omega | (simp at this; omega)
    have B_1 := lh (B_0.out.ext hme1)
    have D_1 := lh (D_0.out.ext hme1)
    have R_1 := lh (R_0.out.ext hme1)
    have K_1 := lh (K_0.out.ext hme1)
    have O_1 := lh (O_0.out.ext hme1)
    have M_1 := lh (M_0.out.tr' (Mod.of hme1))
    have q_1 := lh (hme1.cellE q_0.out)
    clear hnb9 hmk9 hme1
    have f0_1 := B_1.out.free 0
    have x0_1 := B_1.out.cell (j := 0) rfl
    have g0_1 := D_1.out.free 0
    have g1_1 := D_1.out.free 1
    have g2_1 := D_1.out.free 2
    have y0_1 := D_1.out.cell (j := 0) rfl
    have y1_1 := D_1.out.cell (j := 1) rfl
    have y2_1 := D_1.out.cell (j := 2) rfl
    have bl_1 := D_1.out.lt
    try simp only [pg]
    refine hK.out _ _ (by exact q_1.out) fun hh2 => ?_; clear hK K hHeld; have hHeld := hh2; clear hh2
    try simp only [Act.put, pu]
    refine wpAnyH_ready (rs := [5, 11]) (by kernel_rfl) (by simp) ?_
    refine AllReadyH.cons rfl (fun K hK => ?_) ?_
    ·refine held_mkb rfl rfl eiInts (B := w.heap.size + 2) rfl rfl (by omega) (by omega) (by first | omega | (simp; omega) | (simp only [World.size_setCell]; simp; omega)) ?_
     intro nb5 wm2 hnb5 hmk5 hme2
     rw [made_one _ _ rfl] at hmk5
     have MK5_2 := lh hmk5
     have hsz_2 : w.heap.size + 2 ≤ wm2.heap.size := by have := hme2.size; first | omega | (simp at this; omega)
     have B_2 := lh (B_1.out.ext hme2)
     have D_2 := lh (D_1.out.ext hme2)
     have R_2 := lh (R_1.out.ext hme2)
     have K_2 := lh (K_1.out.ext hme2)
     have O_2 := lh (O_1.out.ext hme2)
     have M_2 := lh (M_1.out.tr' (Mod.of hme2))
     have q_2 := lh (hme2.cellE q_1.out)
     have MK9_2 := lh (MK9_1.out.ext hme2)
     clear hnb5 hmk5 hme2
     have f0_2 := B_2.out.free 0
     have x0_2 := B_2.out.cell (j := 0) rfl
     have g0_2 := D_2.out.free 0
     have g1_2 := D_2.out.free 1
     have g2_2 := D_2.out.free 2
     have y0_2 := D_2.out.cell (j := 0) rfl
     have y1_2 := D_2.out.cell (j := 1) rfl
     have y2_2 := D_2.out.cell (j := 2) rfl
     have bl_2 := D_2.out.lt
     try simp only [pg]
     refine hK.out _ _ (by exact q_2.out) fun hh2 => ?_; clear hK K hHeld; have hHeld := hh2; clear hh2
     try simp only [Act.put, pu]
     refine ty 10 ?_
     refine rd1 11 rfl fun K hK => ?_
     go_simp
     have hS_3 := lh (Mod.set (F := fun b => b = w.heap.size) (Mod.rfl' (fun b => b = w.heap.size) wm2) (p := ⟨w.heap.size, 0, none⟩) (.inl rfl) (.slice A g.length c))
     have B_3 := lh (B_2.out.set 0 (.slice A g.length c))
     have D_3 := lh (D_2.out.mod hS_3.out (by omega))
     have R_3 := lh (R_2.out.mod hS_3.out (fun b e => by omega))
     have K_3 := lh (K_2.out.mod hS_3.out (fun b e => by omega))
     have O_3 := lh (O_2.out.mod hS_3.out (fun b hb e => by have := (O_2.out.lt hb).1; omega))
     have M_3 := lh (M_2.out.tr hS_3.out (fun b e => .inr (by omega)))
     have q_3 := lh (hS_3.out.cellE q_2.out (by omega))
     have MK9_3 := lh (MK9_2.out.mod hS_3.out (fun b hb e => by have := (MK9_2.out.lt hb).1; omega))
     have MK5_3 := lh (MK5_2.out.mod hS_3.out (fun b hb e => by have := (MK5_2.out.lt hb).1; omega))
     have f0_3 := B_3.out.free 0
     have x0_3 := B_3.out.cell (j := 0) rfl
     have g0_3 := D_3.out.free 0
     have g1_3 := D_3.out.free 1
     have g2_3 := D_3.out.free 2
     have y0_3 := D_3.out.cell (j := 0) rfl
     have y1_3 := D_3.out.cell (j := 1) rfl
     have y2_3 := D_3.out.cell (j := 2) rfl
     have bl_3 := D_3.out.lt
     try simp only [pg]
     refine hK.out _ _ (by exact q_3.out) fun hh2 => ?_; clear hK K hHeld; have hHeld := hh2; clear hh2
     try simp only [Act.put]
     refine rd1 12 rfl fun K hK => ?_
     go_simp
     try simp only [pg]
     refine hK.out _ _ (by exact ((co).trans ((co).trans ((co).trans q_3.out)))) fun hh2 => ?_; clear hK K hHeld; have hHeld := hh2; clear hh2
     try simp only [Act.put]
     refine dn ?_
     go_wp2
     have bx0 : Bx (World.setCell (World.setCell (World.setCell (World.setCell wm2 ⟨w.heap.size, 0, none⟩ (.slice A g.length c)) ⟨w.heap.size + 1, 0, none⟩ (.slice Ac cl.length cc)) ⟨w.heap.size + 1, 1, none⟩ (.slice (some ⟨nb5, 0, none⟩) g.length g.length)) ⟨w.heap.size + 1, 2, none⟩ (.slice (some ⟨nb9, 0, none⟩) g.length g.length)) w.heap.size [(.slice A g.length c)] := ((B_3.out.oth (show w.heap.size + 1 ≠ w.heap.size by omega) (.slice Ac cl.length cc)).oth (show w.heap.size + 1 ≠ w.heap.size by omega) (.slice (some ⟨nb5, 0, none⟩) g.length g.length)).oth (show w.heap.size + 1 ≠ w.heap.size by omega) (.slice (some ⟨nb9, 0, none⟩) g.length g.length)
     have bx1 : Bx (World.setCell (World.setCell (World.setCell (World.setCell wm2 ⟨w.heap.size, 0, none⟩ (.slice A g.length c)) ⟨w.heap.size + 1, 0, none⟩ (.slice Ac cl.length cc)) ⟨w.heap.size + 1, 1, none⟩ (.slice (some ⟨nb5, 0, none⟩) g.length g.length)) ⟨w.heap.size + 1, 2, none⟩ (.slice (some ⟨nb9, 0, none⟩) g.length g.length)) (w.heap.size + 1) [(.slice Ac cl.length cc), (.slice (some ⟨nb5, 0, none⟩) g.length g.length), (.slice (some ⟨nb9, 0, none⟩) g.length g.length)] := Bx.set3z D_3.out (.slice Ac cl.length cc) (.slice (some ⟨nb5, 0, none⟩) g.length g.length) (.slice (some ⟨nb9, 0, none⟩) g.length g.length)
     have s0 := bx0.cell (j := 0) rfl
     have s1 := bx1.cell (j := 0) rfl
     have s2 := bx1.cell (j := 1) rfl
     have s3 := bx1.cell (j := 2) rfl
     have hm3 := Mod.set3z (World.setCell wm2 ⟨w.heap.size, 0, none⟩ (.slice A g.length c)) (w.heap.size + 1) (.slice Ac cl.length cc) (.slice (some ⟨nb5, 0, none⟩) g.length g.length) (.slice (some ⟨nb9, 0, none⟩) g.length g.length)
     have hm : Mod (fun b => b = w.heap.size ∨ b = w.heap.size + 1) (World.setCell wm2 ⟨w.heap.size, 0, none⟩ (.slice A g.length c)) (World.setCell (World.setCell (World.setCell (World.setCell wm2 ⟨w.heap.size, 0, none⟩ (.slice A g.length c)) ⟨w.heap.size + 1, 0, none⟩ (.slice Ac cl.length cc)) ⟨w.heap.size + 1, 1, none⟩ (.slice (some ⟨nb5, 0, none⟩) g.length g.length)) ⟨w.heap.size + 1, 2, none⟩ (.slice (some ⟨nb9, 0, none⟩) g.length g.length)) := hm3.mono (fun b _ e => .inr e)
     have hfin : ZF w.heap.size A g Ac cl (some ⟨nb5, 0, none⟩) (List.replicate g.length []) (some ⟨nb9, 0, none⟩) (List.replicate g.length 0) (World.setCell wm2 ⟨w.heap.size, 0, none⟩ (.slice A g.length c)) := fun W' hW' =>
      ⟨(K_3.out.mod hW' (fun b e => by omega)).rd, (O_3.out.mod hW' (fun b hb e => by have := (O_3.out.lt hb).1; omega)).rd, OwnL.rdLC (OwnD.mod (nilsOwnZ MK5_3.out) hW' (fun b hb e => by have := (OwnD.lt (nilsOwnZ MK5_3.out) hb).1; omega)) (by simp; omega) (by intro l hl; rw [List.eq_of_mem_replicate hl]; simp), by
       have := (MK9_3.out.mod hW' (fun b hb e => by have := (MK9_3.out.lt hb).1; omega)).rd
       simpa [ints] using this⟩
     refine bodyPost_ret (v := .tuple #[.agg #[(.slice A g.length c)], .agg #[(.slice Ac cl.length cc), (.slice (some ⟨nb5, 0, none⟩) g.length g.length), (.slice (some ⟨nb9, 0, none⟩) g.length g.length)]]) (by simp [results, Tryz.results61, go_sem, s0, s1, s2, s3]; try rfl) rfl ?_
     exact ⟨g, A, c, cl, Ac, cc, List.replicate g.length [], _, g.length, List.replicate g.length 0, _, g.length, by simp, hlo, hhi, by omega, by simp; omega, by simp; omega, ZF.fin hRl hfin hm, (R_3.out.mod hm (fun b e => by omega)).more (by omega), M_3.out.tr hm (fun b e => .inr (by omega))⟩
    refine AllReadyH.cons rfl (fun K hK => ?_) ?_
    ·go_simp
     have hS_2 := lh (Mod.set (F := fun b => b = w.heap.size) (Mod.rfl' (fun b => b = w.heap.size) wm1) (p := ⟨w.heap.size, 0, none⟩) (.inl rfl) (.slice A g.length c))
     have B_2 := lh (B_1.out.set 0 (.slice A g.length c))
     have D_2 := lh (D_1.out.mod hS_2.out (by omega))
     have R_2 := lh (R_1.out.mod hS_2.out (fun b e => by omega))
     have K_2 := lh (K_1.out.mod hS_2.out (fun b e => by omega))
     have O_2 := lh (O_1.out.mod hS_2.out (fun b hb e => by have := (O_1.out.lt hb).1; omega))
     have M_2 := lh (M_1.out.tr hS_2.out (fun b e => .inr (by omega)))
     have q_2 := lh (hS_2.out.cellE q_1.out (by omega))
     have MK9_2 := lh (MK9_1.out.mod hS_2.out (fun b hb e => by have := (MK9_1.out.lt hb).1; omega))
     have f0_2 := B_2.out.free 0
     have x0_2 := B_2.out.cell (j := 0) rfl
     have g0_2 := D_2.out.free 0
     have g1_2 := D_2.out.free 1
     have g2_2 := D_2.out.free 2
     have y0_2 := D_2.out.cell (j := 0) rfl
     have y1_2 := D_2.out.cell (j := 1) rfl
     have y2_2 := D_2.out.cell (j := 2) rfl
     have bl_2 := D_2.out.lt
     try simp only [pg]
     refine hK.out _ _ (by exact q_2.out) fun hh2 => ?_; clear hK K hHeld; have hHeld := hh2; clear hh2
     try simp only [Act.put]
     refine rd1 5 rfl fun K hK => ?_
     refine held_mkb rfl rfl eiInts (B := w.heap.size + 2) rfl rfl (by omega) (by omega) (by first | omega | (simp; omega) | (simp only [World.size_setCell]; simp; omega)) ?_
     intro nb5 wm3 hnb5 hmk5 hme3
     rw [made_one _ _ rfl] at hmk5
     have MK5_3 := lh hmk5
     have hsz_3 : w.heap.size + 2 ≤ wm3.heap.size := by have := hme3.size; first | omega | (simp at this; omega)
     have B_3 := lh (B_2.out.ext hme3)
     have D_3 := lh (D_2.out.ext hme3)
     have R_3 := lh (R_2.out.ext hme3)
     have K_3 := lh (K_2.out.ext hme3)
     have O_3 := lh (O_2.out.ext hme3)
     have M_3 := lh (M_2.out.tr' (Mod.of hme3))
     have q_3 := lh (hme3.cellE q_2.out)
     have MK9_3 := lh (MK9_2.out.ext hme3)
     clear hnb5 hmk5 hme3
     have f0_3 := B_3.out.free 0
     have x0_3 := B_3.out.cell (j := 0) rfl
     have g0_3 := D_3.out.free 0
     have g1_3 := D_3.out.free 1
     have g2_3 := D_3.out.free 2
     have y0_3 := D_3.out.cell (j := 0) rfl
     have y1_3 := D_3.out.cell (j := 1) rfl
     have y2_3 := D_3.out.cell (j := 2) rfl
     have bl_3 := D_3.out.lt
     try simp only [pg]
     refine hK.out _ _ (by exact q_3.out) fun hh2 => ?_; clear hK K hHeld; have hHeld := hh2; clear hh2
     try simp only [Act.put, pu]
     refine ty 10 ?_
     refine rd1 12 rfl fun K hK => ?_
     go_simp
     try simp only [pg]
     refine hK.out _ _ (by exact ((co).trans ((co).trans ((co).trans q_3.out)))) fun hh2 => ?_; clear hK K hHeld; have hHeld := hh2; clear hh2
     try simp only [Act.put]
     refine dn ?_
     go_wp2
     have bx0 : Bx (World.setCell (World.setCell (World.setCell wm3 ⟨w.heap.size + 1, 0, none⟩ (.slice Ac cl.length cc)) ⟨w.heap.size + 1, 1, none⟩ (.slice (some ⟨nb5, 0, none⟩) g.length g.length)) ⟨w.heap.size + 1, 2, none⟩ (.slice (some ⟨nb9, 0, none⟩) g.length g.length)) w.heap.size [(.slice A g.length c)] := ((B_3.out.oth (show w.heap.size + 1 ≠ w.heap.size by omega) (.slice Ac cl.length cc)).oth (show w.heap.size + 1 ≠ w.heap.size by omega) (.slice (some ⟨nb5, 0, none⟩) g.length g.length)).oth (show w.heap.size + 1 ≠ w.heap.size by omega) (.slice (some ⟨nb9, 0, none⟩) g.length g.length)
     have bx1 : Bx (World.setCell (World.setCell (World.setCell wm3 ⟨w.heap.size + 1, 0, none⟩ (.slice Ac cl.length cc)) ⟨w.heap.size + 1, 1, none⟩ (.slice (some ⟨nb5, 0, none⟩) g.length g.length)) ⟨w.heap.size + 1, 2, none⟩ (.slice (some ⟨nb9, 0, none⟩) g.length g.length)) (w.heap.size + 1) [(.slice Ac cl.length cc), (.slice (some ⟨nb5, 0, none⟩) g.length g.length), (.slice (some ⟨nb9, 0, none⟩) g.length g.length)] := Bx.set3z D_3.out (.slice Ac cl.length cc) (.slice (some ⟨nb5, 0, none⟩) g.length g.length) (.slice (some ⟨nb9, 0, none⟩) g.length g.length)
     have s0 := bx0.cell (j := 0) rfl
     have s1 := bx1.cell (j := 0) rfl
     have s2 := bx1.cell (j := 1) rfl
     have s3 := bx1.cell (j := 2) rfl
     have hm3 := Mod.set3z wm3 (w.heap.size + 1) (.slice Ac cl.length cc) (.slice (some ⟨nb5, 0, none⟩) g.length g.length) (.slice (some ⟨nb9, 0, none⟩) g.length g.length)
     have hm : Mod (fun b => b = w.heap.size ∨ b = w.heap.size + 1) wm3 (World.setCell (World.setCell (World.setCell wm3 ⟨w.heap.size + 1, 0, none⟩ (.slice Ac cl.length cc)) ⟨w.heap.size + 1, 1, none⟩ (.slice (some ⟨nb5, 0, none⟩) g.length g.length)) ⟨w.heap.size + 1, 2, none⟩ (.slice (some ⟨nb9, 0, none⟩) g.length g.length)) := hm3.mono (fun b _ e => .inr e)
     have hfin : ZF w.heap.size A g Ac cl (some ⟨nb5, 0, none⟩) (List.replicate g.length []) (some ⟨nb9, 0, none⟩) (List.replicate g.length 0) wm3 := fun W' hW' =>
      ⟨(K_3.out.mod hW' (fun b e => by omega)).rd, (O_3.out.mod hW' (fun b hb e => by have := (O_3.out.lt hb).1; omega)).rd, OwnL.rdLC (OwnD.mod (nilsOwnZ MK5_3.out) hW' (fun b hb e => by have := (OwnD.lt (nilsOwnZ MK5_3.out) hb).1; omega)) (by simp; omega) (by intro l hl; rw [List.eq_of_mem_replicate hl]; simp), by
       have := (MK9_3.out.mod hW' (fun b hb e => by have := (MK9_3.out.lt hb).1; omega)).rd
       simpa [ints] using this⟩
     refine bodyPost_ret (v := .tuple #[.agg #[(.slice A g.length c)], .agg #[(.slice Ac cl.length cc), (.slice (some ⟨nb5, 0, none⟩) g.length g.length), (.slice (some ⟨nb9, 0, none⟩) g.length g.length)]]) (by simp [results, Tryz.results61, go_sem, s0, s1, s2, s3]; try rfl) rfl ?_
     exact ⟨g, A, c, cl, Ac, cc, List.replicate g.length [], _, g.length, List.replicate g.length 0, _, g.length, by simp, hlo, hhi, by omega, by simp; omega, by simp; omega, ZF.fin hRl hfin hm, (R_3.out.mod hm (fun b e => by omega)).more (by omega), M_3.out.tr hm (fun b e => .inr (by omega))⟩
    exact AllReadyH.nil
   refine AllReadyH.cons rfl (fun K hK => ?_) ?_
   ·go_simp
    have hS_1 := lh (Mod.set (F := fun b => b = w.heap.size) (Mod.rfl' (fun b => b = w.heap.size) (World.drew w3)) (p := ⟨w.heap.size, 0, none⟩) (.inl rfl) (.slice A g.length c))
    have B_1 := lh (B_0.out.set 0 (.slice A g.length c))
    have D_1 := lh (D_0.out.mod hS_1.out (by omega))
    have R_1 := lh (R_0.out.mod hS_1.out (fun b e => by omega))
    have K_1 := lh (K_0.out.mod hS_1.out (fun b e => by omega))
    have O_1 := lh (O_0.out.mod hS_1.out (fun b hb e => by have := (O_0.out.lt hb).1; omega))
    have M_1 := lh (M_0.out.tr hS_1.out (fun b e => .inr (by omega)))
    have q_1 := lh (hS_1.out.cellE q_0.out (by omega))
    have f0_1 := B_1.out.free 0
    have x0_1 := B_1.out.cell (j := 0) rfl
    have g0_1 := D_1.out.free 0
    have g1_1 := D_1.out.free 1
    have g2_1 := D_1.out.free 2
    have y0_1 := D_1.out.cell (j := 0) rfl
    have y1_1 := D_1.out.cell (j := 1) rfl
    have y2_1 := D_1.out.cell (j := 2) rfl
    have bl_1 := D_1.out.lt
    try simp only [pg]
    refine hK.out _ _ (by exact q_1.out) fun hh2 => ?_; clear hK K hHeld; have hHeld := hh2; clear hh2
    try simp only [Act.put]
    refine wpAnyH_ready (rs := [5, 9]) (by kernel_rfl) (by simp) ?_
    refine AllReadyH.cons rfl (fun K hK => ?_) ?_
    ·refine held_mkb rfl rfl eiInts (B := w.heap.size + 2) rfl rfl (by omega) (by omega) (by first | omega | (simp; omega) | (simp only [World.size_setCell]; simp; omega)) ?_
     intro nb5 wm2 hnb5 hmk5 hme2
     rw [made_one _ _ rfl] at hmk5
     have MK5_2 := lh hmk5
     have hsz_2 : w.heap.size + 2 ≤ wm2.heap.size := by have := hme2.size; first | omega | (simp at this; omega)
     have B_2 := lh (B_1.out.ext hme2)
     have D_2 := lh (D_1.out.ext hme2)
     have R_2 := lh (R_1.out.ext hme2)
     have K_2 := lh (K_1.out.ext hme2)
     have O_2 := lh (O_1.out.ext hme2)
     have M_2 := lh (M_1.out.tr' (Mod.of hme2))
     have q_2 := lh (hme2.cellE q_1.out)
     clear hnb5 hmk5 hme2
     have f0_2 := B_2.out.free 0
     have x0_2 := B_2.out.cell (j := 0) rfl
     have g0_2 := D_2.out.free 0
     have g1_2 := D_2.out.free 1
     have g2_2 := D_2.out.free 2
     have y0_2 := D_2.out.cell (j := 0) rfl
     have y1_2 := D_2.out.cell (j := 1) rfl
     have y2_2 := D_2.out.cell (j := 2) rfl
     have bl_2 := D_2.out.lt
     try simp only [pg]
     refine hK.out _ _ (by exact q_2.out) fun hh2 => ?_; clear hK K hHeld; have hHeld := hh2; clear hh2
     try simp only [Act.put, pu]
     refine rd1 9 rfl fun K hK => ?_
     refine held_mkb rfl rfl eiInt (B := w.heap.size + 2) rfl rfl (by omega) (by omega) (by first | omega | (simp; omega) | (simp only [World.size_setCell]; simp; omega)) ?_
     intro nb9 wm3 hnb9 hmk9 hme3
     rw [made_one _ _ rfl] at hmk9
     have MK9_3 := lh hmk9
     have hsz_3 : w.heap.size + 2 ≤ wm3.heap.size := by have := hme3.size; first | omega | (simp at this; omega)
     have B_3 := lh (B_2.out.ext hme3)
     have D_3 := lh (D_2.out.ext hme3)
     have R_3 := lh (R_2.out.ext hme3)
     have K_3 := lh (K_2.out.ext hme3)
     have O_3 := lh (O_2.out.ext hme3)
     have M_3 := lh (M_2.out.tr' (Mod.of hme3))
     have q_3 := lh (hme3.cellE q_2.out)
     have MK5_3 := lh (MK5_2.out.ext hme3)
     clear hnb9 hmk9 hme3
     have f0_3 := B_3.out.free 0
     have x0_3 := B_3.out.cell (j := 0) rfl
     have g0_3 := D_3.out.free 0
     have g1_3 := D_3.out.free 1
     have g2_3 := D_3.out.free 2
     have y0_3 := D_3.out.cell (j := 0) rfl
     have y1_3 := D_3.out.cell (j := 1) rfl
     have y2_3 := D_3.out.cell (j := 2) rfl
     have bl_3 := D_3.out.lt
     try simp only [pg]
     refine hK.out _ _ (by exact q_3.out) fun hh2 => ?_; clear hK K hHeld; have hHeld := hh2; clear hh2
     try simp only [Act.put, pu]
     refine ty 10 ?_
     refine rd1 12 rfl fun K hK => ?_
     go_simp
     try simp only [pg]
     refine hK.out _ _ (by exact ((co).trans ((co).trans ((co).trans q_3.out)))) fun hh2 => ?_; clear hK K hHeld; have hHeld := hh2; clear hh2
     try simp only [Act.put]
     refine dn ?_
     go_wp2
     have bx0 : Bx (World.setCell (World.setCell (World.setCell wm3 ⟨w.heap.size + 1, 0, none⟩ (.slice Ac cl.length cc)) ⟨w.heap.size + 1, 1, none⟩ (.slice (some ⟨nb5, 0, none⟩) g.length g.length)) ⟨w.heap.size + 1, 2, none⟩ (.slice (some ⟨nb9, 0, none⟩) g.length g.length)) w.heap.size [(.slice A g.length c)] := ((B_3.out.oth (show w.heap.size + 1 ≠ w.heap.size by omega) (.slice Ac cl.length cc)).oth (show w.heap.size + 1 ≠ w.heap.size by omega) (.slice (some ⟨nb5, 0, none⟩) g.length g.length)).oth (show w.heap.size + 1 ≠ w.heap.size by omega) (.slice (some ⟨nb9, 0, none⟩) g.length g.length)
     have bx1 : Bx (World.setCell (World.setCell (World.setCell wm3 ⟨w.heap.size + 1, 0, none⟩ (.slice Ac cl.length cc)) ⟨w.heap.size + 1, 1, none⟩ (.slice (some ⟨nb5, 0, none⟩) g.length g.length)) ⟨w.heap.size + 1, 2, none⟩ (.slice (some ⟨nb9, 0, none⟩) g.length g.length)) (w.heap.size + 1) [(.slice Ac cl.length cc), (.slice (some ⟨nb5, 0, none⟩) g.length g.length), (.slice (some ⟨nb9, 0, none⟩) g.length g.length)] := Bx.set3z D_3.out (.slice Ac cl.length cc) (.slice (some ⟨nb5, 0, none⟩) g.length g.length) (.slice (some ⟨nb9, 0, none⟩) g.length g.length)
     have s0 := bx0.cell (j := 0) rfl
     have s1 := bx1.cell (j := 0) rfl
     have s2 := bx1.cell (j := 1) rfl
     have s3 := bx1.cell (j := 2) rfl
     have hm3 := Mod.set3z wm3 (w.heap.size + 1) (.slice Ac cl.length cc) (.slice (some ⟨nb5, 0, none⟩) g.length g.length) (.slice (some ⟨nb9, 0, none⟩) g.length g.length)
     have hm : Mod (fun b => b = w.heap.size ∨ b = w.heap.size + 1) wm3 (World.setCell (World.setCell (World.setCell wm3 ⟨w.heap.size + 1, 0, none⟩ (.slice Ac cl.length cc)) ⟨w.heap.size + 1, 1, none⟩ (.slice (some ⟨nb5, 0, none⟩) g.length g.length)) ⟨w.heap.size + 1, 2, none⟩ (.slice (some ⟨nb9, 0, none⟩) g.length g.length)) := hm3.mono (fun b _ e => .inr e)
     have hfin : ZF w.heap.size A g Ac cl (some ⟨nb5, 0, none⟩) (List.replicate g.length []) (some ⟨nb9, 0, none⟩) (List.replicate g.length 0) wm3 := fun W' hW' =>
      ⟨(K_3.out.mod hW' (fun b e => by omega)).rd, (O_3.out.mod hW' (fun b hb e => by have := (O_3.out.lt hb).1; omega)).rd, OwnL.rdLC (OwnD.mod (nilsOwnZ MK5_3.out) hW' (fun b hb e => by have := (OwnD.lt (nilsOwnZ MK5_3.out) hb).1; omega)) (by simp; omega) (by intro l hl; rw [List.eq_of_mem_replicate hl]; simp), by
       have := (MK9_3.out.mod hW' (fun b hb e => by have := (MK9_3.out.lt hb).1; omega)).rd
       simpa [ints] using this⟩
     refine bodyPost_ret (v := .tuple #[.agg #[(.slice A g.length c)], .agg #[(.slice Ac cl.length cc), (.slice (some ⟨nb5, 0, none⟩) g.length g.length), (.slice (some ⟨nb9, 0, none⟩) g.length g.length)]]) (by simp [results, Tryz.results61, go_sem, s0, s1, s2, s3]; try rfl) rfl ?_
     exact ⟨g, A, c, cl, Ac, cc, List.replicate g.length [], _, g.length, List.replicate g.length 0, _, g.length, by simp, hlo, hhi, by omega, by simp; omega, by simp; omega, ZF.fin hRl hfin hm, (R_3.out.mod hm (fun b e => by omega)).more (by omega), M_3.out.tr hm (fun b e => .inr (by omega))⟩
    refine AllReadyH.cons rfl (fun K hK => ?_) ?_
    ·refine held_mkb rfl rfl eiInt (B := w.heap.size + 2) rfl rfl (by omega) (by omega) (by first | omega | (simp; omega) | (simp only [World.size_setCell]; simp; omega)) ?_
     intro nb9 wm2 hnb9 hmk9 hme2
     rw [made_one _ _ rfl] at hmk9
     have MK9_2 := lh hmk9
     have hsz_2 : w.heap.size + 2 ≤ wm2.heap.size := by have := hme2.size; first | omega | (simp at this; omega)
     have B_2 := lh (B_1.out.ext hme2)
     have D_2 := lh (D_1.out.ext hme2)
     have R_2 := lh (R_1.out.ext hme2)
     have K_2 := lh (K_1.out.ext hme2)
     have O_2 := lh (O_1.out.ext hme2)
     have M_2 := lh (M_1.out.tr' (Mod.of hme2))
     have q_2 := lh (hme2.cellE q_1.out)
     clear hnb9 hmk9 hme2
     have f0_2 := B_2.out.free 0
     have x0_2 := B_2.out.cell (j := 0) rfl
     have g0_2 := D_2.out.free 0
     have g1_2 := D_2.out.free 1
     have g2_2 := D_2.out.free 2
     have y0_2 := D_2.out.cell (j := 0) rfl
     have y1_2 := D_2.out.cell (j := 1) rfl
     have y2_2 := D_2.out.cell (j := 2) rfl
     have bl_2 := D_2.out.lt
     try simp only [pg]
     refine hK.out _ _ (by exact q_2.out) fun hh2 => ?_; clear hK K hHeld; have hHeld := hh2; clear hh2
     try simp only [Act.put, pu]
     refine rd1 5 rfl fun K hK => ?_
     refine held_mkb rfl rfl eiInts (B := w.heap.size + 2) rfl rfl (by omega) (by omega) (by first | omega | (simp; omega) | (simp only [World.size_setCell]; simp; omega)) ?_
     intro nb5 wm3 hnb5 hmk5 hme3
     rw [made_one _ _ rfl] at hmk5
     have MK5_3 := lh hmk5
     have hsz_3 : w.heap.size + 2 ≤ wm3.heap.size := by have := hme3.size; first | omega | (simp at this; omega)
     have B_3 := lh (B_2.out.ext hme3)
     have D_3 := lh (D_2.out.ext hme3)
     have R_3 := lh (R_2.out.ext hme3)
     have K_3 := lh (K_2.out.ext hme3)
     have O_3 := lh (O_2.out.ext hme3)
     have M_3 := lh (M_2.out.tr' (Mod.of hme3))
     have q_3 := lh (hme3.cellE q_2.out)
     have MK9_3 := lh (MK9_2.out.ext hme3)
     clear hnb5 hmk5 hme3
     have f0_3 := B_3.out.free 0
     have x0_3 := B_3.out.cell (j := 0) rfl
     have g0_3 := D_3.out.free 0
     have g1_3 := D_3.out.free 1
     have g2_3 := D_3.out.free 2
     have y0_3 := D_3.out.cell (j := 0) rfl
     have y1_3 := D_3.out.cell (j := 1) rfl
     have y2_3 := D_3.out.cell (j := 2) rfl
     have bl_3 := D_3.out.lt
     try simp only [pg]
     refine hK.out _ _ (by exact q_3.out) fun hh2 => ?_; clear hK K hHeld; have hHeld := hh2; clear hh2
     try simp only [Act.put, pu]
     refine ty 10 ?_
     refine rd1 12 rfl fun K hK => ?_
     go_simp
     try simp only [pg]
     refine hK.out _ _ (by exact ((co).trans ((co).trans ((co).trans q_3.out)))) fun hh2 => ?_; clear hK K hHeld; have hHeld := hh2; clear hh2
     try simp only [Act.put]
     refine dn ?_
     go_wp2
     have bx0 : Bx (World.setCell (World.setCell (World.setCell wm3 ⟨w.heap.size + 1, 0, none⟩ (.slice Ac cl.length cc)) ⟨w.heap.size + 1, 1, none⟩ (.slice (some ⟨nb5, 0, none⟩) g.length g.length)) ⟨w.heap.size + 1, 2, none⟩ (.slice (some ⟨nb9, 0, none⟩) g.length g.length)) w.heap.size [(.slice A g.length c)] := ((B_3.out.oth (show w.heap.size + 1 ≠ w.heap.size by omega) (.slice Ac cl.length cc)).oth (show w.heap.size + 1 ≠ w.heap.size by omega) (.slice (some ⟨nb5, 0, none⟩) g.length g.length)).oth (show w.heap.size + 1 ≠ w.heap.size by omega) (.slice (some ⟨nb9, 0, none⟩) g.length g.length)
     have bx1 : Bx (World.setCell (World.setCell (World.setCell wm3 ⟨w.heap.size + 1, 0, none⟩ (.slice Ac cl.length cc)) ⟨w.heap.size + 1, 1, none⟩ (.slice (some ⟨nb5, 0, none⟩) g.length g.length)) ⟨w.heap.size + 1, 2, none⟩ (.slice (some ⟨nb9, 0, none⟩) g.length g.length)) (w.heap.size + 1) [(.slice Ac cl.length cc), (.slice (some ⟨nb5, 0, none⟩) g.length g.length), (.slice (some ⟨nb9, 0, none⟩) g.length g.length)] := Bx.set3z D_3.out (.slice Ac cl.length cc) (.slice (some ⟨nb5, 0, none⟩) g.length g.length) (.slice (some ⟨nb9, 0, none⟩) g.length g.length)
     have s0 := bx0.cell (j := 0) rfl
     have s1 := bx1.cell (j := 0) rfl
     have s2 := bx1.cell (j := 1) rfl
     have s3 := bx1.cell (j := 2) rfl
     have hm3 := Mod.set3z wm3 (w.heap.size + 1) (.slice Ac cl.length cc) (.slice (some ⟨nb5, 0, none⟩) g.length g.length) (.slice (some ⟨nb9, 0, none⟩) g.length g.length)
     have hm : Mod (fun b => b = w.heap.size ∨ b = w.heap.size + 1) wm3 (World.setCell (World.setCell (World.setCell wm3 ⟨w.heap.size + 1, 0, none⟩ (.slice Ac cl.length cc)) ⟨w.heap.size + 1, 1, none⟩ (.slice (some ⟨nb5, 0, none⟩) g.length g.length)) ⟨w.heap.size + 1, 2, none⟩ (.slice (some ⟨nb9, 0, none⟩) g.length g.length)) := hm3.mono (fun b _ e => .inr e)
     have hfin : ZF w.heap.size A g Ac cl (some ⟨nb5, 0, none⟩) (List.replicate g.length []) (some ⟨nb9, 0, none⟩) (List.replicate g.length 0) wm3 := fun W' hW' =>
      ⟨(K_3.out.mod hW' (fun b e => by omega)).rd, (O_3.out.mod hW' (fun b hb e => by have := (O_3.out.lt hb).1; omega)).rd, OwnL.rdLC (OwnD.mod (nilsOwnZ MK5_3.out) hW' (fun b hb e => by have := (OwnD.lt (nilsOwnZ MK5_3.out) hb).1; omega)) (by simp; omega) (by intro l hl; rw [List.eq_of_mem_replicate hl]; simp), by
       have := (MK9_3.out.mod hW' (fun b hb e => by have := (MK9_3.out.lt hb).1; omega)).rd
       simpa [ints] using this⟩
     refine bodyPost_ret (v := .tuple #[.agg #[(.slice A g.length c)], .agg #[(.slice Ac cl.length cc), (.slice (some ⟨nb5, 0, none⟩) g.length g.length), (.slice (some ⟨nb9, 0, none⟩) g.length g.length)]]) (by simp [results, Tryz.results61, go_sem, s0, s1, s2, s3]; try rfl) rfl ?_
     exact ⟨g, A, c, cl, Ac, cc, List.replicate g.length [], _, g.length, List.replicate g.length 0, _, g.length, by simp, hlo, hhi, by omega, by simp; omega, by simp; omega, ZF.fin hRl hfin hm, (R_3.out.mod hm (fun b e => by omega)).more (by omega), M_3.out.tr hm (fun b e => .inr (by omega))⟩
    exact AllReadyH.nil
   exact AllReadyH.nil
  ·have HG := lh hG
   have HC := lh (show Sg.validC g cl = false by rw [hG] at hV; simpa using hV)
   clear hV hG
   go_wp2_with fail
   refine (HVG.out _ K1.out.rd).mono ?_
   rintro e w2 ⟨rfl, he2⟩
   rw [HG.out]
   have M2 := lh (M1.out.tr' (Mod.of he2))
   have B2 := lh (B1.out.ext he2)
   have D2 := lh (D1.out.ext he2)
   have G2 := lh (G1.out.ext he2)
   have K2 := lh (K1.out.ext he2)
   have O2 := lh (O1.out.ext he2)
   have R2 := lh (R1.out.ext he2)
   have q2 := he2.cellE q1
   have b2 := blt q2
   have hs2 := he2.size
   clear he2 q1 b1 M1 B1 D1 G1 K1 O1 R1
   go_wp2_with fail
   refine (HVC.out _ K2.out.rd O2.out.rd).mono ?_
   rintro e w3 ⟨rfl, he3⟩
   rw [HC.out]
   have M3 := lh (M2.out.tr' (Mod.of he3))
   have B3 := lh (B2.out.ext he3)
   have D3 := lh (D2.out.ext he3)
   have G3 := lh (G2.out.ext he3)
   have K3 := lh (K2.out.ext he3)
   have O3 := lh (O2.out.ext he3)
   have R3 := lh (R2.out.ext he3)
   have q3 := he3.cellE q2
   have b3 := blt q3
   have hs3 := he3.size
   clear he3 q2 b2 M2 B2 D2 G2 K2 O2 R2
   have dr3 : Ext w3 (World.drew w3) := (Ext.rfl' _).dr
   have B_0 := lh (B3.out.ext dr3)
   have D_0 := lh (D3.out.ext dr3)
   have R_0 := lh (R3.out.ext dr3)
   have K_0 := lh (K3.out.ext dr3)
   have O_0 := lh (O3.out.ext dr3)
   have M_0 := lh (M3.out.tr' (Mod.of dr3))
   have q_0 := lh (dr3.cellE q3)
   clear dr3 B3 D3 R3 K3 O3 M3
   have f0_0 := B_0.out.free 0
   have x0_0 := B_0.out.cell (j := 0) rfl
   have g0_0 := D_0.out.free 0
   have g1_0 := D_0.out.free 1
   have g2_0 := D_0.out.free 2
   have y0_0 := D_0.out.cell (j := 0) rfl
   have y1_0 := D_0.out.cell (j := 1) rfl
   have y2_0 := D_0.out.cell (j := 2) rfl
   have bl_0 := D_0.out.lt
   go_wp2_with fail
   refine wp_region_held_drew (S := (fun W => W.cell? ⟨w1.heap.size, 0, none⟩ = some (.slice A g.length c))) (by kernel_rfl) ?_ (fun hHeld => ?_)
   ·exact q_0.out
   refine ty 0 ?_
   refine ty 1 ?_
   refine ty 2 ?_
   refine ty 3 ?_
   refine ty 4 ?_
   refine ty 6 ?_
   refine ty 7 ?_
   refine ty 8 ?_
   refine wpAnyH_ready (rs := [5, 9, 11]) (by kernel_rfl) (by simp) ?_
   refine AllReadyH.cons rfl (fun K hK => ?_) ?_
   ·refine held_mkb rfl rfl eiInts (B := w.heap.size + 2) rfl rfl (by omega) (by omega) (by first | omega | (simp; omega) | (simp only [World.size_setCell]; simp; omega)) ?_
    intro nb5 wm1 hnb5 hmk5 hme1
    rw [made_one _ _ rfl] at hmk5
    have MK5_1 := lh hmk5
    have hsz_1 : w.heap.size + 2 ≤ wm1.heap.size := by have := hme1.size; first | omega | (simp at this; omega)
    have B_1 := lh (B_0.out.ext hme1)
    have D_1 := lh (D_0.out.ext hme1)
    have R_1 := lh (R_0.out.ext hme1)
    have K_1 := lh (K_0.out.ext hme1)
    have O_1 := lh (O_0.out.ext hme1)
    have M_1 := lh (M_0.out.tr' (Mod.of hme1))
    have q_1 := lh (hme1.cellE q_0.out)
    clear hnb5 hmk5 hme1
    have f0_1 := B_1.out.free 0
    have x0_1 := B_1.out.cell (j := 0) rfl
    have g0_1 := D_1.out.free 0
    have g1_1 := D_1.out.free 1
    have g2_1 := D_1.out.free 2
    have y0_1 := D_1.out.cell (j := 0) rfl
    have y1_1 := D_1.out.cell (j := 1) rfl
    have y2_1 := D_1.out.cell (j := 2) rfl
    have bl_1 := D_1.out.lt
    try simp only [pg]
    refine hK.out _ _ (by exact q_1.out) fun hh2 => ?_; clear hK K hHeld; have hHeld := hh2; clear hh2
    try simp only [Act.put, pu]
    refine wpAnyH_ready (rs := [9, 11]) (by kernel_rfl) (by simp) ?_
    refine AllReadyH.cons rfl (fun K hK => ?_) ?_
    ·refine held_mkb rfl rfl eiInt (B := w.heap.size + 2) rfl rfl (by omega) (by omega) (by first | omega | (simp; omega) | (simp only [World.size_setCell]; simp; omega)) ?_
     intro nb9 wm2 hnb9 hmk9 hme2
     rw [made_one _ _ rfl] at hmk9
     have MK9_2 := lh hmk9
     have hsz_2 : w.heap.size + 2 ≤ wm2.heap.size := by have := hme2.size; first | omega | (simp at this; omega)
     have B_2 := lh (B_1.out.ext hme2)
     have D_2 := lh (D_1.out.ext hme2)
     have R_2 := lh (R_1.out.ext hme2)
     have K_2 := lh (K_1.out.ext hme2)
     have O_2 := lh (O_1.out.ext hme2)
     have M_2 := lh (M_1.out.tr' (Mod.of hme2))
     have q_2 := lh (hme2.cellE q_1.out)
     have MK5_2 := lh (MK5_1.out.ext hme2)
     clear hnb9 hmk9 hme2
     have f0_2 := B_2.out.free 0
     have x0_2 := B_2.out.cell (j := 0) rfl
     have g0_2 := D_2.out.free 0
     have g1_2 := D_2.out.free 1
     have g2_2 := D_2.out.free 2
     have y0_2 := D_2.out.cell (j := 0) rfl
     have y1_2 := D_2.out.cell (j := 1) rfl
     have y2_2 := D_2.out.cell (j := 2) rfl
     have bl_2 := D_2.out.lt
     try simp only [pg]
     refine hK.out _ _ (by exact q_2.out) fun hh2 => ?_; clear hK K hHeld; have hHeld := hh2; clear hh2
     try simp only [Act.put, pu]
     refine ty 10 ?_
     refine rd1 11 rfl fun K hK => ?_
     go_simp
     have hS_3 := lh (Mod.set (F := fun b => b = w.heap.size) (Mod.rfl' (fun b => b = w.heap.size) wm2) (p := ⟨w.heap.size, 0, none⟩) (.inl rfl) (.slice A g.length c))
     have B_3 := lh (B_2.out.set 0 (.slice A g.length c))
     have D_3 := lh (D_2.out.mod hS_3.out (by omega))
     have R_3 := lh (R_2.out.mod hS_3.out (fun b e => by omega))
     have K_3 := lh (K_2.out.mod hS_3.out (fun b e => by omega))
     have O_3 := lh (O_2.out.mod hS_3.out (fun b hb e => by have := (O_2.out.lt hb).1; omega))
     have M_3 := lh (M_2.out.tr hS_3.out (fun b e => .inr (by omega)))
     have q_3 := lh (hS_3.out.cellE q_2.out (by omega))
     have MK5_3 := lh (MK5_2.out.mod hS_3.out (fun b hb e => by have := (MK5_2.out.lt hb).1; omega))
     have MK9_3 := lh (MK9_2.out.mod hS_3.out (fun b hb e => by have := (MK9_2.out.lt hb).1; omega))
     have f0_3 := B_3.out.free 0
     have x0_3 := B_3.out.cell (j := 0) rfl
     have g0_3 := D_3.out.free 0
     have g1_3 := D_3.out.free 1
     have g2_3 := D_3.out.free 2
     have y0_3 := D_3.out.cell (j := 0) rfl
     have y1_3 := D_3.out.cell (j := 1) rfl
     have y2_3 := D_3.out.cell (j := 2) rfl
     have bl_3 := D_3.out.lt
     try simp only [pg]
     refine hK.out _ _ (by exact q_3.out) fun hh2 => ?_; clear hK K hHeld; have hHeld := hh2; clear hh2
     try simp only [Act.put]
     refine rd1 12 rfl fun K hK => ?_
     go_simp
     try simp only [pg]
     refine hK.out _ _ (by exact ((co).trans ((co).trans ((co).trans q_3.out)))) fun hh2 => ?_; clear hK K hHeld; have hHeld := hh2; clear hh2
     try simp only [Act.put]
     refine dn ?_
     go_wp2
     have bx0 : Bx (World.setCell (World.setCell (World.setCell (World.setCell wm2 ⟨w.heap.size, 0, none⟩ (.slice A g.length c)) ⟨w.heap.size + 1, 0, none⟩ (.slice Ac cl.length cc)) ⟨w.heap.size + 1, 1, none⟩ (.slice (some ⟨nb5, 0, none⟩) g.length g.length)) ⟨w.heap.size + 1, 2, none⟩ (.slice (some ⟨nb9, 0, none⟩) g.length g.length)) w.heap.size [(.slice A g.length c)] := ((B_3.out.oth (show w.heap.size + 1 ≠ w.heap.size by omega) (.slice Ac cl.length cc)).oth (show w.heap.size + 1 ≠ w.heap.size by omega) (.slice (some ⟨nb5, 0, none⟩) g.length g.length)).oth (show w.heap.size + 1 ≠ w.heap.size by omega) (.slice (some ⟨nb9, 0, none⟩) g.length g.length)
     have bx1 : Bx (World.setCell (World.setCell (World.setCell (World.setCell wm2 ⟨w.heap.size, 0, none⟩ (.slice A g.length c)) ⟨w.heap.size + 1, 0, none⟩ (.slice Ac cl.length cc)) ⟨w.heap.size + 1, 1, none⟩ (.slice (some ⟨nb5, 0, none⟩) g.length g.length)) ⟨w.heap.size + 1, 2, none⟩ (.slice (some ⟨nb9, 0, none⟩) g.length g.length)) (w.heap.size + 1) [(.slice Ac cl.length cc), (.slice (some ⟨nb5, 0, none⟩) g.length g.length), (.slice (some ⟨nb9, 0, none⟩) g.length g.length)] := Bx.set3z D_3.out (.slice Ac cl.length cc) (.slice (some ⟨nb5, 0, none⟩) g.length g.length) (.slice (some ⟨nb9, 0, none⟩) g.length g.length)
     have s0 := bx0.cell (j := 0) rfl
     have s1 := bx1.cell (j := 0) rfl
     have s2 := bx1.cell (j := 1) rfl
     have s3 := bx1.cell (j := 2) rfl
     have hm3 := Mod.set3z (World.setCell wm2 ⟨w.heap.size, 0, none⟩ (.slice A g.length c)) (w.heap.size + 1) (.slice Ac cl.length cc) (.slice (some ⟨nb5, 0, none⟩) g.length g.length) (.slice (some ⟨nb9, 0, none⟩) g.length g.length)
     have hm : Mod (fun b => b = w.heap.size ∨ b = w.heap.size + 1) (World.setCell wm2 ⟨w.heap.size, 0, none⟩ (.slice A g.length c)) (World.setCell (World.setCell (World.setCell (World.setCell wm2 ⟨w.heap.size, 0, none⟩ (.slice A g.length c)) ⟨w.heap.size + 1, 0, none⟩ (.slice Ac cl.length cc)) ⟨w.heap.size + 1, 1, none⟩ (.slice (some ⟨nb5, 0, none⟩) g.length g.length)) ⟨w.heap.size + 1, 2, none⟩ (.slice (some ⟨nb9, 0, none⟩) g.length g.length)) := hm3.mono (fun b _ e => .inr e)
     have hfin : ZF w.heap.size A g Ac cl (some ⟨nb5, 0, none⟩) (List.replicate g.length []) (some ⟨nb9, 0, none⟩) (List.replicate g.length 0) (World.setCell wm2 ⟨w.heap.size, 0, none⟩ (.slice A g.length c)) := fun W' hW' =>
      ⟨(K_3.out.mod hW' (fun b e => by omega)).rd, (O_3.out.mod hW' (fun b hb e => by have := (O_3.out.lt hb).1; omega)).rd, OwnL.rdLC (OwnD.mod (nilsOwnZ MK5_3.out) hW' (fun b hb e => by have := (OwnD.lt (nilsOwnZ MK5_3.out) hb).1; omega)) (by simp; omega) (by intro l hl; rw [List.eq_of_mem_replicate hl]; simp), by
       have := (MK9_3.out.mod hW' (fun b hb e => by have := (MK9_3.out.lt hb).1; omega)).rd
       simpa [ints] using this⟩
     refine bodyPost_ret (v := .tuple #[.agg #[(.slice A g.length c)], .agg #[(.slice Ac cl.length cc), (.slice (some ⟨nb5, 0, none⟩) g.length g.length), (.slice (some ⟨nb9, 0, none⟩) g.length g.length)]]) (by simp [results, Tryz.results61, go_sem, s0, s1, s2, s3]; try rfl) rfl ?_
     exact ⟨g, A, c, cl, Ac, cc, List.replicate g.length [], _, g.length, List.replicate g.length 0, _, g.length, by simp, hlo, hhi, by omega, by simp; omega, by simp; omega, ZF.fin hRl hfin hm, (R_3.out.mod hm (fun b e => by omega)).more (by omega), M_3.out.tr hm (fun b e => .inr (by omega))⟩
    refine AllReadyH.cons rfl (fun K hK => ?_) ?_
    ·go_simp
     have hS_2 := lh (Mod.set (F := fun b => b = w.heap.size) (Mod.rfl' (fun b => b = w.heap.size) wm1) (p := ⟨w.heap.size, 0, none⟩) (.inl rfl) (.slice A g.length c))
     have B_2 := lh (B_1.out.set 0 (.slice A g.length c))
     have D_2 := lh (D_1.out.mod hS_2.out (by omega))
     have R_2 := lh (R_1.out.mod hS_2.out (fun b e => by omega))
     have K_2 := lh (K_1.out.mod hS_2.out (fun b e => by omega))
     have O_2 := lh (O_1.out.mod hS_2.out (fun b hb e => by have := (O_1.out.lt hb).1; omega))
     have M_2 := lh (M_1.out.tr hS_2.out (fun b e => .inr (by omega)))
     have q_2 := lh (hS_2.out.cellE q_1.out (by omega))
     have MK5_2 := lh (MK5_1.out.mod hS_2.out (fun b hb e => by have := (MK5_1.out.lt hb).1; omega))
     have f0_2 := B_2.out.free 0
     have x0_2 := B_2.out.cell (j := 0) rfl
     have g0_2 := D_2.out.free 0
     have g1_2 := D_2.out.free 1
     have g2_2 := D_2.out.free 2
     have y0_2 := D_2.out.cell (j := 0) rfl
     have y1_2 := D_2.out.cell (j := 1) rfl
     have y2_2 := D_2.out.cell (j := 2) rfl
     have bl_2 := D_2.out.lt
     try simp only [pg]
     refine hK.out _ _ (by exact q_2.out) fun hh2 => ?_; clear hK K hHeld; have hHeld := hh2; clear hh2
     try simp only [Act.put]
     refine rd1 9 rfl fun K hK => ?_
     refine held_mkb rfl rfl eiInt (B := w.heap.size + 2) rfl rfl (by omega) (by omega) (by first | omega | (simp; omega) | (simp only [World.size_setCell]; simp; omega)) ?_
     intro nb9 wm3 hnb9 hmk9 hme3
     rw [made_one _ _ rfl] at hmk9
     have MK9_3 := lh hmk9
     have hsz_3 : w.heap.size + 2 ≤ wm3.heap.size := by have := hme3.size; first | omega | (simp at this; omega)
     have B_3 := lh (B_2.out.ext hme3)
     have D_3 := lh (D_2.out.ext hme3)
     have R_3 := lh (R_2.out.ext hme3)
     have K_3 := lh (K_2.out.ext hme3)
     have O_3 := lh (O_2.out.ext hme3)
     have M_3 := lh (M_2.out.tr' (Mod.of hme3))
     have q_3 := lh (hme3.cellE q_2.out)
     have MK5_3 := lh (MK5_2.out.ext hme3)
     clear hnb9 hmk9 hme3
     have f0_3 := B_3.out.free 0
     have x0_3 := B_3.out.cell (j := 0) rfl
     have g0_3 := D_3.out.free 0
     have g1_3 := D_3.out.free 1
     have g2_3 := D_3.out.free 2
     have y0_3 := D_3.out.cell (j := 0) rfl
     have y1_3 := D_3.out.cell (j := 1) rfl
     have y2_3 := D_3.out.cell (j := 2) rfl
     have bl_3 := D_3.out.lt
     try simp only [pg]
     refine hK.out _ _ (by exact q_3.out) fun hh2 => ?_; clear hK K hHeld; have hHeld := hh2; clear hh2
     try simp only [Act.put, pu]
     refine ty 10 ?_
     refine rd1 12 rfl fun K hK => ?_
     go_simp
     try simp only [pg]
     refine hK.out _ _ (by exact ((co).trans ((co).trans ((co).trans q_3.out)))) fun hh2 => ?_; clear hK K hHeld; have hHeld := hh2; clear hh2
     try simp only [Act.put]
     refine dn ?_
     go_wp2
     have bx0 : Bx (World.setCell (World.setCell (World.setCell wm3 ⟨w.heap.size + 1, 0, none⟩ (.slice Ac cl.length cc)) ⟨w.heap.size + 1, 1, none⟩ (.slice (some ⟨nb5, 0, none⟩) g.length g.length)) ⟨w.heap.size + 1, 2, none⟩ (.slice (some ⟨nb9, 0, none⟩) g.length g.length)) w.heap.size [(.slice A g.length c)] := ((B_3.out.oth (show w.heap.size + 1 ≠ w.heap.size by omega) (.slice Ac cl.length cc)).oth (show w.heap.size + 1 ≠ w.heap.size by omega) (.slice (some ⟨nb5, 0, none⟩) g.length g.length)).oth (show w.heap.size + 1 ≠ w.heap.size by omega) (.slice (some ⟨nb9, 0, none⟩) g.length g.length)
     have bx1 : Bx (World.setCell (World.setCell (World.setCell wm3 ⟨w.heap.size + 1, 0, none⟩ (.slice Ac cl.length cc)) ⟨w.heap.size + 1, 1, none⟩ (.slice (some ⟨nb5, 0, none⟩) g.length g.length)) ⟨w.heap.size + 1, 2, none⟩ (.slice (some ⟨nb9, 0, none⟩) g.length g.length)) (w.heap.size + 1) [(.slice Ac cl.length cc), (.slice (some ⟨nb5, 0, none⟩) g.length g.length), (.slice (some ⟨nb9, 0, none⟩) g.length g.length)] := Bx.set3z D_3.out (.slice Ac cl.length cc) (.slice (some ⟨nb5, 0, none⟩) g.length g.length) (.slice (some ⟨nb9, 0, none⟩) g.length g.length)
     have s0 := bx0.cell (j := 0) rfl
     have s1 := bx1.cell (j := 0) rfl
     have s2 := bx1.cell (j := 1) rfl
     have s3 := bx1.cell (j := 2) rfl
     have hm3 := Mod.set3z wm3 (w.heap.size + 1) (.slice Ac cl.length cc) (.slice (some ⟨nb5, 0, none⟩) g.length g.length) (.slice (some ⟨nb9, 0, none⟩) g.length g.length)
     have hm : Mod (fun b => b = w.heap.size ∨ b = w.heap.size + 1) wm3 (World.setCell (World.setCell (World.setCell wm3 ⟨w.heap.size + 1, 0, none⟩ (.slice Ac cl.length cc)) ⟨w.heap.size + 1, 1, none⟩ (.slice (some ⟨nb5, 0, none⟩) g.length g.length)) ⟨w.heap.size + 1, 2, none⟩ (.slice (some ⟨nb9, 0, none⟩) g.length g.length)) := hm3.mono (fun b _ e => .inr e)
     have hfin : ZF w.heap.size A g Ac cl (some ⟨nb5, 0, none⟩) (List.replicate g.length []) (some ⟨nb9, 0, none⟩) (List.replicate g.length 0) wm3 := fun W' hW' =>
      ⟨(K_3.out.mod hW' (fun b e => by omega)).rd, (O_3.out.mod hW' (fun b hb e => by have := (O_3.out.lt hb).1; omega)).rd, OwnL.rdLC (OwnD.mod (nilsOwnZ MK5_3.out) hW' (fun b hb e => by have := (OwnD.lt (nilsOwnZ MK5_3.out) hb).1; omega)) (by simp; omega) (by intro l hl; rw [List.eq_of_mem_replicate hl]; simp), by
       have := (MK9_3.out.mod hW' (fun b hb e => by have := (MK9_3.out.lt hb).1; omega)).rd
       simpa [ints] using this⟩
     refine bodyPost_ret (v := .tuple #[.agg #[(.slice A g.length c)], .agg #[(.slice Ac cl.length cc), (.slice (some ⟨nb5, 0, none⟩) g.length g.length), (.slice (some ⟨nb9, 0, none⟩) g.length g.length)]]) (by simp [results, Tryz.results61, go_sem, s0, s1, s2, s3]; try rfl) rfl ?_
     exact ⟨g, A, c, cl, Ac, cc, List.replicate g.length [], _, g.length, List.replicate g.length 0, _, g.length, by simp, hlo, hhi, by omega, by simp; omega, by simp; omega, ZF.fin hRl hfin hm, (R_3.out.mod hm (fun b e => by omega)).more (by omega), M_3.out.tr hm (fun b e => .inr (by omega))⟩
    exact AllReadyH.nil
   refine AllReadyH.cons rfl (fun K hK => ?_) ?_
   ·refine held_mkb rfl rfl eiInt (B := w.heap.size + 2) rfl rfl (by omega) (by omega) (by first | omega | (simp; omega) | (simp only [World.size_setCell]; simp; omega)) ?_
    intro nb9 wm1 hnb9 hmk9 hme1
    rw [made_one _ _ rfl] at hmk9
    have MK9_1 := lh hmk9
    have hsz_1 : w.heap.size + 2 ≤ wm1.heap.size := by have := hme1.size; first | omega | (simp at this; omega)
    have B_1 := lh (B_0.out.ext hme1)
    have D_1 := lh (D_0.out.ext hme1)
    have R_1 := lh (R_0.out.ext hme1)
    have K_1 := lh (K_0.out.ext hme1)
    have O_1 := lh (O_0.out.ext hme1)
    have M_1 := lh (M_0.out.tr' (Mod.of hme1))
    have q_1 := lh (hme1.cellE q_0.out)
    clear hnb9 hmk9 hme1
    have f0_1 := B_1.out.free 0
    have x0_1 := B_1.out.cell (j := 0) rfl
    have g0_1 := D_1.out.free 0
    have g1_1 := D_1.out.free 1
    have g2_1 := D_1.out.free 2
    have y0_1 := D_1.out.cell (j := 0) rfl
    have y1_1 := D_1.out.cell (j := 1) rfl
    have y2_1 := D_1.out.cell (j := 2) rfl
    have bl_1 := D_1.out.lt
    try simp only [pg]
    refine hK.out _ _ (by exact q_1.out) fun hh2 => ?_; clear hK K hHeld; have hHeld := hh2; clear hh2
    try simp only [Act.put, pu]
    refine wpAnyH_ready (rs := [5, 11]) (by kernel_rfl) (by simp) ?_
    refine AllReadyH.cons rfl (fun K hK => ?_) ?_
    ·refine held_mkb rfl rfl eiInts (B := w.heap.size + 2) rfl rfl (by omega) (by omega) (by first | omega | (simp; omega) | (simp only [World.size_setCell]; simp; omega)) ?_
     intro nb5 wm2 hnb5 hmk5 hme2
     rw [made_one _ _ rfl] at hmk5
     have MK5_2 := lh hmk5
     have hsz_2 : w.heap.size + 2 ≤ wm2.heap.size := by have := hme2.size; first | omega | (simp at this; omega)
     have B_2 := lh (B_1.out.ext hme2)
     have D_2 := lh (D_1.out.ext hme2)
     have R_2 := lh (R_1.out.ext hme2)
     have K_2 := lh (K_1.out.ext hme2)
     have O_2 := lh (O_1.out.ext hme2)
     have M_2 := lh (M_1.out.tr' (Mod.of hme2))
     have q_2 := lh (hme2.cellE q_1.out)
     have MK9_2 := lh (MK9_1.out.ext hme2)
     clear hnb5 hmk5 hme2
     have f0_2 := B_2.out.free 0
     have x0_2 := B_2.out.cell (j := 0) rfl
     have g0_2 := D_2.out.free 0
     have g1_2 := D_2.out.free 1
     have g2_2 := D_2.out.free 2
     have y0_2 := D_2.out.cell (j := 0) rfl
     have y1_2 := D_2.out.cell (j := 1) rfl
     have y2_2 := D_2.out.cell (j := 2) rfl
     have bl_2 := D_2.out.lt
     try simp only [pg]
     refine hK.out _ _ (by exact q_2.out) fun hh2 => ?_; clear hK K hHeld; have hHeld := hh2; clear hh2
     try simp only [Act.put, pu]
     refine ty 10 ?_
     refine rd1 11 rfl fun K hK => ?_
     go_simp
     have hS_3 := lh (Mod.set (F := fun b => b = w.heap.size) (Mod.rfl' (fun b => b = w.heap.size) wm2) (p := ⟨w.heap.size, 0, none⟩) (.inl rfl) (.slice A g.length c))
     have B_3 := lh (B_2.out.set 0 (.slice A g.length c))
     have D_3 := lh (D_2.out.mod hS_3.out (by omega))
     have R_3 := lh (R_2.out.mod hS_3.out (fun b e => by omega))
     have K_3 := lh (K_2.out.mod hS_3.out (fun b e => by omega))
     have O_3 := lh (O_2.out.mod hS_3.out (fun b hb e => by have := (O_2.out.lt hb).1; omega))
     have M_3 := lh (M_2.out.tr hS_3.out (fun b e => .inr (by omega)))
     have q_3 := lh (hS_3.out.cellE q_2.out (by omega))
     have MK9_3 := lh (MK9_2.out.mod hS_3.out (fun b hb e => by have := (MK9_2.out.lt hb).1; omega))
     have MK5_3 := lh (MK5_2.out.mod hS_3.out (fun b hb e => by have := (MK5_2.out.lt hb).1; omega))
     have f0_3 := B_3.out.free 0
     have x0_3 := B_3.out.cell (j := 0) rfl
     have g0_3 := D_3.out.free 0
     have g1_3 := D_3.out.free 1
     have g2_3 := D_3.out.free 2
     have y0_3 := D_3.out.cell (j := 0) rfl
     have y1_3 := D_3.out.cell (j := 1) rfl
     have y2_3 := D_3.out.cell (j := 2) rfl
     have bl_3 := D_3.out.lt
     try simp only [pg]
     refine hK.out _ _ (by exact q_3.out) fun hh2 => ?_; clear hK K hHeld; have hHeld := hh2; clear hh2
     try simp only [Act.put]
     refine rd1 12 rfl fun K hK => ?_
     go_simp
     try simp only [pg]
     refine hK.out _ _ (by exact ((co).trans ((co).trans ((co).trans q_3.out)))) fun hh2 => ?_; clear hK K hHeld; have hHeld := hh2; clear hh2
     try simp only [Act.put]
     refine dn ?_
     go_wp2
     have bx0 : Bx (World.setCell (World.setCell (World.setCell (World.setCell wm2 ⟨w.heap.size, 0, none⟩ (.slice A g.length c)) ⟨w.heap.size + 1, 0, none⟩ (.slice Ac cl.length cc)) ⟨w.heap.size + 1, 1, none⟩ (.slice (some ⟨nb5, 0, none⟩) g.length g.length)) ⟨w.heap.size + 1, 2, none⟩ (.slice (some ⟨nb9, 0, none⟩) g.length g.length)) w.heap.size [(.slice A g.length c)] := ((B_3.out.oth (show w.heap.size + 1 ≠ w.heap.size by omega) (.slice Ac cl.length cc)).oth (show w.heap.size + 1 ≠ w.heap.size by omega) (.slice (some ⟨nb5, 0, none⟩) g.length g.length)).oth (show w.heap.size + 1 ≠ w.heap.size by omega) (.slice (some ⟨nb9, 0, none⟩) g.length g.length)
     have bx1 : Bx (World.setCell (World.setCell (World.setCell (World.setCell wm2 ⟨w.heap.size, 0, none⟩ (.slice A g.length c)) ⟨w.heap.size + 1, 0, none⟩ (.slice Ac cl.length cc)) ⟨w.heap.size + 1, 1, none⟩ (.slice (some ⟨nb5, 0, none⟩) g.length g.length)) ⟨w.heap.size + 1, 2, none⟩ (.slice (some ⟨nb9, 0, none⟩) g.length g.length)) (w.heap.size + 1) [(.slice Ac cl.length cc), (.slice (some ⟨nb5, 0, none⟩) g.length g.length), (.slice (some ⟨nb9, 0, none⟩) g.length g.length)] := Bx.set3z D_3.out (.slice Ac cl.length cc) (.slice (some ⟨nb5, 0, none⟩) g.length g.length) (.slice (some ⟨nb9, 0, none⟩) g.length g.length)
     have s0 := bx0.cell (j := 0) rfl
     have s1 := bx1.cell (j := 0) rfl
     have s2 := bx1.cell (j := 1) rfl
     have s3 := bx1.cell (j := 2) rfl
     have hm3 := Mod.set3z (World.setCell wm2 ⟨w.heap.size, 0, none⟩ (.slice A g.length c)) (w.heap.size + 1) (.slice Ac cl.length cc) (.slice (some ⟨nb5, 0, none⟩) g.length g.length) (.slice (some ⟨nb9, 0, none⟩) g.length g.length)
     have hm : Mod (fun b => b = w.heap.size ∨ b = w.heap.size + 1) (World.setCell wm2 ⟨w.heap.size, 0, none⟩ (.slice A g.length c)) (World.setCell (World.setCell (World.setCell (World.setCell wm2 ⟨w.heap.size, 0, none⟩ (.slice A g.length c)) ⟨w.heap.size + 1, 0, none⟩ (.slice Ac cl.length cc)) ⟨w.heap.size + 1, 1, none⟩ (.slice (some ⟨nb5, 0, none⟩) g.length g.length)) ⟨w.heap.size + 1, 2, none⟩ (.slice (some ⟨nb9, 0, none⟩) g.length g.length)) := hm3.mono (fun b _ e => .inr e)
     have hfin : ZF w.heap.size A g Ac cl (some ⟨nb5, 0, none⟩) (List.replicate g.length []) (some ⟨nb9, 0, none⟩) (List.replicate g.length 0) (World.setCell wm2 ⟨w.heap.size, 0, none⟩ (.slice A g.length c)) := fun W' hW' =>
      ⟨(K_3.out.mod hW' (fun b e => by omega)).rd, (O_3.out.mod hW' (fun b hb e => by have := (O_3.out.lt hb).1; omega)).rd, OwnL.rdLC (OwnD.mod (nilsOwnZ MK5_3.out) hW' (fun b hb e => by have := (OwnD.lt (nilsOwnZ MK5_3.out) hb).1; omega)) (by simp; omega) (by intro l hl; rw [List.eq_of_mem_replicate hl]; simp), by
       have := (MK9_3.out.mod hW' (fun b hb e => by have := (MK9_3.out.lt hb).1; omega)).rd
       simpa [ints] using this⟩
     refine bodyPost_ret (v := .tuple #[.agg #[(.slice A g.length c)], .agg #[(.slice Ac cl.length cc), (.slice (some ⟨nb5, 0, none⟩) g.length g.length), (.slice (some ⟨nb9, 0, none⟩) g.length g.length)]]) (by simp [results, Tryz.results61, go_sem, s0, s1, s2, s3]; try rfl) rfl ?_
     exact ⟨g, A, c, cl, Ac, cc, List.replicate g.length [], _, g.length, List.replicate g.length 0, _, g.length, by simp, hlo, hhi, by omega, by simp; omega, by simp; omega, ZF.fin hRl hfin hm, (R_3.out.mod hm (fun b e => by omega)).more (by omega), M_3.out.tr hm (fun b e => .inr (by omega))⟩
    refine AllReadyH.cons rfl (fun K hK => ?_) ?_
    ·go_simp
     have hS_2 := lh (Mod.set (F := fun b => b = w.heap.size) (Mod.rfl' (fun b => b = w.heap.size) wm1) (p := ⟨w.heap.size, 0, none⟩) (.inl rfl) (.slice A g.length c))
     have B_2 := lh (B_1.out.set 0 (.slice A g.length c))
     have D_2 := lh (D_1.out.mod hS_2.out (by omega))
     have R_2 := lh (R_1.out.mod hS_2.out (fun b e => by omega))
     have K_2 := lh (K_1.out.mod hS_2.out (fun b e => by omega))
     have O_2 := lh (O_1.out.mod hS_2.out (fun b hb e => by have := (O_1.out.lt hb).1; omega))
     have M_2 := lh (M_1.out.tr hS_2.out (fun b e => .inr (by omega)))
     have q_2 := lh (hS_2.out.cellE q_1.out (by omega))
     have MK9_2 := lh (MK9_1.out.mod hS_2.out (fun b hb e => by have := (MK9_1.out.lt hb).1; omega))
     have f0_2 := B_2.out.free 0
     have x0_2 := B_2.out.cell (j := 0) rfl
     have g0_2 := D_2.out.free 0
     have g1_2 := D_2.out.free 1
     have g2_2 := D_2.out.free 2
     have y0_2 := D_2.out.cell (j := 0) rfl
     have y1_2 := D_2.out.cell (j := 1) rfl
     have y2_2 := D_2.out.cell (j := 2) rfl
     have bl_2 := D_2.out.lt
     try simp only [pg]
     refine hK.out _ _ (by exact q_2.out) fun hh2 => ?_; clear hK K hHeld; have hHeld := hh2; clear hh2
     try simp only [Act.put]
     refine rd1 5 rfl fun K hK => ?_
     refine held_mkb rfl rfl eiInts (B := w.heap.size + 2) rfl rfl (by omega) (by omega) (by first | omega | (simp; omega) | (simp only [World.size_setCell]; simp; omega)) ?_
     intro nb5 wm3 hnb5 hmk5 hme3
     rw [made_one _ _ rfl] at hmk5
     have MK5_3 := lh hmk5
     have hsz_3 : w.heap.size + 2 ≤ wm3.heap.size := by have := hme3.size; first | omega | (simp at this; omega)
     have B_3 := lh (B_2.out.ext hme3)
     have D_3 := lh (D_2.out.ext hme3)
     have R_3 := lh (R_2.out.ext hme3)
     have K_3 := lh (K_2.out.ext hme3)
     have O_3 := lh (O_2.out.ext hme3)
     have M_3 := lh (M_2.out.tr' (Mod.of hme3))
     have q_3 := lh (hme3.cellE q_2.out)
     have MK9_3 := lh (MK9_2.out.ext hme3)
     clear hnb5 hmk5 hme3
     have f0_3 := B_3.out.free 0
     have x0_3 := B_3.out.cell (j := 0) rfl
     have g0_3 := D_3.out.free 0
     have g1_3 := D_3.out.free 1
     have g2_3 := D_3.out.free 2
     have y0_3 := D_3.out.cell (j := 0) rfl
     have y1_3 := D_3.out.cell (j := 1) rfl
     have y2_3 := D_3.out.cell (j := 2) rfl
     have bl_3 := D_3.out.lt
     try simp only [pg]
     refine hK.out _ _ (by exact q_3.out) fun hh2 => ?_; clear hK K hHeld; have hHeld := hh2; clear hh2
     try simp only [Act.put, pu]
     refine ty 10 ?_
     refine rd1 12 rfl fun K hK => ?_
     go_simp
     try simp only [pg]
     refine hK.out _ _ (by exact ((co).trans ((co).trans ((co).trans q_3.out)))) fun hh2 => ?_; clear hK K hHeld; have hHeld := hh2; clear hh2
     try simp only [Act.put]
     refine dn ?_
     go_wp2
     have bx0 : Bx (World.setCell (World.setCell (World.setCell wm3 ⟨w.heap.size + 1, 0, none⟩ (.slice Ac cl.length cc)) ⟨w.heap.size + 1, 1, none⟩ (.slice (some ⟨nb5, 0, none⟩) g.length g.length)) ⟨w.heap.size + 1, 2, none⟩ (.slice (some ⟨nb9, 0, none⟩) g.length g.length)) w.heap.size [(.slice A g.length c)] := ((B_3.out.oth (show w.heap.size + 1 ≠ w.heap.size by omega) (.slice Ac cl.length cc)).oth (show w.heap.size + 1 ≠ w.heap.size by omega) (.slice (some ⟨nb5, 0, none⟩) g.length g.length)).oth (show w.heap.size + 1 ≠ w.heap.size by omega) (.slice (some ⟨nb9, 0, none⟩) g.length g.length)
     have bx1 : Bx (World.setCell (World.setCell (World.setCell wm3 ⟨w.heap.size + 1, 0, none⟩ (.slice Ac cl.length cc)) ⟨w.heap.size + 1, 1, none⟩ (.slice (some ⟨nb5, 0, none⟩) g.length g.length)) ⟨w.heap.size + 1, 2, none⟩ (.slice (some ⟨nb9, 0, none⟩) g.length g.length)) (w.heap.size + 1) [(.slice Ac cl.length cc), (.slice (some ⟨nb5, 0, none⟩) g.length g.length), (.slice (some ⟨nb9, 0, none⟩) g.length g.length)] := Bx.set3z D_3.out (.slice Ac cl.length cc) (.slice (some ⟨nb5, 0, none⟩) g.length g.length) (.slice (some ⟨nb9, 0, none⟩) g.length g.length)
     have s0 := bx0.cell (j := 0) rfl
     have s1 := bx1.cell (j := 0) rfl
     have s2 := bx1.cell (j := 1) rfl
     have s3 := bx1.cell (j := 2) rfl
     have hm3 := Mod.set3z wm3 (w.heap.size + 1) (.slice Ac cl.length cc) (.slice (some ⟨nb5, 0, none⟩) g.length g.length) (.slice (some ⟨nb9, 0, none⟩) g.length g.length)
     have hm : Mod (fun b => b = w.heap.size ∨ b = w.heap.size + 1) wm3 (World.setCell (World.setCell (World.setCell wm3 ⟨w.heap.size + 1, 0, none⟩ (.slice Ac cl.length cc)) ⟨w.heap.size + 1, 1, none⟩ (.slice (some ⟨nb5, 0, none⟩) g.length g.length)) ⟨w.heap.size + 1, 2, none⟩ (.slice (some ⟨nb9, 0, none⟩) g.length g.length)) := hm3.mono (fun b _ e => .inr e)
     have hfin : ZF w.heap.size A g Ac cl (some ⟨nb5, 0, none⟩) (List.replicate g.length []) (some ⟨nb9, 0, none⟩) (List.replicate g.length 0) wm3 := fun W' hW' =>
      ⟨(K_3.out.mod hW' (fun b e => by omega)).rd, (O_3.out.mod hW' (fun b hb e => by have := (O_3.out.lt hb).1; omega)).rd, OwnL.rdLC (OwnD.mod (nilsOwnZ MK5_3.out) hW' (fun b hb e => by have := (OwnD.lt (nilsOwnZ MK5_3.out) hb).1; omega)) (by simp; omega) (by intro l hl; rw [List.eq_of_mem_replicate hl]; simp), by
       have := (MK9_3.out.mod hW' (fun b hb e => by have := (MK9_3.out.lt hb).1; omega)).rd
       simpa [ints] using this⟩
     refine bodyPost_ret (v := .tuple #[.agg #[(.slice A g.length c)], .agg #[(.slice Ac cl.length cc), (.slice (some ⟨nb5, 0, none⟩) g.length g.length), (.slice (some ⟨nb9, 0, none⟩) g.length g.length)]]) (by simp [results, Tryz.results61, go_sem, s0, s1, s2, s3]; try rfl) rfl ?_
     exact ⟨g, A, c, cl, Ac, cc, List.replicate g.length [], _, g.length, List.replicate g.length 0, _, g.length, by simp, hlo, hhi, by omega, by simp; omega, by simp; omega, ZF.fin hRl hfin hm, (R_3.out.mod hm (fun b e => by omega)).more (by omega), M_3.out.tr hm (fun b e => .inr (by omega))⟩
    exact AllReadyH.nil
   refine AllReadyH.cons rfl (fun K hK => ?_) ?_
   ·go_simp
    have hS_1 := lh (Mod.set (F := fun b => b = w.heap.size) (Mod.rfl' (fun b => b = w.heap.size) (World.drew w3)) (p := ⟨w.heap.size, 0, none⟩) (.inl rfl) (.slice A g.length c))
    have B_1 := lh (B_0.out.set 0 (.slice A g.length c))
    have D_1 := lh (D_0.out.mod hS_1.out (by omega))
    have R_1 := lh (R_0.out.mod hS_1.out (fun b e => by omega))
    have K_1 := lh (K_0.out.mod hS_1.out (fun b e => by omega))
    have O_1 := lh (O_0.out.mod hS_1.out (fun b hb e => by have := (O_0.out.lt hb).1; omega))
    have M_1 := lh (M_0.out.tr hS_1.out (fun b e => .inr (by omega)))
    have q_1 := lh (hS_1.out.cellE q_0.out (by omega))
    have f0_1 := B_1.out.free 0
    have x0_1 := B_1.out.cell (j := 0) rfl
    have g0_1 := D_1.out.free 0
    have g1_1 := D_1.out.free 1
    have g2_1 := D_1.out.free 2
    have y0_1 := D_1.out.cell (j := 0) rfl
    have y1_1 := D_1.out.cell (j := 1) rfl
    have y2_1 := D_1.out.cell (j := 2) rfl
    have bl_1 := D_1.out.lt
    try simp only [pg]
    refine hK.out _ _ (by exact q_1.out) fun hh2 => ?_; clear hK K hHeld; have hHeld := hh2; clear hh2
    try simp only [Act.put]
    refine wpAnyH_ready (rs := [5, 9]) (by kernel_rfl) (by simp) ?_
    refine AllReadyH.cons rfl (fun K hK => ?_) ?_
    ·refine held_mkb rfl rfl eiInts (B := w.heap.size + 2) rfl rfl (by omega) (by omega) (by first | omega | (simp; omega) | (simp only [World.size_setCell]; simp; omega)) ?_
     intro nb5 wm2 hnb5 hmk5 hme2
     rw [made_one _ _ rfl] at hmk5
     have MK5_2 := lh hmk5
     have hsz_2 : w.heap.size + 2 ≤ wm2.heap.size := by have := hme2.size; first | omega | (simp at this; omega)
     have B_2 := lh (B_1.out.ext hme2)
     have D_2 := lh (D_1.out.ext hme2)
     have R_2 := lh (R_1.out.ext hme2)
     have K_2 := lh (K_1.out.ext hme2)
     have O_2 := lh (O_1.out.ext hme2)
     have M_2 := lh (M_1.out.tr' (Mod.of hme2))
     have q_2 := lh (hme2.cellE q_1.out)
     clear hnb5 hmk5 hme2
     have f0_2 := B_2.out.free 0
     have x0_2 := B_2.out.cell (j := 0) rfl
     have g0_2 := D_2.out.free 0
     have g1_2 := D_2.out.free 1
     have g2_2 := D_2.out.free 2
     have y0_2 := D_2.out.cell (j := 0) rfl
     have y1_2 := D_2.out.cell (j := 1) rfl
     have y2_2 := D_2.out.cell (j := 2) rfl
     have bl_2 := D_2.out.lt
     try simp only [pg]
     refine hK.out _ _ (by exact q_2.out) fun hh2 => ?_; clear hK K hHeld; have hHeld := hh2; clear hh2
     try simp only [Act.put, pu]
     refine rd1 9 rfl fun K hK => ?_
     refine held_mkb rfl rfl eiInt (B := w.heap.size + 2) rfl rfl (by omega) (by omega) (by first | omega | (simp; omega) | (simp only [World.size_setCell]; simp; omega)) ?_
     intro nb9 wm3 hnb9 hmk9 hme3
     rw [made_one _ _ rfl] at hmk9
     have MK9_3 := lh hmk9
     have hsz_3 : w.heap.size + 2 ≤ wm3.heap.size := by have := hme3.size; first | omega | (simp at this; omega)
     have B_3 := lh (B_2.out.ext hme3)
     have D_3 := lh (D_2.out.ext hme3)
     have R_3 := lh (R_2.out.ext hme3)
     have K_3 := lh (K_2.out.ext hme3)
     have O_3 := lh (O_2.out.ext hme3)
     have M_3 := lh (M_2.out.tr' (Mod.of hme3))
     have q_3 := lh (hme3.cellE q_2.out)
     have MK5_3 := lh (MK5_2.out.ext hme3)
     clear hnb9 hmk9 hme3
     have f0_3 := B_3.out.free 0
     have x0_3 := B_3.out.cell (j := 0) rfl
     have g0_3 := D_3.out.free 0
     have g1_3 := D_3.out.free 1
     have g2_3 := D_3.out.free 2
     have y0_3 := D_3.out.cell (j := 0) rfl
     have y1_3 := D_3.out.cell (j := 1) rfl
     have y2_3 := D_3.out.cell (j := 2) rfl
     have bl_3 := D_3.out.lt
     try simp only [pg]
     refine hK.out _ _ (by exact q_3.out) fun hh2 => ?_; clear hK K hHeld; have hHeld := hh2; clear hh2
     try simp only [Act.put, pu]
     refine ty 10 ?_
     refine rd1 12 rfl fun K hK => ?_
     go_simp
     try simp only [pg]
     refine hK.out _ _ (by exact ((co).trans ((co).trans ((co).trans q_3.out)))) fun hh2 => ?_; clear hK K hHeld; have hHeld := hh2; clear hh2
     try simp only [Act.put]
     refine dn ?_
     go_wp2
     have bx0 : Bx (World.setCell (World.setCell (World.setCell wm3 ⟨w.heap.size + 1, 0, none⟩ (.slice Ac cl.length cc)) ⟨w.heap.size + 1, 1, none⟩ (.slice (some ⟨nb5, 0, none⟩) g.length g.length)) ⟨w.heap.size + 1, 2, none⟩ (.slice (some ⟨nb9, 0, none⟩) g.length g.length)) w.heap.size [(.slice A g.length c)] := ((B_3.out.oth (show w.heap.size + 1 ≠ w.heap.size by omega) (.slice Ac cl.length cc)).oth (show w.heap.size + 1 ≠ w.heap.size by omega) (.slice (some ⟨nb5, 0, none⟩) g.length g.length)).oth (show w.heap.size + 1 ≠ w.heap.size by omega) (.slice (some ⟨nb9, 0, none⟩) g.length g.length)
     have bx1 : Bx (World.setCell (World.setCell (World.setCell wm3 ⟨w.heap.size + 1, 0, none⟩ (.slice Ac cl.length cc)) ⟨w.heap.size + 1, 1, none⟩ (.slice (some ⟨nb5, 0, none⟩) g.length g.length)) ⟨w.heap.size + 1, 2, none⟩ (.slice (some ⟨nb9, 0, none⟩) g.length g.length)) (w.heap.size + 1) [(.slice Ac cl.length cc), (.slice (some ⟨nb5, 0, none⟩) g.length g.length), (.slice (some ⟨nb9, 0, none⟩) g.length g.length)] := Bx.set3z D_3.out (.slice Ac cl.length cc) (.slice (some ⟨nb5, 0, none⟩) g.length g.length) (.slice (some ⟨nb9, 0, none⟩) g.length g.length)
     have s0 := bx0.cell (j := 0) rfl
     have s1 := bx1.cell (j := 0) rfl
     have s2 := bx1.cell (j := 1) rfl
     have s3 := bx1.cell (j := 2) rfl
     have hm3 := Mod.set3z wm3 (w.heap.size + 1) (.slice Ac cl.length cc) (.slice (some ⟨nb5, 0, none⟩) g.length g.length) (.slice (some ⟨nb9, 0, none⟩) g.length g.length)
     have hm : Mod (fun b => b = w.heap.size ∨ b = w.heap.size + 1) wm3 (World.setCell (World.setCell (World.setCell wm3 ⟨w.heap.size + 1, 0, none⟩ (.slice Ac cl.length cc)) ⟨w.heap.size + 1, 1, none⟩ (.slice (some ⟨nb5, 0, none⟩) g.length g.length)) ⟨w.heap.size + 1, 2, none⟩ (.slice (some ⟨nb9, 0, none⟩) g.length g.length)) := hm3.mono (fun b _ e => .inr e)
     have hfin : ZF w.heap.size A g Ac cl (some ⟨nb5, 0, none⟩) (List.replicate g.length []) (some ⟨nb9, 0, none⟩) (List.replicate g.length 0) wm3 := fun W' hW' =>
      ⟨(K_3.out.mod hW' (fun b e => by omega)).rd, (O_3.out.mod hW' (fun b hb e => by have := (O_3.out.lt hb).1; omega)).rd, OwnL.rdLC (OwnD.mod (nilsOwnZ MK5_3.out) hW' (fun b hb e => by have := (OwnD.lt (nilsOwnZ MK5_3.out) hb).1; omega)) (by simp; omega) (by intro l hl; rw [List.eq_of_mem_replicate hl]; simp), by
       have := (MK9_3.out.mod hW' (fun b hb e => by have := (MK9_3.out.lt hb).1; omega)).rd
       simpa [ints] using this⟩
     refine bodyPost_ret (v := .tuple #[.agg #[(.slice A g.length c)], .agg #[(.slice Ac cl.length cc), (.slice (some ⟨nb5, 0, none⟩) g.length g.length), (.slice (some ⟨nb9, 0, none⟩) g.length g.length)]]) (by simp [results, Tryz.results61, go_sem, s0, s1, s2, s3]; try rfl) rfl ?_
     exact ⟨g, A, c, cl, Ac, cc, List.replicate g.length [], _, g.length, List.replicate g.length 0, _, g.length, by simp, hlo, hhi, by omega, by simp; omega, by simp; omega, ZF.fin hRl hfin hm, (R_3.out.mod hm (fun b e => by omega)).more (by omega), M_3.out.tr hm (fun b e => .inr (by omega))⟩
    refine AllReadyH.cons rfl (fun K hK => ?_) ?_
    ·refine held_mkb rfl rfl eiInt (B := w.heap.size + 2) rfl rfl (by omega) (by omega) (by first | omega | (simp; omega) | (simp only [World.size_setCell]; simp; omega)) ?_
     intro nb9 wm2 hnb9 hmk9 hme2
     rw [made_one _ _ rfl] at hmk9
     have MK9_2 := lh hmk9
     have hsz_2 : w.heap.size + 2 ≤ wm2.heap.size := by have := hme2.size; first | omega | (simp at this; omega)
     have B_2 := lh (B_1.out.ext hme2)
     have D_2 := lh (D_1.out.ext hme2)
     have R_2 := lh (R_1.out.ext hme2)
     have K_2 := lh (K_1.out.ext hme2)
     have O_2 := lh (O_1.out.ext hme2)
     have M_2 := lh (M_1.out.tr' (Mod.of hme2))
     have q_2 := lh (hme2.cellE q_1.out)
     clear hnb9 hmk9 hme2
     have f0_2 := B_2.out.free 0
     have x0_2 := B_2.out.cell (j := 0) rfl
     have g0_2 := D_2.out.free 0
     have g1_2 := D_2.out.free 1
     have g2_2 := D_2.out.free 2
     have y0_2 := D_2.out.cell (j := 0) rfl
     have y1_2 := D_2.out.cell (j := 1) rfl
     have y2_2 := D_2.out.cell (j := 2) rfl
     have bl_2 := D_2.out.lt
     try simp only [pg]
     refine hK.out _ _ (by exact q_2.out) fun hh2 => ?_; clear hK K hHeld; have hHeld := hh2; clear hh2
     try simp only [Act.put, pu]
     refine rd1 5 rfl fun K hK => ?_
     refine held_mkb rfl rfl eiInts (B := w.heap.size + 2) rfl rfl (by omega) (by omega) (by first | omega | (simp; omega) | (simp only [World.size_setCell]; simp; omega)) ?_
     intro nb5 wm3 hnb5 hmk5 hme3
     rw [made_one _ _ rfl] at hmk5
     have MK5_3 := lh hmk5
     have hsz_3 : w.heap.size + 2 ≤ wm3.heap.size := by have := hme3.size; first | omega | (simp at this; omega)
     have B_3 := lh (B_2.out.ext hme3)
     have D_3 := lh (D_2.out.ext hme3)
     have R_3 := lh (R_2.out.ext hme3)
     have K_3 := lh (K_2.out.ext hme3)
     have O_3 := lh (O_2.out.ext hme3)
     have M_3 := lh (M_2.out.tr' (Mod.of hme3))
     have q_3 := lh (hme3.cellE q_2.out)
     have MK9_3 := lh (MK9_2.out.ext hme3)
     clear hnb5 hmk5 hme3
     have f0_3 := B_3.out.free 0
     have x0_3 := B_3.out.cell (j := 0) rfl
     have g0_3 := D_3.out.free 0
     have g1_3 := D_3.out.free 1
     have g2_3 := D_3.out.free 2
     have y0_3 := D_3.out.cell (j := 0) rfl
     have y1_3 := D_3.out.cell (j := 1) rfl
     have y2_3 := D_3.out.cell (j := 2) rfl
     have bl_3 := D_3.out.lt
     try simp only [pg]
     refine hK.out _ _ (by exact q_3.out) fun hh2 => ?_; clear hK K hHeld; have hHeld := hh2; clear hh2
     try simp only [Act.put, pu]
     refine ty 10 ?_
     refine rd1 12 rfl fun K hK => ?_
     go_simp
     try simp only [pg]
     refine hK.out _ _ (by exact ((co).trans ((co).trans ((co).trans q_3.out)))) fun hh2 => ?_; clear hK K hHeld; have hHeld := hh2; clear hh2
     try simp only [Act.put]
     refine dn ?_
     go_wp2
     have bx0 : Bx (World.setCell (World.setCell (World.setCell wm3 ⟨w.heap.size + 1, 0, none⟩ (.slice Ac cl.length cc)) ⟨w.heap.size + 1, 1, none⟩ (.slice (some ⟨nb5, 0, none⟩) g.length g.length)) ⟨w.heap.size + 1, 2, none⟩ (.slice (some ⟨nb9, 0, none⟩) g.length g.length)) w.heap.size [(.slice A g.length c)] := ((B_3.out.oth (show w.heap.size + 1 ≠ w.heap.size by omega) (.slice Ac cl.length cc)).oth (show w.heap.size + 1 ≠ w.heap.size by omega) (.slice (some ⟨nb5, 0, none⟩) g.length g.length)).oth (show w.heap.size + 1 ≠ w.heap.size by omega) (.slice (some ⟨nb9, 0, none⟩) g.length g.length)
     have bx1 : Bx (World.setCell (World.setCell (World.setCell wm3 ⟨w.heap.size + 1, 0, none⟩ (.slice Ac cl.length cc)) ⟨w.heap.size + 1, 1, none⟩ (.slice (some ⟨nb5, 0, none⟩) g.length g.length)) ⟨w.heap.size + 1, 2, none⟩ (.slice (some ⟨nb9, 0, none⟩) g.length g.length)) (w.heap.size + 1) [(.slice Ac cl.length cc), (.slice (some ⟨nb5, 0, none⟩) g.length g.length), (.slice (some ⟨nb9, 0, none⟩) g.length g.length)] := Bx.set3z D_3.out (.slice Ac cl.length cc) (.slice (some ⟨nb5, 0, none⟩) g.length g.length) (.slice (some ⟨nb9, 0, none⟩) g.length g.length)
     have s0 := bx0.cell (j := 0) rfl
     have s1 := bx1.cell (j := 0) rfl
     have s2 := bx1.cell (j := 1) rfl
     have s3 := bx1.cell (j := 2) rfl
     have hm3 := Mod.set3z wm3 (w.heap.size + 1) (.slice Ac cl.length cc) (.slice (some ⟨nb5, 0, none⟩) g.length g.length) (.slice (some ⟨nb9, 0, none⟩) g.length g.length)
     have hm : Mod (fun b => b = w.heap.size ∨ b = w.heap.size + 1) wm3 (World.setCell (World.setCell (World.setCell wm3 ⟨w.heap.size + 1, 0, none⟩ (.slice Ac cl.length cc)) ⟨w.heap.size + 1, 1, none⟩ (.slice (some ⟨nb5, 0, none⟩) g.length g.length)) ⟨w.heap.size + 1, 2, none⟩ (.slice (some ⟨nb9, 0, none⟩) g.length g.length)) := hm3.mono (fun b _ e => .inr e)
     have hfin : ZF w.heap.size A g Ac cl (some ⟨nb5, 0, none⟩) (List.replicate g.length []) (some ⟨nb9, 0, none⟩) (List.replicate g.length 0) wm3 := fun W' hW' =>
      ⟨(K_3.out.mod hW' (fun b e => by omega)).rd, (O_3.out.mod hW' (fun b hb e => by have := (O_3.out.lt hb).1; omega)).rd, OwnL.rdLC (OwnD.mod (nilsOwnZ MK5_3.out) hW' (fun b hb e => by have := (OwnD.lt (nilsOwnZ MK5_3.out) hb).1; omega)) (by simp; omega) (by intro l hl; rw [List.eq_of_mem_replicate hl]; simp), by
       have := (MK9_3.out.mod hW' (fun b hb e => by have := (MK9_3.out.lt hb).1; omega)).rd
       simpa [ints] using this⟩
     refine bodyPost_ret (v := .tuple #[.agg #[(.slice A g.length c)], .agg #[(.slice Ac cl.length cc), (.slice (some ⟨nb5, 0, none⟩) g.length g.length), (.slice (some ⟨nb9, 0, none⟩) g.length g.length)]]) (by simp [results, Tryz.results61, go_sem, s0, s1, s2, s3]; try rfl) rfl ?_
     exact ⟨g, A, c, cl, Ac, cc, List.replicate g.length [], _, g.length, List.replicate g.length 0, _, g.length, by simp, hlo, hhi, by omega, by simp; omega, by simp; omega, ZF.fin hRl hfin hm, (R_3.out.mod hm (fun b e => by omega)).more (by omega), M_3.out.tr hm (fun b e => .inr (by omega))⟩
    exact AllReadyH.nil
   exact AllReadyH.nil
 ·have hG : Sg.validG g = true := by simp only [Bool.and_eq_true] at hV; exact hV.1
  have hC : Sg.validC g cl = true := by simp only [Bool.and_eq_true] at hV; exact hV.2
  have HSL := lh (fun w h hc => s_startLazy A Ac c cc g cl w h hc (by omega))
  have HG := lh hG
  have HC := lh hC
  clear hV hG hC
  go_wp2_with fail
  refine (HVG.out _ K1.out.rd).mono ?_
  rintro e w2 ⟨rfl, he2⟩
  rw [HG.out]
  have M2 := lh (M1.out.tr' (Mod.of he2))
  have B2 := lh (B1.out.ext he2)
  have D2 := lh (D1.out.ext he2)
  have G2 := lh (G1.out.ext he2)
  have K2 := lh (K1.out.ext he2)
  have O2 := lh (O1.out.ext he2)
  have R2 := lh (R1.out.ext he2)
  have q2 := he2.cellE q1
  have b2 := blt q2
  have hs2 := he2.size
  clear he2 q1 b1 M1 B1 D1 G1 K1 O1 R1
  go_wp2_with fail
  refine (HVC.out _ K2.out.rd O2.out.rd).mono ?_
  rintro e w3 ⟨rfl, he3⟩
  rw [HC.out]
  have M3 := lh (M2.out.tr' (Mod.of he3))
  have B3 := lh (B2.out.ext he3)
  have D3 := lh (D2.out.ext he3)
  have G3 := lh (G2.out.ext he3)
  have K3 := lh (K2.out.ext he3)
  have O3 := lh (O2.out.ext he3)
  have R3 := lh (R2.out.ext he3)
  have q3 := he3.cellE q2
  have b3 := blt q3
  have hs3 := he3.size
  clear he3 q2 b2 M2 B2 D2 G2 K2 O2 R2
  go_wp2_with fail
  refine (HSL.out _ K3.out.rd O3.out.rd).mono ?_
  rintro e w4 ⟨A1, c1, A2, c2, A3, c3, hz, rfl, hz4, he4⟩
  have hs4 := he4.size
  have e4 := he4.tr ((Ext.rfl' w4).al (.cells #[.slice A1 cl.length c1, .slice A2 g.length c2, .slice A3 g.length c3] 29))
  have Q4 := lh (show LQ w R w.heap.size w3.heap.size w1.heap.size w4.heap.size A c g hs (m + 1500) (Sg.startL g cl) A1 c1 A2 c2 A3 c3 hz (w4.alloc (.cells #[.slice A1 cl.length c1, .slice A2 g.length c2, .slice A3 g.length c3] 29)) from
   ⟨K3.out.ext e4, fun b hb => by have := KB.out b hb; omega, hz4.ext ((Ext.rfl' w4).al (.cells #[.slice A1 cl.length c1, .slice A2 g.length c2, .slice A3 g.length c3] 29)), by
    have := Bx.new w4 #[.slice A1 cl.length c1, .slice A2 g.length c2, .slice A3 g.length c3] 29
    rw [show (Sg.startL g cl).vals.length = cl.length from rfl, show (Sg.startL g cl).reads.length = g.length by simp [Sg.startL], show (Sg.startL g cl).cols.length = g.length by simp [Sg.startL]]
    exact this, fun b hb e => by have := (hz4.lt hb).2; omega, G3.out.ext e4, B3.out.ext e4, D3.out.ext e4, R3.out.ext e4, M3.out.tr' (Mod.of e4), hRl, rfl, by omega, by omega, by omega⟩)
  have HV4 := lh (Sg.startL_valid HG.out HC.out)
  clear hz4 he4 e4 q3 b3 M3 B3 D3 G3 K3 O3 R3 HSL HVG HVC KB HC
  go_upto_region 5 with fail
  have hw4 : w4.heap.size < (w4.alloc (.cells #[.slice A1 cl.length c1, .slice A2 g.length c2, .slice A3 g.length c3] 29)).heap.size := by simp
  generalize Sg.startL g cl = st at *
  generalize w4.alloc (.cells #[.slice A1 cl.length c1, .slice A2 g.length c2, .slice A3 g.length c3] 29) = W4 at *
  generalize hPP : w4.heap.size = P at *
  generalize hTT : w3.heap.size = T at *
  generalize hGG : w1.heap.size = Gb at *
  clear hPP hTT hGG
  go_wp2_with fail
  have RL := (Own.new W4 (B := 0) 3 1 #[.int .i64 4, .int .i64 3, .int .i64 6, .int .i64 2, .int .i64 1, .int .i64 0] 6 (Nat.zero_le _) (by unfold maxLen; omega) rfl).rd
  refine (s_one R (m + 1500) _ 6 [4, 3, 6, 2, 1, 0] _ (Q4.out.rd.ext ((Ext.rfl' W4).al (.cells #[.int .i64 4, .int .i64 3, .int .i64 6, .int .i64 2, .int .i64 1, .int .i64 0] 3))) RL (by simp) (by simp) (by intro y hy; simp [blk] at hy; have := Q4.out.rd.lt; omega) (by omega)).mono ?_
  rintro e w5 ⟨y, rfl, hy, hr5, hm5⟩
  have Q5 := lh ((Q4.out.ext ((Ext.rfl' W4).al (.cells #[.int .i64 4, .int .i64 3, .int .i64 6, .int .i64 2, .int .i64 1, .int .i64 0] 3))).draw hm5 hr5)
  have hy6 : 0 ≤ y ∧ y ≤ 6 := by simp at hy; omega
  obtain ⟨n0, rfl⟩ := Int.eq_ofNat_of_zero_le hy6.1
  have hn0 : n0 ≤ 6 := by omega
  clear hy hy6 hr5 hm5 RL Q4
  go_wp2_with fail
  go_loopw [7] (fun i wr => ∃ (n mm : Nat) (st : Sg.Lazy) (A1 : Option Addr) (c1 : Nat) (A2 : Option Addr) (c2 : Nat) (A3 : Option Addr) (c3 : Nat) (hz : List (Option Addr × Nat)), i = .int .i64 n ∧ n ≤ 6 ∧ mm + 5 * n ≤ m + 1540 ∧ Hid (Sg.validL g st = true) ∧ Hid (LQ w R w.heap.size T Gb P A c g hs mm st A1 c1 A2 c2 A3 c3 hz wr)) (fun i _ => (intOf i).toNat)
  case atStart => exact ⟨n0, m + 1501, st, A1, c1, A2, c2, A3, c3, hz, rfl, hn0, by omega, HV4, Q5⟩
  case round =>
   clear Q5 HV4
   obtain ⟨n, mm, st, A1, c1, A2, c2, A3, c3, hz, rfl, hn6, hmm, hV, hQ⟩ := hrel
   have qg := hQ.out.gb.cell (j := 0) rfl
   have p0 := hQ.out.pb.cell (j := 0) rfl
   have p1 := hQ.out.pb.cell (j := 1) rfl
   have p2 := hQ.out.pb.cell (j := 2) rfl
   have bqg := blt qg
   have bp0 := blt p0
   by_cases hn : 0 < n
   ·obtain ⟨n, rfl⟩ : ∃ n', n = n' + 1 := ⟨n - 1, by omega⟩
    go_wp2_with fail
    refine (s_pick R mm (g.length : Int) _ hQ.out.rd (by omega) (by omega) (by omega)).mono ?_
    rintro e w6 ⟨x, rfl, hx0, hx1, hr6, hm6⟩
    obtain ⟨k, rfl⟩ := Int.eq_ofNat_of_zero_le hx0
    have hk : k < g.length := by omega
    have Q6 := lh (hQ.out.draw hm6 hr6)
    clear hx0 hx1 hr6 hm6 hQ qg p0 p1 p2 bqg bp0
    have qg := Q6.out.gb.cell (j := 0) rfl
    have bqg := blt qg
    go_wp2_with fail
    refine (s_isCell A c g (k : Int) _ Q6.out.k.rd).mono ?_
    rintro e w7 ⟨rfl, he7⟩
    have Q7 := lh (Q6.out.ext he7)
    clear he7 Q6 qg bqg
    have qg := Q7.out.gb.cell (j := 0) rfl
    have p0 := Q7.out.pb.cell (j := 0) rfl
    have p1 := Q7.out.pb.cell (j := 1) rfl
    have p2 := Q7.out.pb.cell (j := 2) rfl
    have bqg := blt qg
    have bp0 := blt p0
    cases hc : Sg.isCell g (k : Int)
    ·have HC := lh hc
     clear hc
     go_wp2_with fail
     refine (s_pick R (mm + 1) 8 _ Q7.out.rd (by omega) (by omega) (by omega)).mono ?_
     rintro e w8 ⟨x, rfl, hx0, hx1, hr8, hm8⟩
     have Q8 := lh (Q7.out.draw hm8 hr8)
     clear hx0 hx1 hr8 hm8 Q7 qg p0 p1 p2 bqg bp0
     have qg := Q8.out.gb.cell (j := 0) rfl
     have p0 := Q8.out.pb.cell (j := 0) rfl
     have p1 := Q8.out.pb.cell (j := 1) rfl
     have p2 := Q8.out.pb.cell (j := 2) rfl
     have bqg := blt qg
     have bp0 := blt p0
     have f0 := Q8.out.pb.free 0
     have f1 := Q8.out.pb.free 1
     have f2 := Q8.out.pb.free 2
     obtain ⟨r1, r2, r3, r4⟩ := Q8.out.reads hV.out
     have hsh := Sg.validL_shape hV.out
     have hvl : st.vals.length ≤ 1048576 := by have := hsh.2.1; omega
     have hql : st.cols.length ≤ 1048576 := by have := hsh.2.2.2.1; omega
     clear hsh
     by_cases hx : x = 0
     ·have z8 : (x == 0) = true := by simp [hx]
      clear hx
      have HN := lh (show Sg.forgetLO g ⟨st.vals, st.reads, st.cols⟩ (k : Int) = (Sg.forgetL st k, true) from by unfold Sg.forgetLO; rw [if_pos (mayForget_of hV.out hk HC.out)]; rfl)
      have HS := lh (fun w h hv hr hq => by have := s_ForgetNode A A1 A2 A3 c c1 c2 c3 g st.vals st.cols st.reads (k : Int) w h hv hr hq hvl hql; rw [HN.out] at this; exact this)
      have R1 := lh r1
      have R2 := lh r2
      have R3 := lh r3
      have R4 := lh r4
      clear r1 r2 r3 r4
      have HVN := lh (show Sg.validL g (Sg.forgetL st k) = true from forgetL_ok hV.out hk HC.out)
      obtain ⟨sn, hsn⟩ : ∃ sn, sn = (Sg.forgetL st k) := ⟨_, rfl⟩
      rw [← hsn] at HS HVN
      clear HN hsn
      go_wp2_with fail
      refine (HS.out _ R1.out R2.out R3.out R4.out).mono ?_
      rintro e w9 ⟨B1, d1, B2, d2, B3, d3, hy, rfl, hz9, he9⟩
      have Q9 := lh (Q8.out.take he9 hz9)
      have k9 := (Q8.out.pb.ext he9).cell (j := 0) rfl
      have k91 := (Q8.out.pb.ext he9).cell (j := 1) rfl
      have k92 := (Q8.out.pb.ext he9).cell (j := 2) rfl
      have g0 := (Q8.out.pb.ext he9).free 0
      have g1 := (Q8.out.pb.ext he9).free 1
      have g2 := (Q8.out.pb.ext he9).free 2
      have bk9 := blt k9
      clear hz9 he9 R1 R2 R3 R4 Q8 qg p0 p1 p2 bqg bp0 f0 f1 f2
      go_wp2
      go_roundw
      case rel => exact ⟨n, mm + 2, sn, _, _, _, _, _, _, _, by go_num, by omega, by omega, HVN, Q9⟩
      case measure => simp [intOf]
     ·have z8 : (x == 0) = false := by rw [beq_eq_false_iff_ne]; exact hx
      clear hx
      have HN := lh (show Sg.readLO g ⟨st.vals, st.reads, st.cols⟩ (k : Int) = ((Sg.readS g st (k : Int)).st, Sg.valOf (Sg.readS g st (k : Int)) k, (Sg.readS g st (k : Int)).ran) from by unfold Sg.readLO; rw [if_pos (mayRead_of hV.out hk)]; rfl)
      have HS := lh (fun w h hv hr hq => by have := s_ReadLazy A A1 A2 A3 c c1 c2 c3 g st.vals st.cols st.reads (k : Int) w h hv hr hq hvl hql; rw [HN.out] at this; exact this)
      have R1 := lh r1
      have R2 := lh r2
      have R3 := lh r3
      have R4 := lh r4
      clear r1 r2 r3 r4
      have HVN := lh (show Sg.validL g (Sg.readS g st (k : Int)).st = true from readL_ok hV.out hk)
      obtain ⟨sn, hsn⟩ : ∃ sn, sn = (Sg.readS g st (k : Int)).st := ⟨_, rfl⟩
      rw [← hsn] at HS HVN
      clear HN hsn
      go_wp2_with fail
      refine (HS.out _ R1.out R2.out R3.out R4.out).mono ?_
      rintro e w9 ⟨B1, d1, B2, d2, B3, d3, hy, B4, d4, rfl, hz9, _, _, he9⟩
      have Q9 := lh (Q8.out.take he9 hz9)
      have k9 := (Q8.out.pb.ext he9).cell (j := 0) rfl
      have k91 := (Q8.out.pb.ext he9).cell (j := 1) rfl
      have k92 := (Q8.out.pb.ext he9).cell (j := 2) rfl
      have g0 := (Q8.out.pb.ext he9).free 0
      have g1 := (Q8.out.pb.ext he9).free 1
      have g2 := (Q8.out.pb.ext he9).free 2
      have bk9 := blt k9
      clear hz9 he9 R1 R2 R3 R4 Q8 qg p0 p1 p2 bqg bp0 f0 f1 f2
      go_wp2
      go_roundw
      case rel => exact ⟨n, mm + 2, sn, _, _, _, _, _, _, _, by go_num, by omega, by omega, HVN, Q9⟩
      case measure => simp [intOf]
    ·have HC := lh hc
     clear hc
     clear qg p0 p1 p2 bqg bp0
     obtain ⟨v, r, q⟩ := st
     have hsh := Sg.validL_shape hV.out
     have hvg : v.length = g.length := hsh.2.1
     have hrg : r.length = g.length := hsh.2.2.1
     have hqg : q.length = g.length := hsh.2.2.2.1
     obtain ⟨gv, gr, gq, rfl, rfl, rfl⟩ := OwnZ.some3 Q7.out.z (by omega) (by omega) (by omega)
     have CE := lh (fun (W : World) (mm : Nat) (v q : List Int) (h : LQ w R w.heap.size T Gb P A c g hs mm ⟨v, r, q⟩ (some ⟨gv, 0, none⟩) c1 (some ⟨gr, 0, none⟩) c2 (some ⟨gq, 0, none⟩) c3 hz W) (h1 : v.length = g.length) (h2 : q.length = g.length) => (show W.cell? ⟨Gb, 0, none⟩ = some (.slice A g.length c) ∧ W.cell? ⟨P, 0, none⟩ = some (.slice (some ⟨gv, 0, none⟩) g.length c1) ∧ W.cell? ⟨P, 1, none⟩ = some (.slice (some ⟨gr, 0, none⟩) g.length c2) ∧ W.cell? ⟨P, 2, none⟩ = some (.slice (some ⟨gq, 0, none⟩) g.length c3) from by
      have a := h.pb
      rw [show (Sg.Lazy.mk v r q).vals.length = g.length from h1, show (Sg.Lazy.mk v r q).reads.length = g.length from hrg, show (Sg.Lazy.mk v r q).cols.length = g.length from h2] at a
      exact ⟨h.gb.cell (j := 0) rfl, a.cell (j := 0) rfl, a.cell (j := 1) rfl, a.cell (j := 2) rfl⟩))
     have hbb := gvq Q7.out.z
     have HWZ := lh (fun (W : World) (y : Int) (hv : Own W T 3 1 (some ⟨gv, 0, none⟩) v.length c1 (ints v)) (hq : Own W T 3 1 (some ⟨gq, 0, none⟩) q.length c3 (ints q)) (hr : ∀ W', Mod (fun b => b = gv ∨ b = gq) W W' → RdL W' (some ⟨gr, 0, none⟩) r) => by
      have := s_writeZ T k gv gq y A (some ⟨gr, 0, none⟩) c c1 c2 c3 v q r W (Sg.ahead_of hV.out) (by omega) (by omega) (by omega) (by omega) hbb.1 (Sg.cols_range hV.out) hr hv hq
      rw [hvg, hrg, hqg] at this
      exact this)
     have HRS := lh (fun (W : World) (mm : Nat) (h : LQ w R w.heap.size T Gb P A c g hs mm ⟨v, r, q⟩ (some ⟨gv, 0, none⟩) c1 (some ⟨gr, 0, none⟩) c2 (some ⟨gq, 0, none⟩) c3 hz W) (W' : World) (hm : Mod (fun b => b = gv ∨ b = gq) W W') => (show RdL W' (some ⟨gr, 0, none⟩) r from
      RdLC.l (OwnL.rdLC (OwnD.mod h.z.r hm (fun b hb e => by rcases e with rfl | rfl; exact (h.z.d _ rfl).1 hb; exact h.z.e _ rfl hb)) (by rw [hrg]; omega) (fun l hl => Nat.le_trans (reads_small hV.out l hl) (by omega)))))
     have HVG := lh hvg
     have HQG := lh hqg
     have HRG := lh hrg
     have HBB := lh hbb
     have hPl := Q7.out.size
     have hTP := Q7.out.tp
     have hGT := Q7.out.gt
     have hbT := hbb.2.1
     have hbT2 := hbb.2.2.2.1
     clear hsh hvg hqg hrg hbb
     have QD := lh (Q7.out.ext ((Ext.rfl' w7).dr))
     have C7 := CE.out _ _ _ _ QD.out HVG.out HQG.out
     go_wp2_with fail
     refine wp_region_held_drew (S := (fun W => W.cell? ⟨Gb, 0, none⟩ = some (.slice A g.length c) ∧ W.cell? ⟨P, 0, none⟩ = some (.slice (some ⟨gv, 0, none⟩) g.length c1) ∧ W.cell? ⟨P, 1, none⟩ = some (.slice (some ⟨gr, 0, none⟩) g.length c2) ∧ W.cell? ⟨P, 2, none⟩ = some (.slice (some ⟨gq, 0, none⟩) g.length c3))) (by kernel_rfl) ?_ (fun hHeld => ?_)
     ·exact C7
     refine ty 0 ?_
     refine ty 1 ?_
     refine ty 2 ?_
     refine ty 3 ?_
     refine ty 4 ?_
     refine rd1 5 rfl fun K hK => ?_
     go_simp
     refine (s_pick R (mm + 1) 1000 _ QD.out.rd (by omega) (by omega) (by omega)).mono ?_
     rintro e w8 ⟨x, rfl, hx0, hx1, hr8, hm8⟩
     have Q8 := lh (QD.out.draw hm8 hr8)
     have C8 := CE.out _ _ _ _ Q8.out HVG.out HQG.out
     have Q8a := lh (Q8.out.ext ((Ext.rfl' w8).al (.cells #[.int .i64 0, .int .i64 1, .int .i64 x, .int .i64 3] 3)))
     have C8a := CE.out _ _ _ _ Q8a.out HVG.out HQG.out
     have RL := lh (Own.new w8 (B := 0) 3 1 #[.int .i64 0, .int .i64 1, .int .i64 x, .int .i64 3] 4 (Nat.zero_le _) (by unfold maxLen; omega) rfl).rd
     have hx9 : 0 ≤ x ∧ x < 1000 := by omega
     have hR8 := Q8.out.rd.lt
     clear hx0 hx1 hr8 hm8
     try go_wp2_with fail
     refine hK.out _ _ (by exact C8) fun hh2 => ?_; clear hK K hHeld; have hHeld := hh2; clear hh2
     try simp only [Act.put, pu]
     refine rd1 6 rfl fun K hK => ?_
     go_simp
     refine hK.out _ _ (by exact C8a) fun hh2 => ?_; clear hK K hHeld; have hHeld := hh2; clear hh2
     try simp only [Act.put, pu]
     refine rd1 7 rfl fun K hK => ?_
     go_simp
     refine (s_one R (mm + 1 + 1) _ 4 [0, 1, x, 3] _ Q8a.out.rd RL.out (by simp) (by simp) (by intro y hy; simp [blk] at hy; omega) (by omega)).mono ?_
     rintro e w9 ⟨y, rfl, hy, hr9, hm9⟩
     have Q9 := lh (Q8a.out.draw hm9 hr9)
     have C9 := CE.out _ _ _ _ Q9.out HVG.out HQG.out
     have hy9 : 0 ≤ y ∧ y ≤ 999 := by simp at hy; omega
     clear hy hr9 hm9 hx9
     try go_wp2_with fail
     refine hK.out _ _ (by exact C9) fun hh2 => ?_; clear hK K hHeld; have hHeld := hh2; clear hh2
     try simp only [Act.put, pu]
     refine rd1 8 rfl fun K hK => ?_
     go_simp
     refine (HWZ.out _ y (by have := Q9.out.z.v; exact this) (by have := Q9.out.z.q; exact this) (HRS.out _ _ Q9.out)).mono ?_
     rintro e w10 ⟨rfl, hv10, hq10, hm10⟩
     have HVW := lh (Sg.writeL_valid hV.out HC.out hy9)
     have hwl := Sg.writeL_len ⟨v, r, q⟩ k y
     have hwe := Sg.writeL_eq ⟨v, r, q⟩ k y
     rw [hwe] at HVW
     obtain ⟨v', hv'⟩ : ∃ v', v' = (Sg.writeL ⟨v, r, q⟩ k y).vals := ⟨_, rfl⟩
     obtain ⟨q', hq'⟩ : ∃ q', q' = (Sg.writeL ⟨v, r, q⟩ k y).cols := ⟨_, rfl⟩
     rw [← hv', ← hq'] at HVW
     rw [← hv'] at hv10
     rw [← hq'] at hq10
     have lv' : v'.length = v.length := by rw [hv']; exact hwl.1
     have lq' : q'.length = q.length := by rw [hq']; exact hwl.2.2
     have Q10 := lh (Q9.out.write hm10 (by rw [HVG.out]; exact hv10) (by rw [HQG.out]; exact hq10) lv' lq')
     have LV := lh (lv'.trans HVG.out)
     have LQ' := lh (lq'.trans HQG.out)
     clear hwl hwe hv' hq' hv10 hq10 hm10 lv' lq'
     have C10 := CE.out _ _ _ _ Q10.out LV.out LQ'.out
     have g0 := Q10.out.pb.free 0
     have g1 := Q10.out.pb.free 1
     have g2 := Q10.out.pb.free 2
     have c0 := C10.2.1
     have c1x := C10.2.2.1
     have c2x := C10.2.2.2
     have bc0 := blt c0
     have hm := Mod.set3z w10 P (.slice (some ⟨gv, 0, none⟩) (Sg.Lazy.mk v' r q').vals.length c1) (.slice (some ⟨gr, 0, none⟩) (Sg.Lazy.mk v' r q').reads.length c2) (.slice (some ⟨gq, 0, none⟩) (Sg.Lazy.mk v' r q').cols.length c3)
     have Q11 := lh (Q10.out.own hm (fun b e => by have := Q10.out.tp; omega) (Q10.out.z.mod hm (fun b hb e => Q10.out.np b hb e)) (Bx.set3z Q10.out.pb _ _ _) Q10.out.np)
     have C11 := CE.out _ _ _ _ Q11.out LV.out LQ'.out
     rw [show (Sg.Lazy.mk v' r q').vals.length = g.length from LV.out, show (Sg.Lazy.mk v' r q').reads.length = g.length from HRG.out, show (Sg.Lazy.mk v' r q').cols.length = g.length from LQ'.out] at Q11 C11
     clear hm
     try go_wp2_with fail
     refine hK.out _ _ (by exact C10) fun hh2 => ?_; clear hK K hHeld; have hHeld := hh2; clear hh2
     try simp only [Act.put, pu]
     refine rd1 9 rfl fun K hK => ?_
     go_simp
     refine hK.out _ _ (by exact C11) fun hh2 => ?_; clear hK K hHeld; have hHeld := hh2; clear hh2
     try simp only [Act.put]
     refine dn ?_
     go_wp2
     go_roundw
     case rel => exact ⟨n, mm + 1 + 1 + 1, ⟨v', r, q'⟩, _, _, _, _, _, _, _, by go_num, by omega, by omega, HVW, Q11⟩
     case measure => simp [intOf]
   ·obtain rfl : n = 0 := by omega
    go_wp2_with fail
    refine (s_pick R mm (g.length : Int) _ hQ.out.rd (by omega) (by omega) (by omega)).mono ?_
    rintro e w6 ⟨x, rfl, hx0, hx1, hr6, hm6⟩
    obtain ⟨k, rfl⟩ := Int.eq_ofNat_of_zero_le hx0
    have hk : k < g.length := by omega
    have Q6 := lh (hQ.out.draw hm6 hr6)
    clear hx0 hx1 hr6 hm6 hQ qg p0 p1 p2 bqg bp0
    go_wp2_with fail
    refine (s_pick R (mm + 1) 24 _ Q6.out.rd (by omega) (by omega) (by omega)).mono ?_
    rintro e w7 ⟨x, rfl, hx0, hx1, hr7, hm7⟩
    have Q7 := lh (Q6.out.draw hm7 hr7)
    clear hx0 hx1 hr7 hm7 Q6
    obtain ⟨v, r, q⟩ := st
    have hsh := Sg.validL_shape hV.out
    have hvg : v.length = g.length := hsh.2.1
    have hrg : r.length = g.length := hsh.2.2.1
    have hqg : q.length = g.length := hsh.2.2.2.1
    obtain ⟨gv, gr, gq, rfl, rfl, rfl⟩ := OwnZ.some3 Q7.out.z (by omega) (by omega) (by omega)
    have CE := lh (fun (W : World) (mm : Nat) (v q : List Int) (r : List (List Int)) (hz : List (Option Addr × Nat)) (h : LQ w R w.heap.size T Gb P A c g hs mm ⟨v, r, q⟩ (some ⟨gv, 0, none⟩) c1 (some ⟨gr, 0, none⟩) c2 (some ⟨gq, 0, none⟩) c3 hz W) (h1 : v.length = g.length) (h3 : r.length = g.length) (h2 : q.length = g.length) => (show W.cell? ⟨Gb, 0, none⟩ = some (.slice A g.length c) ∧ W.cell? ⟨P, 0, none⟩ = some (.slice (some ⟨gv, 0, none⟩) g.length c1) ∧ W.cell? ⟨P, 1, none⟩ = some (.slice (some ⟨gr, 0, none⟩) g.length c2) ∧ W.cell? ⟨P, 2, none⟩ = some (.slice (some ⟨gq, 0, none⟩) g.length c3) from by
     have a := h.pb
     rw [show (Sg.Lazy.mk v r q).vals.length = g.length from h1, show (Sg.Lazy.mk v r q).reads.length = g.length from h3, show (Sg.Lazy.mk v r q).cols.length = g.length from h2] at a
     exact ⟨h.gb.cell (j := 0) rfl, a.cell (j := 0) rfl, a.cell (j := 1) rfl, a.cell (j := 2) rfl⟩))
    have HL10 := lh (show ∀ l ∈ r, l.length ≤ 10 from reads_small hV.out)
    have HVG := lh hvg
    have HQG := lh hqg
    have HRG := lh hrg
    have hbb := gvq Q7.out.z
    have hbT := hbb.2.1
    have hbT2 := hbb.2.2.2.1
    have hPl := Q7.out.size
    have hTP := Q7.out.tp
    have hGT := Q7.out.gt
    have hLG := Q7.out.lg
    have hkg : (k : Int) < (g.length : Int) := by omega
    clear hsh hvg hqg hrg hbb
    by_cases h0 : x = 0
    ·have z1 : (x == 0) = true := by simp [h0]
     clear h0
     have QD := lh (Q7.out.ext ((Ext.rfl' w7).dr))
     have C7 := CE.out _ _ _ _ _ _ QD.out HVG.out HRG.out HQG.out
     have QA := lh (QD.out.ext ((Ext.rfl' _).al (.cells #[.int .i64 (-1), .int .i64 3, .int .i64 0, .int .i64 1] 3)))
     have CA := CE.out _ _ _ _ _ _ QA.out HVG.out HRG.out HQG.out
     have RL := lh (Own.new (World.drew w7) (B := 0) 3 1 #[.int .i64 (-1), .int .i64 3, .int .i64 0, .int .i64 1] 4 (Nat.zero_le _) (by unfold maxLen; omega) rfl).rd
     have hRd := QD.out.rd.lt
     go_upto_if 89 with fail
     go_wp2_with fail
     refine wp_region_held_drew (S := (fun W => W.cell? ⟨Gb, 0, none⟩ = some (.slice A g.length c) ∧ W.cell? ⟨P, 0, none⟩ = some (.slice (some ⟨gv, 0, none⟩) g.length c1) ∧ W.cell? ⟨P, 1, none⟩ = some (.slice (some ⟨gr, 0, none⟩) g.length c2) ∧ W.cell? ⟨P, 2, none⟩ = some (.slice (some ⟨gq, 0, none⟩) g.length c3))) (by kernel_rfl) ?_ (fun hHeld => ?_)
     ·exact C7
     refine ty 0 ?_
     refine ty 1 ?_
     refine ty 2 ?_
     refine ty 3 ?_
     refine rd1 4 rfl fun K hK => ?_
     go_simp
     refine hK.out _ _ (by exact CA) fun hh2 => ?_; clear hK K hHeld; have hHeld := hh2; clear hh2
     try simp only [Act.put, pu]
     refine rd1 5 rfl fun K hK => ?_
     go_simp
     refine (s_one R (mm + 1 + 1) _ 4 [-1, 3, 0, 1] _ QA.out.rd RL.out (by simp) (by simp) (by intro y hy; simp [blk] at hy; omega) (by omega)).mono ?_
     rintro e w9 ⟨y, rfl, hy, hr9, hm9⟩
     have Q9 := lh (QA.out.draw hm9 hr9)
     have C9 := CE.out _ _ _ _ _ _ Q9.out HVG.out HRG.out HQG.out
     obtain ⟨y0, hy0⟩ : ∃ y0, q[k]? = some y0 := ⟨_, List.getElem?_eq_getElem (by have := HQG.out; omega)⟩
     have ck := Q9.out.z.q.cell (j := k) (u := .int .i64 y0) (by show (ints q)[k]? = _; rw [ints_at, hy0]; rfl)
     have fk := Q9.out.z.q.free k
     have bk := blt ck
     have Q10 := lh (Q9.out.putQ k y)
     have C10 := CE.out _ _ _ _ _ _ Q10.out (by exact HVG.out) HRG.out (by simp; exact HQG.out)
     clear hy hr9 hm9 hy0
     try go_wp2_with fail
     refine hK.out _ _ (by exact C9) fun hh2 => ?_; clear hK K hHeld; have hHeld := hh2; clear hh2
     try simp only [Act.put, pu]
     refine ty 6 ?_
     refine rd1 7 rfl fun K hK => ?_
     go_simp
     refine hK.out _ _ (by exact C10) fun hh2 => ?_; clear hK K hHeld; have hHeld := hh2; clear hh2
     try simp only [Act.put]
     refine dn ?_
     clear ck fk bk
     generalize World.setCell w9 ⟨gq, k, none⟩ (Value.int IntKind.i64 y) = w10 at *
     have LV8 := lh (show (v).length = g.length from HVG.out)
     have LR8 := lh (show (r).length = g.length from HRG.out)
     have LQ8 := lh (show ((q.set k y)).length = g.length from by simp; exact HQG.out)
     have QF := lh Q10.out
     have CF := CE.out _ _ _ _ _ _ QF.out LV8.out LR8.out LQ8.out
     have hfin := lh (QF.out.fin (by rw [LR8.out]; exact hhi) HL10.out)
     have f0 := QF.out.lb.free 0
     have x0 := QF.out.lb.cell (j := 0) rfl
     have h0 := QF.out.lc.free 0
     have h1 := QF.out.lc.free 1
     have h2 := QF.out.lc.free 2
     have y0 := QF.out.lc.cell (j := 0) rfl
     have y1 := QF.out.lc.cell (j := 1) rfl
     have y2 := QF.out.lc.cell (j := 2) rfl
     have bl := QF.out.lc.lt
     have bP := blt CF.2.1
     go_wp2_with fail
     refine wp_region_held_drew (S := (fun W => W.cell? ⟨Gb, 0, none⟩ = some (.slice A g.length c) ∧ W.cell? ⟨P, 0, none⟩ = some (.slice (some ⟨gv, 0, none⟩) g.length c1) ∧ W.cell? ⟨P, 1, none⟩ = some (.slice (some ⟨gr, 0, none⟩) g.length c2) ∧ W.cell? ⟨P, 2, none⟩ = some (.slice (some ⟨gq, 0, none⟩) g.length c3))) (by kernel_rfl) ?_ (fun hHeld => ?_)
     ·exact ⟨((Ext.rfl' _).dr).cellE (CF.1), ((Ext.rfl' _).dr).cellE (CF.2.1), ((Ext.rfl' _).dr).cellE (CF.2.2.1), ((Ext.rfl' _).dr).cellE (CF.2.2.2)⟩
     refine ty 0 ?_
     refine ty 1 ?_
     refine rd1 2 rfl fun K hK => ?_
     go_simp
     refine hK.out _ _ (by exact ⟨((Ext.rfl' _).dr).cellE (((co).trans CF.1)), ((Ext.rfl' _).dr).cellE (((co).trans CF.2.1)), ((Ext.rfl' _).dr).cellE (((co).trans CF.2.2.1)), ((Ext.rfl' _).dr).cellE (((co).trans CF.2.2.2))⟩) fun hh2 => ?_; clear hK K hHeld; have hHeld := hh2; clear hh2
     try simp only [Act.put]
     refine rd1 3 rfl fun K hK => ?_
     go_simp
     refine hK.out _ _ (by exact ⟨((Ext.rfl' _).dr).cellE (((co).trans ((co).trans ((co).trans ((co).trans CF.1))))), ((Ext.rfl' _).dr).cellE (((co).trans ((co).trans ((co).trans ((co).trans CF.2.1))))), ((Ext.rfl' _).dr).cellE (((co).trans ((co).trans ((co).trans ((co).trans CF.2.2.1))))), ((Ext.rfl' _).dr).cellE (((co).trans ((co).trans ((co).trans ((co).trans CF.2.2.2)))))⟩) fun hh2 => ?_; clear hK K hHeld; have hHeld := hh2; clear hh2
     try simp only [Act.put]
     refine dn ?_
     go_wp2
     have bx0 : Bx (World.setCell (World.setCell (World.setCell (World.setCell w10 ⟨w.heap.size, 0, none⟩ (.slice A g.length c)) ⟨w.heap.size + 1, 0, none⟩ (.slice (some ⟨gv, 0, none⟩) g.length c1)) ⟨w.heap.size + 1, 1, none⟩ (.slice (some ⟨gr, 0, none⟩) g.length c2)) ⟨w.heap.size + 1, 2, none⟩ (.slice (some ⟨gq, 0, none⟩) g.length c3)) w.heap.size [.slice A g.length c] := (((QF.out.lb.set 0 (.slice A g.length c)).oth (show w.heap.size + 1 ≠ w.heap.size by omega) (.slice (some ⟨gv, 0, none⟩) g.length c1)).oth (show w.heap.size + 1 ≠ w.heap.size by omega) (.slice (some ⟨gr, 0, none⟩) g.length c2)).oth (show w.heap.size + 1 ≠ w.heap.size by omega) (.slice (some ⟨gq, 0, none⟩) g.length c3)
     have bx1 : Bx (World.setCell (World.setCell (World.setCell (World.setCell w10 ⟨w.heap.size, 0, none⟩ (.slice A g.length c)) ⟨w.heap.size + 1, 0, none⟩ (.slice (some ⟨gv, 0, none⟩) g.length c1)) ⟨w.heap.size + 1, 1, none⟩ (.slice (some ⟨gr, 0, none⟩) g.length c2)) ⟨w.heap.size + 1, 2, none⟩ (.slice (some ⟨gq, 0, none⟩) g.length c3)) (w.heap.size + 1) [.slice (some ⟨gv, 0, none⟩) g.length c1, .slice (some ⟨gr, 0, none⟩) g.length c2, .slice (some ⟨gq, 0, none⟩) g.length c3] := Bx.set3z (QF.out.lc.oth (show w.heap.size ≠ w.heap.size + 1 by omega) (.slice A g.length c)) (.slice (some ⟨gv, 0, none⟩) g.length c1) (.slice (some ⟨gr, 0, none⟩) g.length c2) (.slice (some ⟨gq, 0, none⟩) g.length c3)
     have s0 := bx0.cell (j := 0) rfl
     have s1 := bx1.cell (j := 0) rfl
     have s2 := bx1.cell (j := 1) rfl
     have s3 := bx1.cell (j := 2) rfl
     have hm : Mod (fun b => b = w.heap.size ∨ b = w.heap.size + 1) w10 (World.drew (World.setCell (World.setCell (World.setCell (World.setCell w10 ⟨w.heap.size, 0, none⟩ (.slice A g.length c)) ⟨w.heap.size + 1, 0, none⟩ (.slice (some ⟨gv, 0, none⟩) g.length c1)) ⟨w.heap.size + 1, 1, none⟩ (.slice (some ⟨gr, 0, none⟩) g.length c2)) ⟨w.heap.size + 1, 2, none⟩ (.slice (some ⟨gq, 0, none⟩) g.length c3))) := Mod.dr (Mod.set (F := fun b => b = w.heap.size ∨ b = w.heap.size + 1) (Mod.set (F := fun b => b = w.heap.size ∨ b = w.heap.size + 1) (Mod.set (F := fun b => b = w.heap.size ∨ b = w.heap.size + 1) (Mod.set (F := fun b => b = w.heap.size ∨ b = w.heap.size + 1) (Mod.rfl' _ _) (p := ⟨w.heap.size, 0, none⟩) (.inl (.inl rfl)) _) (p := ⟨w.heap.size + 1, 0, none⟩) (.inl (.inr rfl)) _) (p := ⟨w.heap.size + 1, 1, none⟩) (.inl (.inr rfl)) _) (p := ⟨w.heap.size + 1, 2, none⟩) (.inl (.inr rfl)) _)
     refine bodyPost_ret (v := .tuple #[.agg #[.slice A g.length c], .agg #[.slice (some ⟨gv, 0, none⟩) g.length c1, .slice (some ⟨gr, 0, none⟩) g.length c2, .slice (some ⟨gq, 0, none⟩) g.length c3]]) (by simp [results, Tryz.results61, go_sem, s0, s1, s2, s3]; try rfl) rfl ?_
     have lv := LV8.out
     have lr := LR8.out
     have lq := LQ8.out
     exact ⟨g, A, c, v, _, c1, r, _, c2, (q.set k y), _, c3, by rw [lv, lr, lq], hlo, hhi, by omega, by omega, by omega, ZF.fin hRl hfin.out hm, (QF.out.rd.mod hm (fun b e => by omega)).more (by omega), QF.out.mo.tr hm (fun b e => .inr (by omega))⟩
    ·have z1 : (x == 0) = false := by rw [beq_eq_false_iff_ne]; exact h0
     clear h0
     by_cases h1 : x = 1
     ·have z2 : (x == 1) = true := by simp [h1]
      clear h1
      have QD := lh (Q7.out.ext ((Ext.rfl' w7).dr))
      have C7 := CE.out _ _ _ _ _ _ QD.out HVG.out HRG.out HQG.out
      have QA := lh (QD.out.ext ((Ext.rfl' _).al (.cells #[.int .i64 (-1), .int .i64 1000, .int .i64 7] 3)))
      have CA := CE.out _ _ _ _ _ _ QA.out HVG.out HRG.out HQG.out
      have RL := lh (Own.new (World.drew w7) (B := 0) 3 1 #[.int .i64 (-1), .int .i64 1000, .int .i64 7] 3 (Nat.zero_le _) (by unfold maxLen; omega) rfl).rd
      have hRd := QD.out.rd.lt
      go_upto_if 98 with fail
      go_wp2_with fail
      refine wp_region_held_drew (S := (fun W => W.cell? ⟨Gb, 0, none⟩ = some (.slice A g.length c) ∧ W.cell? ⟨P, 0, none⟩ = some (.slice (some ⟨gv, 0, none⟩) g.length c1) ∧ W.cell? ⟨P, 1, none⟩ = some (.slice (some ⟨gr, 0, none⟩) g.length c2) ∧ W.cell? ⟨P, 2, none⟩ = some (.slice (some ⟨gq, 0, none⟩) g.length c3))) (by kernel_rfl) ?_ (fun hHeld => ?_)
      ·exact C7
      refine ty 0 ?_
      refine ty 1 ?_
      refine ty 2 ?_
      refine ty 3 ?_
      refine rd1 4 rfl fun K hK => ?_
      go_simp
      refine hK.out _ _ (by exact CA) fun hh2 => ?_; clear hK K hHeld; have hHeld := hh2; clear hh2
      try simp only [Act.put, pu]
      refine rd1 5 rfl fun K hK => ?_
      go_simp
      refine (s_one R (mm + 1 + 1) _ 3 [-1, 1000, 7] _ QA.out.rd RL.out (by simp) (by simp) (by intro y hy; simp [blk] at hy; omega) (by omega)).mono ?_
      rintro e w9 ⟨y, rfl, hy, hr9, hm9⟩
      have Q9 := lh (QA.out.draw hm9 hr9)
      have C9 := CE.out _ _ _ _ _ _ Q9.out HVG.out HRG.out HQG.out
      obtain ⟨y0, hy0⟩ : ∃ y0, v[k]? = some y0 := ⟨_, List.getElem?_eq_getElem (by have := HVG.out; omega)⟩
      have ck := Q9.out.z.v.cell (j := k) (u := .int .i64 y0) (by show (ints v)[k]? = _; rw [ints_at, hy0]; rfl)
      have fk := Q9.out.z.v.free k
      have bk := blt ck
      have Q10 := lh (Q9.out.putV k y)
      have C10 := CE.out _ _ _ _ _ _ Q10.out (by simp; exact HVG.out) HRG.out (by exact HQG.out)
      clear hy hr9 hm9 hy0
      try go_wp2_with fail
      refine hK.out _ _ (by exact C9) fun hh2 => ?_; clear hK K hHeld; have hHeld := hh2; clear hh2
      try simp only [Act.put, pu]
      refine ty 6 ?_
      refine rd1 7 rfl fun K hK => ?_
      go_simp
      refine hK.out _ _ (by exact C10) fun hh2 => ?_; clear hK K hHeld; have hHeld := hh2; clear hh2
      try simp only [Act.put]
      refine dn ?_
      clear ck fk bk
      generalize World.setCell w9 ⟨gv, k, none⟩ (Value.int IntKind.i64 y) = w10 at *
      have LV8 := lh (show ((v.set k y)).length = g.length from by simp; exact HVG.out)
      have LR8 := lh (show (r).length = g.length from HRG.out)
      have LQ8 := lh (show (q).length = g.length from HQG.out)
      have QF := lh Q10.out
      have CF := CE.out _ _ _ _ _ _ QF.out LV8.out LR8.out LQ8.out
      have hfin := lh (QF.out.fin (by rw [LR8.out]; exact hhi) HL10.out)
      have f0 := QF.out.lb.free 0
      have x0 := QF.out.lb.cell (j := 0) rfl
      have h0 := QF.out.lc.free 0
      have h1 := QF.out.lc.free 1
      have h2 := QF.out.lc.free 2
      have y0 := QF.out.lc.cell (j := 0) rfl
      have y1 := QF.out.lc.cell (j := 1) rfl
      have y2 := QF.out.lc.cell (j := 2) rfl
      have bl := QF.out.lc.lt
      have bP := blt CF.2.1
      go_wp2_with fail
      refine wp_region_held_drew (S := (fun W => W.cell? ⟨Gb, 0, none⟩ = some (.slice A g.length c) ∧ W.cell? ⟨P, 0, none⟩ = some (.slice (some ⟨gv, 0, none⟩) g.length c1) ∧ W.cell? ⟨P, 1, none⟩ = some (.slice (some ⟨gr, 0, none⟩) g.length c2) ∧ W.cell? ⟨P, 2, none⟩ = some (.slice (some ⟨gq, 0, none⟩) g.length c3))) (by kernel_rfl) ?_ (fun hHeld => ?_)
      ·exact ⟨((Ext.rfl' _).dr).cellE (CF.1), ((Ext.rfl' _).dr).cellE (CF.2.1), ((Ext.rfl' _).dr).cellE (CF.2.2.1), ((Ext.rfl' _).dr).cellE (CF.2.2.2)⟩
      refine ty 0 ?_
      refine ty 1 ?_
      refine rd1 2 rfl fun K hK => ?_
      go_simp
      refine hK.out _ _ (by exact ⟨((Ext.rfl' _).dr).cellE (((co).trans CF.1)), ((Ext.rfl' _).dr).cellE (((co).trans CF.2.1)), ((Ext.rfl' _).dr).cellE (((co).trans CF.2.2.1)), ((Ext.rfl' _).dr).cellE (((co).trans CF.2.2.2))⟩) fun hh2 => ?_; clear hK K hHeld; have hHeld := hh2; clear hh2
      try simp only [Act.put]
      refine rd1 3 rfl fun K hK => ?_
      go_simp
      refine hK.out _ _ (by exact ⟨((Ext.rfl' _).dr).cellE (((co).trans ((co).trans ((co).trans ((co).trans CF.1))))), ((Ext.rfl' _).dr).cellE (((co).trans ((co).trans ((co).trans ((co).trans CF.2.1))))), ((Ext.rfl' _).dr).cellE (((co).trans ((co).trans ((co).trans ((co).trans CF.2.2.1))))), ((Ext.rfl' _).dr).cellE (((co).trans ((co).trans ((co).trans ((co).trans CF.2.2.2)))))⟩) fun hh2 => ?_; clear hK K hHeld; have hHeld := hh2; clear hh2
      try simp only [Act.put]
      refine dn ?_
      go_wp2
      have bx0 : Bx (World.setCell (World.setCell (World.setCell (World.setCell w10 ⟨w.heap.size, 0, none⟩ (.slice A g.length c)) ⟨w.heap.size + 1, 0, none⟩ (.slice (some ⟨gv, 0, none⟩) g.length c1)) ⟨w.heap.size + 1, 1, none⟩ (.slice (some ⟨gr, 0, none⟩) g.length c2)) ⟨w.heap.size + 1, 2, none⟩ (.slice (some ⟨gq, 0, none⟩) g.length c3)) w.heap.size [.slice A g.length c] := (((QF.out.lb.set 0 (.slice A g.length c)).oth (show w.heap.size + 1 ≠ w.heap.size by omega) (.slice (some ⟨gv, 0, none⟩) g.length c1)).oth (show w.heap.size + 1 ≠ w.heap.size by omega) (.slice (some ⟨gr, 0, none⟩) g.length c2)).oth (show w.heap.size + 1 ≠ w.heap.size by omega) (.slice (some ⟨gq, 0, none⟩) g.length c3)
      have bx1 : Bx (World.setCell (World.setCell (World.setCell (World.setCell w10 ⟨w.heap.size, 0, none⟩ (.slice A g.length c)) ⟨w.heap.size + 1, 0, none⟩ (.slice (some ⟨gv, 0, none⟩) g.length c1)) ⟨w.heap.size + 1, 1, none⟩ (.slice (some ⟨gr, 0, none⟩) g.length c2)) ⟨w.heap.size + 1, 2, none⟩ (.slice (some ⟨gq, 0, none⟩) g.length c3)) (w.heap.size + 1) [.slice (some ⟨gv, 0, none⟩) g.length c1, .slice (some ⟨gr, 0, none⟩) g.length c2, .slice (some ⟨gq, 0, none⟩) g.length c3] := Bx.set3z (QF.out.lc.oth (show w.heap.size ≠ w.heap.size + 1 by omega) (.slice A g.length c)) (.slice (some ⟨gv, 0, none⟩) g.length c1) (.slice (some ⟨gr, 0, none⟩) g.length c2) (.slice (some ⟨gq, 0, none⟩) g.length c3)
      have s0 := bx0.cell (j := 0) rfl
      have s1 := bx1.cell (j := 0) rfl
      have s2 := bx1.cell (j := 1) rfl
      have s3 := bx1.cell (j := 2) rfl
      have hm : Mod (fun b => b = w.heap.size ∨ b = w.heap.size + 1) w10 (World.drew (World.setCell (World.setCell (World.setCell (World.setCell w10 ⟨w.heap.size, 0, none⟩ (.slice A g.length c)) ⟨w.heap.size + 1, 0, none⟩ (.slice (some ⟨gv, 0, none⟩) g.length c1)) ⟨w.heap.size + 1, 1, none⟩ (.slice (some ⟨gr, 0, none⟩) g.length c2)) ⟨w.heap.size + 1, 2, none⟩ (.slice (some ⟨gq, 0, none⟩) g.length c3))) := Mod.dr (Mod.set (F := fun b => b = w.heap.size ∨ b = w.heap.size + 1) (Mod.set (F := fun b => b = w.heap.size ∨ b = w.heap.size + 1) (Mod.set (F := fun b => b = w.heap.size ∨ b = w.heap.size + 1) (Mod.set (F := fun b => b = w.heap.size ∨ b = w.heap.size + 1) (Mod.rfl' _ _) (p := ⟨w.heap.size, 0, none⟩) (.inl (.inl rfl)) _) (p := ⟨w.heap.size + 1, 0, none⟩) (.inl (.inr rfl)) _) (p := ⟨w.heap.size + 1, 1, none⟩) (.inl (.inr rfl)) _) (p := ⟨w.heap.size + 1, 2, none⟩) (.inl (.inr rfl)) _)
      refine bodyPost_ret (v := .tuple #[.agg #[.slice A g.length c], .agg #[.slice (some ⟨gv, 0, none⟩) g.length c1, .slice (some ⟨gr, 0, none⟩) g.length c2, .slice (some ⟨gq, 0, none⟩) g.length c3]]) (by simp [results, Tryz.results61, go_sem, s0, s1, s2, s3]; try rfl) rfl ?_
      have lv := LV8.out
      have lr := LR8.out
      have lq := LQ8.out
      exact ⟨g, A, c, (v.set k y), _, c1, r, _, c2, q, _, c3, by rw [lv, lr, lq], hlo, hhi, by omega, by omega, by omega, ZF.fin hRl hfin.out hm, (QF.out.rd.mod hm (fun b e => by omega)).more (by omega), QF.out.mo.tr hm (fun b e => .inr (by omega))⟩
     ·have z2 : (x == 1) = false := by rw [beq_eq_false_iff_ne]; exact h1
      clear h1
      have C7 := CE.out _ _ _ _ _ _ Q7.out HVG.out HRG.out HQG.out
      by_cases h2 : x = 2
      ·have z3 : (x == 2) = true := by simp [h2]
       clear h2
       have hkr : k < r.length := by rw [HRG.out]; exact hk
       obtain ⟨l0, _, _, Al0, cl0, hl0, hAe, hlc, _, _⟩ := (OwnL.rdL Q7.out.z.r (by show r.length ≤ _; rw [HRG.out]; omega) (fun l hl => Nat.le_trans (HL10.out l hl) (by omega))).at_ hkr
       simp only [Option.some.injEq, Addr.mk.injEq, and_true] at hAe
       obtain ⟨rfl, rfl⟩ := hAe
       simp only [Nat.zero_add] at hlc
       have hgr := (Q7.out.z.lt (b := gr) (.inr (.inl (.inl rfl)))).2
       have E7 := lh ((Ext.rfl' w7).al (.cells #[.int .i64 0, .int .i64 0] 3))
       have hlc7 := E7.out.cellE hlc
       have blc := blt hlc
       have frk := (OwnD.out Q7.out.z.r).free k
       have on := Own.new w7 (B := w7.heap.size) 3 1 #[.int .i64 0, .int .i64 0] 2 (Nat.le_refl _) (by unfold maxLen; omega) rfl
       have Q8 := lh (Q7.out.putR E7.out hkr [0, 0] (A0 := some ⟨w7.heap.size, 0, none⟩) (c0 := 2) (by simpa [ints] using on))
       clear on hl0
       have HKR := lh hkr
       clear hkr
       go_upto_region 22 with fail
       have hcm : World.setCell (World.alloc w7 (.cells #[.int .i64 0, .int .i64 0] 3)) ⟨gr, k, none⟩ (Value.slice (some ⟨w7.heap.size, 0, none⟩) 2 2) = World.alloc (World.setCell w7 ⟨gr, k, none⟩ (Value.slice (some ⟨w7.heap.size, 0, none⟩) 2 2)) (.cells #[.int .i64 0, .int .i64 0] 3) := World.setCell_alloc_past _ _ _ _ (by omega)
       rw [show ([0, 0] : List Int).length = 2 from rfl] at Q8
       rw [hcm] at Q8
       clear hcm hlc7 hlc frk blc E7 C7
       generalize World.alloc (World.setCell w7 ⟨gr, k, none⟩ (Value.slice (some ⟨w7.heap.size, 0, none⟩) 2 2)) (.cells #[.int .i64 0, .int .i64 0] 3) = w8 at *
       have LV8 := lh (show (v).length = g.length from HVG.out)
       have LR8 := lh (show ((r.set k [0, 0])).length = g.length from by simp; exact HRG.out)
       have LQ8 := lh (show (q).length = g.length from HQG.out)
       have QF := lh Q8.out
       have CF := CE.out _ _ _ _ _ _ QF.out LV8.out LR8.out LQ8.out
       have hfin := lh (QF.out.fin (by rw [LR8.out]; exact hhi) (fun l hl => by rcases List.mem_or_eq_of_mem_set hl with hl | rfl; exact HL10.out l hl; simp))
       have f0 := QF.out.lb.free 0
       have x0 := QF.out.lb.cell (j := 0) rfl
       have h0 := QF.out.lc.free 0
       have h1 := QF.out.lc.free 1
       have h2 := QF.out.lc.free 2
       have y0 := QF.out.lc.cell (j := 0) rfl
       have y1 := QF.out.lc.cell (j := 1) rfl
       have y2 := QF.out.lc.cell (j := 2) rfl
       have bl := QF.out.lc.lt
       have bP := blt CF.2.1
       go_wp2_with fail
       refine wp_region_held_drew (S := (fun W => W.cell? ⟨Gb, 0, none⟩ = some (.slice A g.length c) ∧ W.cell? ⟨P, 0, none⟩ = some (.slice (some ⟨gv, 0, none⟩) g.length c1) ∧ W.cell? ⟨P, 1, none⟩ = some (.slice (some ⟨gr, 0, none⟩) g.length c2) ∧ W.cell? ⟨P, 2, none⟩ = some (.slice (some ⟨gq, 0, none⟩) g.length c3))) (by kernel_rfl) ?_ (fun hHeld => ?_)
       ·exact ⟨((Ext.rfl' _).dr).cellE (CF.1), ((Ext.rfl' _).dr).cellE (CF.2.1), ((Ext.rfl' _).dr).cellE (CF.2.2.1), ((Ext.rfl' _).dr).cellE (CF.2.2.2)⟩
       refine ty 0 ?_
       refine ty 1 ?_
       refine rd1 2 rfl fun K hK => ?_
       go_simp
       refine hK.out _ _ (by exact ⟨((Ext.rfl' _).dr).cellE (((co).trans CF.1)), ((Ext.rfl' _).dr).cellE (((co).trans CF.2.1)), ((Ext.rfl' _).dr).cellE (((co).trans CF.2.2.1)), ((Ext.rfl' _).dr).cellE (((co).trans CF.2.2.2))⟩) fun hh2 => ?_; clear hK K hHeld; have hHeld := hh2; clear hh2
       try simp only [Act.put]
       refine rd1 3 rfl fun K hK => ?_
       go_simp
       refine hK.out _ _ (by exact ⟨((Ext.rfl' _).dr).cellE (((co).trans ((co).trans ((co).trans ((co).trans CF.1))))), ((Ext.rfl' _).dr).cellE (((co).trans ((co).trans ((co).trans ((co).trans CF.2.1))))), ((Ext.rfl' _).dr).cellE (((co).trans ((co).trans ((co).trans ((co).trans CF.2.2.1))))), ((Ext.rfl' _).dr).cellE (((co).trans ((co).trans ((co).trans ((co).trans CF.2.2.2)))))⟩) fun hh2 => ?_; clear hK K hHeld; have hHeld := hh2; clear hh2
       try simp only [Act.put]
       refine dn ?_
       go_wp2
       have bx0 : Bx (World.setCell (World.setCell (World.setCell (World.setCell w8 ⟨w.heap.size, 0, none⟩ (.slice A g.length c)) ⟨w.heap.size + 1, 0, none⟩ (.slice (some ⟨gv, 0, none⟩) g.length c1)) ⟨w.heap.size + 1, 1, none⟩ (.slice (some ⟨gr, 0, none⟩) g.length c2)) ⟨w.heap.size + 1, 2, none⟩ (.slice (some ⟨gq, 0, none⟩) g.length c3)) w.heap.size [.slice A g.length c] := (((QF.out.lb.set 0 (.slice A g.length c)).oth (show w.heap.size + 1 ≠ w.heap.size by omega) (.slice (some ⟨gv, 0, none⟩) g.length c1)).oth (show w.heap.size + 1 ≠ w.heap.size by omega) (.slice (some ⟨gr, 0, none⟩) g.length c2)).oth (show w.heap.size + 1 ≠ w.heap.size by omega) (.slice (some ⟨gq, 0, none⟩) g.length c3)
       have bx1 : Bx (World.setCell (World.setCell (World.setCell (World.setCell w8 ⟨w.heap.size, 0, none⟩ (.slice A g.length c)) ⟨w.heap.size + 1, 0, none⟩ (.slice (some ⟨gv, 0, none⟩) g.length c1)) ⟨w.heap.size + 1, 1, none⟩ (.slice (some ⟨gr, 0, none⟩) g.length c2)) ⟨w.heap.size + 1, 2, none⟩ (.slice (some ⟨gq, 0, none⟩) g.length c3)) (w.heap.size + 1) [.slice (some ⟨gv, 0, none⟩) g.length c1, .slice (some ⟨gr, 0, none⟩) g.length c2, .slice (some ⟨gq, 0, none⟩) g.length c3] := Bx.set3z (QF.out.lc.oth (show w.heap.size ≠ w.heap.size + 1 by omega) (.slice A g.length c)) (.slice (some ⟨gv, 0, none⟩) g.length c1) (.slice (some ⟨gr, 0, none⟩) g.length c2) (.slice (some ⟨gq, 0, none⟩) g.length c3)
       have s0 := bx0.cell (j := 0) rfl
       have s1 := bx1.cell (j := 0) rfl
       have s2 := bx1.cell (j := 1) rfl
       have s3 := bx1.cell (j := 2) rfl
       have hm : Mod (fun b => b = w.heap.size ∨ b = w.heap.size + 1) w8 (World.drew (World.setCell (World.setCell (World.setCell (World.setCell w8 ⟨w.heap.size, 0, none⟩ (.slice A g.length c)) ⟨w.heap.size + 1, 0, none⟩ (.slice (some ⟨gv, 0, none⟩) g.length c1)) ⟨w.heap.size + 1, 1, none⟩ (.slice (some ⟨gr, 0, none⟩) g.length c2)) ⟨w.heap.size + 1, 2, none⟩ (.slice (some ⟨gq, 0, none⟩) g.length c3))) := Mod.dr (Mod.set (F := fun b => b = w.heap.size ∨ b = w.heap.size + 1) (Mod.set (F := fun b => b = w.heap.size ∨ b = w.heap.size + 1) (Mod.set (F := fun b => b = w.heap.size ∨ b = w.heap.size + 1) (Mod.set (F := fun b => b = w.heap.size ∨ b = w.heap.size + 1) (Mod.rfl' _ _) (p := ⟨w.heap.size, 0, none⟩) (.inl (.inl rfl)) _) (p := ⟨w.heap.size + 1, 0, none⟩) (.inl (.inr rfl)) _) (p := ⟨w.heap.size + 1, 1, none⟩) (.inl (.inr rfl)) _) (p := ⟨w.heap.size + 1, 2, none⟩) (.inl (.inr rfl)) _)
       refine bodyPost_ret (v := .tuple #[.agg #[.slice A g.length c], .agg #[.slice (some ⟨gv, 0, none⟩) g.length c1, .slice (some ⟨gr, 0, none⟩) g.length c2, .slice (some ⟨gq, 0, none⟩) g.length c3]]) (by simp [results, Tryz.results61, go_sem, s0, s1, s2, s3]; try rfl) rfl ?_
       have lv := LV8.out
       have lr := LR8.out
       have lq := LQ8.out
       exact ⟨g, A, c, v, _, c1, (r.set k [0, 0]), _, c2, q, _, c3, by rw [lv, lr, lq], hlo, hhi, by omega, by omega, by omega, ZF.fin hRl hfin.out hm, (QF.out.rd.mod hm (fun b e => by omega)).more (by omega), QF.out.mo.tr hm (fun b e => .inr (by omega))⟩
      ·have z3 : (x == 2) = false := by rw [beq_eq_false_iff_ne]; exact h2
       clear h2
       go_upto_region 22 with fail
       have LV8 := lh (show (v).length = g.length from HVG.out)
       have LR8 := lh (show (r).length = g.length from HRG.out)
       have LQ8 := lh (show (q).length = g.length from HQG.out)
       have QF := lh Q7.out
       have CF := CE.out _ _ _ _ _ _ QF.out LV8.out LR8.out LQ8.out
       have hfin := lh (QF.out.fin (by rw [LR8.out]; exact hhi) HL10.out)
       have f0 := QF.out.lb.free 0
       have x0 := QF.out.lb.cell (j := 0) rfl
       have h0 := QF.out.lc.free 0
       have h1 := QF.out.lc.free 1
       have h2 := QF.out.lc.free 2
       have y0 := QF.out.lc.cell (j := 0) rfl
       have y1 := QF.out.lc.cell (j := 1) rfl
       have y2 := QF.out.lc.cell (j := 2) rfl
       have bl := QF.out.lc.lt
       have bP := blt CF.2.1
       go_wp2_with fail
       refine wp_region_held_drew (S := (fun W => W.cell? ⟨Gb, 0, none⟩ = some (.slice A g.length c) ∧ W.cell? ⟨P, 0, none⟩ = some (.slice (some ⟨gv, 0, none⟩) g.length c1) ∧ W.cell? ⟨P, 1, none⟩ = some (.slice (some ⟨gr, 0, none⟩) g.length c2) ∧ W.cell? ⟨P, 2, none⟩ = some (.slice (some ⟨gq, 0, none⟩) g.length c3))) (by kernel_rfl) ?_ (fun hHeld => ?_)
       ·exact ⟨((Ext.rfl' _).dr).cellE (CF.1), ((Ext.rfl' _).dr).cellE (CF.2.1), ((Ext.rfl' _).dr).cellE (CF.2.2.1), ((Ext.rfl' _).dr).cellE (CF.2.2.2)⟩
       refine ty 0 ?_
       refine ty 1 ?_
       refine rd1 2 rfl fun K hK => ?_
       go_simp
       refine hK.out _ _ (by exact ⟨((Ext.rfl' _).dr).cellE (((co).trans CF.1)), ((Ext.rfl' _).dr).cellE (((co).trans CF.2.1)), ((Ext.rfl' _).dr).cellE (((co).trans CF.2.2.1)), ((Ext.rfl' _).dr).cellE (((co).trans CF.2.2.2))⟩) fun hh2 => ?_; clear hK K hHeld; have hHeld := hh2; clear hh2
       try simp only [Act.put]
       refine rd1 3 rfl fun K hK => ?_
       go_simp
       refine hK.out _ _ (by exact ⟨((Ext.rfl' _).dr).cellE (((co).trans ((co).trans ((co).trans ((co).trans CF.1))))), ((Ext.rfl' _).dr).cellE (((co).trans ((co).trans ((co).trans ((co).trans CF.2.1))))), ((Ext.rfl' _).dr).cellE (((co).trans ((co).trans ((co).trans ((co).trans CF.2.2.1))))), ((Ext.rfl' _).dr).cellE (((co).trans ((co).trans ((co).trans ((co).trans CF.2.2.2)))))⟩) fun hh2 => ?_; clear hK K hHeld; have hHeld := hh2; clear hh2
       try simp only [Act.put]
       refine dn ?_
       go_wp2
       have bx0 : Bx (World.setCell (World.setCell (World.setCell (World.setCell w7 ⟨w.heap.size, 0, none⟩ (.slice A g.length c)) ⟨w.heap.size + 1, 0, none⟩ (.slice (some ⟨gv, 0, none⟩) g.length c1)) ⟨w.heap.size + 1, 1, none⟩ (.slice (some ⟨gr, 0, none⟩) g.length c2)) ⟨w.heap.size + 1, 2, none⟩ (.slice (some ⟨gq, 0, none⟩) g.length c3)) w.heap.size [.slice A g.length c] := (((QF.out.lb.set 0 (.slice A g.length c)).oth (show w.heap.size + 1 ≠ w.heap.size by omega) (.slice (some ⟨gv, 0, none⟩) g.length c1)).oth (show w.heap.size + 1 ≠ w.heap.size by omega) (.slice (some ⟨gr, 0, none⟩) g.length c2)).oth (show w.heap.size + 1 ≠ w.heap.size by omega) (.slice (some ⟨gq, 0, none⟩) g.length c3)
       have bx1 : Bx (World.setCell (World.setCell (World.setCell (World.setCell w7 ⟨w.heap.size, 0, none⟩ (.slice A g.length c)) ⟨w.heap.size + 1, 0, none⟩ (.slice (some ⟨gv, 0, none⟩) g.length c1)) ⟨w.heap.size + 1, 1, none⟩ (.slice (some ⟨gr, 0, none⟩) g.length c2)) ⟨w.heap.size + 1, 2, none⟩ (.slice (some ⟨gq, 0, none⟩) g.length c3)) (w.heap.size + 1) [.slice (some ⟨gv, 0, none⟩) g.length c1, .slice (some ⟨gr, 0, none⟩) g.length c2, .slice (some ⟨gq, 0, none⟩) g.length c3] := Bx.set3z (QF.out.lc.oth (show w.heap.size ≠ w.heap.size + 1 by omega) (.slice A g.length c)) (.slice (some ⟨gv, 0, none⟩) g.length c1) (.slice (some ⟨gr, 0, none⟩) g.length c2) (.slice (some ⟨gq, 0, none⟩) g.length c3)
       have s0 := bx0.cell (j := 0) rfl
       have s1 := bx1.cell (j := 0) rfl
       have s2 := bx1.cell (j := 1) rfl
       have s3 := bx1.cell (j := 2) rfl
       have hm : Mod (fun b => b = w.heap.size ∨ b = w.heap.size + 1) w7 (World.drew (World.setCell (World.setCell (World.setCell (World.setCell w7 ⟨w.heap.size, 0, none⟩ (.slice A g.length c)) ⟨w.heap.size + 1, 0, none⟩ (.slice (some ⟨gv, 0, none⟩) g.length c1)) ⟨w.heap.size + 1, 1, none⟩ (.slice (some ⟨gr, 0, none⟩) g.length c2)) ⟨w.heap.size + 1, 2, none⟩ (.slice (some ⟨gq, 0, none⟩) g.length c3))) := Mod.dr (Mod.set (F := fun b => b = w.heap.size ∨ b = w.heap.size + 1) (Mod.set (F := fun b => b = w.heap.size ∨ b = w.heap.size + 1) (Mod.set (F := fun b => b = w.heap.size ∨ b = w.heap.size + 1) (Mod.set (F := fun b => b = w.heap.size ∨ b = w.heap.size + 1) (Mod.rfl' _ _) (p := ⟨w.heap.size, 0, none⟩) (.inl (.inl rfl)) _) (p := ⟨w.heap.size + 1, 0, none⟩) (.inl (.inr rfl)) _) (p := ⟨w.heap.size + 1, 1, none⟩) (.inl (.inr rfl)) _) (p := ⟨w.heap.size + 1, 2, none⟩) (.inl (.inr rfl)) _)
       refine bodyPost_ret (v := .tuple #[.agg #[.slice A g.length c], .agg #[.slice (some ⟨gv, 0, none⟩) g.length c1, .slice (some ⟨gr, 0, none⟩) g.length c2, .slice (some ⟨gq, 0, none⟩) g.length c3]]) (by simp [results, Tryz.results61, go_sem, s0, s1, s2, s3]; try rfl) rfl ?_
       have lv := LV8.out
       have lr := LR8.out
       have lq := LQ8.out
       exact ⟨g, A, c, v, _, c1, r, _, c2, q, _, c3, by rw [lv, lr, lq], hlo, hhi, by omega, by omega, by omega, ZF.fin hRl hfin.out hm, (QF.out.rd.mod hm (fun b e => by omega)).more (by omega), QF.out.mo.tr hm (fun b e => .inr (by omega))⟩
end Go.Proofs.YtmkfjnkdaeoppaaGreat
