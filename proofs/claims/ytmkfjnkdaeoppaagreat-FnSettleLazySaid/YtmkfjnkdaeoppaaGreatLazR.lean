/- ReadAll of the program: its contract. Conditions: bounds on lengths. -/
import Derived.Test.YtmkfjnkdaeoppaaGreatTy
import Derived.Test.YtmkfjnkdaeoppaaGreatLazO2
import Derived.Test.YtmkfjnkdaeoppaaGreatLazSix
import Derived.Test.YtmkfjnkdaeoppaaGreatLazE
import Derived.Test.YtmkfjnkdaeoppaaGreatImplVW
import Derived.Deep.DeepCutAuto
namespace Go.Proofs.YtmkfjnkdaeoppaaGreat
open Go.RowKit

theorem prd_readAll1 (B : Nat) (A : Option Addr) (n c : Nat) (hn : n ≤ 1048576) : Prd Tryz.prog 91 [.pointer (some ⟨B, 0, none⟩)] (fun w => w.cell? ⟨B, 0, none⟩ = some (.slice A n c)) (fun k => !Sg.inR k 0 ((n : Int) - 1)) (fun _ => True) where
 ent := ent_of Tryz.func91 rfl (by kernel_rfl)
 call := fun w k h hk => by
  have hb := blt h
  have HH := lh (fun w => i_has A n c k w hn)
  clear hk
  go_enter Tryz.func91, Tryz.ntmps91
  go_wp2_with fail
  refine (HH.out _).mono ?_
  rintro e w2 ⟨rfl, he⟩
  have HE := lh he
  clear he
  go_wp2
  go_ret
  exact ⟨rfl, HE.out⟩
 ext := fun _ _ h e => e.cellE h

set_option maxRecDepth 100000 in
set_option maxHeartbeats 8000000 in
theorem i_ReadAll (A Av Ar Aq : Option Addr) (c cv cr cq : Nat) (g : Sg.Graph) (v q : List Int) (r : List (List Int)) (An : Option Addr) (cn : Nat) (l : List Int) (w : World) (h : RdN w A g) (hv : Rd w 1 Av v.length (ints v)) (hr : RdLC w Ar r) (hq : Rd w 1 Aq q.length (ints q)) (hvl : v.length ≤ 1048576) (hql : q.length ≤ 1048576) (hn : Rd w 1 An l.length (ints l)) :
  Calls Tryz.prog 43 #[.agg #[.slice A g.length c], .agg #[.slice Av v.length cv, .slice Ar r.length cr, .slice Aq q.length cq], .slice An l.length cn] w (ZR w (Sg.readAO g ⟨v, r, q⟩ l).1 (Sg.readAO g ⟨v, r, q⟩ l).2) := by
 have hgl := h.1
 have HV := lh (fun w h hv hr hq => i_ValidLazy A Av Ar Aq c cv cr cq g v q r w h hv hr hq hvl hql)
 have H := lh h
 have Hv := lh hv
 have Hr := lh hr
 have Hq := lh hq
 have HL := lh hn
 have hnb := hn.big
 clear h hv hr hq hn
 obtain ⟨W1, hW1⟩ : ∃ W1, W1 = World.alloc (World.alloc (World.alloc w (.cells #[.slice A g.length c] 25)) (.cells #[.slice Av v.length cv, .slice Ar r.length cr, .slice Aq q.length cq] 29)) (.cells #[.slice none 0 0, .slice none 0 0, .slice none 0 0] 29) := ⟨_, rfl⟩
 have e1 : Ext w W1 := by rw [hW1]; exact (((Ext.rfl' w).al _).al _).al _
 have z1 : W1.heap.size = w.heap.size + 1 + 1 + 1 := by rw [hW1]; simp
 have BG := lh (show Bx W1 w.heap.size [.slice A g.length c] by rw [hW1]; exact ((Bx.new w _ _).al _).al _)
 have BS := lh (show Bx W1 (w.heap.size + 1) [.slice Av v.length cv, .slice Ar r.length cr, .slice Aq q.length cq] by
  have h1 := (Bx.new (World.alloc w (.cells #[.slice A g.length c] 25)) #[.slice Av v.length cv, .slice Ar r.length cr, .slice Aq q.length cq] 29).al (.cells #[.slice none 0 0, .slice none 0 0, .slice none 0 0] 29)
  simp only [World.size_alloc] at h1
  rw [hW1]; exact h1)
 have BR := lh (show Bx W1 (w.heap.size + 1 + 1) [.slice none 0 0, .slice none 0 0, .slice none 0 0] by
  have h1 := Bx.new (World.alloc (World.alloc w (.cells #[.slice A g.length c] 25)) (.cells #[.slice Av v.length cv, .slice Ar r.length cr, .slice Aq q.length cq] 29)) #[.slice none 0 0, .slice none 0 0, .slice none 0 0] 29
  simp only [World.size_alloc] at h1
  rw [hW1]; exact h1)
 have E1 := lh e1
 have Z1 := lh z1
 clear e1 z1
 go_enter Tryz.func43, Tryz.ntmps43
 go_upto_region 1 with fail
 rw [← hW1]
 clear hW1
 obtain ⟨N, hN⟩ : ∃ N, w.heap.size = N := ⟨_, rfl⟩
 have HN := lh hN
 rw [hN] at BG BS BR Z1
 simp only [hN]
 clear hN
 have g0 := (BG.out.ext (Ext.rfl' W1)).cell (j := 0) rfl
 have s0 := (BS.out.ext (Ext.rfl' W1)).cell (j := 0) rfl
 have s1 := (BS.out.ext (Ext.rfl' W1)).cell (j := 1) rfl
 have s2 := (BS.out.ext (Ext.rfl' W1)).cell (j := 2) rfl
 have bg0 := blt g0
 have bs0 := blt s0
 go_wp2_with fail
 refine (HV.out _ (H.out.ext E1.out) (Hv.out.ext E1.out) (Hr.out.ext E1.out) (Hq.out.ext E1.out)).mono ?_
 rintro e w2 ⟨rfl, he2⟩
 have U2 := lh he2
 clear he2 g0 s0 s1 s2 bg0 bs0
 have g0 := (BG.out.ext U2.out).cell (j := 0) rfl
 have s0 := (BS.out.ext U2.out).cell (j := 0) rfl
 have s1 := (BS.out.ext U2.out).cell (j := 1) rfl
 have s2 := (BS.out.ext U2.out).cell (j := 2) rfl
 have bg0 := blt g0
 have bs0 := blt s0
 cases hE : Sg.validL g ⟨v, r, q⟩
 ·have HS := lh (show Sg.readAO g ⟨v, r, q⟩ l = (⟨[], [], []⟩, []) by unfold Sg.readAO; rw [hE]; rfl)
  clear hE
  have BRf := lh (BR.out.ext U2.out)
  have f0 := BRf.out.free 0
  have f1 := BRf.out.free 1
  have f2 := BRf.out.free 2
  have x0 := BRf.out.cell (j := 0) rfl
  have x1 := BRf.out.cell (j := 1) rfl
  have x2 := BRf.out.cell (j := 2) rfl
  have bl := BRf.out.lt
  have r0 := (BRf.out.set3 (.slice none 0 0) (.slice none 0 0) (.slice none 0 0)).cell (j := 0) rfl
  have r1 := (BRf.out.set3 (.slice none 0 0) (.slice none 0 0) (.slice none 0 0)).cell (j := 1) rfl
  have r2 := (BRf.out.set3 (.slice none 0 0) (.slice none 0 0) (.slice none 0 0)).cell (j := 2) rfl
  clear g0 s0 s1 s2 bg0 bs0
  go_wp2
  refine bodyPost_ret (v := .tuple #[.agg #[.slice none 0 0, .slice none 0 0, .slice none 0 0], .slice none 0 0]) (by simp [results, Tryz.results43, go_sem, r0, r1, r2]; try rfl) rfl ?_
  rw [HS.out]
  exact ⟨none, 0, none, 0, none, 0, [], none, 0, rfl, OwnZ.nil _ _, by simpa [ints] using Own.nil _ _ 3 1, by simp [blk], Ext.md (E1.out.tr U2.out) (Mod.set3 w2 (N + 1 + 1) _ _ _) (fun b e => by have := HN.out; omega)⟩
 have HE := lh hE
 by_cases hl10 : 10 < l.length
 ·have HS := lh (show Sg.readAO g ⟨v, r, q⟩ l = (⟨[], [], []⟩, []) by unfold Sg.readAO; rw [hE, decide_eq_false (by omega)]; rfl)
  clear hE
  have BRf := lh (BR.out.ext U2.out)
  have f0 := BRf.out.free 0
  have f1 := BRf.out.free 1
  have f2 := BRf.out.free 2
  have x0 := BRf.out.cell (j := 0) rfl
  have x1 := BRf.out.cell (j := 1) rfl
  have x2 := BRf.out.cell (j := 2) rfl
  have bl := BRf.out.lt
  have r0 := (BRf.out.set3 (.slice none 0 0) (.slice none 0 0) (.slice none 0 0)).cell (j := 0) rfl
  have r1 := (BRf.out.set3 (.slice none 0 0) (.slice none 0 0) (.slice none 0 0)).cell (j := 1) rfl
  have r2 := (BRf.out.set3 (.slice none 0 0) (.slice none 0 0) (.slice none 0 0)).cell (j := 2) rfl
  clear g0 s0 s1 s2 bg0 bs0
  go_wp2
  refine bodyPost_ret (v := .tuple #[.agg #[.slice none 0 0, .slice none 0 0, .slice none 0 0], .slice none 0 0]) (by simp [results, Tryz.results43, go_sem, r0, r1, r2]; try rfl) rfl ?_
  rw [HS.out]
  exact ⟨none, 0, none, 0, none, 0, [], none, 0, rfl, OwnZ.nil _ _, by simpa [ints] using Own.nil _ _ 3 1, by simp [blk], Ext.md (E1.out.tr U2.out) (Mod.set3 w2 (N + 1 + 1) _ _ _) (fun b e => by have := HN.out; omega)⟩
 have C := prd_readAll1 N A g.length c hgl
 have HCF := lh (i_ContainsFunc C An l.length cn l w2 (HL.out.ext (E1.out.tr U2.out)) g0 (fun _ _ => trivial))
 clear C
 go_wp2_with fail
 refine HCF.out.mono ?_
 rintro e w3 ⟨rfl, he3⟩
 have U3 := lh (U2.out.tr he3)
 clear he3 HCF g0 s0 s1 s2 bg0 bs0
 have g0 := (BG.out.ext U3.out).cell (j := 0) rfl
 have s0 := (BS.out.ext U3.out).cell (j := 0) rfl
 have s1 := (BS.out.ext U3.out).cell (j := 1) rfl
 have s2 := (BS.out.ext U3.out).cell (j := 2) rfl
 have bg0 := blt g0
 have bs0 := blt s0
 have hany : (l.any fun k => !Sg.inR k 0 ((g.length : Int) - 1)) = !(l.all fun k => Sg.inR k 0 ((g.length : Int) - 1)) := by
  rw [List.all_eq_not_any_not, Bool.not_not]
 rw [hany]
 clear hany
 cases hR : (l.all fun k => Sg.inR k 0 ((g.length : Int) - 1))
 ·have HS := lh (show Sg.readAO g ⟨v, r, q⟩ l = (⟨[], [], []⟩, []) by unfold Sg.readAO; rw [hR, Bool.and_false]; rfl)
  clear hE hR
  have BRf := lh (BR.out.ext U3.out)
  have f0 := BRf.out.free 0
  have f1 := BRf.out.free 1
  have f2 := BRf.out.free 2
  have x0 := BRf.out.cell (j := 0) rfl
  have x1 := BRf.out.cell (j := 1) rfl
  have x2 := BRf.out.cell (j := 2) rfl
  have bl := BRf.out.lt
  have r0 := (BRf.out.set3 (.slice none 0 0) (.slice none 0 0) (.slice none 0 0)).cell (j := 0) rfl
  have r1 := (BRf.out.set3 (.slice none 0 0) (.slice none 0 0) (.slice none 0 0)).cell (j := 1) rfl
  have r2 := (BRf.out.set3 (.slice none 0 0) (.slice none 0 0) (.slice none 0 0)).cell (j := 2) rfl
  clear g0 s0 s1 s2 bg0 bs0
  go_wp2
  refine bodyPost_ret (v := .tuple #[.agg #[.slice none 0 0, .slice none 0 0, .slice none 0 0], .slice none 0 0]) (by simp [results, Tryz.results43, go_sem, r0, r1, r2]; try rfl) rfl ?_
  rw [HS.out]
  exact ⟨none, 0, none, 0, none, 0, [], none, 0, rfl, OwnZ.nil _ _, by simpa [ints] using Own.nil _ _ 3 1, by simp [blk], Ext.md (E1.out.tr U3.out) (Mod.set3 w3 (N + 1 + 1) _ _ _) (fun b e => by have := HN.out; omega)⟩
 have HS := lh (show Sg.readAO g ⟨v, r, q⟩ l = ((Sg.readsL g l ⟨⟨v, r, q⟩, []⟩).st, (Sg.readsL g l ⟨⟨v, r, q⟩, []⟩).ran) by unfold Sg.readAO; rw [hE, hR, decide_eq_true (by omega)]; rfl)
 have HAR := lh (fun k (hk : k ∈ l) => (List.all_eq_true.1 hR) k hk)
 clear hE hR
 obtain ⟨hG, hvg, hrg, hqg, _⟩ := Sg.validL_shape HE.out
 have HG := lh hG
 have HLN := lh (And.intro hvg (And.intro hrg hqg))
 have hg10 := Sg.validG_len10 hG
 clear hG hvg hrg hqg
 go_wp2_with fail
 refine (i_copyZ Av Ar Aq cv cr cq v q r _ (Hv.out.ext (E1.out.tr U3.out)) (RdLC.l (Hr.out.ext (E1.out.tr U3.out))) (Hq.out.ext (E1.out.tr U3.out)) hvl hql).mono ?_
 rintro e w4 ⟨A1, c1, A2, c2, A3, c3, hs, rfl, hoz, he4⟩
 have OZ := lh hoz
 have U4 := lh he4
 clear hoz he4 g0 s0 s1 s2 bg0 bs0
 go_upto_region 5 with fail
 have BO := lh (show Bx (World.alloc (World.alloc w4 (.cells #[.slice A1 v.length c1, .slice A2 r.length c2, .slice A3 q.length c3] 29)) (.cells #[.slice none 0 0] 26)) w4.heap.size [.slice A1 g.length c1, .slice A2 g.length c2, .slice A3 g.length c3] by
  have h1 := (Bx.new w4 #[.slice A1 v.length c1, .slice A2 r.length c2, .slice A3 q.length c3] 29).al (.cells #[.slice none 0 0] 26)
  have hl : ([.slice A1 v.length c1, .slice A2 r.length c2, .slice A3 q.length c3] : List Value) = [.slice A1 g.length c1, .slice A2 g.length c2, .slice A3 g.length c3] := by rw [show v.length = g.length from HLN.out.1, show r.length = g.length from HLN.out.2.1, show q.length = g.length from HLN.out.2.2]
  rw [← hl]; exact h1)
 have BL := lh (show Bx (World.alloc (World.alloc w4 (.cells #[.slice A1 v.length c1, .slice A2 r.length c2, .slice A3 q.length c3] 29)) (.cells #[.slice none 0 0] 26)) (w4.heap.size + 1) [.slice none 0 0] by
  have h1 := Bx.new (World.alloc w4 (.cells #[.slice A1 v.length c1, .slice A2 r.length c2, .slice A3 q.length c3] 29)) #[.slice none 0 0] 26
  simp only [World.size_alloc] at h1
  exact h1)
 have U5 := lh (((Ext.rfl' w4).al (.cells #[.slice A1 v.length c1, .slice A2 r.length c2, .slice A3 q.length c3] 29)).al (.cells #[.slice none 0 0] 26))
 have hs5' : (World.alloc (World.alloc w4 (.cells #[.slice A1 v.length c1, .slice A2 r.length c2, .slice A3 q.length c3] 29)) (.cells #[.slice none 0 0] 26)).heap.size = w4.heap.size + 1 + 1 := by simp
 generalize World.alloc (World.alloc w4 (.cells #[.slice A1 v.length c1, .slice A2 r.length c2, .slice A3 q.length c3] 29)) (.cells #[.slice none 0 0] 26) = w5 at *
 have HS5 := lh hs5'
 clear hs5'
 have U35 := lh (U4.out.tr U5.out)
 have hs4 := U4.out.size
 have hs3 := U3.out.size
 have hz1 := Z1.out
 have ZI := lh (show ZS w3.heap.size (w4.heap.size + 1) g.length [] A1 A2 A3 none c1 c2 c3 0 hs ⟨⟨v, r, q⟩, []⟩ w5 from ⟨OZ.out.ext U5.out, by simpa [ints] using Own.nil _ _ 3 1, fun b hb => by simp [blk], BL.out, fun b hb e => by have := (OZ.out.lt hb).2; omega, by simp [blk], by omega, HLN.out.1, HLN.out.2.1, HLN.out.2.2⟩)
 go_upto_block 0 with fail
 go_cut [] (fun wx => ∃ (hs6 : List (Option Addr × Nat)) (A6 : Option Addr) (c6 : Nat), Hid (ZS w3.heap.size (w4.heap.size + 1) g.length [] A1 A2 A3 A6 c1 c2 c3 c6 hs6 (Sg.readsL g l ⟨⟨v, r, q⟩, []⟩) wx) ∧ Hid (Bx wx w4.heap.size [.slice A1 g.length c1, .slice A2 g.length c2, .slice A3 g.length c3]) ∧ Hid (Ext w3 wx))
 case first =>
  by_cases hg0 : g.length = 0
  ·have hl0 : l = [] := by
    cases l with
    | nil => rfl
    | cons x l =>
     have := HAR.out x (by simp)
     unfold Sg.inR at this
     simp only [Bool.and_eq_true, decide_eq_true_eq] at this
     omega
   subst hl0
   clear hg0
   go_wp2_with fail
   go_loopw [31] (fun i wr => i = .int .i64 (0 : Nat) ∧ wr = w5) (fun i _ => 1)
   case atStart => exact ⟨by first | rfl | simp, rfl⟩
   case round =>
    obtain ⟨rfl, rfl⟩ := hrel
    go_wp2_with fail
    go_meet
    exact ⟨hs, none, 0, ZI, BO, U35⟩
  ·obtain ⟨gv, gr, gq, rfl, rfl, rfl, F5, hS5, hF5⟩ := ZI.out.ls (w0 := w3) (by omega) U35.out
   have nO : ¬ F5 w4.heap.size := fun hf => by
    rcases hF5 _ hf with e | e | e
    ·have := (OZ.out.lt e).2; omega
    ·omega
    ·simp [blk] at e
   have nN : ¬ F5 N := fun hf => by have := (hS5.lt hf).1; omega
   have HL5 := lh hS5
   have NO := lh nO
   have NN := lh nN
   have HCL := lh (fun (k : Nat) => Sg.readsL_cleaned (s := ⟨⟨v, r, q⟩, []⟩) HE.out (l.take k) (fun x hx => HAR.out x (List.mem_of_mem_take hx)))
   have HTK := lh (fun (k : Nat) (x : Int) (h : l[k]? = some x) => show l.take (k + 1) = l.take k ++ [x] by obtain ⟨hk, he⟩ := List.getElem?_eq_some_iff.1 h; rw [List.take_succ_eq_append_getElem hk, he])
   have HEN := lh (List.take_length (l := l))
   clear hS5 hF5 nO nN
   go_wp2_with fail
   go_loopw [31] (fun i wr => ∃ k : Nat, k ≤ l.length ∧ i = .int .i64 k ∧ Hid (LG w3 g.length gv c1 gr c2 gq c3 (w4.heap.size + 1) [] (Sg.readsL g (l.take k) ⟨⟨v, r, q⟩, []⟩) F5 w5 wr)) (fun i _ => l.length - (intOf i).toNat)
   case atStart => exact ⟨0, Nat.zero_le _, by first | rfl | simp, lh (by rw [List.take_zero]; exact HL5.out.start)⟩
   case round =>
    obtain ⟨k, hk, rfl, hT⟩ := hrel
    by_cases hlt : k < l.length
    ·have eL : Ext w wr := Ext.md (E1.out.tr (U3.out.tr U35.out)) hT.out.m (fun b hb => by have h1 := (HL5.out.lt hb).1; have h2 := E1.out.size; omega)
     obtain ⟨b, o, x, rfl, hx, hcx⟩ := (HL.out.ext eL).at1 hlt
     have hxr := HAR.out x (List.mem_of_getElem? hx)
     unfold Sg.inR at hxr
     simp only [Bool.and_eq_true, decide_eq_true_eq] at hxr
     have HT := lh (HTK.out k x hx)
     obtain ⟨m, rfl⟩ := Int.eq_ofNat_of_zero_le hxr.1
     have hmg : m < g.length := by omega
     have hCL := HCL.out k
     have hrn := hCL.ran_len
     have HVT := lh hCL.ok
     have HSN := lh (Sg.readsL_snoc g (l.take k) (m : Int) ⟨⟨v, r, q⟩, []⟩)
     generalize htt : Sg.readsL g (l.take k) ⟨⟨v, r, q⟩, []⟩ = t at *
     obtain ⟨F', hS', hm', hF'⟩ := hT.out
     have b1 := BO.out.mod hm' NO.out
     have b2 := (BG.out.ext (U3.out.tr U35.out)).mod hm' NN.out
     have o0 := b1.cell (j := 0) rfl
     have o1 := b1.cell (j := 1) rfl
     have o2 := b1.cell (j := 2) rfl
     have g0 := b2.cell (j := 0) rfl
     have bo := blt o0
     have bg := blt g0
     have bcx := blt hcx
     have HS' := lh (And.intro hS' (And.intro hm' hF'))
     simp at hrn
     clear hx hxr hCL htt hS' hm' hF' b1 b2 eL
     go_wp2_with fail
     refine (c_clean w3 g.length gv c1 gr c2 gq c3 (w4.heap.size + 1) c A g (H.out.ext (E1.out.tr U3.out)) HG.out rfl 10 m t F' wr (by omega) hmg HVT.out (by omega) HS'.out.1).mono ?_
     rintro e w6 ⟨rfl, hG6⟩
     have G6 := lh hG6
     clear hG6
     go_wp2
     go_roundw
     case rel => exact ⟨k + 1, by omega, by go_num, lh (by rw [HT.out, HSN.out]; exact LG.tr1 HS'.out.2.1 HS'.out.2.2 G6.out)⟩
     case measure => simp [intOf]; omega
    ·obtain rfl : k = l.length := by omega
     go_wp2_with fail
     go_meet
     obtain ⟨F', hS', hm', hF'⟩ := hT.out
     obtain ⟨hs6, A6, c6, hZ6⟩ := hS'.zs
     rw [HEN.out] at hZ6
     exact ⟨hs6, A6, c6, lh hZ6, lh (BO.out.mod hm' NO.out), lh (Ext.md U35.out hm' (fun b hb => (HL5.out.lt hb).1))⟩
 case rest =>
  obtain ⟨hs6, A6, c6, hZ6, hBO6, hE6⟩ := hcut
  generalize Sg.readsL g l ⟨⟨v, r, q⟩, []⟩ = u at *
  have ZZ := lh hZ6.out
  obtain ⟨w6, rfl⟩ : ∃ w6 : World, w6 = wc := ⟨_, rfl⟩
  have p0 := hBO6.out.cell (j := 0) rfl
  have p1 := hBO6.out.cell (j := 1) rfl
  have p2 := hBO6.out.cell (j := 2) rfl
  have hB6' := hZ6.out.b
  simp only [List.nil_append] at hB6'
  have y0 := hB6'.cell (j := 0) rfl
  have by0 := blt y0
  have bp0 := blt p0
  have hle6 := hZ6.out.o.2.1
  have hmx6 := hZ6.out.o.2.2.1
  clear hB6' hZ6
  have BRf := lh (BR.out.ext (U3.out.tr hE6.out))
  have f0 := BRf.out.free 0
  have f1 := BRf.out.free 1
  have f2 := BRf.out.free 2
  have x0 := BRf.out.cell (j := 0) rfl
  have x1 := BRf.out.cell (j := 1) rfl
  have x2 := BRf.out.cell (j := 2) rfl
  have bl := BRf.out.lt
  go_upto_region 10 with fail
  go_cut [7] (fun s8 wx => s8 = .slice A6 u.ran.length u.ran.length ∧ Hid (Bx wx (N + 1 + 1) [.slice A1 g.length c1, .slice A2 g.length c2, .slice A3 g.length c3]) ∧ Hid (Mod (fun b => b = N + 1 + 1) w6 wx))
  case first =>
   refine wp_region_held_drew (S := (fun W => W.cell? ⟨w4.heap.size, 0, none⟩ = some (.slice A1 g.length c1) ∧ W.cell? ⟨w4.heap.size, 1, none⟩ = some (.slice A2 g.length c2) ∧ W.cell? ⟨w4.heap.size, 2, none⟩ = some (.slice A3 g.length c3) ∧ W.cell? ⟨w4.heap.size + 1, 0, none⟩ = some (.slice A6 u.ran.length c6))) (by kernel_rfl) ?_ (fun hHeld => ?_)
   ·exact ⟨((Ext.rfl' _).dr).cellE p0, ((Ext.rfl' _).dr).cellE p1, ((Ext.rfl' _).dr).cellE p2, ((Ext.rfl' _).dr).cellE y0⟩
   refine ty 0 ?_
   refine ty 1 ?_
   refine rd1 2 rfl fun K hK => ?_
   go_simp
   refine (i_Clip A6 u.ran.length c6 _ hle6 hmx6).mono ?_
   rintro e w7 ⟨rfl, hw7⟩
   subst hw7
   try go_wp2_with fail
   refine hK.out _ _ (by exact (by first | exact ⟨p0, p1, p2, y0⟩ | exact ⟨((Ext.rfl' _).dr).cellE p0, ((Ext.rfl' _).dr).cellE p1, ((Ext.rfl' _).dr).cellE p2, ((Ext.rfl' _).dr).cellE y0⟩)) fun hh2 => ?_; clear hK K hHeld; have hHeld := hh2; clear hh2
   try simp only [Act.put, pu]
   refine rd1 3 rfl fun K hK => ?_
   go_simp
   refine hK.out _ _ (by exact (by first | exact ⟨(Mod.set3 _ _ _ _ _).cellE p0 (by omega), (Mod.set3 _ _ _ _ _).cellE p1 (by omega), (Mod.set3 _ _ _ _ _).cellE p2 (by omega), (Mod.set3 _ _ _ _ _).cellE y0 (by omega)⟩ | exact ⟨((Ext.rfl' _).dr).cellE ((Mod.set3 _ _ _ _ _).cellE p0 (by omega)), ((Ext.rfl' _).dr).cellE ((Mod.set3 _ _ _ _ _).cellE p1 (by omega)), ((Ext.rfl' _).dr).cellE ((Mod.set3 _ _ _ _ _).cellE p2 (by omega)), ((Ext.rfl' _).dr).cellE ((Mod.set3 _ _ _ _ _).cellE y0 (by omega))⟩ | exact ⟨(Mod.set3 _ _ _ _ _).cellE (((Ext.rfl' _).dr).cellE p0) (by omega), (Mod.set3 _ _ _ _ _).cellE (((Ext.rfl' _).dr).cellE p1) (by omega), (Mod.set3 _ _ _ _ _).cellE (((Ext.rfl' _).dr).cellE p2) (by omega), (Mod.set3 _ _ _ _ _).cellE (((Ext.rfl' _).dr).cellE y0) (by omega)⟩)) fun hh2 => ?_; clear hK K hHeld; have hHeld := hh2; clear hh2
   try simp only [Act.put]
   refine ty 4 ?_
   refine dn ?_
   go_wp2_with fail
   go_meet
   exact ⟨rfl, lh (by first | exact BRf.out.set3 _ _ _ | exact (BRf.out.set3 _ _ _).ext ((Ext.rfl' _).dr) | exact (BRf.out.ext ((Ext.rfl' _).dr)).set3 _ _ _), lh (by first | exact Mod.set3 _ _ _ _ _ | exact (Mod.set3 _ _ _ _ _).dr | exact (Mod.of ((Ext.rfl' _).dr)).tr' (Mod.set3 _ _ _ _ _))⟩
  case rest =>
   obtain ⟨rfl, hBf, hMf⟩ := hcut
   have r0 := hBf.out.cell (j := 0) rfl
   have r1 := hBf.out.cell (j := 1) rfl
   have r2 := hBf.out.cell (j := 2) rfl
   clear p0 p1 p2 y0 x0 x1 x2 f0 f1 f2
   go_wp2
   refine bodyPost_ret (v := .tuple #[.agg #[.slice A1 g.length c1, .slice A2 g.length c2, .slice A3 g.length c3], .slice A6 u.ran.length u.ran.length]) (by simp [results, Tryz.results43, go_sem, r0, r1, r2]; try rfl) rfl ?_
   rw [HS.out]
   have hwn := HN.out
   have e3 := E1.out.size
   refine ⟨A1, c1, A2, c2, A3, c3, hs6, A6, u.ran.length, ?_, (ZZ.out.z.mod hMf.out (fun b hb e => by have := (ZZ.out.z.lt hb).1; omega)).mono (by omega), (ZZ.out.o.clip.mod hMf.out (fun b hb e => by have := (ZZ.out.o.lt hb).1; omega)).mono (by omega), ZZ.out.d, Ext.md (E1.out.tr (U3.out.tr hE6.out)) hMf.out (fun b e => by omega)⟩
   dsimp only
   rw [show u.st.vals.length = g.length from ZZ.out.lv, show u.st.reads.length = g.length from ZZ.out.lr, show u.st.cols.length = g.length from ZZ.out.lq]
   try rfl
end Go.Proofs.YtmkfjnkdaeoppaaGreat
