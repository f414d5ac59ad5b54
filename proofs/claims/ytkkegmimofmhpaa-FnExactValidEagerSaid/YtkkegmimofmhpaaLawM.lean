/- FnExactValidEager: the law's walk, given the contract of the program's ValidEager. Conditions: the arguments can be read. -/
import Derived.Test.YtkkegmimofmhpaaLawC
import Derived.Test.YtkkegmimofmhpaaLawE
import Derived.Test.YtkkegmimofmhpaaLawL
import Derived.Deep.DeepCutAuto
namespace Go.Proofs.Ytkkegmimofmhpaa
open Go.RowKit

theorem RdN0.up {w : World} {A : Option Addr} {g : Sg.Graph} (h : RdN0 w A g) (hb : g.length ≤ 1048576) (hl : ∀ n ∈ g, n.f.length ≤ 1048576) : RdN w A g :=
  ⟨hb, fun i n hn => let ⟨b, o, Ap, cp, ha, h1, h2, h3⟩ := h.2 i n hn; ⟨b, o, Ap, cp, ha, h1, h2, h3, hl n (List.mem_of_getElem? hn)⟩⟩
theorem RdL0.up {w : World} {A : Option Addr} {ll : List (List Int)} (h : RdL0 w A ll) (hb : ll.length ≤ 1048576) (hl : ∀ l ∈ ll, l.length ≤ 1048576) : RdL w A ll :=
  ⟨hb, fun i l hi => let ⟨b, o, Al, cl, ha, h1, h2⟩ := h.2 i l hi; ⟨b, o, Al, cl, ha, h1, h2, hl l (List.mem_of_getElem? hi)⟩⟩

abbrev SaysValidEager : Prop := ∀ (A Av Ar : Option Addr) (c cv cr : Nat) (g : Sg.Graph) (v : List Int) (r : List (List Int)) (w : World), RdN w A g → Rd w 1 Av v.length (ints v) → RdL w Ar r →
    Calls Try.prog 23 #[.agg #[.slice A g.length c], .agg #[.slice Av v.length cv, .slice Ar r.length cr]] w fun e w' => e = .returned (.bool (Sg.validE g ⟨v, r⟩)) ∧ Ext w w'

set_option maxRecDepth 100000 in
set_option maxHeartbeats 4000000 in
theorem l_FnExactValidEager (hI : SaysValidEager) (A Av Ar : Option Addr) (c cv cr : Nat) (g : Sg.Graph) (v : List Int) (r : List (List Int)) (w : World) (h : RdN0 w A g) (hv : Rd w 1 Av v.length (ints v)) (hr : RdL0 w Ar r) :
    Calls Try.prog 4 #[.agg #[.slice A g.length c], .agg #[.slice Av v.length cv, .slice Ar r.length cr]] w fun e w' => e = .returned (.bool true) ∧ Ext w w' := by
  have hvb := hv.big
  have HZG := Lib.hid (fun w h => l_szGraph A c g 1048576 w h (Nat.le_refl _))
  have E0 := Lib.hid (((Ext.rfl' w).al (.cells #[.slice A g.length c] 44)).al (.cells #[.slice Av v.length cv, .slice Ar r.length cr] 45))
  have H := Lib.hid h
  have Hv := Lib.hid hv
  have Hr := Lib.hid hr
  clear h hv hr
  rcases Sg.szL_neg (g.map (fun n => n.f.length)) 1048576 with hs | hs
  · have Hs := Lib.hid hs
    clear hs
    go_enter Try.func4, Try.ntmps4
    go_wp2_with (go_at_call 25; refine (HZG.out _ (H.out.ext E0.out)).mono ?_; rintro e w1 ⟨rfl, he1⟩; rw [Hs.out])
    go_ret
    exact ⟨rfl, E0.out.tr he1⟩
  obtain ⟨hgl, hfl, M, hM, hs⟩ := Sg.szL_ok _ _ hs
  have HN := Lib.hid (H.out.up (by simpa using hgl) (by simpa using hfl))
  have Hs := Lib.hid hs
  have hgl2 : g.length ≤ 1048576 := by simpa using hgl
  have Hfl : Hid (∀ n ∈ g, n.f.length ≤ 1048576) := Lib.hid (by simpa using hfl)
  clear hgl hfl hs H
  have HZE := Lib.hid (fun w h => l_szEager Av Ar cv cr v r M w hvb h hM)
  rcases (show Sg.szE v r M = -1 ∨ 0 ≤ Sg.szE v r M by unfold Sg.szE; split <;> first | exact .inl rfl | exact Sg.szL_neg _ _) with hs | hs
  · have Ht := Lib.hid hs
    clear hs
    go_enter Try.func4, Try.ntmps4
    go_wp2_with (first
      | (go_at_call 25; refine (HZG.out _ (HN.out.to0.ext E0.out)).mono ?_; rintro e w1 ⟨rfl, he1⟩; rw [Hs.out]; have q0 := he1.cellE (show ((w.alloc (.cells #[.slice A g.length c] 44)).alloc (.cells #[.slice Av v.length cv, .slice Ar r.length cr] 45)).cell? ⟨w.heap.size + 1, 0, none⟩ = some (.slice Av v.length cv) by simp [go_sem]); have q1 := he1.cellE (show ((w.alloc (.cells #[.slice A g.length c] 44)).alloc (.cells #[.slice Av v.length cv, .slice Ar r.length cr] 45)).cell? ⟨w.heap.size + 1, 1, none⟩ = some (.slice Ar r.length cr) by simp [go_sem]))
      | (go_at_call 26; refine (HZE.out _ (Hr.out.ext (E0.out.tr he1))).mono ?_; rintro e w2 ⟨rfl, he2⟩; rw [Ht.out]))
    go_ret
    exact ⟨rfl, (E0.out.tr he1).tr he2⟩
  have hs' := hs
  unfold Sg.szE at hs'
  have hvl : v.length ≤ 1048576 := by
    split at hs' <;> omega
  rw [if_neg (by intro e; rw [if_pos e] at hs'; omega)] at hs'
  obtain ⟨hrl, hrr, M2, hM2, _⟩ := Sg.szL_ok _ _ hs'
  have HR := Lib.hid (Hr.out.up (by simp at hrl; omega) (fun l hl => by have := hrr l.length (List.mem_map.2 ⟨l, hl, rfl⟩); omega))
  have hrl2 : r.length ≤ 1048576 := by simp at hrl; omega
  have Hrr : Hid (∀ l ∈ r, l.length ≤ 1048576) := Lib.hid (fun l hl => by have := hrr l.length (List.mem_map.2 ⟨l, hl, rfl⟩); omega)
  obtain ⟨M3, hM3⟩ : ∃ M3 : Nat, Sg.szE v r M = M3 := ⟨_, (Int.toNat_of_nonneg hs).symm⟩
  have Ht := Lib.hid hM3
  clear hs hs' hrl hrr hM2 hM3
  have HG := Lib.hid (fun w h => l_toGraph A c g w h)
  have HE := Lib.hid (fun w hv hr => l_toEager Av Ar cv cr v r w hv hvl hr)
  have HS := Lib.hid (fun A Av Ar w h hv hr => s_ValidEager A Av Ar g.length v.length r.length g v r w h hv hr hvl)
  have HI := Lib.hid (fun A Av Ar w h hv hr => hI A Av Ar g.length v.length r.length g v r w h hv hr)
  have HEG := Lib.hid (fun A B w h k => l_eqGraph A B g.length g.length g w h k)
  have HEE := Lib.hid (fun Av Bv Ar Br w hv kv hr kr => l_eqEager Av Bv Ar Br v.length v.length r.length r.length v r w hv kv hr kr)
  clear hI
  go_enter Try.func4, Try.ntmps4
  go_upto_region 8 with (first
      | (go_at_call 25; refine (HZG.out _ (HN.out.to0.ext E0.out)).mono ?_; rintro e w1 ⟨rfl, he1⟩; rw [Hs.out]; have p0 := he1.cellE (show ((w.alloc (.cells #[.slice A g.length c] 44)).alloc (.cells #[.slice Av v.length cv, .slice Ar r.length cr] 45)).cell? ⟨w.heap.size, 0, none⟩ = some (.slice A g.length c) by simp [go_sem]); have q0 := he1.cellE (show ((w.alloc (.cells #[.slice A g.length c] 44)).alloc (.cells #[.slice Av v.length cv, .slice Ar r.length cr] 45)).cell? ⟨w.heap.size + 1, 0, none⟩ = some (.slice Av v.length cv) by simp [go_sem]); have q1 := he1.cellE (show ((w.alloc (.cells #[.slice A g.length c] 44)).alloc (.cells #[.slice Av v.length cv, .slice Ar r.length cr] 45)).cell? ⟨w.heap.size + 1, 1, none⟩ = some (.slice Ar r.length cr) by simp [go_sem]))
      | (go_at_call 26; refine (HZE.out _ (HR.out.to0.ext (E0.out.tr he1))).mono ?_; rintro e w2 ⟨rfl, he2⟩; rw [Ht.out]; have p0' := he2.cellE p0; have q0' := he2.cellE q0; have q1' := he2.cellE q1; clear p0 q0 q1))
  have e2 := Lib.hid ((E0.out.tr he1).tr he2)
  clear E0 he1 he2
  go_cut [6] (fun s6 wx => s6 = .bool (Sg.validE g ⟨v, r⟩) ∧ Ext w2 wx)
  case first =>
    have ec := Lib.hid ((Ext.rfl' w2).dr)
    go_region_held3 (fun W => W.cell? ⟨w.heap.size, 0, none⟩ = some (.slice A g.length c) ∧ W.cell? ⟨w.heap.size + 1, 0, none⟩ = some (.slice Av v.length cv) ∧ W.cell? ⟨w.heap.size + 1, 1, none⟩ = some (.slice Ar r.length cr))
      (first | exact ⟨ec.out.cellE p0', ec.out.cellE q0', ec.out.cellE q1'⟩ | go_keep)
      (first
        | (go_at_call 28; refine (HG.out _ (HN.out.ext (e2.out.tr ec.out))).mono ?_; rintro e w3 ⟨A1, h1, rfl, ho1, he3⟩; have ed := Lib.hid (ec.out.tr he3); clear ec; have ec := ed; clear ed)
        | (go_at_call 29; refine (HE.out _ (Hv.out.ext (e2.out.tr ec.out)) (HR.out.ext (e2.out.tr ec.out))).mono ?_; rintro e w4 ⟨A2, A3, h3, rfl, ho2, ho3, hd, he4⟩; have ed := Lib.hid (ec.out.tr he4); clear ec; have ec := ed; clear ed)
        | (go_at_call 27; refine (HS.out A1 A2 A3 _ (by first | exact ho1.rdN hgl2 Hfl.out | exact OwnN.rdN (ho1.ext he4) hgl2 Hfl.out) (by first | exact ho2.rd | exact (ho2.ext he3).rd) (by first | exact ho3.rdL hrl2 Hrr.out | exact OwnL.rdL (ho3.ext he3) hrl2 Hrr.out)).mono ?_; rintro e w5 ⟨rfl, he5⟩; have ed := Lib.hid (ec.out.tr he5); clear ec; have ec := ed; clear ed))
    all_goals (go_wp2_with fail; go_meet; exact ⟨rfl, ec.out⟩)
  case rest =>
    obtain ⟨rfl, ex⟩ := hcut
    have p1 := ex.cellE p0'
    have q1 := ex.cellE q0'
    have r1 := ex.cellE q1'
    have e3 := Lib.hid (e2.out.tr ex)
    clear ex p0' q0' q1' e2
    go_wp2_with fail
    refine (HG.out _ (HN.out.ext e3.out)).mono ?_
    rintro e w3 ⟨A1, h1, rfl, ho1, he3⟩
    have p2 := he3.cellE p1
    have q2 := he3.cellE q1
    have r2 := he3.cellE r1
    have b2 := blt p2
    have b2' := blt q2
    have e4 := Lib.hid (e3.out.tr he3)
    have Ho1 := Lib.hid ho1
    clear he3 p1 q1 r1 ho1 e3
    go_wp2_with fail
    refine (HE.out _ (Hv.out.ext (e4.out.al _)) (HR.out.ext (e4.out.al _))).mono ?_
    rintro e w4 ⟨A2, A3, h3, rfl, ho2, ho3, hd, he4⟩
    have u4 := Lib.hid (((Ext.rfl' w3).al (.cells #[.slice A1 g.length g.length] 25)).tr he4)
    have p3 := u4.out.cellE p2
    have q3 := u4.out.cellE q2
    have r3 := u4.out.cellE r2
    have x3 := he4.cellE (show (w3.alloc (.cells #[.slice A1 g.length g.length] 25)).cell? ⟨w3.heap.size, 0, none⟩ = some (.slice A1 g.length g.length) by simp [go_sem])
    have b3 := blt p3
    have b3' := blt q3
    have b3'' := blt x3
    have e5 := Lib.hid (e4.out.tr u4.out)
    have Ho2 := Lib.hid ho2
    have Ho3 := Lib.hid ho3
    clear he4 p2 q2 r2 ho2 ho3 hd b2 b2' e4
    go_wp2_with fail
    refine (HI.out A1 A2 A3 _ (OwnN.rdN (Ho1.out.ext (u4.out.al _)) hgl2 Hfl.out) ((Ho2.out.ext ((Ext.rfl' w4).al _)).rd) (OwnL.rdL (Ho3.out.ext ((Ext.rfl' w4).al _)) hrl2 Hrr.out)).mono ?_
    rintro e w5 ⟨rfl, he5⟩
    have u5 := Lib.hid (((Ext.rfl' w4).al (.cells #[.slice A2 v.length v.length, .slice A3 r.length r.length] 31)).tr he5)
    have p4 := u5.out.cellE p3
    have q4 := u5.out.cellE q3
    have r4 := u5.out.cellE r3
    have x4 := u5.out.cellE x3
    have y4 := he5.cellE (show (w4.alloc (.cells #[.slice A2 v.length v.length, .slice A3 r.length r.length] 31)).cell? ⟨w4.heap.size, 0, none⟩ = some (.slice A2 v.length v.length) by simp [go_sem])
    have z4 := he5.cellE (show (w4.alloc (.cells #[.slice A2 v.length v.length, .slice A3 r.length r.length] 31)).cell? ⟨w4.heap.size, 1, none⟩ = some (.slice A3 r.length r.length) by simp [go_sem])
    have e6 := Lib.hid (e5.out.tr u5.out)
    have hbb : (Sg.validE g ⟨v, r⟩ != Sg.validE g ⟨v, r⟩) = false := by simp
    clear he5 p3 q3 r3 x3 b3 b3' b3'' e5
    have Hx := Lib.hid ((Ho1.out.ext u4.out).ext u5.out)
    have Hy := Lib.hid (Ho2.out.ext u5.out)
    have Hz := Lib.hid (Ho3.out.ext u5.out)
    clear Ho1 Ho2 Ho3 u4 u5
    go_wp2_with fail
    have ec := Lib.hid ((Ext.rfl' w5).dr)
    go_region_held3 (fun W => W.cell? ⟨w.heap.size, 0, none⟩ = some (.slice A g.length c) ∧ W.cell? ⟨w3.heap.size, 0, none⟩ = some (.slice A1 g.length g.length))
      (first | exact ⟨ec.out.cellE p4, ec.out.cellE x4⟩ | go_keep)
      (first
        | (go_at_call 28; refine (HG.out _ (HN.out.ext (e6.out.tr ec.out))).mono ?_; rintro e w6 ⟨A4, h4, rfl, ho4, he6⟩; have ed := Lib.hid (ec.out.tr he6); clear ec; have ec := ed; clear ed)
        | (go_at_call 30; refine (HEG.out A1 A4 _ (OwnN.rdN (Hx.out.ext ec.out) hgl2 Hfl.out) (OwnN.rdN ho4 hgl2 Hfl.out)).mono ?_; rintro e w7 ⟨rfl, he7⟩; have ed := Lib.hid (ec.out.tr he7); clear ec; have ec := ed; clear ed))
    have p5 := ec.out.cellE p4
    have q5 := ec.out.cellE q4
    have r5 := ec.out.cellE r4
    have y5 := ec.out.cellE y4
    have z5 := ec.out.cellE z4
    have e7 := Lib.hid (e6.out.tr ec.out)
    have Hy' := Lib.hid (Hy.out.ext ec.out)
    have Hz' := Lib.hid (Hz.out.ext ec.out)
    clear p4 q4 r4 x4 y4 z4 ec e6 Hx Hy Hz ho4 he6 he7
    go_wp2_with fail
    have ec := Lib.hid ((Ext.rfl' w7).dr)
    go_region_held3 (fun W => W.cell? ⟨w.heap.size + 1, 0, none⟩ = some (.slice Av v.length cv) ∧ W.cell? ⟨w.heap.size + 1, 1, none⟩ = some (.slice Ar r.length cr) ∧ W.cell? ⟨w4.heap.size, 0, none⟩ = some (.slice A2 v.length v.length) ∧ W.cell? ⟨w4.heap.size, 1, none⟩ = some (.slice A3 r.length r.length))
      (first | exact ⟨ec.out.cellE q5, ec.out.cellE r5, ec.out.cellE y5, ec.out.cellE z5⟩ | go_keep)
      (first
        | (go_at_call 29; refine (HE.out _ (Hv.out.ext (e7.out.tr ec.out)) (HR.out.ext (e7.out.tr ec.out))).mono ?_; rintro e w8 ⟨A5, A6, h6, rfl, ho5, ho6, hd, he8⟩; have ed := Lib.hid (ec.out.tr he8); clear ec; have ec := ed; clear ed)
        | (go_at_call 31; refine (HEE.out A2 A5 A3 A6 _ ((Hy'.out.ext ec.out).rd) ho5.rd (OwnL.rdL (Hz'.out.ext ec.out) hrl2 Hrr.out) (OwnL.rdL ho6 hrl2 Hrr.out)).mono ?_; rintro e w9 ⟨rfl, he9⟩; have ed := Lib.hid (ec.out.tr he9); clear ec; have ec := ed; clear ed))
    go_wp2
    go_ret
    exact ⟨rfl, e7.out.tr ec.out⟩
end Go.Proofs.Ytkkegmimofmhpaa
