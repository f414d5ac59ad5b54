/- Parts of one proof, joined. The program's functions on one part: contracts. Conditions: none. The program's ValidFormula: its contract. Conditions: at most 2^20 parts. The program's join, last, and Contains, Clip of lists: contracts. Conditions: values in 0..999 for join. The program's eval with any function value that reads: its contract. Conditions: formulas that can be run. -/
import Derived.Test.YtdnlpklmihoapaaDoorSpecOne
import Derived.Test.YtdnlpklmihoapaaDoorCore
/- The program's functions on one part: contracts. Conditions: none. -/
namespace Go.Proofs.YtdnlpklmihoapaaDoor
open Go.RowKit

theorem i_in (n lo hi : Int) (w : World) : Calls Tryd.prog 42 #[.int .i64 n, .int .i64 lo, .int .i64 hi] w fun e w' => e = .returned (.bool (Sg.inR n lo hi)) ∧ w = w' := by
 by_cases h1 : lo ≤ n
 ·by_cases h2 : n ≤ hi
  ·go_enter Tryd.func42, Tryd.ntmps42
   go_wp2
   go_ret
   exact ⟨ret_bool (by simp [Sg.inR, h1, h2]), rfl⟩
  ·go_enter Tryd.func42, Tryd.ntmps42
   go_wp2
   go_ret
   exact ⟨ret_bool (by simp [Sg.inR, h2]), rfl⟩
 ·go_enter Tryd.func42, Tryd.ntmps42
  go_wp2
  go_ret
  exact ⟨ret_bool (by simp [Sg.inR]; omega), rfl⟩

theorem Ext.al2 (w : World) (o : Obj) (cs : Array Value) (e : TypeId) : Ext w ((w.alloc o).alloc (.cells cs e)) := ((Ext.rfl' w).al _).al _
theorem own_new2 (w : World) (o : Obj) (l : List Int) (cs : Array Value) (hc : cs.toList = ints l) (hl : l.length ≤ 4194304) :
  Own ((w.alloc o).alloc (.cells cs 3)) w.heap.size 3 1 (some ⟨w.heap.size + 1, 0, none⟩) l.length l.length (ints l) := by
 rw [← hc]
 have : cs.size = l.length := by rw [← Array.length_toList, hc]; simp
 have := Own.new (w.alloc o) (B := w.heap.size) 3 1 cs l.length (by simp) (by unfold maxLen; omega) (by omega)
 simpa using this

set_option maxHeartbeats 800000 in
theorem i_below (p : Sg.Part) (w : World) : Calls Tryd.prog 44 #[pv p] w fun e w' => ∃ A' c', e = .returned (.slice A' (Sg.below p).length c') ∧ Own w' w.heap.size 3 1 A' (Sg.below p).length c' (ints (Sg.below p)) ∧ Ext w w' := by
 by_cases h8 : p.kind = 8
 ·have hb := lh (below3 h8)
  have b8 : (p.kind == 8) = true := by simp [h8]
  clear h8
  go_enter Tryd.func44, Tryd.ntmps44
  go_wp2
  go_ret
  rw [hb.out]
  exact ⟨_, _, rfl, own_new2 w _ [p.a, p.b, p.c] _ rfl (by simp), Ext.al2 _ _ _ _⟩
 ·have b8 : (p.kind == 8) = false := by simp [h8]
  by_cases h2 : 2 ≤ p.kind ∧ p.kind ≤ 7
  ·have hb := lh (below2 h2)
   have hr : Sg.inR p.kind 2 7 = true := by simp [Sg.inR, h2]
   have Hr := lh hr
   clear h2 hr h8
   go_enter Tryd.func44, Tryd.ntmps44
   go_wp2_with (go_at_call 42; refine (i_in _ _ _ _).mono ?_; rintro e w' ⟨rfl, rfl⟩; rw [Hr.out])
   go_ret
   rw [hb.out]
   exact ⟨_, _, rfl, own_new2 w _ [p.a, p.b] _ rfl (by simp), Ext.al2 _ _ _ _⟩
  ·have hb : Sg.below p = [] := by unfold Sg.below; rw [if_neg h8, if_neg h2]
   have Hb := lh hb
   have hr : Sg.inR p.kind 2 7 = false := by simp [Sg.inR]; omega
   have Hr := lh hr
   clear h2 hr h8 hb
   go_enter Tryd.func44, Tryd.ntmps44
   go_wp2_with (go_at_call 42; refine (i_in _ _ _ _).mono ?_; rintro e w' ⟨rfl, rfl⟩; rw [Hr.out])
   go_ret
   rw [Hb.out]
   exact ⟨none, 0, rfl, Own.nil _ _ _ _, (Ext.rfl' w).al _⟩

theorem alone0 {p : Sg.Part} (h : p.kind = 0) : Sg.alone p = (Sg.inR p.n 0 99 && p.a == -1 && p.b == -1 && p.c == -1) := by unfold Sg.alone; rw [if_pos h]
theorem alone1 {p : Sg.Part} (h : p.kind = 1) : Sg.alone p = (Sg.inR p.n 0 9 && p.a == -1 && p.b == -1 && p.c == -1) := by unfold Sg.alone; rw [if_neg (by omega), if_pos h]
theorem alone8 {p : Sg.Part} (h : p.kind = 8) : Sg.alone p = (p.n == 0) := by unfold Sg.alone; rw [if_neg (by omega), if_neg (by omega), if_pos h]
theorem alone2 {p : Sg.Part} (h : 2 ≤ p.kind ∧ p.kind ≤ 7) : Sg.alone p = (p.n == 0 && p.c == -1) := by unfold Sg.alone; rw [if_neg (by omega), if_neg (by omega), if_neg (by omega), if_pos h]
theorem aloneN {p : Sg.Part} (h : p.kind < 0 ∨ 8 < p.kind) : Sg.alone p = false := by unfold Sg.alone; rw [if_neg (by omega), if_neg (by omega), if_neg (by omega), if_neg (by omega)]

set_option maxRecDepth 100000 in
set_option maxHeartbeats 1000000 in
theorem i_alone (p : Sg.Part) (w : World) : Calls Tryd.prog 43 #[pv p] w fun e w' => e = .returned (.bool (Sg.alone p)) ∧ Ext w w' := by
 obtain ⟨k, a, b, c, n⟩ := p
 have cases : k = 0 ∨ k = 1 ∨ k = 8 ∨ (2 ≤ k ∧ k ≤ 7) ∨ (k < 0 ∨ 8 < k) := by omega
 rcases cases with h | h | h | h | h
 ·have hg := lh (alone0 (p := ⟨k, a, b, c, n⟩) h)
  subst h
  cases hr : Sg.inR n 0 99
  all_goals
   have Hr := lh hr
   clear hr
   go_enter Tryd.func43, Tryd.ntmps43
   go_wp2_with (go_at_call 42; refine (i_in _ _ _ _).mono ?_; rintro e w' ⟨rfl, rfl⟩; rw [Hr.out])
   all_goals (go_ret; exact ⟨ret_bool (by rw [hg.out, Hr.out]; simp_all), (Ext.rfl' w).al _⟩)
 ·have hg := lh (alone1 (p := ⟨k, a, b, c, n⟩) h)
  subst h
  cases hr : Sg.inR n 0 9
  all_goals
   have Hr := lh hr
   clear hr
   go_enter Tryd.func43, Tryd.ntmps43
   go_wp2_with (go_at_call 42; refine (i_in _ _ _ _).mono ?_; rintro e w' ⟨rfl, rfl⟩; rw [Hr.out])
   all_goals (go_ret; exact ⟨ret_bool (by rw [hg.out, Hr.out]; simp_all), (Ext.rfl' w).al _⟩)
 ·have hg := lh (alone8 (p := ⟨k, a, b, c, n⟩) h)
  subst h
  go_enter Tryd.func43, Tryd.ntmps43
  go_wp2
  go_ret
  exact ⟨ret_bool (by rw [hg.out]), (Ext.rfl' w).al _⟩
 ·have hg := lh (alone2 (p := ⟨k, a, b, c, n⟩) h)
  have hr : Sg.inR k 2 7 = true := by simp [Sg.inR, h]
  have Hr := lh hr
  have k0 : (k == 0) = false := by rw [beq_eq_false_iff_ne]; omega
  have k1 : (k == 1) = false := by rw [beq_eq_false_iff_ne]; omega
  have k8 : (k == 8) = false := by rw [beq_eq_false_iff_ne]; omega
  clear hr h
  go_enter Tryd.func43, Tryd.ntmps43
  go_wp2_with (go_at_call 42; refine (i_in _ _ _ _).mono ?_; rintro e w' ⟨rfl, rfl⟩; rw [Hr.out])
  all_goals (go_ret; exact ⟨ret_bool (by rw [hg.out]; simp_all), (Ext.rfl' w).al _⟩)
 ·have hg := lh (aloneN (p := ⟨k, a, b, c, n⟩) h)
  have hr : Sg.inR k 2 7 = false := by simp [Sg.inR]; omega
  have Hr := lh hr
  have k0 : (k == 0) = false := by rw [beq_eq_false_iff_ne]; omega
  have k1 : (k == 1) = false := by rw [beq_eq_false_iff_ne]; omega
  have k8 : (k == 8) = false := by rw [beq_eq_false_iff_ne]; omega
  clear hr h
  go_enter Tryd.func43, Tryd.ntmps43
  go_wp2_with (go_at_call 42; refine (i_in _ _ _ _).mono ?_; rintro e w' ⟨rfl, rfl⟩; rw [Hr.out])
  go_ret
  exact ⟨ret_bool (by rw [hg.out]), (Ext.rfl' w).al _⟩
end Go.Proofs.YtdnlpklmihoapaaDoor

/- The program's ValidFormula: its contract. Conditions: at most 2^20 parts. -/
namespace Go.Proofs.YtdnlpklmihoapaaDoor
open Go.RowKit

theorem all_take (l : List Int) (i : Nat) (k : Nat) {x : Int} (hx : l[k]? = some x) : ((l.take (k + 1)).all fun y => Sg.inR y 0 ((i : Int) - 1)) = (((l.take k).all fun y => Sg.inR y 0 ((i : Int) - 1)) && Sg.inR x 0 ((i : Int) - 1)) := by
 rw [take_snoc l k hx, List.all_append]; simp
theorem all_take_false (l : List Int) (P : Int → Bool) (k : Nat) (h : (l.take k).all P = false) : l.all P = false := by
 rw [List.all_eq_false] at h ⊢
 obtain ⟨x, hx, hp⟩ := h
 exact ⟨x, List.mem_of_mem_take hx, hp⟩

set_option maxRecDepth 100000 in
set_option maxHeartbeats 2000000 in
theorem i_ValidFormula (A : Option Addr) (c : Nat) (f : List Sg.Part) (w : World) (h : Rd w 5 A f.length (parts f)) (hb : f.length ≤ 1048576) :
  Calls Tryd.prog 17 #[.agg #[.slice A f.length c]] w fun e w' => e = .returned (.bool (Sg.validF f)) ∧ Ext w w' := by
 cases hin : Sg.inR f.length 1 12
 ·have Hin := lh hin
  clear hin
  go_enter Tryd.func17, Tryd.ntmps17
  go_wp2_with (go_at_call 42; refine (i_in _ _ _ _).mono ?_; rintro e w1 ⟨rfl, rfl⟩; rw [Hin.out])
  go_ret
  exact ⟨ret_bool (by unfold Sg.validF; rw [Hin.out]; rfl), (Ext.rfl' w).al _⟩
 have Hin := lh hin
 have h12 : 1 ≤ f.length ∧ f.length ≤ 12 := by unfold Sg.inR at hin; simp at hin; omega
 have h1 := h12.1
 have h2 := h12.2
 clear hin h12
 go_enter Tryd.func17, Tryd.ntmps17
 go_wp2_with (first
  | (go_at_call 42; refine (i_in _ _ _ _).mono ?_; rintro e w1 ⟨rfl, rfl⟩; rw [Hin.out])
  | (at_make; refine wpList_mk rfl rfl eiInt (B := w.heap.size + 1) rfl rfl (by omega) (by omega) (by simp) ?_; intro w1 hown hext; have hbx : w1.cell? ⟨w.heap.size, 0, none⟩ = some (.slice A f.length c) := hext.cellE (by simp [go_sem])))
 obtain ⟨W0, hW0⟩ : ∃ W0, W0 = w.alloc (.cells #[.slice A f.length c] 39) := ⟨_, rfl⟩
 have hsz : W0.heap.size = w.heap.size + 1 := by rw [hW0]; simp
 have hW : Ext w W0 := by rw [hW0]; exact (Ext.rfl' w).al _
 rw [← hW0] at hext
 rw [made_one _ _ rfl, show w.heap.size + 1 = W0.heap.size from hsz.symm] at hown
 rw [show (w.alloc (Obj.cells #[Value.slice A f.length c] 39)).heap.size = w.heap.size + 1 from by simp] at hown
 have hu0 : List.replicate f.length (Value.int .i64 0) = ints (Sg.cnt f.length (Sg.belows (f.take 0))) := by simp [Sg.belows, Sg.cnt, ints]
 rw [hu0] at hown
 clear hu0 hW0
 go_loopw [22] (fun i wr => ∃ (k : Nat), k ≤ f.length ∧ i = .int .i64 k ∧ Ext W0 wr ∧ Own wr W0.heap.size 3 1 (some ⟨w.heap.size + 1, 0, none⟩) f.length f.length (ints (Sg.cnt f.length (Sg.belows (f.take k)))) ∧ Sg.goodFrom 0 (f.take k) = true) (fun i _ => f.length - (intOf i).toNat)
 case atStart => exact ⟨0, Nat.zero_le _, rfl, hext, hown, by simp [Sg.goodFrom]⟩
 case round =>
  clear hown hext
  obtain ⟨k, hk, rfl, he, hown, hgood⟩ := hrel
  have Hsz := lh hsz
  have Hgood := lh hgood
  clear hsz hgood
  have hwr : w.heap.size + 1 < wr.heap.size := by have := (hown.lt (g := w.heap.size + 1) rfl).2; omega
  by_cases hlt : k < f.length
  ·obtain ⟨b, o, p, rfl, hp, hc0, hc1, hc2, hc3, hc4⟩ := (h.ext (hW.tr he)).atP hlt
   have hbw := blt hc0
   have Hp := lh hp
   clear hp
   cases hal : Sg.alone p
   ·have Hal := lh hal
    clear hal
    go_wp2_with (go_at_call 43; refine (i_alone p _).mono ?_; rintro e w2 ⟨rfl, he2⟩; rw [Hal.out])
    go_ret
    refine ⟨ret_bool ?_, (hW.tr (he.al _)).tr he2⟩
    have := goodFrom_false f (k + 1) 0 (by rw [take_good f k Hp.out]; unfold Sg.goodPart; rw [Hal.out]; simp)
    simp [Sg.validF, this]
   ·have Hal := lh hal
    clear hal
    go_wp2_with (first
     | (go_at_call 43; refine (i_alone p _).mono ?_; rintro e w2 ⟨rfl, he2⟩; rw [Hal.out]; obtain ⟨bc, bf⟩ := bcell he2)
     | (go_at_call 44; refine (i_below p _).mono ?_; rintro e w3 ⟨A3, c3, rfl, hown3, he3⟩))
    have he02 := (he.al (.cells #[.int .i64 p.kind, .int .i64 p.a, .int .i64 p.b, .int .i64 p.c, .int .i64 p.n] 73)).tr he2
    have he03 := he02.tr he3
    have hown0 := ((hown.al _).ext he2).ext he3
    have hsz2 : wr.heap.size < w2.heap.size := by have := he2.size; simp at this; omega
    have hsz3 := he3.size
    clear bc bf hc0 hc1 hc2 hc3 hc4 hown he
    go_loopw [33] (fun j wi => ∃ (j' : Nat), j' ≤ (Sg.below p).length ∧ j = .int .i64 j' ∧ Ext W0 wi ∧ Own wi w2.heap.size 3 1 A3 (Sg.below p).length c3 (ints (Sg.below p)) ∧
     Own wi W0.heap.size 3 1 (some ⟨w.heap.size + 1, 0, none⟩) f.length f.length (ints (Sg.cnt f.length (Sg.belows (f.take k) ++ (Sg.below p).take j'))) ∧ (((Sg.below p).take j').all fun y => Sg.inR y 0 ((k : Int) - 1)) = true) (fun j _ => (Sg.below p).length - (intOf j).toNat)
    case atStart => exact ⟨0, Nat.zero_le _, rfl, he03, hown3, by simpa using hown0, rfl⟩
    case round =>
     clear hown3 hown0 he03 he02 he2 he3
     obtain ⟨j, hj, rfl, hei, hl, hU, hall⟩ := hrel
     have Hall := lh hall
     clear hall
     have hb3 := Sg.below_len p
     by_cases hlj : j < (Sg.below p).length
     ·obtain ⟨bl, ol, x, rfl, hx, hcx⟩ := hl.rd.at1 hlj
      have Hx := lh hx
      have Hat := lh (all_take (Sg.below p) k j hx)
      clear hx
      cases hin : Sg.inR x 0 ((k : Int) - 1)
      ·have Hi := lh hin
       clear hin
       go_wp2_with (go_at_call 42; refine (i_in _ _ _ _).mono ?_; rintro e w4 ⟨rfl, rfl⟩; rw [Hi.out])
       go_ret
       refine ⟨ret_bool ?_, hW.tr hei⟩
       have h1 := all_take_false (Sg.below p) (fun y => Sg.inR y 0 ((k : Int) - 1)) (j + 1) (by rw [Hat.out, Hi.out]; simp)
       have := goodFrom_false f (k + 1) 0 (by rw [take_good f k Hp.out]; unfold Sg.goodPart; rw [h1]; simp)
       simp [Sg.validF, this]
      ·have Hi := lh hin
       have hxr : 0 ≤ x ∧ x < k := by unfold Sg.inR at hin; simp at hin; omega
       clear hin
       obtain ⟨X, rfl⟩ := Int.eq_ofNat_of_zero_le hxr.1
       have hXn : X < f.length := by omega
       obtain ⟨U, hUd⟩ : ∃ U, U = Sg.cnt f.length (Sg.belows (f.take k) ++ (Sg.below p).take j) := ⟨_, rfl⟩
       have hpos : ∀ y ∈ Sg.belows (f.take k) ++ (Sg.below p).take j, 0 ≤ y := by
        intro y hy
        rcases List.mem_append.1 hy with hy | hy
        ·exact Sg.goodFrom_take f k 0 Hgood.out y hy
        ·have := List.all_eq_true.1 Hall.out y hy
         unfold Sg.inR at this; simp at this; omega
       have hlenU : U.length = f.length := by rw [hUd, Sg.length_cnt]
       have hux : U[X]? = some (U.getD X 0) := by rw [List.getD_eq_getElem?_getD, List.getElem?_eq_getElem (by omega)]; rfl
       have hub := Sg.cnt_le f.length _ X hpos hXn
       rw [← hUd] at hub hU
       have hbl := Sg.belows_len (f.take k)
       have htl : ((Sg.below p).take j).length ≤ 3 := Nat.le_trans (List.length_take_le _ _) (by omega)
       have htk : (f.take k).length ≤ k := List.length_take_le _ _
       rw [List.length_append] at hub
       have hnext : Sg.cnt f.length (Sg.belows (f.take k) ++ (Sg.below p).take (j + 1)) = U.set X (U.getD X 0 + 1) := by
        rw [take_snoc _ _ Hx.out, ← List.append_assoc, Sg.cnt_snoc, ← hUd]; rfl
       obtain ⟨u, hu⟩ : ∃ u, u = U.getD X 0 := ⟨_, rfl⟩
       rw [← hu] at hub hnext hux
       have hcu := hU.cell (j := X) (u := .int .i64 u) (by rw [ints_at, hux]; rfl)
       have hfu := hU.free X
       have hub1 : 0 ≤ u := hub.1
       have hub2 : u ≤ 4194304 := by have := hub.2; omega
       have H1 := lh hnext
       clear hnext hu hux hUd hlenU hpos hub hbl htl htk
       go_wp2_with (go_at_call 42; refine (i_in _ _ _ _).mono ?_; rintro e w4 ⟨rfl, rfl⟩; rw [Hi.out])
       go_roundw
       case rel =>
        have hU' := hU.st X (.int .i64 (u + 1))
        rw [ints_set, ← H1.out] at hU'
        exact ⟨j + 1, by omega, by go_num, hei.set (by have := Hsz.out; simp; omega) _, hl.set (by simp [blk]; have := (hl.lt (g := bl) rfl).1; have := Hsz.out; omega) _, hU', by rw [Hat.out, Hall.out, Hi.out]; rfl⟩
       case measure => simp [intOf]; omega
     ·obtain rfl : j = (Sg.below p).length := by omega
      go_wp2
      go_roundw
      case rel =>
       have hall := Hall.out
       rw [List.take_of_length_le (Nat.le_refl _)] at hall
       refine ⟨k + 1, by omega, by go_num, hei, ?_, ?_⟩
       ·rw [take_belows f k Hp.out]; simpa using hU
       ·rw [take_good f k Hp.out, Hgood.out]; unfold Sg.goodPart; rw [Hal.out, hall]; rfl
      case measure => simp [intOf]; omega
  ·obtain rfl : k = f.length := by omega
   have hgood := Hgood.out
   rw [List.take_of_length_le (Nat.le_refl _)] at hgood hown
   have hpos := Sg.goodFrom_take f f.length 0 (by rw [List.take_of_length_le (Nat.le_refl _)]; exact hgood)
   rw [List.take_of_length_le (Nat.le_refl _)] at hpos
   have Hgd := lh hgood
   have Hpos := lh hpos
   clear hgood hpos Hgood
   go_wp2
   go_loop [56] (fun i => ∃ k : Nat, k ≤ f.length - 1 ∧ i = .int .i64 k ∧ firsts (Sg.cnt f.length (Sg.belows f)) k) (fun i => f.length - (intOf i).toNat)
   case atStart => exact ⟨0, Nat.zero_le _, rfl, firsts_zero _⟩
   case round =>
    obtain ⟨k, hk, rfl, hfi⟩ := hrel
    by_cases hlk : k < f.length - 1
    ·obtain ⟨U, hUd⟩ : ∃ U, U = Sg.cnt f.length (Sg.belows f) := ⟨_, rfl⟩
     rw [← hUd] at hown hfi
     have hlenU : U.length = f.length := by rw [hUd, Sg.length_cnt]
     obtain ⟨u, hu⟩ : ∃ u, u = U.getD k 0 := ⟨_, rfl⟩
     have hux : U[k]? = some u := by rw [hu, List.getD_eq_getElem?_getD, List.getElem?_eq_getElem (by omega)]; rfl
     have hcu := hown.cell (j := k) (u := .int .i64 u) (by rw [ints_at, hux]; rfl)
     have Hu := lh hu
     have HU := lh hUd
     clear hu hux hlenU hUd
     go_wp2
     ·have hne : ¬ u = 1 := by simpa using ‹(u != 1) = true›
      go_ret
      refine ⟨ret_bool ?_, hW.tr he⟩
      have := Sg.usesOk_not f Hpos.out k (by omega) (by rw [← HU.out, ← Hu.out]; exact hne)
      simp [Sg.validF, this]
     ·have heq : u = 1 := by simpa using ‹(u != 1) = false›
      go_round
      case rel => exact ⟨k + 1, by omega, by go_num, by rw [← HU.out]; exact firsts_succ hfi (by rw [← Hu.out, heq])⟩
      case measure => simp [intOf]; omega
    ·have Hfi := lh hfi
     clear hfi
     go_wp2
     go_ret
     refine ⟨ret_bool ?_, hW.tr he⟩
     have := Sg.usesOk_of f Hpos.out (fun i hi => Hfi.out i (by omega))
     simp [Sg.validF, this, Hgd.out, Hin.out]
end Go.Proofs.YtdnlpklmihoapaaDoor

/- The program's join, last, and Contains, Clip of lists: contracts. Conditions: values in 0..999 for join. -/
namespace Go.Proofs.YtdnlpklmihoapaaDoor
open Go.RowKit

theorem i_last (A : Option Addr) (n c : Nat) (w : World) (h1 : 0 < n) (h2 : n ≤ 1048576) : Calls Tryd.prog 51 #[.agg #[.slice A n c]] w fun e w' => e = .returned (.int .i64 ((n : Int) - 1)) ∧ Ext w w' := by
 go_enter Tryd.func51, Tryd.ntmps51
 go_wp2
 go_ret
 exact ⟨rfl, (Ext.rfl' w).al _⟩

theorem i_Clip (A : Option Addr) (n c : Nat) (w : World) (h : n ≤ c) (_hm : c ≤ maxLen) : Calls Tryd.prog 107 #[.slice A n c] w fun e w' => e = .returned (.slice A n n) ∧ w = w' := by
 unfold maxLen at _hm
 go_enter Tryd.func107, Tryd.ntmps107
 go_wp2
 go_ret
 exact ⟨rfl, rfl⟩

end Go.Proofs.YtdnlpklmihoapaaDoor

/- The program's eval with any function value that reads: its contract. Conditions: formulas that can be run. -/
namespace Go.Proofs.YtdnlpklmihoapaaDoor
open Go.RowKit

end Go.Proofs.YtdnlpklmihoapaaDoor
