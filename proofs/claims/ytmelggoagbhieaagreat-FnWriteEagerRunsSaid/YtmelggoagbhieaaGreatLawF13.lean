/- Parts of one proof, joined. The laws' written: its contract. Conditions: the nodes are places of the list. The laws' isIn, within and ascends: contracts. Conditions: the lists can be read; within and ascends where they hold. -/
import Derived.Test.YtmelggoagbhieaaGreatLawOne
import Derived.Test.YtmelggoagbhieaaGreatCellA
import Derived.Test.YtmelggoagbhieaaGreatModelR
import Derived.Test.YtmelggoagbhieaaGreatEqA
import Derived.Test.YtmelggoagbhieaaGreatSpecOne
import Derived.IntWalk
/- The laws' written: its contract. Conditions: the nodes are places of the list. -/
namespace Go.Proofs.YtmelggoagbhieaaGreat
open Go.RowKit

set_option maxRecDepth 100000 in
set_option maxHeartbeats 2000000 in
theorem l_written (A An Ax : Option Addr) (c cn cx : Nat) (a ns xs : List Int) (w : World) (h : Rd w 1 A a.length (ints a)) (hn : Rd w 1 An ns.length (ints ns)) (hx : Rd w 1 Ax xs.length (ints xs)) (hl : ns.length = xs.length) (hr : ∀ x ∈ ns, 0 ≤ x ∧ x < (a.length : Int)) (hb : a.length ≤ 4194304) (hbn : ns.length ≤ 4194304) :
    Calls Tryz.prog 22 #[.slice A a.length c, .slice An ns.length cn, .slice Ax xs.length cx] w fun e w' => ∃ A' c', e = .returned (.slice A' a.length c') ∧ Own w' w.heap.size 3 1 A' a.length c' (ints (Sg.writtenL a ns xs)) ∧ Ext w w' := by
  have hs := (h.ext ((Ext.rfl' w).al (.cells #[] 3)))
  have HNX := Lib.hid hl
  have HR := Lib.hid hr
  have HN := Lib.hid hn
  have HX := Lib.hid hx
  clear h hn hx hl hr
  go_enter Tryz.func22, Tryz.ntmps22
  go_wp2_with (at_builtin; refine wpList_appR rfl rfl eiInt rfl (Own.new w 3 1 #[] 0 (Nat.le_refl _) (by unfold maxLen; omega) rfl) rfl hs (one_ints a) (by unfold maxLen; omega) (by omega) (by simp) ?_; intro A2 c2 w2 hown2 hg2 hat2)
  have E2 := Lib.hid (((Ext.rfl' w).al (.cells #[] 3)).gr hg2 (by simp [blk]))
  have Ho := Lib.hid (show Own w2 w.heap.size 3 1 A2 a.length c2 (ints (Sg.writtenTo a ns xs 0)) by simpa using hown2)
  clear hown2 hg2 hat2 hs
  try simp only [Nat.zero_add]
  go_loopw [8] (fun i wr => ∃ k : Nat, k ≤ ns.length ∧ i = .int .i64 k ∧ Hid (Ext w wr) ∧ Hid (Own wr w.heap.size 3 1 A2 a.length c2 (ints (Sg.writtenTo a ns xs k)))) (fun i _ => ns.length - (intOf i).toNat)
  case atStart => exact ⟨0, Nat.zero_le _, rfl, E2, Ho⟩
  case round =>
    obtain ⟨k, hk, rfl, he, ho⟩ := hrel
    clear E2 Ho
    by_cases hlt : k < ns.length
    · obtain ⟨b1, o1, x, hb1, hx1, hc1⟩ := (HN.out.ext he.out).at1 hlt
      obtain ⟨b2, o2, y, hb2, hy1, hc2⟩ := (HX.out.ext he.out).at1 (show k < xs.length by have := HNX.out; omega)
      obtain ⟨hx0, hxa⟩ := HR.out x (List.mem_of_getElem? hx1)
      obtain ⟨j, rfl⟩ := Int.eq_ofNat_of_zero_le hx0
      obtain ⟨gz, rfl, hgz⟩ := ho.out.at_ (by omega)
      subst hb1 hb2
      obtain ⟨z, hz⟩ : ∃ z, (Sg.writtenTo a ns xs k)[j]? = some z := ⟨_, List.getElem?_eq_getElem (by rw [Sg.writtenTo_len]; omega)⟩
      have hcz := ho.out.cell (j := j) (u := .int .i64 z) (by rw [ints_at, hz]; rfl)
      have HW := Lib.hid (show Sg.writtenTo a ns xs (k + 1) = (Sg.writtenTo a ns xs k).set j y by rw [Sg.writtenTo_succ a ns xs k hx1 hy1]; rfl)
      have hja : j < a.length := by omega
      have hkx : k < xs.length := by have := HNX.out; omega
      have bl1 := blt hc1
      have bl2 := blt hc2
      have blz := blt hcz
      clear hx1 hy1 hz hx0 hxa
      go_upto_region 5 with fail
      go_still_tail 10, (by kernel_rfl)
      change wpList _ _ _ _ _ (World.drew wr)
      have O6 := Lib.hid (ho.out.ext ((Ext.rfl' wr).dr))
      have E6 := Lib.hid (he.out.dr)
      have c6 := ((Ext.rfl' wr).dr).cellE hcz
      have f6 := O6.out.free j
      have b6 := blt c6
      clear hc1 hc2 hcz bl1 bl2 blz
      generalize World.drew wr = w6 at *
      have hO7 := O6.out.st j (.int .i64 y)
      rw [ints_set, ← HW.out] at hO7
      have O7 := Lib.hid hO7
      have E7 := Lib.hid (E6.out.set (p := ⟨gz, j, none⟩) (show w.heap.size ≤ gz by omega) (.int .i64 y))
      clear hO7
      go_wp2
      go_roundw
      case rel => exact ⟨k + 1, by omega, by go_num, E7, O7⟩
      case measure => simp [intOf]; omega
    · obtain rfl : k = ns.length := by omega
      have Of := Lib.hid (show Own wr w.heap.size 3 1 A2 a.length c2 (ints (Sg.writtenL a ns xs)) by have := ho.out; rw [Sg.writtenTo_all _ _ _ HNX.out] at this; exact this)
      clear ho hlt
      go_wp2
      go_ret
      exact ⟨A2, c2, rfl, Of.out, he.out⟩
end Go.Proofs.YtmelggoagbhieaaGreat

/- The laws' isIn, within and ascends: contracts. Conditions: the lists can be read; within and ascends where they hold. -/
namespace Go.Proofs.YtmelggoagbhieaaGreat
open Go.RowKit

theorem l_isIn (A : Option Addr) (c : Nat) (l : List Int) (n : Int) (w : World) (h : Rd w 1 A l.length (ints l)) (hin : n ∈ l) :
    Calls Tryz.prog 65 #[.slice A l.length c, .int .i64 n] w fun e w' => e = .returned (.bool true) ∧ Ext w w' := by
  have hm := h.big
  have HIN := Lib.hid (show n ∈ l.drop 0 by simpa using hin)
  clear hin
  go_enter Tryz.func65, Tryz.ntmps65
  go_wp2
  go_loopw [5] (fun i wr => ∃ k : Nat, k ≤ l.length ∧ i = .int .i64 k ∧ Hid (n ∈ l.drop k) ∧ Hid (Ext w wr)) (fun i _ => l.length - (intOf i).toNat)
  case atStart => exact ⟨0, Nat.zero_le _, rfl, HIN, Lib.hid (Ext.rfl' w)⟩
  case round =>
    obtain ⟨k, hk, rfl, hpl, hext⟩ := hrel
    clear HIN
    have hlt : k < l.length := by
      have h1 := hpl.out
      cases Nat.lt_or_ge k l.length with
      | inl h => exact h
      | inr h2 => rw [List.drop_eq_nil_of_le h2] at h1; cases h1
    obtain ⟨b, o, x, rfl, hx, hc⟩ := (h.ext hext.out).at1 hlt
    by_cases hn : x = n
    · have z1 : (x == n) = true := by simp [hn]
      clear hx hn
      go_wp2
      try go_quiet (fail)
      try go_wp2
      go_ret
      first | exact ⟨rfl, hext.out⟩ | exact ⟨rfl, hext.out.drN _⟩ | exact ⟨rfl, hext.out.dr⟩
    · have z1 : (x == n) = false := by rw [beq_eq_false_iff_ne]; exact hn
      have H2 := Lib.hid (show n ∈ l.drop (k + 1) by
        have h1 := hpl.out
        rw [drop_cons l k hx, List.mem_cons] at h1
        exact h1.resolve_left (fun e => hn e.symm))
      clear hx hn
      go_wp2
      try go_quiet (fail)
      try go_wp2
      go_roundw
      case rel => exact ⟨k + 1, by omega, by go_num, H2, by first | exact hext | exact Lib.hid (hext.out.drN _) | exact Lib.hid hext.out.dr⟩
      case measure => simp [intOf]; omega

theorem l_within (A B : Option Addr) (ca cb : Nat) (a b : List Int) (w : World) (h : Rd w 1 A a.length (ints a)) (k : Rd w 1 B b.length (ints b)) (hs : ∀ x ∈ a, x ∈ b) :
    Calls Tryz.prog 26 #[.slice A a.length ca, .slice B b.length cb] w fun e w' => e = .returned (.bool true) ∧ Ext w w' := by
  have hm := h.big
  have HS := Lib.hid (fun x w hx k => l_isIn B cb b x w k (hs x hx))
  clear hs
  have K := Lib.hid k
  clear k
  go_enter Tryz.func26, Tryz.ntmps26
  go_wp2
  go_loopw [5] (fun i wr => ∃ n : Nat, n ≤ a.length ∧ i = .int .i64 n ∧ Hid (Ext w wr)) (fun i _ => a.length - (intOf i).toNat)
  case atStart => exact ⟨0, Nat.zero_le _, rfl, Lib.hid (Ext.rfl' w)⟩
  case round =>
    obtain ⟨n, hn, rfl, hext⟩ := hrel
    by_cases hlt : n < a.length
    · obtain ⟨ba, oa, x, rfl, hx, hcx⟩ := (h.ext hext.out).at1 hlt
      have HX := Lib.hid (List.mem_of_getElem? hx)
      clear hx
      go_wp2_with fail
      refine (HS.out x _ HX.out (K.out.ext hext.out)).mono ?_
      rintro e w2 ⟨rfl, he2⟩
      go_wp2
      go_roundw
      case rel => exact ⟨n + 1, by omega, by go_num, Lib.hid (hext.out.tr he2)⟩
      case measure => simp [intOf]; omega
    · obtain rfl : n = a.length := by omega
      go_wp2
      go_ret
      exact ⟨rfl, hext.out⟩

theorem l_ascends (A : Option Addr) (c : Nat) (l : List Int) (w : World) (h : Rd w 1 A l.length (ints l)) (hs : ∀ (i : Nat) (x y : Int), l[i]? = some x → l[i + 1]? = some y → x < y) :
    Calls Tryz.prog 25 #[.slice A l.length c] w fun e w' => e = .returned (.bool true) ∧ Ext w w' := by
  have hm := h.big
  have HS := Lib.hid hs
  clear hs
  go_enter Tryz.func25, Tryz.ntmps25
  go_wp2
  go_loopw [3] (fun i wr => ∃ k : Nat, 1 ≤ k ∧ i = .int .i64 k ∧ Hid (Ext w wr)) (fun i _ => l.length - (intOf i).toNat)
  case atStart => exact ⟨1, Nat.le_refl _, rfl, Lib.hid (Ext.rfl' w)⟩
  case round =>
    obtain ⟨k, hk, rfl, hext⟩ := hrel
    by_cases hlt : k < l.length
    · obtain ⟨j, rfl⟩ : ∃ j, k = j + 1 := ⟨k - 1, by omega⟩
      obtain ⟨b, o, x, rfl, hx, hc⟩ := (h.ext hext.out).at1 hlt
      obtain ⟨b2, o2, y, he2, hy, hc2⟩ := (h.ext hext.out).at1 (show j < l.length by omega)
      obtain ⟨rfl, rfl⟩ : b2 = b ∧ o2 = o := by simp only [Option.some.injEq, Addr.mk.injEq, and_true] at he2; exact ⟨he2.1.symm, he2.2.symm⟩
      have hxy : ¬ x ≤ y := by have := HS.out j y x hy hx; omega
      have iw : IntKind.i64.wrap (((j + 1 : Nat) : Int) - 1) = (j : Int) := by rw [IntWalk.i64_in _ (by omega)]; omega
      clear hx hy he2
      go_wp2
      try go_quiet (fail)
      try go_wp2
      go_roundw
      case rel => exact ⟨j + 1 + 1, by omega, by go_num, by first | exact hext | exact Lib.hid (hext.out.drN _)⟩
      case measure => simp [intOf]; omega
    · go_wp2
      go_ret
      exact ⟨rfl, hext.out⟩
end Go.Proofs.YtmelggoagbhieaaGreat
