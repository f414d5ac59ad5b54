/- The program's size, slices.Equal of ints, and right's function value: contracts. Conditions: bounds on lengths. -/
import Derived.Test.YtkkegmimofmhpaaPlainB
import Derived.Deep.QuietTactic
import Derived.BigQuiet
namespace Go.Proofs.Ytkkegmimofmhpaa
open Go.RowKit

theorem i_size (A : Option Addr) (n c : Nat) (w : World) : Calls Try.prog 73 #[.agg #[.slice A n c]] w fun e w' => e = .returned (.int .i64 n) ∧ Ext w w' := by
  go_enter Try.func73, Try.ntmps73
  go_wp2
  go_ret
  exact ⟨rfl, (Ext.rfl' w).al _⟩

set_option maxHeartbeats 1000000 in
theorem i_Equal (A B : Option Addr) (ca cb : Nat) (a b : List Int) (w : World) (h : Rd w 1 A a.length (ints a)) (k : Rd w 1 B b.length (ints b)) :
    Calls Try.prog 141 #[.slice A a.length ca, .slice B b.length cb] w fun e w' => e = .returned (.bool (decide (a = b))) ∧ Ext w w' := by
  have hk := k.big
  have hh := h.big
  by_cases hab : a.length = b.length
  · have h1 : ((a.length : Int) != (b.length : Int)) = false := by simp [hab]
    have Hab := Lib.hid hab
    clear hab
    go_enter Try.func141, Try.ntmps141
    go_wp2
    go_loopw [13] (fun i wr => ∃ n : Nat, n ≤ a.length ∧ i = .int .i64 n ∧ a.take n = b.take n ∧ Ext w wr) (fun i _ => a.length - (intOf i).toNat)
    case atStart => exact ⟨0, Nat.zero_le _, rfl, rfl, Ext.rfl' w⟩
    case round =>
      obtain ⟨n, hn, rfl, htk, hext⟩ := hrel
      have Htk := Lib.hid htk
      clear htk
      by_cases hlt : n < a.length
      · have hlt2 : n < b.length := by have := Hab.out; omega
        obtain ⟨ba, oa, x, rfl, hx, hcx⟩ := (h.ext hext).at1 hlt
        obtain ⟨bb, ob, y, rfl, hy, hcy⟩ := (k.ext hext).at1 hlt2
        have Hx := Lib.hid hx
        have Hy := Lib.hid hy
        clear hx hy
        by_cases hxy : x = y
        · have hb1 : (x != y) = false := by simp [hxy]
          have Hxy := Lib.hid hxy
          clear hxy
          go_wp2
          go_quiet (fail)
          go_wp2
          go_roundw
          case rel => exact ⟨n + 1, by omega, by go_num, by rw [List.take_add_one, List.take_add_one, Htk.out, Hx.out, Hy.out, Hxy.out], hext.drN _⟩
          case measure => simp [intOf]; omega
        · have hb1 : (x != y) = true := by simp [hxy]
          have Hxy := Lib.hid hxy
          clear hxy
          go_wp2
          go_quiet (fail)
          go_wp2
          go_ret
          refine ⟨ret_bool ?_, hext.drN _⟩
          symm
          rw [decide_eq_false_iff_not]
          intro e
          have hx := Hx.out
          have hy := Hy.out
          rw [e, hy] at hx
          injection hx with hx
          exact Hxy.out hx.symm
      · obtain rfl : n = a.length := by omega
        go_wp2
        go_ret
        refine ⟨ret_bool ?_, hext⟩
        have htk := Htk.out
        rw [List.take_length, Hab.out, List.take_length] at htk
        simp [htk]
  · have h1 : ((a.length : Int) != (b.length : Int)) = true := by simp; omega
    have Hab := Lib.hid hab
    clear hab
    go_enter Try.func141, Try.ntmps141
    go_wp2
    go_ret
    refine ⟨ret_bool ?_, Ext.rfl' w⟩
    symm
    rw [decide_eq_false_iff_not]
    exact fun e => Hab.out (by rw [e])

/-- what right's function value keeps: the values, in a variable at B -/
structure VInv (B : Nat) (Av : Option Addr) (cv : Nat) (v : List Int) (F : Nat → Prop) (w : World) : Prop where
  b : w.cell? ⟨B, 0, none⟩ = some (.slice Av v.length cv)
  r : Rd w 1 Av v.length (ints v)
  e : ∀ b, ¬ F b

theorem Rd.mod0 {F : Nat → Prop} {w w' : World} {size n : Nat} {A : Option Addr} {xs : List Value} (h : Rd w size A n xs) (k : Mod F w w') (hF : 0 < n * size → off F A) : Rd w' size A n xs :=
  ⟨h.1, h.2.1, fun hn => let ⟨b, o, ha, hc⟩ := h.2.2 hn; ⟨b, o, ha, fun j u hu => k.cellE (hc j u hu) (hF hn b (by rw [ha]; rfl))⟩⟩

theorem right_clo (B : Nat) (Av : Option Addr) (cv : Nat) (v : List Int) (L : Nat) (hB : B < L) (hA : 0 < v.length → ∀ b, blk Av = some b → b < L) (hv : Sg.inRange v) :
    Clo Try.prog 140 [.pointer (some ⟨B, 0, none⟩)] Unit (fun _ => VInv B Av cv v) (fun _ n => Sg.rd v n) (fun _ _ => ()) (fun n => 0 ≤ n ∧ n < v.length ∧ n ≤ 9) L where
  ent := ent_of Try.func140 rfl (by kernel_rfl)
  call := fun s F w n h hn => by
    obtain ⟨hb, hr, he⟩ := h
    obtain ⟨hn0, hn1, hn2⟩ := hn
    obtain ⟨k, rfl⟩ : ∃ k : Nat, n = k := ⟨n.toNat, by omega⟩
    obtain ⟨ba, oa, x, rfl, hx, hcx⟩ := hr.at1 (show k < v.length by omega)
    have Hx := Lib.hid hx
    have HI := Lib.hid (And.intro hb (And.intro hr he))
    have hr0 := hr.big
    clear hx hr he
    go_enter Try.func140, Try.ntmps140
    go_wp2
    go_ret
    refine ⟨by simp [Sg.rd, Hx.out], F, ⟨HI.out.1, HI.out.2.1, HI.out.2.2⟩, Mod.rfl' _ _, fun b hb => .inl hb⟩
  old := fun s F w b h hb => absurd hb (h.e b)
  md := fun s F G w w' h hm h1 h2 => ⟨hm.cellE h.b (h2 _ hB), h.r.mod0 hm (fun h0 b hb => h2 b (hA (by omega) b hb)), h.e⟩
  ran := fun s F w n h hn => by
    have : n.toNat < v.length := by omega
    have hm := hv (v[n.toNat]) (List.getElem_mem this)
    simp only [Sg.rd, List.getD_eq_getElem?_getD, List.getElem?_eq_getElem this, Option.getD_some]
    exact hm
end Go.Proofs.Ytkkegmimofmhpaa
