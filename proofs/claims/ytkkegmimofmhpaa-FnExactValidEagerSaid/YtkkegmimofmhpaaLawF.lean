/- The laws' copies of ints and parts: contracts. Conditions: at most 2^20 elements. -/
import Derived.Test.YtkkegmimofmhpaaGraph
import Derived.Handy
namespace Go.Proofs.Ytkkegmimofmhpaa
open Go.RowKit

theorem ints_fill (a : List Int) (k : Nat) {x : Int} (hx : a[k]? = some x) : (ints (a.take k ++ List.replicate (a.length - k) 0)).set k (.int .i64 x) = ints (a.take (k + 1) ++ List.replicate (a.length - (k + 1)) 0) := by
  obtain ⟨hk, rfl⟩ := List.getElem?_eq_some_iff.1 hx
  unfold ints
  rw [← List.map_set (f := Value.int .i64)]
  congr 1
  rw [List.set_append_right _ _ (by simp; omega), take_snoc a k (List.getElem?_eq_getElem hk)]
  have h1 : k - (a.take k).length = 0 := by simp; omega
  rw [h1, show a.length - k = (a.length - (k + 1)) + 1 from by omega, List.replicate_succ, List.set_cons_zero, List.append_assoc]
  rfl

set_option maxHeartbeats 1000000 in
theorem l_toIntS (A : Option Addr) (c : Nat) (a : List Int) (w : World) (h : Rd w 1 A a.length (ints a)) (hb : a.length ≤ 1048576) :
    Calls Try.prog 38 #[.slice A a.length c] w fun e w' => ∃ A', e = .returned (.slice A' a.length a.length) ∧ Own w' w.heap.size 3 1 A' a.length a.length (ints a) ∧ Ext w w' := by
  go_enter Try.func38, Try.ntmps38
  go_wp2_with (at_make; refine wpList_mk rfl rfl eiInt (B := w.heap.size) rfl rfl (by omega) (by omega) (by simp) ?_; intro w1 hown hext)
  rw [made_one _ _ rfl] at hown
  have hu0 : List.replicate a.length (Value.int .i64 0) = ints (a.take 0 ++ List.replicate (a.length - 0) 0) := by simp [ints]
  rw [hu0] at hown
  clear hu0
  go_loopw [4] (fun i wr => ∃ k : Nat, k ≤ a.length ∧ i = .int .i64 k ∧ Ext w wr ∧ Own wr w.heap.size 3 1 (some ⟨w.heap.size, 0, none⟩) a.length a.length (ints (a.take k ++ List.replicate (a.length - k) 0))) (fun i _ => a.length - (intOf i).toNat)
  case atStart => exact ⟨0, Nat.zero_le _, rfl, hext, hown⟩
  case round =>
    clear hown hext
    obtain ⟨k, hk, rfl, he, hown⟩ := hrel
    by_cases hlt : k < a.length
    · obtain ⟨b, o, x, rfl, hx, hcx⟩ := (h.ext he).at1 hlt
      have hbw := blt hcx
      obtain ⟨y, hy⟩ : ∃ y, (ints (a.take k ++ List.replicate (a.length - k) 0))[k]? = some y := ⟨_, List.getElem?_eq_getElem (by simp; omega)⟩
      have hcy := hown.cell hy
      have hfy := hown.free k
      have Hf := Lib.hid (ints_fill a k hx)
      have Ho := Lib.hid hown
      have Hx := Lib.hid hx
      clear hy hown hx
      go_wp2
      go_roundw
      case rel => exact ⟨k + 1, by omega, by go_num, he.set (by simp) _, by rw [← Hf.out]; exact Ho.out.st k _⟩
      case measure => simp [intOf]; omega
    · obtain rfl : k = a.length := by omega
      have hfin : a.take a.length ++ List.replicate (a.length - a.length) 0 = a := by simp
      rw [hfin] at hown
      have Ho := Lib.hid hown
      clear hown hfin
      go_wp2
      go_ret
      exact ⟨_, rfl, Ho.out, he⟩

theorem l_toPart (p : Sg.Part) (w : World) : Calls Try.prog 209 #[pv p] w fun e w' => e = .returned (pv p) ∧ Ext w w' := by
  obtain ⟨k, a, b, c, n⟩ := p
  go_enter Try.func209, Try.ntmps209
  go_wp2
  go_returns
  exact ⟨rfl, (((Ext.rfl' w).al _).al _).al _⟩

/-- parts of value zero -/
def zpart : Sg.Part := ⟨0, 0, 0, 0, 0⟩
theorem parts_fill (f : List Sg.Part) (k : Nat) {p : Sg.Part} (hp : f[k]? = some p) :
    ((((((parts (f.take k ++ List.replicate (f.length - k) zpart)).set (k * 5) (.int .i64 p.kind)).set (k * 5 + 1) (.int .i64 p.a)).set (k * 5 + 2) (.int .i64 p.b)).set (k * 5 + 3) (.int .i64 p.c)).set (k * 5 + 4) (.int .i64 p.n)) = parts (f.take (k + 1) ++ List.replicate (f.length - (k + 1)) zpart) := by
  obtain ⟨hk, rfl⟩ := List.getElem?_eq_some_iff.1 hp
  have e1 : parts (f.take k ++ List.replicate (f.length - k) zpart) = parts (f.take k) ++ (pcs zpart ++ parts (List.replicate (f.length - (k + 1)) zpart)) := by
    rw [show f.length - k = (f.length - (k + 1)) + 1 from by omega, List.replicate_succ]; simp [parts]
  have e2 : parts (f.take (k + 1) ++ List.replicate (f.length - (k + 1)) zpart) = parts (f.take k) ++ (pcs f[k] ++ parts (List.replicate (f.length - (k + 1)) zpart)) := by
    rw [take_snoc f k (List.getElem?_eq_getElem hk), List.append_assoc]; simp [parts]
  have hl : (parts (f.take k)).length = k * 5 := by simp; omega
  rw [e1, e2]
  generalize parts (f.take k) = X at *
  generalize parts (List.replicate (f.length - (k + 1)) zpart) = Y
  subst_vars
  rw [← hl]
  simp [pcs, zpart]
theorem made_parts (f : List Sg.Part) : (madeCells (Value.agg #[.int .i64 0, .int .i64 0, .int .i64 0, .int .i64 0, .int .i64 0]).cells (f.length * 5)).toList = parts (f.take 0 ++ List.replicate (f.length - 0) zpart) := by
  have h1 : (madeCells (Value.agg #[.int .i64 0, .int .i64 0, .int .i64 0, .int .i64 0, .int .i64 0]).cells (f.length * 5)).toList = List.replicate (f.length * 5) (.int .i64 0) := by
    rw [List.eq_replicate_iff]
    refine ⟨by rw [Array.length_toList, size_madeCells], fun b hb => ?_⟩
    show b = _
    change b ∈ (madeCells #[.int .i64 0, .int .i64 0, .int .i64 0, .int .i64 0, .int .i64 0] (f.length * 5)).toList at hb
    simp only [madeCells, Array.toList_map, List.mem_map] at hb
    obtain ⟨j, _, rfl⟩ := hb
    have hj : j % 5 < 5 := Nat.mod_lt _ (by omega)
    show #[Value.int .i64 0, .int .i64 0, .int .i64 0, .int .i64 0, .int .i64 0][j % 5]! = _
    generalize j % 5 = m at hj
    match m, hj with
    | 0, _ => rfl
    | 1, _ => rfl
    | 2, _ => rfl
    | 3, _ => rfl
    | 4, _ => rfl
  have h2 : parts (f.take 0 ++ List.replicate (f.length - 0) zpart) = List.replicate (f.length * 5) (.int .i64 0) := by
    rw [List.eq_replicate_iff]
    refine ⟨by simp, fun b hb => ?_⟩
    unfold parts at hb
    rw [List.mem_flatMap] at hb
    obtain ⟨p, hp, hb⟩ := hb
    simp at hp
    rw [hp.2] at hb
    simpa [pcs, zpart] using hb
  rw [h1, h2]

set_option maxHeartbeats 1000000 in
theorem l_toPartS (A : Option Addr) (c : Nat) (f : List Sg.Part) (w : World) (h : Rd w 5 A f.length (parts f)) (hb : f.length ≤ 1048576) :
    Calls Try.prog 195 #[.slice A f.length c] w fun e w' => ∃ A', e = .returned (.slice A' f.length f.length) ∧ Own w' w.heap.size 168 5 A' f.length f.length (parts f) ∧ Ext w w' := by
  have HP := Lib.hid l_toPart
  go_enter Try.func195, Try.ntmps195
  go_wp2_with (at_make; refine wpList_mk rfl rfl eiPart (B := w.heap.size) rfl rfl (by omega) (by omega) (by simp) ?_; intro w1 hown hext)
  have hu0 : (madeCells (Value.agg #[.int .i64 0, .int .i64 0, .int .i64 0, .int .i64 0, .int .i64 0]).cells (f.length * 5)).toList = parts (f.take 0 ++ List.replicate (f.length - 0) zpart) := made_parts f
  rw [hu0] at hown
  clear hu0
  go_loopw [4] (fun i wr => ∃ k : Nat, k ≤ f.length ∧ i = .int .i64 k ∧ Ext w wr ∧ Own wr w.heap.size 168 5 (some ⟨w.heap.size, 0, none⟩) f.length f.length (parts (f.take k ++ List.replicate (f.length - k) zpart))) (fun i _ => f.length - (intOf i).toNat)
  case atStart => exact ⟨0, Nat.zero_le _, rfl, hext, hown⟩
  case round =>
    clear hown hext
    obtain ⟨k, hk, rfl, he, hown⟩ := hrel
    by_cases hlt : k < f.length
    · obtain ⟨b, o, x, rfl, hx, h0, h1, h2, h3, h4⟩ := (h.ext he).atP hlt
      have hbw := blt h0
      have Hf := Lib.hid (parts_fill f k hx)
      have Hx := Lib.hid hx
      have Ho := Lib.hid hown
      clear hx hown
      have hxs : ∀ j, j < 5 → ∃ u, (parts (f.take k ++ List.replicate (f.length - k) zpart))[k * 5 + j]? = some u := fun j hj => ⟨_, List.getElem?_eq_getElem (by simp; omega)⟩
      obtain ⟨u0, e0⟩ := hxs 0 (by omega)
      obtain ⟨u1, e1⟩ := hxs 1 (by omega)
      obtain ⟨u2, e2⟩ := hxs 2 (by omega)
      obtain ⟨u3, e3⟩ := hxs 3 (by omega)
      obtain ⟨u4, e4⟩ := hxs 4 (by omega)
      have E0 := Lib.hid e0
      have E1 := Lib.hid e1
      have E2 := Lib.hid e2
      have E3 := Lib.hid e3
      have E4 := Lib.hid e4
      clear e0 e1 e2 e3 e4 hxs
      go_wp2_with (go_at_call 209; refine (HP.out x _).mono ?_; rintro e w2 ⟨rfl, he2⟩; have ho2 := Ho.out.ext he2; have r0 := ho2.cell E0.out; have r1 := ho2.cell E1.out; have r2 := ho2.cell E2.out; have r3 := ho2.cell E3.out; have r4 := ho2.cell E4.out; rw [Nat.add_zero] at r0; have q0 := ho2.free (k * 5); have q1 := ho2.free (k * 5 + 1); have q2 := ho2.free (k * 5 + 2); have q3 := ho2.free (k * 5 + 3); have q4 := ho2.free (k * 5 + 4))
      go_roundw
      case rel => exact ⟨k + 1, by omega, by go_num, (((((he.tr he2).set (by simp) _).set (by simp) _).set (by simp) _).set (by simp) _).set (by simp) _, by rw [← Hf.out]; exact ((((ho2.st _ _).st _ _).st _ _).st _ _).st _ _⟩
      case measure => simp [intOf]; omega
    · obtain rfl : k = f.length := by omega
      have hfin : f.take f.length ++ List.replicate (f.length - f.length) zpart = f := by simp
      rw [hfin] at hown
      have Ho := Lib.hid hown
      clear hown hfin
      go_wp2
      go_ret
      exact ⟨_, rfl, Ho.out, he⟩
end Go.Proofs.Ytkkegmimofmhpaa
