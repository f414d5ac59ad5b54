/- Parts of one proof, joined. The laws' copies of ints and parts: contracts. Conditions: at most 2^20 elements. The laws' copies of formulas and nodes: contracts. Conditions: at most 2^20 elements. The laws' copies of nodes: contracts. Conditions: at most 2^20 elements. The laws' copies of lists of lists: contract. Conditions: at most 2^20 elements. Zero nodes in memory. Conditions: none. The laws' copies of lists of nodes: contract. The laws' copies of graphs and states: contracts. -/
import Derived.Test.YtmelggoagbhieaaGreatCore
import Derived.Handy
/- The laws' copies of ints and parts: contracts. Conditions: at most 2^20 elements. -/
namespace Go.Proofs.YtmelggoagbhieaaGreat
open Go.RowKit

theorem ints_fill (a : List Int) (k : Nat) {x : Int} (hx : a[k]? = some x) : (ints (a.take k ++ List.replicate (a.length - k) 0)).set k (.int .i64 x) = ints (a.take (k + 1) ++ List.replicate (a.length - (k + 1)) 0) := by
  obtain ⟨hk, rfl⟩ := List.getElem?_eq_some_iff.1 hx
  unfold ints
  rw [← List.map_set (f := Value.int .i64)]
  congr 1
  rw [List.set_append_right _ _ (by simp; omega), take_snoc a k (List.getElem?_eq_getElem hk)]
  have h1 : k - (a.take k).length = 0 := by simp; omega
  rw [h1, show a.length - k = (a.length - (k + 1)) + 1 from by omega, List.replicate_succ, List.set_cons_zero, List.append_assoc]
  rfl

set_option maxHeartbeats 1000000 in
theorem l_toIntS (A : Option Addr) (c : Nat) (a : List Int) (w : World) (h : Rd w 1 A a.length (ints a)) (hb : a.length ≤ 1048576) :
    Calls Tryz.prog 43 #[.slice A a.length c] w fun e w' => ∃ A', e = .returned (.slice A' a.length a.length) ∧ Own w' w.heap.size 3 1 A' a.length a.length (ints a) ∧ Ext w w' := by
  go_enter Tryz.func43, Tryz.ntmps43
  go_wp2_with (at_make; refine wpList_mk rfl rfl eiInt (B := w.heap.size) rfl rfl (by omega) (by omega) (by simp) ?_; intro w1 hown hext)
  rw [made_one _ _ rfl] at hown
  have hu0 : List.replicate a.length (Value.int .i64 0) = ints (a.take 0 ++ List.replicate (a.length - 0) 0) := by simp [ints]
  rw [hu0] at hown
  clear hu0
  go_loopw [4] (fun i wr => ∃ k : Nat, k ≤ a.length ∧ i = .int .i64 k ∧ Ext w wr ∧ Own wr w.heap.size 3 1 (some ⟨w.heap.size, 0, none⟩) a.length a.length (ints (a.take k ++ List.replicate (a.length - k) 0))) (fun i _ => a.length - (intOf i).toNat)
  case atStart => exact ⟨0, Nat.zero_le _, rfl, hext, hown⟩
  case round =>
    clear hown hext
    obtain ⟨k, hk, rfl, he, hown⟩ := hrel
    by_cases hlt : k < a.length
    · obtain ⟨b, o, x, rfl, hx, hcx⟩ := (h.ext he).at1 hlt
      have hbw := blt hcx
      obtain ⟨y, hy⟩ : ∃ y, (ints (a.take k ++ List.replicate (a.length - k) 0))[k]? = some y := ⟨_, List.getElem?_eq_getElem (by simp; omega)⟩
      have hcy := hown.cell hy
      have hfy := hown.free k
      have Hf := Lib.hid (ints_fill a k hx)
      have Ho := Lib.hid hown
      have Hx := Lib.hid hx
      clear hy hown hx
      go_wp2
      go_roundw
      case rel => exact ⟨k + 1, by omega, by go_num, he.set (by simp) _, by rw [← Hf.out]; exact Ho.out.st k _⟩
      case measure => simp [intOf]; omega
    · obtain rfl : k = a.length := by omega
      have hfin : a.take a.length ++ List.replicate (a.length - a.length) 0 = a := by simp
      rw [hfin] at hown
      have Ho := Lib.hid hown
      clear hown hfin
      go_wp2
      go_ret
      exact ⟨_, rfl, Ho.out, he⟩

theorem l_toPart (p : Sg.Part) (w : World) : Calls Tryz.prog 230 #[pv p] w fun e w' => e = .returned (pv p) ∧ Ext w w' := by
  obtain ⟨k, a, b, c, n⟩ := p
  go_enter Tryz.func230, Tryz.ntmps230
  go_wp2
  go_returns
  exact ⟨rfl, (((Ext.rfl' w).al _).al _).al _⟩

/-- parts of value zero -/
def zpart : Sg.Part := ⟨0, 0, 0, 0, 0⟩
theorem parts_fill (f : List Sg.Part) (k : Nat) {p : Sg.Part} (hp : f[k]? = some p) :
    ((((((parts (f.take k ++ List.replicate (f.length - k) zpart)).set (k * 5) (.int .i64 p.kind)).set (k * 5 + 1) (.int .i64 p.a)).set (k * 5 + 2) (.int .i64 p.b)).set (k * 5 + 3) (.int .i64 p.c)).set (k * 5 + 4) (.int .i64 p.n)) = parts (f.take (k + 1) ++ List.replicate (f.length - (k + 1)) zpart) := by
  obtain ⟨hk, rfl⟩ := List.getElem?_eq_some_iff.1 hp
  have e1 : parts (f.take k ++ List.replicate (f.length - k) zpart) = parts (f.take k) ++ (pcs zpart ++ parts (List.replicate (f.length - (k + 1)) zpart)) := by
    rw [show f.length - k = (f.length - (k + 1)) + 1 from by omega, List.replicate_succ]; simp [parts]
  have e2 : parts (f.take (k + 1) ++ List.replicate (f.length - (k + 1)) zpart) = parts (f.take k) ++ (pcs f[k] ++ parts (List.replicate (f.length - (k + 1)) zpart)) := by
    rw [take_snoc f k (List.getElem?_eq_getElem hk), List.append_assoc]; simp [parts]
  have hl : (parts (f.take k)).length = k * 5 := by simp; omega
  rw [e1, e2]
  generalize parts (f.take k) = X at *
  generalize parts (List.replicate (f.length - (k + 1)) zpart) = Y
  subst_vars
  rw [← hl]
  simp [pcs, zpart]
theorem made_parts (f : List Sg.Part) : (madeCells (Value.agg #[.int .i64 0, .int .i64 0, .int .i64 0, .int .i64 0, .int .i64 0]).cells (f.length * 5)).toList = parts (f.take 0 ++ List.replicate (f.length - 0) zpart) := by
  have h1 : (madeCells (Value.agg #[.int .i64 0, .int .i64 0, .int .i64 0, .int .i64 0, .int .i64 0]).cells (f.length * 5)).toList = List.replicate (f.length * 5) (.int .i64 0) := by
    rw [List.eq_replicate_iff]
    refine ⟨by rw [Array.length_toList, size_madeCells], fun b hb => ?_⟩
    show b = _
    change b ∈ (madeCells #[.int .i64 0, .int .i64 0, .int .i64 0, .int .i64 0, .int .i64 0] (f.length * 5)).toList at hb
    simp only [madeCells, Array.toList_map, List.mem_map] at hb
    obtain ⟨j, _, rfl⟩ := hb
    have hj : j % 5 < 5 := Nat.mod_lt _ (by omega)
    show #[Value.int .i64 0, .int .i64 0, .int .i64 0, .int .i64 0, .int .i64 0][j % 5]! = _
    generalize j % 5 = m at hj
    match m, hj with
    | 0, _ => rfl
    | 1, _ => rfl
    | 2, _ => rfl
    | 3, _ => rfl
    | 4, _ => rfl
  have h2 : parts (f.take 0 ++ List.replicate (f.length - 0) zpart) = List.replicate (f.length * 5) (.int .i64 0) := by
    rw [List.eq_replicate_iff]
    refine ⟨by simp, fun b hb => ?_⟩
    unfold parts at hb
    rw [List.mem_flatMap] at hb
    obtain ⟨p, hp, hb⟩ := hb
    simp at hp
    rw [hp.2] at hb
    simpa [pcs, zpart] using hb
  rw [h1, h2]

set_option maxHeartbeats 1000000 in
theorem l_toPartS (A : Option Addr) (c : Nat) (f : List Sg.Part) (w : World) (h : Rd w 5 A f.length (parts f)) (hb : f.length ≤ 1048576) :
    Calls Tryz.prog 214 #[.slice A f.length c] w fun e w' => ∃ A', e = .returned (.slice A' f.length f.length) ∧ Own w' w.heap.size 177 5 A' f.length f.length (parts f) ∧ Ext w w' := by
  have HP := Lib.hid l_toPart
  go_enter Tryz.func214, Tryz.ntmps214
  go_wp2_with (at_make; refine wpList_mk rfl rfl eiPart (B := w.heap.size) rfl rfl (by omega) (by omega) (by simp) ?_; intro w1 hown hext)
  have hu0 : (madeCells (Value.agg #[.int .i64 0, .int .i64 0, .int .i64 0, .int .i64 0, .int .i64 0]).cells (f.length * 5)).toList = parts (f.take 0 ++ List.replicate (f.length - 0) zpart) := made_parts f
  rw [hu0] at hown
  clear hu0
  go_loopw [4] (fun i wr => ∃ k : Nat, k ≤ f.length ∧ i = .int .i64 k ∧ Ext w wr ∧ Own wr w.heap.size 177 5 (some ⟨w.heap.size, 0, none⟩) f.length f.length (parts (f.take k ++ List.replicate (f.length - k) zpart))) (fun i _ => f.length - (intOf i).toNat)
  case atStart => exact ⟨0, Nat.zero_le _, rfl, hext, hown⟩
  case round =>
    clear hown hext
    obtain ⟨k, hk, rfl, he, hown⟩ := hrel
    by_cases hlt : k < f.length
    · obtain ⟨b, o, x, rfl, hx, h0, h1, h2, h3, h4⟩ := (h.ext he).atP hlt
      have hbw := blt h0
      have Hf := Lib.hid (parts_fill f k hx)
      have Hx := Lib.hid hx
      have Ho := Lib.hid hown
      clear hx hown
      have hxs : ∀ j, j < 5 → ∃ u, (parts (f.take k ++ List.replicate (f.length - k) zpart))[k * 5 + j]? = some u := fun j hj => ⟨_, List.getElem?_eq_getElem (by simp; omega)⟩
      obtain ⟨u0, e0⟩ := hxs 0 (by omega)
      obtain ⟨u1, e1⟩ := hxs 1 (by omega)
      obtain ⟨u2, e2⟩ := hxs 2 (by omega)
      obtain ⟨u3, e3⟩ := hxs 3 (by omega)
      obtain ⟨u4, e4⟩ := hxs 4 (by omega)
      have E0 := Lib.hid e0
      have E1 := Lib.hid e1
      have E2 := Lib.hid e2
      have E3 := Lib.hid e3
      have E4 := Lib.hid e4
      clear e0 e1 e2 e3 e4 hxs
      go_wp2_with (go_at_call 230; refine (HP.out x _).mono ?_; rintro e w2 ⟨rfl, he2⟩; have ho2 := Ho.out.ext he2; have r0 := ho2.cell E0.out; have r1 := ho2.cell E1.out; have r2 := ho2.cell E2.out; have r3 := ho2.cell E3.out; have r4 := ho2.cell E4.out; rw [Nat.add_zero] at r0; have q0 := ho2.free (k * 5); have q1 := ho2.free (k * 5 + 1); have q2 := ho2.free (k * 5 + 2); have q3 := ho2.free (k * 5 + 3); have q4 := ho2.free (k * 5 + 4))
      go_roundw
      case rel => exact ⟨k + 1, by omega, by go_num, (((((he.tr he2).set (by simp) _).set (by simp) _).set (by simp) _).set (by simp) _).set (by simp) _, by rw [← Hf.out]; exact ((((ho2.st _ _).st _ _).st _ _).st _ _).st _ _⟩
      case measure => simp [intOf]; omega
    · obtain rfl : k = f.length := by omega
      have hfin : f.take f.length ++ List.replicate (f.length - f.length) zpart = f := by simp
      rw [hfin] at hown
      have Ho := Lib.hid hown
      clear hown hfin
      go_wp2
      go_ret
      exact ⟨_, rfl, Ho.out, he⟩
end Go.Proofs.YtmelggoagbhieaaGreat

/- The laws' copies of formulas and nodes: contracts. Conditions: at most 2^20 elements. -/
namespace Go.Proofs.YtmelggoagbhieaaGreat
open Go.RowKit

set_option maxHeartbeats 1000000 in
theorem l_toFormula (A : Option Addr) (c : Nat) (f : List Sg.Part) (w : World) (h : Rd w 5 A f.length (parts f)) (hb : f.length ≤ 1048576) :
    Calls Tryz.prog 202 #[.agg #[.slice A f.length c]] w fun e w' => ∃ A', e = .returned (.agg #[.slice A' f.length f.length]) ∧ Own w' w.heap.size 177 5 A' f.length f.length (parts f) ∧ Ext w w' := by
  have HC := Lib.hid (fun w h => l_toPartS A c f w h hb)
  have H := Lib.hid h
  clear h
  go_enter Tryz.func202, Tryz.ntmps202
  go_wp2_with (go_at_call 214; refine (HC.out _ (H.out.ext ((((Ext.rfl' w).al _).al _).al _))).mono ?_; rintro e w1 ⟨A', rfl, ho, he1⟩; have k1 := he1.cellE (show (((w.alloc (.cells #[.slice A f.length c] 157)).alloc (.cells #[.slice none 0 0] 91)).alloc (.cells #[.slice none 0 0] 91)).cell? ⟨w.heap.size + 1, 0, none⟩ = some (.slice none 0 0) by simp [go_sem]); obtain ⟨bc, bf⟩ := bcell he1; have hz1 := he1.size)
  have q : ∀ u v : Value, ((w1.setCell ⟨w.heap.size + 1 + 1, 0, none⟩ u).setCell ⟨w.heap.size + 1, 0, none⟩ v).cell? ⟨w.heap.size + 1, 0, none⟩ = some v := by
    intro u v
    have k2 : (w1.setCell ⟨w.heap.size + 1 + 1, 0, none⟩ u).cell? ⟨w.heap.size + 1, 0, none⟩ = some (.slice none 0 0) := by
      rw [World.cell?_setCell_other _ _ _ _ (by intro e; injection e; omega)]; exact k1
    exact World.cell?_setCell_same _ _ _ k2
  refine bodyPost_ret (v := .agg #[.slice A' f.length f.length]) (by simp [results, Tryz.results202, go_sem, q]; try rfl) rfl ?_
  refine ⟨A', rfl, (ho.set (by intro e; have := (ho.lt e).1; simp at this; omega) _ |>.set (by intro e; have := (ho.lt e).1; simp at this; omega) _).mono (by simp; try omega), (((((((Ext.rfl' w).al _).al _).al _).tr he1).set (by simp; omega) _).set (by simp) _)⟩
end Go.Proofs.YtmelggoagbhieaaGreat

/- The laws' copies of nodes: contracts. Conditions: at most 2^20 elements. -/
namespace Go.Proofs.YtmelggoagbhieaaGreat
open Go.RowKit

set_option maxHeartbeats 1000000 in
theorem l_toNode (kd : Int) (A : Option Addr) (c : Nat) (f : List Sg.Part) (w : World) (h : Rd w 5 A f.length (parts f)) (hb : f.length ≤ 1048576) :
    Calls Tryz.prog 167 #[.agg #[.int .i64 kd, .slice A f.length c]] w fun e w' => ∃ A', e = .returned (.agg #[.int .i64 kd, .slice A' f.length f.length]) ∧ Own w' w.heap.size 177 5 A' f.length f.length (parts f) ∧ Ext w w' := by
  have HC := Lib.hid (fun w h => l_toFormula A c f w h hb)
  have H := Lib.hid h
  clear h
  go_enter Tryz.func167, Tryz.ntmps167
  go_wp2_with (go_at_call 202; refine (HC.out _ (H.out.ext ((((Ext.rfl' w).al _).al _).al _))).mono ?_; rintro e w1 ⟨A', rfl, ho, he1⟩; have k0 := he1.cellE (show (((w.alloc (.cells #[.int .i64 kd, .slice A f.length c] 159)).alloc (.cells #[.int .i64 0, .slice none 0 0] 93)).alloc (.cells #[.int .i64 kd, .slice none 0 0] 93)).cell? ⟨w.heap.size + 1, 0, none⟩ = some (.int .i64 0) by simp [go_sem]); have k1 := he1.cellE (show (((w.alloc (.cells #[.int .i64 kd, .slice A f.length c] 159)).alloc (.cells #[.int .i64 0, .slice none 0 0] 93)).alloc (.cells #[.int .i64 kd, .slice none 0 0] 93)).cell? ⟨w.heap.size + 1, 1, none⟩ = some (.slice none 0 0) by simp [go_sem]); have hz1 := he1.size; obtain ⟨bc, bf⟩ := bcell he1)
  have q0 : ∀ u v z : Value, (((w1.setCell ⟨w.heap.size + 1 + 1, 1, none⟩ u).setCell ⟨w.heap.size + 1, 0, none⟩ v).setCell ⟨w.heap.size + 1, 1, none⟩ z).cell? ⟨w.heap.size + 1, 0, none⟩ = some v := by
    intro u v z
    rw [World.cell?_setCell_other _ _ _ _ (by intro e; injection e; omega)]
    refine World.cell?_setCell_same _ _ _ (u := .int .i64 0) ?_
    rw [World.cell?_setCell_other _ _ _ _ (by intro e; injection e; omega)]
    exact k0
  have q1 : ∀ u v z : Value, (((w1.setCell ⟨w.heap.size + 1 + 1, 1, none⟩ u).setCell ⟨w.heap.size + 1, 0, none⟩ v).setCell ⟨w.heap.size + 1, 1, none⟩ z).cell? ⟨w.heap.size + 1, 1, none⟩ = some z := by
    intro u v z
    refine World.cell?_setCell_same _ _ _ (u := .slice none 0 0) ?_
    rw [World.cell?_setCell_other _ _ _ _ (by intro e; injection e; omega)]
    rw [World.cell?_setCell_other _ _ _ _ (by intro e; injection e; omega)]
    exact k1
  refine bodyPost_ret (v := .agg #[.int .i64 kd, .slice A' f.length f.length]) (by simp [results, Tryz.results167, go_sem, q0, q1]; try rfl) rfl ?_
  have hne : ∀ b, b < w.heap.size + 1 + 1 + 1 → blk A' ≠ some b := by intro b hb e; have := (ho.lt e).1; simp at this; omega
  have hz : w.heap.size + 1 + 1 + 1 ≤ w1.heap.size := by simpa using hz1
  exact ⟨A', rfl, (((ho.set (hne (w.heap.size + 1 + 1) (by omega)) _).set (hne (w.heap.size + 1) (by omega)) _).set (hne (w.heap.size + 1) (by omega)) _).mono (by simp; try omega), ((((((((Ext.rfl' w).al _).al _).al _).tr he1).set (show w.heap.size ≤ w.heap.size + 1 + 1 by omega) _).set (show w.heap.size ≤ w.heap.size + 1 by omega) _).set (show w.heap.size ≤ w.heap.size + 1 by omega) _)⟩
end Go.Proofs.YtmelggoagbhieaaGreat

/- The laws' copies of lists of lists: contract. Conditions: at most 2^20 elements. -/
namespace Go.Proofs.YtmelggoagbhieaaGreat
open Go.RowKit

theorem fill1 (hs : List Value) (k n : Nat) (h : hs.length = k) (hk : k < n) (z x : Value) : (hs ++ List.replicate (n - k) z).set k x = (hs ++ [x]) ++ List.replicate (n - (k + 1)) z := by
  rw [List.set_append_right _ _ (by omega), h, Nat.sub_self, show n - k = (n - (k + 1)) + 1 from by omega, List.replicate_succ, List.set_cons_zero, List.append_assoc]
  rfl

set_option maxHeartbeats 1000000 in
theorem l_toIntSS (A : Option Addr) (c : Nat) (ll : List (List Int)) (w : World) (h : RdL w A ll) :
    Calls Tryz.prog 108 #[.slice A ll.length c] w fun e w' => ∃ A' hs, e = .returned (.slice A' ll.length ll.length) ∧ OwnL w' w.heap.size A' ll.length ll hs ∧ Ext w w' := by
  have hb := h.1
  go_enter Tryz.func108, Tryz.ntmps108
  go_wp2_with (at_make; refine wpList_mk rfl rfl eiInts (B := w.heap.size) rfl rfl (by omega) (by omega) (by simp) ?_; intro w1 hown hext)
  rw [made_one _ _ rfl] at hown
  go_loopw [4] (fun i wr => ∃ (k : Nat) (hs : List (Option Addr × Nat)), k ≤ ll.length ∧ i = .int .i64 k ∧ hs.length = k ∧ Ext w wr ∧ InnD wr w.heap.size 3 1 w.heap.size (listIts ll) hs ∧ Own wr w.heap.size 26 1 (some ⟨w.heap.size, 0, none⟩) ll.length ll.length (dcells (listIts ll) hs ++ List.replicate (ll.length - k) (.slice none 0 0))) (fun i _ => ll.length - (intOf i).toNat)
  case atStart => exact ⟨0, [], Nat.zero_le _, rfl, rfl, hext, InnD.nil _ _ _ _ _ _, by rw [dcells_nil]; exact hown⟩
  case round =>
    clear hown hext
    obtain ⟨k, hs, hk, rfl, hlen, he, hinn, hown⟩ := hrel
    have hwr : w.heap.size < wr.heap.size := (hown.lt (g := w.heap.size) rfl).2
    have hdl : (dcells (listIts ll) hs).length = k := by rw [length_dcells (listIts_pre ll) (by simp; omega), hlen, Nat.mul_one]
    by_cases hlt : k < ll.length
    · obtain ⟨l, b, o, Al, cl, hl, rfl, hc, hr, hll⟩ := (h.ext he).at_ hlt
      have hbw := blt hc
      have HC := Lib.hid (fun w h => l_toIntS Al cl l w h hll)
      obtain ⟨y, hy⟩ : ∃ y, (dcells (listIts ll) hs ++ List.replicate (ll.length - k) (.slice none 0 0))[k]? = some y := ⟨_, List.getElem?_eq_getElem (by simp [hdl]; omega)⟩
      have Hy := Lib.hid hy
      have Ho := Lib.hid hown
      have Hl := Lib.hid hl
      have Hinn := Lib.hid hinn
      have Hlen := Lib.hid hlen
      have Hdl := Lib.hid hdl
      clear hy hown hl hinn hlen hdl
      go_wp2_with (go_at_call 43; refine (HC.out _ hr).mono ?_; rintro e w2 ⟨A2, rfl, ho2, he2⟩; have hor := Ho.out.ext he2; have q0 := hor.cell Hy.out; have q1 := hor.free k)
      go_roundw
      case rel =>
        have hat : (listIts ll)[hs.length]? = some ⟨[], l.length, ints l⟩ := by rw [Hlen.out]; exact listIts_at Hl.out
        refine ⟨k + 1, hs ++ [(A2, l.length)], by omega, by go_num, by simp [Hlen.out], (he.tr he2).set (by simp) _, (Hinn.out.snoc he2 (by omega) hwr hat ho2).st _ _, ?_⟩
        rw [dcells_snoc _ hat, show itc ⟨[], l.length, ints l⟩ (A2, l.length) = [.slice A2 l.length l.length] from rfl, ← fill1 _ k ll.length Hdl.out hlt]
        exact hor.st k _
      case measure => simp [intOf]; omega
    · obtain rfl : k = ll.length := by omega
      rw [Nat.sub_self, List.replicate_zero, List.append_nil] at hown
      have Hfin := Lib.hid (hinn.own (eo := 26) (so := 1) (c := ll.length) (by simp [hlen]) (by simpa using hown))
      clear hown hinn hlen hdl
      go_wp2
      go_ret
      exact ⟨_, hs, rfl, Hfin.out, he⟩
end Go.Proofs.YtmelggoagbhieaaGreat

/- Zero nodes in memory. Conditions: none. -/
namespace Go.Proofs.YtmelggoagbhieaaGreat
open Go.RowKit
theorem fill2 (hs Z : List Value) (k : Nat) (h : hs.length = k * 2) (z0 z1 x y : Value) : ((hs ++ (z0 :: z1 :: Z)).set (k * 2) x).set (k * 2 + 1) y = (hs ++ [x, y]) ++ Z := by
  rw [← h]
  simp
def zs (m : Nat) : List Value := (List.replicate m [Value.int .i64 0, .slice none 0 0]).flatten
theorem zs_succ (m : Nat) : zs (m + 1) = .int .i64 0 :: .slice none 0 0 :: zs m := by simp [zs, List.replicate_succ]
theorem length_zs (m : Nat) : (zs m).length = m * 2 := by
  induction m with
  | zero => rfl
  | succ m ih => rw [zs_succ]; simp [ih]; omega
theorem zs_get (m j : Nat) (h : j < m * 2) : (zs m)[j]? = some (if j % 2 = 0 then .int .i64 0 else .slice none 0 0) := by
  induction m generalizing j with
  | zero => omega
  | succ m ih =>
    rw [zs_succ]
    match j, h with
    | 0, _ => rfl
    | 1, _ => rfl
    | j + 2, h =>
      simp only [List.getElem?_cons_succ]
      rw [ih j (by omega), show (j + 2) % 2 = j % 2 from by omega]
theorem made_nodes (n : Nat) : (madeCells (Value.agg #[.int .i64 0, .slice none 0 0]).cells (n * 2)).toList = zs n := by
  apply List.ext_getElem?
  intro j
  by_cases hj : j < n * 2
  · rw [zs_get n j hj]
    change ((madeCells #[.int .i64 0, .slice none 0 0] (n * 2)).toList)[j]? = _
    have hm : j % 2 = 0 ∨ j % 2 = 1 := by omega
    rcases hm with hm | hm <;> simp [madeCells, hj, hm]
  · rw [List.getElem?_eq_none (by rw [Array.length_toList, size_madeCells]; omega), List.getElem?_eq_none (by rw [length_zs]; omega)]
end Go.Proofs.YtmelggoagbhieaaGreat

/- The laws' copies of lists of nodes: contract. -/
namespace Go.Proofs.YtmelggoagbhieaaGreat
open Go.RowKit

set_option maxHeartbeats 1000000 in
theorem l_toNodeS (A : Option Addr) (c : Nat) (g : Sg.Graph) (w : World) (h : RdN w A g) :
    Calls Tryz.prog 107 #[.slice A g.length c] w fun e w' => ∃ A' hs, e = .returned (.slice A' g.length g.length) ∧ OwnN w' w.heap.size A' g.length g hs ∧ Ext w w' := by
  have hb := h.1
  go_enter Tryz.func107, Tryz.ntmps107
  go_wp2_with (at_make; refine wpList_mk rfl rfl eiNode (B := w.heap.size) rfl rfl (by omega) (by omega) (by simp) ?_; intro w1 hown hext)
  rw [made_nodes] at hown
  go_loopw [4] (fun i wr => ∃ (k : Nat) (hs : List (Option Addr × Nat)), k ≤ g.length ∧ i = .int .i64 k ∧ hs.length = k ∧ Ext w wr ∧ InnD wr w.heap.size 177 5 w.heap.size (nodeIts g) hs ∧ Own wr w.heap.size 93 2 (some ⟨w.heap.size, 0, none⟩) g.length g.length (dcells (nodeIts g) hs ++ zs (g.length - k))) (fun i _ => g.length - (intOf i).toNat)
  case atStart => exact ⟨0, [], Nat.zero_le _, rfl, rfl, hext, InnD.nil _ _ _ _ _ _, by rw [dcells_nil]; exact hown⟩
  case round =>
    clear hown hext
    obtain ⟨k, hs, hk, rfl, hlen, he, hinn, hown⟩ := hrel
    have hwr : w.heap.size < wr.heap.size := (hown.lt (g := w.heap.size) rfl).2
    have hdl : (dcells (nodeIts g) hs).length = k * 2 := by rw [length_dcells (nodeIts_pre g) (by simp; omega), hlen]
    by_cases hlt : k < g.length
    · obtain ⟨⟨nk, nf⟩, b, o, Al, cl, hl, rfl, h0, h1, hr, hll⟩ := (h.ext he).at_ hlt
      dsimp only at *
      have hbw := blt h0
      have HC := Lib.hid (fun w h => l_toNode nk Al cl nf w h hll)
      have hz : zs (g.length - k) = .int .i64 0 :: .slice none 0 0 :: zs (g.length - (k + 1)) := by rw [show g.length - k = (g.length - (k + 1)) + 1 from by omega, zs_succ]
      rw [hz] at hown
      have hy0 : (dcells (nodeIts g) hs ++ (.int .i64 0 :: .slice none 0 0 :: zs (g.length - (k + 1))))[k * 2]? = some (.int .i64 0) := by rw [List.getElem?_append_right (by omega), hdl]; simp
      have hy1 : (dcells (nodeIts g) hs ++ (.int .i64 0 :: .slice none 0 0 :: zs (g.length - (k + 1))))[k * 2 + 1]? = some (.slice none 0 0) := by rw [List.getElem?_append_right (by omega), hdl]; simp
      have Hy0 := Lib.hid hy0
      have Hy1 := Lib.hid hy1
      have Ho := Lib.hid hown
      have Hl := Lib.hid hl
      have Hinn := Lib.hid hinn
      have Hlen := Lib.hid hlen
      have Hdl := Lib.hid hdl
      clear hown hl hinn hz hlen hdl hy0 hy1
      go_wp2_with (go_at_call 167; refine (HC.out _ hr).mono ?_; rintro e w2 ⟨A2, rfl, ho2, he2⟩; have hor := Ho.out.ext he2; have q0 := hor.cell Hy0.out; have q1 := hor.cell Hy1.out; have f0 := hor.free (k * 2); have f1 := hor.free (k * 2 + 1))
      go_roundw
      case rel =>
        have hat : (nodeIts g)[hs.length]? = some ⟨[.int .i64 nk], nf.length, parts nf⟩ := by rw [Hlen.out]; exact nodeIts_at Hl.out
        refine ⟨k + 1, hs ++ [(A2, nf.length)], by omega, by go_num, by simp [Hlen.out], ((he.tr he2).set (by simp) _).set (by simp) _, ((Hinn.out.snoc he2 (by omega) hwr hat ho2).st _ _).st _ _, ?_⟩
        have := (hor.st (k * 2) (.int .i64 nk)).st (k * 2 + 1) (.slice A2 nf.length nf.length)
        rw [fill2 _ _ k Hdl.out] at this
        rw [dcells_snoc _ hat]
        exact this
      case measure => simp [intOf]; omega
    · obtain rfl : k = g.length := by omega
      rw [Nat.sub_self, show zs 0 = [] from rfl, List.append_nil] at hown
      have Hfin := Lib.hid (hinn.own (eo := 93) (so := 2) (c := g.length) (by simp [hlen]) (by simpa using hown))
      clear hown hinn hlen hdl
      go_wp2
      go_ret
      exact ⟨_, hs, rfl, Hfin.out, he⟩
end Go.Proofs.YtmelggoagbhieaaGreat

/- The laws' copies of graphs and states: contracts. -/
namespace Go.Proofs.YtmelggoagbhieaaGreat
open Go.RowKit

set_option maxHeartbeats 1000000 in
theorem l_toGraph (A : Option Addr) (c : Nat) (g : Sg.Graph) (w : World) (h : RdN w A g) :
    Calls Tryz.prog 31 #[.agg #[.slice A g.length c]] w fun e w' => ∃ A' hs, e = .returned (.agg #[.slice A' g.length g.length]) ∧ OwnN w' w.heap.size A' g.length g hs ∧ Ext w w' := by
  have HC := Lib.hid (fun w h => l_toNodeS A c g w h)
  have H := Lib.hid h
  clear h
  go_enter Tryz.func31, Tryz.ntmps31
  go_wp2_with (go_at_call 107; refine (HC.out _ (H.out.ext ((((Ext.rfl' w).al _).al _).al _))).mono ?_; rintro e w1 ⟨A', hs, rfl, ho, he1⟩; have k1 := he1.cellE (show (((w.alloc (.cells #[.slice A g.length c] 46)).alloc (.cells #[.slice none 0 0] 25)).alloc (.cells #[.slice none 0 0] 25)).cell? ⟨w.heap.size + 1, 0, none⟩ = some (.slice none 0 0) by simp [go_sem]); obtain ⟨bc, bf⟩ := bcell he1; have hz1 := he1.size)
  have q : ∀ u v : Value, ((w1.setCell ⟨w.heap.size + 1 + 1, 0, none⟩ u).setCell ⟨w.heap.size + 1, 0, none⟩ v).cell? ⟨w.heap.size + 1, 0, none⟩ = some v := by
    intro u v
    have k2 : (w1.setCell ⟨w.heap.size + 1 + 1, 0, none⟩ u).cell? ⟨w.heap.size + 1, 0, none⟩ = some (.slice none 0 0) := by
      rw [World.cell?_setCell_other _ _ _ _ (by intro e; injection e; omega)]; exact k1
    exact World.cell?_setCell_same _ _ _ k2
  refine bodyPost_ret (v := .agg #[.slice A' g.length g.length]) (by simp [results, Tryz.results31, go_sem, q]; try rfl) rfl ?_
  refine ⟨A', hs, rfl, ((ho.below (by simp) _).below (by simp) _).mono (by simp; try omega), (((((((Ext.rfl' w).al _).al _).al _).tr he1).set (by simp; omega) _).set (by simp) _)⟩

set_option maxHeartbeats 2000000 in
theorem l_toEager (Av Ar : Option Addr) (cv cr : Nat) (v : List Int) (r : List (List Int)) (w : World) (hv : Rd w 1 Av v.length (ints v)) (hvl : v.length ≤ 1048576) (hr : RdL w Ar r) :
    Calls Tryz.prog 49 #[.agg #[.slice Av v.length cv, .slice Ar r.length cr]] w fun e w' => ∃ A1 A2 hs, e = .returned (.agg #[.slice A1 v.length v.length, .slice A2 r.length r.length]) ∧
      Own w' w.heap.size 3 1 A1 v.length v.length (ints v) ∧ OwnL w' w.heap.size A2 r.length r hs ∧ (∀ b, blk A1 = some b → ¬ fpD A2 hs b) ∧ Ext w w' := by
  have HC := Lib.hid (fun w h => l_toIntS Av cv v w h hvl)
  have HD := Lib.hid (fun w h => l_toIntSS Ar cr r w h)
  have Hv := Lib.hid hv
  have Hr := Lib.hid hr
  have HE := Lib.hid ((((Ext.rfl' w).al (.cells #[.slice Av v.length cv, .slice Ar r.length cr] 68)).al (.cells #[.slice none 0 0, .slice none 0 0] 29)).al (.cells #[.slice none 0 0, .slice none 0 0] 29))
  clear hv hr
  go_enter Tryz.func49, Tryz.ntmps49
  go_wp2_with (go_at_call 43; refine (HC.out _ (Hv.out.ext HE.out)).mono ?_; rintro e w1 ⟨A1, rfl, ho1, he1⟩; obtain ⟨bc, bf⟩ := bcell he1; have hz1 := he1.size)
  refine (HD.out _ (Hr.out.ext ((HE.out.tr he1).set (by simp; omega) _))).mono ?_
  rintro e w2 ⟨A2, hs, rfl, ho2, he2⟩
  obtain ⟨bc2, bf2⟩ := bcell he2
  have hz2 := he2.size
  have k10 : w2.cell? ⟨w.heap.size + 1, 0, none⟩ = some (.slice none 0 0) := he2.cellE (by rw [World.cell?_setCell_other _ _ _ _ (by intro e; injection e; omega)]; exact he1.cellE (by simp [go_sem]))
  have k11 : w2.cell? ⟨w.heap.size + 1, 1, none⟩ = some (.slice none 0 0) := he2.cellE (by rw [World.cell?_setCell_other _ _ _ _ (by intro e; injection e; omega)]; exact he1.cellE (by simp [go_sem]))
  have k20 : w2.cell? ⟨w.heap.size + 1 + 1, 0, none⟩ = some (.slice A1 v.length v.length) := he2.cellE (World.cell?_setCell_same _ _ _ (u := .slice none 0 0) (he1.cellE (by simp [go_sem])))
  have k21 : w2.cell? ⟨w.heap.size + 1 + 1, 1, none⟩ = some (.slice none 0 0) := he2.cellE (by rw [World.cell?_setCell_other _ _ _ _ (by intro e; injection e; omega)]; exact he1.cellE (by simp [go_sem]))
  have f11 : ∀ j, w1.frozen? ⟨w.heap.size + 1, j, none⟩ = false := fun j => (bf _ _ (by simp)).trans (by simp [go_sem])
  have f12 : ∀ j, w1.frozen? ⟨w.heap.size + 1 + 1, j, none⟩ = false := fun j => (bf _ _ (by simp)).trans (by simp [go_sem])
  have f0 : w2.frozen? ⟨w.heap.size + 1, 0, none⟩ = false := (bf2 _ _ (by simp; simp at hz1; omega)).trans (by rw [World.frozen?_setCell]; exact f11 0)
  have f1 : w2.frozen? ⟨w.heap.size + 1, 1, none⟩ = false := (bf2 _ _ (by simp; simp at hz1; omega)).trans (by rw [World.frozen?_setCell]; exact f11 1)
  have f2 : w2.frozen? ⟨w.heap.size + 1 + 1, 1, none⟩ = false := (bf2 _ _ (by simp; simp at hz1; omega)).trans (by rw [World.frozen?_setCell]; exact f12 1)
  clear bc bf bc2 bf2 f11 f12
  have Ho1 := Lib.hid ho1
  have Ho2 := Lib.hid ho2
  have He1 := Lib.hid he1
  have He2 := Lib.hid he2
  clear ho1 ho2 he1 he2
  go_wp2

  have q0 : ∀ u v z : Value, (((w2.setCell ⟨w.heap.size + 1 + 1, 1, none⟩ u).setCell ⟨w.heap.size + 1, 0, none⟩ v).setCell ⟨w.heap.size + 1, 1, none⟩ z).cell? ⟨w.heap.size + 1, 0, none⟩ = some v := by
    intro u v z
    rw [World.cell?_setCell_other _ _ _ _ (by intro e; injection e; omega)]
    refine World.cell?_setCell_same _ _ _ (u := .slice none 0 0) ?_
    rw [World.cell?_setCell_other _ _ _ _ (by intro e; injection e; omega)]
    exact k10
  have q1 : ∀ u v z : Value, (((w2.setCell ⟨w.heap.size + 1 + 1, 1, none⟩ u).setCell ⟨w.heap.size + 1, 0, none⟩ v).setCell ⟨w.heap.size + 1, 1, none⟩ z).cell? ⟨w.heap.size + 1, 1, none⟩ = some z := by
    intro u v z
    refine World.cell?_setCell_same _ _ _ (u := .slice none 0 0) ?_
    rw [World.cell?_setCell_other _ _ _ _ (by intro e; injection e; omega)]
    rw [World.cell?_setCell_other _ _ _ _ (by intro e; injection e; omega)]
    exact k11
  refine bodyPost_ret (v := .agg #[.slice A1 v.length v.length, .slice A2 r.length r.length]) (by simp [results, Tryz.results49, go_sem, q0, q1]; try rfl) rfl ?_
  have z1 : w.heap.size + 1 + 1 + 1 ≤ w1.heap.size := by simpa using hz1
  have z2 : w1.heap.size ≤ w2.heap.size := by simpa using hz2
  have a1 := Ho1.out.set (p := ⟨w.heap.size + 1 + 1, 0, none⟩) (by intro e; have := (Ho1.out.lt e).1; simp at this; omega) (.slice A1 v.length v.length)
  have a2 := a1.ext He2.out
  have hne : ∀ b, b < w.heap.size + 1 + 1 + 1 → blk A1 ≠ some b := by intro b hb e; have := (Ho1.out.lt e).1; simp at this; omega
  have hb2 : w.heap.size + 1 + 1 < (w1.setCell ⟨w.heap.size + 1 + 1, 0, none⟩ (.slice A1 v.length v.length)).heap.size := by simp; omega
  have hb3 : w.heap.size + 1 < (w1.setCell ⟨w.heap.size + 1 + 1, 0, none⟩ (.slice A1 v.length v.length)).heap.size := by simp; omega
  refine ⟨A1, A2, hs, rfl, (((a2.set (hne (w.heap.size + 1 + 1) (by omega)) _).set (hne (w.heap.size + 1) (by omega)) _).set (hne (w.heap.size + 1) (by omega)) _).mono (by simp; try omega),
    (((Ho2.out.below (p := ⟨w.heap.size + 1 + 1, 1, none⟩) hb2 _).below (p := ⟨w.heap.size + 1, 0, none⟩) hb3 _).below (p := ⟨w.heap.size + 1, 1, none⟩) hb3 _).mono (by simp; try omega), ?_, ?_⟩
  · intro b hb hf
    have h1 := (Ho1.out.lt hb).2
    have h2 := (Ho2.out.lt hf).1
    simp at h2
    omega
  · exact ((((((HE.out.tr He1.out).set (show w.heap.size ≤ w.heap.size + 1 + 1 by omega) _).tr He2.out).set (show w.heap.size ≤ w.heap.size + 1 + 1 by omega) _).set (show w.heap.size ≤ w.heap.size + 1 by omega) _).set (show w.heap.size ≤ w.heap.size + 1 by omega) _)
end Go.Proofs.YtmelggoagbhieaaGreat
