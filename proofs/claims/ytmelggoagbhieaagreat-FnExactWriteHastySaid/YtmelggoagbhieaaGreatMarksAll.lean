/- Parts of one proof, joined. The laws' marks: every number of a value is written anew, one after the other; and held. Contracts. Conditions: bounds on lengths. The laws' marks of parts, nodes, graphs, states: contracts. Conditions: bounds on lengths. -/
import Derived.Test.YtmelggoagbhieaaGreatCore
/- The laws' marks: every number of a value is written anew, one after the other; and held. Contracts. Conditions: bounds on lengths. -/
namespace Go.Proofs.YtmelggoagbhieaaGreat
open Go.RowKit

set_option maxHeartbeats 1000000 in
theorem l_markIntS {B : Nat} (A : Option Addr) (c : Nat) (l : List Int) (k : Int) (w : World) (h : Own w B 3 1 A l.length c (ints l)) (hk : 0 ≤ k) (hb : k + (l.length : Int) ≤ 1000000000000) :
    Calls Tryz.prog 39 #[.slice A l.length c, .int .i64 k] w fun e w' => e = .returned (.int .i64 (k + (l.length : Int))) ∧ Own w' B 3 1 A l.length c (ints (num k l.length)) ∧ Mod (fun b => blk A = some b) w w' := by
  have H := Lib.hid h
  go_enter Tryz.func39, Tryz.ntmps39
  go_wp2
  go_loopw [1, 5] (fun s i wr => ∃ j : Nat, j ≤ l.length ∧ i = .int .i64 j ∧ s = .int .i64 (k + (j : Int)) ∧ Own wr B 3 1 A l.length c (ints (num k j ++ l.drop j)) ∧ Mod (fun b => blk A = some b) w wr) (fun _ i _ => l.length - (intOf i).toNat)
  case atStart => exact ⟨0, Nat.zero_le _, rfl, by simp, by simpa [num] using h, Mod.rfl' _ _⟩
  case round =>
    clear h
    obtain ⟨j, hj, rfl, rfl, hown, hm⟩ := hrel
    by_cases hlt : j < l.length
    · obtain ⟨g, rfl, hg⟩ := hown.at_ (by omega)
      have hl : l[j]? = some l[j] := List.getElem?_eq_getElem hlt
      have hx : (ints (num k j ++ l.drop j))[j]? = some (.int .i64 l[j]) := by rw [ints_at, List.getElem?_append_right (by simp)]; simp [hl]
      have hc := hown.cell hx
      have hf := hown.free j
      have hgw := (hown.lt (g := g) rfl).2
      have hset : (ints (num k j ++ l.drop j)).set j (.int .i64 (k + (j : Int))) = ints (num k (j + 1) ++ l.drop (j + 1)) := by
        rw [ints_set, set_mid _ _ j l[j] _ (by simp) (by rw [drop_cons l j hl]; simp), num_succ]
        simp
      have Hs := Lib.hid hset
      have Ho := Lib.hid hown
      have Hm := Lib.hid hm
      clear hown hm hset hx hl
      go_wp2
      go_roundw
      case rel => exact ⟨j + 1, by omega, by go_num, by simp only [Value.int.injEq, true_and]; omega, by rw [← Hs.out]; exact Ho.out.st j _, Hm.out.set (p := ⟨g, j, none⟩) (.inl rfl) _⟩
      case measure => simp [intOf]; omega
    · obtain rfl : j = l.length := by omega
      rw [List.drop_length, List.append_nil] at hown
      have Ho := Lib.hid hown
      clear hown
      go_wp2
      go_ret
      exact ⟨rfl, Ho.out, hm⟩

set_option maxHeartbeats 1000000 in
theorem l_heldIntS (A : Option Addr) (c n : Nat) (k : Int) (w : World) (h : Rd w 1 A n (ints (num k n))) (hk : 0 ≤ k) (hb : k + (n : Int) ≤ 1000000000000) :
    Calls Tryz.prog 41 #[.slice A n c, .int .i64 k] w fun e w' => e = .returned (.int .i64 (k + (n : Int))) ∧ w = w' := by
  go_enter Tryz.func41, Tryz.ntmps41
  go_wp2
  go_loop [1, 5] (fun s i => ∃ j : Nat, j ≤ n ∧ i = .int .i64 j ∧ s = .int .i64 (k + (j : Int))) (fun _ i => n - (intOf i).toNat)
  case atStart => exact ⟨0, Nat.zero_le _, rfl, by simp⟩
  case round =>
    obtain ⟨j, hj, rfl, rfl⟩ := hrel
    by_cases hlt : j < n
    · obtain ⟨b, o, x, rfl, hx, hc⟩ := h.at1 hlt
      rw [num_at k n j hlt] at hx
      injection hx with hx
      subst hx
      have hne : ((k + (j : Int)) != (k + (j : Int))) = false := by simp
      go_wp2
      go_round
      case rel => exact ⟨j + 1, by omega, by go_num, by simp only [Value.int.injEq, true_and]; omega⟩
      case measure => simp [intOf]; omega
    · obtain rfl : j = n := by omega
      go_wp2
      go_ret
      exact ⟨rfl, rfl⟩

theorem OwnL.upd {w w' : World} {B c : Nat} {A : Option Addr} {ll : List (List Int)} {hs : List (Option Addr × Nat)} (k : OwnL w B A c ll hs) {j : Nat} {l l' : List Int} {h0 : Option Addr × Nat} (hl : ll[j]? = some l) (hh : hs[j]? = some h0) (hn : l'.length = l.length)
    (own' : Own w' B 3 1 h0.1 l'.length h0.2 (ints l')) (m : Mod (fun b => blk h0.1 = some b) w w') : OwnL w' B A c (ll.set j l') hs := by
  have e : (listIts ll).set j ⟨[], l'.length, ints l'⟩ = listIts (ll.set j l') := by simp [listIts, List.map_set]
  unfold OwnL
  rw [← e]
  refine OwnD.upd k hh ?_ own' fun b _ h1 _ => ?_
  · rw [dcells_same (it' := ⟨[], l'.length, ints l'⟩) (listIts_at hl) rfl hn]
    exact k.out.keep fun g hg => m.block g (k.out.lt hg).2 (fun e => k.dio j h0 hh g hg e)
  · by_cases hb : b < w.heap.size
    · exact m.block b hb h1
    · have := (k.lt ‹fpD A hs b›).2
      omega

set_option maxHeartbeats 2000000 in
theorem l_markIntSS {B : Nat} (A : Option Addr) (c : Nat) (ll : List (List Int)) (hs : List (Option Addr × Nat)) (k : Int) (w : World) (h : OwnL w B A c ll hs) (hk : 0 ≤ k) (hb : k + (totL ll : Int) ≤ 1000000000000) (hbl : ll.length ≤ 1048576) :
    Calls Tryz.prog 116 #[.slice A ll.length c, .int .i64 k] w fun e w' => e = .returned (.int .i64 (k + (totL ll : Int))) ∧ OwnL w' B A c (numL k ll) hs ∧ Mod (fpD A hs) w w' := by
  have H := Lib.hid h
  have HM := Lib.hid (@l_markIntS B)
  go_enter Tryz.func116, Tryz.ntmps116
  go_wp2
  go_loopw [1, 5] (fun s i wr => ∃ j : Nat, j ≤ ll.length ∧ i = .int .i64 j ∧ s = .int .i64 (k + (totL (ll.take j) : Int)) ∧ OwnL wr B A c (numL k (ll.take j) ++ ll.drop j) hs ∧ Mod (fpD A hs) w wr) (fun _ i _ => ll.length - (intOf i).toNat)
  case atStart => exact ⟨0, Nat.zero_le _, rfl, by simp [totL], by simpa [numL] using h, Mod.rfl' _ _⟩
  case round =>
    clear h
    obtain ⟨j, hj, rfl, rfl, hown, hm⟩ := hrel
    by_cases hlt : j < ll.length
    · obtain ⟨l, hl⟩ : ∃ l, ll[j]? = some l := ⟨_, List.getElem?_eq_getElem hlt⟩
      have hl2 : (numL k (ll.take j) ++ ll.drop j)[j]? = some l := by rw [List.getElem?_append_right (by simp; omega)]; simp [hl, Nat.min_eq_left hj]
      obtain ⟨h0, hh, hin⟩ := hown.at_ (listIts_at hl2)
      obtain ⟨g, rfl, hg⟩ := hown.out.at_ (by simp; omega)
      have hc := hown.out.cell (j := j) (u := .slice h0.1 l.length h0.2) (by
        have := at_dcells (listIts_pre (numL k (ll.take j) ++ ll.drop j)) j 0 (by omega) (listIts_at hl2) hh
        rw [Nat.mul_one, Nat.add_zero] at this
        rw [this]; rfl)
      have htk : totL (ll.take (j + 1)) = totL (ll.take j) + l.length := by rw [take_snoc ll j hl, totL_snoc]
      have htl := totL_take_le ll (j + 1)
      have hset : (numL k (ll.take j) ++ ll.drop j).set j (num (k + (totL (ll.take j) : Int)) l.length) = numL k (ll.take (j + 1)) ++ ll.drop (j + 1) := by
        rw [set_mid _ _ j l _ (by simp; omega) (by rw [drop_cons ll j hl]; simp), take_snoc ll j hl, numL_snoc]
        simp
      obtain ⟨t, ht⟩ : ∃ t, t = totL (ll.take j) := ⟨_, rfl⟩
      rw [← ht] at htk hset
      rw [htk] at htl
      rw [← ht]
      have Hs := Lib.hid hset
      have Ht := Lib.hid htk
      have Ho := Lib.hid hown
      have Hm := Lib.hid hm
      have Hl2 := Lib.hid hl2
      have Hh := Lib.hid hh
      have Hin := Lib.hid hin
      have hkt : 0 ≤ k + (t : Int) := by omega
      clear hown hm hset hl hl2 hh hin ht htk
      go_wp2_with fail
      refine (HM.out h0.1 h0.2 l (k + (t : Int)) _ Hin.out hkt (by omega)).mono ?_
      rintro e w1 ⟨rfl, ho1, hm1⟩
      have ho2 := OwnL.upd (l' := num (k + (t : Int)) l.length) Ho.out Hl2.out Hh.out (by simp) (by simpa using ho1) hm1
      rw [Hs.out] at ho2
      have Ho2 := Lib.hid ho2
      have Hm1 := Lib.hid hm1
      clear ho1 hm1 ho2
      go_wp2
      go_roundw
      case rel => exact ⟨j + 1, by omega, by go_num, by rw [Ht.out]; simp only [Value.int.injEq, true_and]; omega, Ho2.out, Hm.out.tr Hm1.out fun x hx => .inl (.inr ⟨h0, List.mem_of_getElem? Hh.out, hx⟩)⟩
      case measure => simp [intOf]; omega
    · obtain rfl : j = ll.length := by omega
      rw [List.drop_length, List.append_nil, List.take_length] at hown
      have Ho := Lib.hid hown
      clear hown
      have e1 : ll.take ll.length = ll := List.take_length
      rw [e1]
      clear e1
      go_wp2
      go_ret
      exact ⟨rfl, Ho.out, hm⟩

set_option maxHeartbeats 2000000 in
theorem l_heldIntSS (A : Option Addr) (c : Nat) (ll : List (List Int)) (k : Int) (w : World) (h : RdL w A (numL k ll)) (hk : 0 ≤ k) (hb : k + (totL ll : Int) ≤ 1000000000000) :
    Calls Tryz.prog 117 #[.slice A ll.length c, .int .i64 k] w fun e w' => e = .returned (.int .i64 (k + (totL ll : Int))) ∧ w = w' := by
  have hbl := h.1
  simp only [length_numL] at hbl
  have HM := Lib.hid l_heldIntS
  go_enter Tryz.func117, Tryz.ntmps117
  go_wp2
  go_loop [1, 5] (fun s i => ∃ j : Nat, j ≤ ll.length ∧ i = .int .i64 j ∧ s = .int .i64 (k + (totL (ll.take j) : Int))) (fun _ i => ll.length - (intOf i).toNat)
  case atStart => exact ⟨0, Nat.zero_le _, rfl, by simp [totL]⟩
  case round =>
    obtain ⟨j, hj, rfl, rfl⟩ := hrel
    by_cases hlt : j < ll.length
    · obtain ⟨l, hl⟩ : ∃ l, ll[j]? = some l := ⟨_, List.getElem?_eq_getElem hlt⟩
      obtain ⟨l', b, o, Al, cl, hl', rfl, hc, hr, _⟩ := h.at_ (i := j) (by simpa using hlt)
      rw [numL_at k ll j l hl] at hl'
      injection hl' with hl'
      subst hl'
      have htk : totL (ll.take (j + 1)) = totL (ll.take j) + l.length := by rw [take_snoc ll j hl, totL_snoc]
      have htl := totL_take_le ll (j + 1)
      obtain ⟨t, ht⟩ : ∃ t, t = totL (ll.take j) := ⟨_, rfl⟩
      rw [← ht] at htk hr hc
      rw [htk] at htl
      rw [← ht]
      simp only [length_num] at hr hc
      have Ht := Lib.hid htk
      have Hr := Lib.hid hr
      have hkt : 0 ≤ k + (t : Int) := by omega
      have hk2 : 0 ≤ k + (t : Int) + (l.length : Int) := by omega
      clear hl ht htk hr
      go_wp2_with fail
      refine (HM.out Al cl l.length (k + (t : Int)) _ Hr.out hkt (by omega)).mono ?_
      rintro e w1 ⟨rfl, rfl⟩
      go_wp2
      go_round
      case rel => exact ⟨j + 1, by omega, by go_num, by rw [Ht.out]; simp only [Value.int.injEq, true_and]; omega⟩
      case measure => simp [intOf]; omega
    · obtain rfl : j = ll.length := by omega
      have e1 : ll.take ll.length = ll := List.take_length
      rw [e1]
      clear e1
      go_wp2
      go_ret
      exact ⟨rfl, rfl⟩
end Go.Proofs.YtmelggoagbhieaaGreat

/- The laws' marks of parts, nodes, graphs, states: contracts. Conditions: bounds on lengths. -/
namespace Go.Proofs.YtmelggoagbhieaaGreat
open Go.RowKit

theorem parts_mark (f : List Sg.Part) (k : Int) (j : Nat) (hj : j < f.length) :
    ((((((parts (numP k j ++ f.drop j)).set (j * 5) (.int .i64 (k + 5 * (j : Int)))).set (j * 5 + 1) (.int .i64 (k + 5 * (j : Int) + 1))).set (j * 5 + 2) (.int .i64 (k + 5 * (j : Int) + 2))).set (j * 5 + 3) (.int .i64 (k + 5 * (j : Int) + 3))).set (j * 5 + 4) (.int .i64 (k + 5 * (j : Int) + 4))) = parts (numP k (j + 1) ++ f.drop (j + 1)) := by
  have e1 : parts (numP k j ++ f.drop j) = parts (numP k j) ++ (pcs f[j] ++ parts (f.drop (j + 1))) := by
    rw [drop_cons f j (List.getElem?_eq_getElem hj)]; simp only [parts, List.flatMap_append, List.flatMap_cons]
  have e2 : parts (numP k (j + 1) ++ f.drop (j + 1)) = parts (numP k j) ++ (pcs ⟨k + 5 * (j : Int), k + 5 * (j : Int) + 1, k + 5 * (j : Int) + 2, k + 5 * (j : Int) + 3, k + 5 * (j : Int) + 4⟩ ++ parts (f.drop (j + 1))) := by
    rw [numP_succ]; simp [parts]
  have hl : (parts (numP k j)).length = j * 5 := by simp
  rw [e1, e2]
  generalize parts (numP k j) = X at *
  generalize parts (f.drop (j + 1)) = Y
  generalize f[j] = p
  rw [← hl]
  simp [pcs]

set_option maxHeartbeats 2000000 in
theorem l_markPartS {B : Nat} (A : Option Addr) (c : Nat) (f : List Sg.Part) (k : Int) (w : World) (h : Own w B 177 5 A f.length c (parts f)) (hk : 0 ≤ k) (hb : k + 5 * (f.length : Int) ≤ 1000000000000) :
    Calls Tryz.prog 171 #[.slice A f.length c, .int .i64 k] w fun e w' => e = .returned (.int .i64 (k + 5 * (f.length : Int))) ∧ Own w' B 177 5 A f.length c (parts (numP k f.length)) ∧ Mod (fun b => blk A = some b) w w' := by
  have H := Lib.hid h
  go_enter Tryz.func171, Tryz.ntmps171
  go_wp2
  go_loopw [1, 5] (fun s i wr => ∃ j : Nat, j ≤ f.length ∧ i = .int .i64 j ∧ s = .int .i64 (k + 5 * (j : Int)) ∧ Own wr B 177 5 A f.length c (parts (numP k j ++ f.drop j)) ∧ Mod (fun b => blk A = some b) w wr) (fun _ i _ => f.length - (intOf i).toNat)
  case atStart => exact ⟨0, Nat.zero_le _, rfl, by simp, by simpa [numP] using h, Mod.rfl' _ _⟩
  case round =>
    clear h
    obtain ⟨j, hj, rfl, rfl, hown, hm⟩ := hrel
    by_cases hlt : j < f.length
    · obtain ⟨g, rfl, hg⟩ := hown.at_ (by omega)
      have hxs : ∀ i, i < 5 → ∃ u, (parts (numP k j ++ f.drop j))[j * 5 + i]? = some u := fun i hi => ⟨_, List.getElem?_eq_getElem (by simp; omega)⟩
      obtain ⟨u0, e0⟩ := hxs 0 (by omega)
      obtain ⟨u1, e1⟩ := hxs 1 (by omega)
      obtain ⟨u2, e2⟩ := hxs 2 (by omega)
      obtain ⟨u3, e3⟩ := hxs 3 (by omega)
      obtain ⟨u4, e4⟩ := hxs 4 (by omega)
      have r0 := hown.cell e0
      have r1 := hown.cell e1
      have r2 := hown.cell e2
      have r3 := hown.cell e3
      have r4 := hown.cell e4
      rw [Nat.add_zero] at r0
      have q0 := hown.free (j * 5)
      have q1 := hown.free (j * 5 + 1)
      have q2 := hown.free (j * 5 + 2)
      have q3 := hown.free (j * 5 + 3)
      have q4 := hown.free (j * 5 + 4)
      have hgw := (hown.lt (g := g) rfl).2
      have Hs := Lib.hid (parts_mark f k j hlt)
      have Ho := Lib.hid hown
      have Hm := Lib.hid hm
      clear hown hm hxs e0 e1 e2 e3 e4
      go_wp2
      go_roundw
      case rel =>
        refine ⟨j + 1, by omega, by go_num, by simp only [Value.int.injEq, true_and]; omega, ?_, ((((Hm.out.set (p := ⟨g, j * 5, none⟩) (.inl rfl) _).set (p := ⟨g, j * 5 + 1, none⟩) (.inl rfl) _).set (p := ⟨g, j * 5 + 2, none⟩) (.inl rfl) _).set (p := ⟨g, j * 5 + 3, none⟩) (.inl rfl) _).set (p := ⟨g, j * 5 + 4, none⟩) (.inl rfl) _⟩
        rw [← Hs.out]
        have := ((((Ho.out.st (j * 5) (.int .i64 (k + 5 * (j : Int)))).st (j * 5 + 1) (.int .i64 (k + 5 * (j : Int) + 1))).st (j * 5 + 2) (.int .i64 (k + 5 * (j : Int) + 2))).st (j * 5 + 3) (.int .i64 (k + 5 * (j : Int) + 3))).st (j * 5 + 4) (.int .i64 (k + 5 * (j : Int) + 4))
        refine cast ?_ this
        congr 1
        simp only [Int.add_assoc]
        rfl
      case measure => simp [intOf]; omega
    · obtain rfl : j = f.length := by omega
      rw [List.drop_length, List.append_nil] at hown
      have Ho := Lib.hid hown
      clear hown
      go_wp2
      go_ret
      exact ⟨rfl, Ho.out, hm⟩

theorem OwnN.upd {w w1 w' : World} {B c o : Nat} {g : Sg.Graph} {hs : List (Option Addr × Nat)} (k : OwnN w B (some ⟨o, 0, none⟩) c g hs) {j : Nat} {n : Sg.Node} {kd : Int} {f' : List Sg.Part} {h0 : Option Addr × Nat} (hl : g[j]? = some n) (hh : hs[j]? = some h0) (hn : f'.length = n.f.length)
    (hw1 : w1 = w.setCell ⟨o, j * 2, none⟩ (.int .i64 kd)) (own' : Own w' B 177 5 h0.1 f'.length h0.2 (parts f')) (m : Mod (fun b => blk h0.1 = some b) w1 w') : OwnN w' B (some ⟨o, 0, none⟩) c (g.set j ⟨kd, f'⟩) hs := by
  have e : (nodeIts g).set j ⟨[.int .i64 kd], f'.length, parts f'⟩ = nodeIts (g.set j ⟨kd, f'⟩) := by simp [nodeIts, List.map_set]
  have hoo : blk h0.1 ≠ some o := k.dio j h0 hh o rfl
  have hz : w1.heap.size = w.heap.size := by rw [hw1]; simp [World.setCell]
  unfold OwnN
  rw [← e]
  refine OwnD.upd k hh ?_ own' fun b hb h1 h2 => ?_
  · have h1 := k.out.st (j * 2) (.int .i64 kd)
    rw [← hw1, dcells_pre (it' := ⟨[.int .i64 kd], f'.length, parts f'⟩) (nodeIts_pre g) (List.getElem?_eq_some_iff.1 hh).1 (nodeIts_at hl) rfl rfl hn] at h1
    exact h1.keep fun b hb => by
      simp [blk] at hb
      subst hb
      exact m.block o (h1.lt rfl).2 hoo
  · have hbw := (k.lt hb).2
    have : w1.heap[b]? = w.heap[b]? := by rw [hw1]; exact Below.heap_setCell _ _ _ _ (fun e => h2 (by simp [blk, e]))
    rw [← this]
    exact m.block b (by omega) h1

set_option maxHeartbeats 2000000 in
theorem l_markNodeS {B : Nat} (A : Option Addr) (c : Nat) (g : Sg.Graph) (hs : List (Option Addr × Nat)) (k : Int) (w : World) (h : OwnN w B A c g hs) (hk : 0 ≤ k) (hb : k + (totN g : Int) ≤ 1000000000000) (hbl : g.length ≤ 1048576) :
    Calls Tryz.prog 115 #[.slice A g.length c, .int .i64 k] w fun e w' => e = .returned (.int .i64 (k + (totN g : Int))) ∧ OwnN w' B A c (numN k g) hs ∧ Mod (fpD A hs) w w' := by
  have H := Lib.hid h
  have HM := Lib.hid (@l_markPartS B)
  go_enter Tryz.func115, Tryz.ntmps115
  go_wp2
  go_loopw [1, 5] (fun s i wr => ∃ j : Nat, j ≤ g.length ∧ i = .int .i64 j ∧ s = .int .i64 (k + (totN (g.take j) : Int)) ∧ OwnN wr B A c (numN k (g.take j) ++ g.drop j) hs ∧ Mod (fpD A hs) w wr) (fun _ i _ => g.length - (intOf i).toNat)
  case atStart => exact ⟨0, Nat.zero_le _, rfl, by simp [totN], by simpa [numN] using h, Mod.rfl' _ _⟩
  case round =>
    clear h
    obtain ⟨j, hj, rfl, rfl, hown, hm⟩ := hrel
    by_cases hlt : j < g.length
    · obtain ⟨n, hl⟩ : ∃ n, g[j]? = some n := ⟨_, List.getElem?_eq_getElem hlt⟩
      have hl2 : (numN k (g.take j) ++ g.drop j)[j]? = some n := by rw [List.getElem?_append_right (by simp; omega)]; simp [hl, Nat.min_eq_left hj]
      obtain ⟨h0, hh, hin⟩ := hown.at_ (nodeIts_at hl2)
      obtain ⟨o, rfl, hg⟩ := hown.out.at_ (by simp; omega)
      have hc0 := hown.out.cell (j := j * 2 + 0) (u := .int .i64 n.kind) (by rw [at_dcells (nodeIts_pre _) j 0 (by omega) (nodeIts_at hl2) hh]; rfl)
      have hc1 := hown.out.cell (j := j * 2 + 1) (u := .slice h0.1 n.f.length h0.2) (by rw [at_dcells (nodeIts_pre _) j 1 (by omega) (nodeIts_at hl2) hh]; rfl)
      rw [Nat.add_zero] at hc0
      have hf0 := hown.out.free (j * 2)
      have hgw := (hown.out.lt (g := o) rfl).2
      have htk : totN (g.take (j + 1)) = totN (g.take j) + (1 + 5 * n.f.length) := by rw [take_snoc g j hl, totN_snoc]
      have htl := totN_take_le g (j + 1)
      have hset : (numN k (g.take j) ++ g.drop j).set j ⟨k + (totN (g.take j) : Int), numP (k + (totN (g.take j) : Int) + 1) n.f.length⟩ = numN k (g.take (j + 1)) ++ g.drop (j + 1) := by
        rw [set_mid _ _ j n _ (by simp; omega) (by rw [drop_cons g j hl]; simp), take_snoc g j hl, numN_snoc]
        simp
      have hne : blk h0.1 ≠ some o := hown.dio j h0 hh o rfl
      obtain ⟨t, ht⟩ : ∃ t, t = totN (g.take j) := ⟨_, rfl⟩
      rw [← ht] at htk hset
      rw [htk] at htl
      rw [← ht]
      have Hs := Lib.hid hset
      have Ht := Lib.hid htk
      have Ho := Lib.hid hown
      have Hm := Lib.hid hm
      have Hl2 := Lib.hid hl2
      have Hh := Lib.hid hh
      have Hin := Lib.hid hin
      have Hne := Lib.hid hne
      have hkt : 0 ≤ k + (t : Int) := by omega
      obtain ⟨nk, nf⟩ := n
      dsimp only at *
      clear hown hm hset hl hl2 hh hin ht htk hne
      go_wp2_with fail
      refine (HM.out h0.1 h0.2 nf (k + (t : Int) + 1) _ (Hin.out.set (p := ⟨o, j * 2, none⟩) Hne.out _) (by omega) (by omega)).mono ?_
      rintro e w1 ⟨rfl, ho1, hm1⟩
      have ho2 := OwnN.upd (kd := k + (t : Int)) (f' := numP (k + (t : Int) + 1) nf.length) Ho.out Hl2.out Hh.out (by simp) rfl (by simpa using ho1) hm1
      rw [Hs.out] at ho2
      have Ho2 := Lib.hid ho2
      have Hm1 := Lib.hid hm1
      clear ho1 hm1 ho2
      go_wp2
      go_roundw
      case rel => exact ⟨j + 1, by omega, by go_num, by rw [Ht.out]; simp only [Value.int.injEq, true_and]; omega, Ho2.out, (Hm.out.set (p := ⟨o, j * 2, none⟩) (.inl (.inl rfl)) _).tr Hm1.out fun x hx => .inl (.inr ⟨h0, List.mem_of_getElem? Hh.out, hx⟩)⟩
      case measure => simp [intOf]; omega
    · obtain rfl : j = g.length := by omega
      rw [List.drop_length, List.append_nil, List.take_length] at hown
      have Ho := Lib.hid hown
      clear hown
      have e1 : g.take g.length = g := List.take_length
      rw [e1]
      clear e1
      go_wp2
      go_ret
      exact ⟨rfl, Ho.out, hm⟩

theorem l_markGraph {B : Nat} (A : Option Addr) (c : Nat) (g : Sg.Graph) (hs : List (Option Addr × Nat)) (k : Int) (w : World) (h : OwnN w B A c g hs) (hk : 0 ≤ k) (hb : k + (totN g : Int) ≤ 1000000000000) (hbl : g.length ≤ 1048576) :
    Calls Tryz.prog 37 #[.agg #[.slice A g.length c], .int .i64 k] w fun e w' => e = .returned (.int .i64 (k + (totN g : Int))) ∧ OwnN w' B A c (numN k g) hs ∧ Mod (fpD A hs) w w' := by
  have HM := Lib.hid (fun w h => l_markNodeS (B := B) A c g hs k w h hk hb hbl)
  go_enter Tryz.func37, Tryz.ntmps37
  go_wp2_with (go_at_call 115; refine (HM.out _ (h.ext ((Ext.rfl' w).al _))).mono ?_; rintro e w1 ⟨rfl, ho1, hm1⟩)
  go_ret
  exact ⟨rfl, ho1, ((Mod.rfl' _ w).al _).tr' hm1⟩

set_option maxHeartbeats 1000000 in
theorem l_markEager {B : Nat} (Av Ar : Option Addr) (cv cr : Nat) (v : List Int) (r : List (List Int)) (hs : List (Option Addr × Nat)) (k : Int) (w : World) (hv : Own w B 3 1 Av v.length cv (ints v)) (hr : OwnL w B Ar cr r hs) (hd : ∀ b, blk Av = some b → ¬ fpD Ar hs b)
    (hk : 0 ≤ k) (hb : k + (v.length : Int) + (totL r : Int) ≤ 1000000000000) (hbl : r.length ≤ 1048576) :
    Calls Tryz.prog 52 #[.agg #[.slice Av v.length cv, .slice Ar r.length cr], .int .i64 k] w fun e w' => e = .returned (.int .i64 (k + (v.length : Int) + (totL r : Int))) ∧
      Own w' B 3 1 Av v.length cv (ints (num k v.length)) ∧ OwnL w' B Ar cr (numL (k + (v.length : Int)) r) hs ∧ Mod (fun b => blk Av = some b ∨ fpD Ar hs b) w w' := by
  have HV := Lib.hid (fun w h => l_markIntS (B := B) Av cv v k w h hk (by omega))
  have HR := Lib.hid (fun w h => l_markIntSS (B := B) Ar cr r hs (k + (v.length : Int)) w h (by omega) hb hbl)
  have Hv := Lib.hid (hv.al (.cells #[.slice Av v.length cv, .slice Ar r.length cr] 29))
  have Hr := Lib.hid (hr.ext ((Ext.rfl' w).al (.cells #[.slice Av v.length cv, .slice Ar r.length cr] 29)))
  have Hd := Lib.hid hd
  have hnb : blk Av ≠ some w.heap.size := fun e => by have := (hv.lt e).2; omega
  have Hnb := Lib.hid hnb
  clear hv hr hd hnb
  go_enter Tryz.func52, Tryz.ntmps52
  go_wp2_with fail
  refine (HV.out _ Hv.out).mono ?_
  rintro e w1 ⟨rfl, ho1, hm1⟩
  have q1 := hm1.cellE (show (w.alloc (.cells #[.slice Av v.length cv, .slice Ar r.length cr] 29)).cell? ⟨w.heap.size, 1, none⟩ = some (.slice Ar r.length cr) by simp [go_sem]) Hnb.out
  have Ho1 := Lib.hid ho1
  have Hm1 := Lib.hid hm1
  clear ho1 hm1
  go_wp2_with fail
  refine (HR.out _ (Hr.out.mod Hm1.out fun b hb e => Hd.out b e hb)).mono ?_
  rintro e w2 ⟨rfl, ho2, hm2⟩
  have Ho2 := Lib.hid ho2
  have Hm2 := Lib.hid hm2
  clear ho2 hm2
  go_wp2
  go_ret
  refine ⟨rfl, Ho1.out.mod Hm2.out fun b hb e => Hd.out b hb e, Ho2.out, ?_⟩
  exact (((Mod.rfl' _ w).al _).tr (Hm1.out) fun x hx => .inl (.inl hx)).tr Hm2.out fun x hx => .inl (.inr hx)

theorem l_heldEager (Av Ar : Option Addr) (cv cr nv : Nat) (r : List (List Int)) (k : Int) (w : World) (hv : Rd w 1 Av nv (ints (num k nv))) (hr : RdL w Ar (numL (k + (nv : Int)) r)) (hk : 0 ≤ k) (hb : k + (nv : Int) + (totL r : Int) ≤ 1000000000000) :
    Calls Tryz.prog 53 #[.agg #[.slice Av nv cv, .slice Ar r.length cr], .int .i64 k] w fun e w' => e = .returned (.int .i64 (k + (nv : Int) + (totL r : Int))) ∧ Ext w w' := by
  have HV := Lib.hid (fun w h => l_heldIntS Av cv nv k w h hk (by omega))
  have HR := Lib.hid (fun w h => l_heldIntSS Ar cr r (k + (nv : Int)) w h (by omega) hb)
  have E0 := Lib.hid ((Ext.rfl' w).al (.cells #[.slice Av nv cv, .slice Ar r.length cr] 29))
  have h0 : 0 ≤ k + (nv : Int) := by omega
  have h1 : 0 ≤ k + (nv : Int) + (totL r : Int) := by omega
  go_enter Tryz.func53, Tryz.ntmps53
  go_wp2_with (first
    | (go_at_call 41; refine (HV.out _ (hv.ext E0.out)).mono ?_; rintro e w1 ⟨rfl, rfl⟩)
    | (go_at_call 117; refine (HR.out _ (hr.ext E0.out)).mono ?_; rintro e w1 ⟨rfl, rfl⟩))
  go_ret
  exact ⟨rfl, E0.out⟩
end Go.Proofs.YtmelggoagbhieaaGreat
