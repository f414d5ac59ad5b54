/- The draws of cells: goodCells, someCells; one node of an own graph turned. Conditions: bounds. -/
import Derived.Test.YtmelggoagbhieaaGreatDrawB
import Derived.Test.YtmelggoagbhieaaGreatDrawC
import Derived.Deep.DeepCutAuto
namespace Go.Proofs.YtmelggoagbhieaaGreat
open Go.RowKit

theorem dcells_form {its : List It} {hs : List (Option Addr × Nat)} {j : Nat} {it it' : It} {x : Value} {A0 : Option Addr} {c0 : Nat} (ha : ∀ i ∈ its, i.pre.length + 1 = 2) (hj : j < hs.length) (hi : its[j]? = some it) (hp : it.pre = [x]) (hp' : it'.pre = [x]) :
    (dcells its hs).set (j * 2 + 1) (.slice A0 it'.n c0) = dcells (its.set j it') (hs.set j (A0, c0)) := by
  induction its generalizing hs j with
  | nil => simp at hi
  | cons z its ih =>
    cases hs with
    | nil => simp at hj
    | cons h hs =>
      cases j with
      | zero =>
        simp at hi
        subst hi
        simp [dcells, itc, hp, hp']
      | succ j =>
        have hz := ha z (by simp)
        simp only [List.set_cons_succ, dcells]
        rw [← ih (fun i hi => ha i (by simp [hi])) (by simpa using hj) (by simpa using hi), List.set_append_right _ _ (by simp [itc]; omega)]
        congr 2
        simp [itc]
        omega
section
variable {w w1 : World} {B c b S : Nat} {g : Sg.Graph} {hs : List (Option Addr × Nat)}
theorem OwnN.setKind (k : OwnN w B (some ⟨b, 0, none⟩) c g hs) {i : Nat} {n : Sg.Node} (hi : g[i]? = some n) (x : Int) : OwnN (w.setCell ⟨b, i * 2, none⟩ (.int .i64 x)) B (some ⟨b, 0, none⟩) c (g.set i ⟨x, n.f⟩) hs := by
  have hlen : hs.length = g.length := by have := k.len; simpa using this
  have hil := (List.getElem?_eq_some_iff.1 hi).1
  have hits : nodeIts (g.set i ⟨x, n.f⟩) = (nodeIts g).set i ⟨[.int .i64 x], n.f.length, parts n.f⟩ := by simp [nodeIts, List.map_set]
  have hh : hs[i]? = some hs[i] := List.getElem?_eq_getElem (by omega)
  have hin := k.inn i _ _ (nodeIts_at hi) hh
  unfold OwnN
  rw [hits]
  refine OwnD.upd k hh ?_ (hin.set (fun e => k.dio i _ hh b rfl e) _) (fun y _ _ hy => Below.heap_setCell _ _ _ _ (fun e => hy (by rw [e]; rfl)))
  have := k.out.st (i * 2) (.int .i64 x)
  rwa [dcells_pre (it' := ⟨[.int .i64 x], n.f.length, parts n.f⟩) (nodeIts_pre g) (by omega) (nodeIts_at hi) rfl rfl rfl] at this
theorem OwnN.setForm (k : OwnN w1 B (some ⟨b, 0, none⟩) c g hs) (hS : ∀ y, fpD (some ⟨b, 0, none⟩) hs y → y < S) (hB : B ≤ S) {i : Nat} {n : Sg.Node} (hi : g[i]? = some n) {f : List Sg.Part} {A0 : Option Addr} {c0 : Nat}
    (own : Own w1 S 177 5 A0 f.length c0 (parts f)) : OwnN (w1.setCell ⟨b, i * 2 + 1, none⟩ (.slice A0 f.length c0)) B (some ⟨b, 0, none⟩) c (g.set i ⟨n.kind, f⟩) (hs.set i (A0, c0)) := by
  have hlen : hs.length = g.length := by have := k.len; simpa using this
  have hil := (List.getElem?_eq_some_iff.1 hi).1
  have hits : nodeIts (g.set i ⟨n.kind, f⟩) = (nodeIts g).set i ⟨[.int .i64 n.kind], f.length, parts f⟩ := by simp [nodeIts, List.map_set]
  have hother : ∀ y, y ≠ b → (w1.setCell ⟨b, i * 2 + 1, none⟩ (.slice A0 f.length c0)).heap[y]? = w1.heap[y]? := fun y hy => Below.heap_setCell _ _ _ _ hy
  have hbS : b < S := hS b (.inl rfl)
  refine ⟨by simp [hlen], ?_, ?_, ?_, ?_⟩
  · have h1 := k.out.st (i * 2 + 1) (.slice A0 f.length c0)
    rw [dcells_form (it' := ⟨[.int .i64 n.kind], f.length, parts f⟩) (nodeIts_pre g) (by omega) (nodeIts_at hi) rfl rfl] at h1
    rw [hits]
    simpa using h1
  · intro j it h hj hh
    rw [hits] at hj
    by_cases hij : j = i
    · subst hij
      rw [List.getElem?_set_self (by simpa using hil)] at hj
      rw [List.getElem?_set_self (by omega)] at hh
      injection hj with hj
      injection hh with hh
      subst hj
      subst hh
      refine (own.keep fun y hy => hother y (fun e2 => ?_)).mono hB
      have := (own.lt hy).1
      omega
    · rw [List.getElem?_set_ne (fun e => hij e.symm)] at hj hh
      refine (k.inn j it h hj hh).keep fun y hy => hother y (fun e2 => ?_)
      subst e2
      exact k.dio j h hh y rfl hy
  · intro a d h h' hab hh hh' x hx hx'
    by_cases h1 : a = i
    · subst h1
      rw [List.getElem?_set_self (by omega)] at hh
      injection hh with hh
      subst hh
      rw [List.getElem?_set_ne (by omega)] at hh'
      have h3 := (own.lt hx).1
      have h4 := hS x (.inr ⟨h', List.mem_of_getElem? hh', hx'⟩)
      omega
    · rw [List.getElem?_set_ne (fun e => h1 e.symm)] at hh
      by_cases h2 : d = i
      · subst h2
        rw [List.getElem?_set_self (by omega)] at hh'
        injection hh' with hh'
        subst hh'
        have h3 := (own.lt hx').1
        have h4 := hS x (.inr ⟨h, List.mem_of_getElem? hh, hx⟩)
        omega
      · rw [List.getElem?_set_ne (fun e => h2 e.symm)] at hh'
        exact k.dis a d h h' hab hh hh' x hx hx'
  · intro a h hh y hy hy'
    by_cases h1 : a = i
    · subst h1
      rw [List.getElem?_set_self (by omega)] at hh
      injection hh with hh
      subst hh
      have h3 := (own.lt hy').1
      simp [blk] at hy
      omega
    · rw [List.getElem?_set_ne (fun e => h1 e.symm)] at hh
      exact k.dio a h hh y hy hy'
end

def Celled (R m lo hi : Nat) (w : World) (e : Ending) (w' : World) : Prop := ∃ (l : List Int) (A : Option Addr) (c : Nat), e = .returned (.slice A l.length c) ∧ Own w' w.heap.size 3 1 A l.length c (ints l) ∧ lo ≤ l.length ∧ l.length ≤ hi ∧ Rdr w' R m ∧ Mod (fun b => b = R) w w'

set_option maxRecDepth 100000 in
set_option maxHeartbeats 4000000 in
theorem s_goodCells (R m : Nat) (A : Option Addr) (c : Nat) (g : Sg.Graph) (w : World) (h : Rdr w R m) (hg : ∀ W, Mod (fun b => b = R) w W → RdN W A g) (hgl : g.length ≤ 10) (hm : m ≤ 900000) :
    Calls Tryz.prog 207 #[.pointer (some ⟨R, 0, none⟩), .agg #[.slice A g.length c]] w (Celled R (m + 20) g.length g.length w) := by
  have hRl := h.lt
  have HG := Lib.hid hg
  have M0 := Lib.hid (Mod.of (F := fun b => b = R) (((Ext.rfl' w).al (.cells #[.slice A g.length c] 25)).al (.cells #[] 3)))
  have R0 := Lib.hid (h.ext (((Ext.rfl' w).al (.cells #[.slice A g.length c] 25)).al (.cells #[] 3)))
  have q0 : World.cell? (World.alloc (World.alloc w (.cells #[.slice A g.length c] 25)) (.cells #[] 3)) ⟨w.heap.size, 0, none⟩ = some (.slice A g.length c) := by simp [go_sem]
  have Q0 := Lib.hid q0
  have o1 := Own.new (World.alloc w (.cells #[.slice A g.length c] 25)) (B := w.heap.size) 3 1 #[] 0 (by simp) (by unfold maxLen; omega) rfl
  simp only [World.size_alloc] at o1
  have O1 := Lib.hid o1
  clear h hg q0 o1
  go_enter Tryz.func207, Tryz.ntmps207
  go_wp2_with fail
  go_loopw [5, 6] (fun s5 s6 wr => ∃ (l : List Int) (A5 : Option Addr) (c5 : Nat), s5 = .slice A5 l.length c5 ∧ s6 = .int .i64 (l.length : Int) ∧ l.length ≤ g.length ∧ Hid (wr.cell? ⟨w.heap.size, 0, none⟩ = some (.slice A g.length c)) ∧ Hid (Own wr w.heap.size 3 1 A5 l.length c5 (ints l)) ∧ Hid (blk A5 ≠ some w.heap.size) ∧ Hid (Rdr wr R (m + 2 * l.length)) ∧ Hid (Mod (fun b => b = R) w wr)) (fun _ s6 _ => g.length - (intOf s6).toNat)
  case atStart => exact ⟨[], _, _, rfl, rfl, Nat.zero_le _, Q0, O1, Lib.hid (by simp [blk]), R0, M0⟩
  case round =>
    clear Q0 O1 R0 M0
    obtain ⟨l, A5, c5, rfl, rfl, hl, hQ, hO, hD, hR, hM⟩ := hrel
    have q0 := hQ.out
    have b0 := blt q0
    by_cases hlt : l.length < g.length
    · obtain ⟨n, bn, on, Ap, cp, hn, rfl, k1, k2, k3, k4⟩ := (HG.out _ hM.out).at_ hlt
      have bk := blt k1
      clear hn k2 k3 k4
      go_upto_if 22 with fail
      go_cut [7] (fun s7 wx => ∃ x : Int, s7 = .int .i64 x ∧ Hid (wx.cell? ⟨w.heap.size, 0, none⟩ = some (.slice (some ⟨bn, on, none⟩) g.length c)) ∧ Hid (Own wx w.heap.size 3 1 A5 l.length c5 (ints l)) ∧ Hid (Rdr wx R (m + 2 * l.length + 2)) ∧ Hid (Mod (fun b => b = R) w wx))
      case first =>
        by_cases hk : n.kind = 0
        · have z1 : (n.kind == 0) = true := by simp [hk]
          clear hk q0 k1 b0 bk
          go_wp2_with fail
          refine (s_pick R (m + 2 * l.length) 1000 _ hR.out (by omega) (by omega) (by omega)).mono ?_
          rintro e w2 ⟨x, rfl, hx0, hx1, hr2, hm2⟩
          have Hr2 := Lib.hid hr2
          have Hm2 := Lib.hid hm2
          clear hx0 hx1 hr2 hm2
          go_wp2_with fail
          have RL := (Own.new w2 (B := 0) 3 1 #[.int .i64 0, .int .i64 1, .int .i64 x, .int .i64 2, .int .i64 5] 5 (Nat.zero_le _) (by unfold maxLen; omega) rfl).rd
          have hRl2 := Hr2.out.lt
          refine (s_one R (m + 2 * l.length + 1) _ 5 [0, 1, x, 2, 5] _ (Hr2.out.ext ((Ext.rfl' w2).al _)) RL (by simp) (by simp) (by intro b hb; simp [blk] at hb; omega) (by omega)).mono ?_
          rintro e w3 ⟨y, rfl, hy, hr3, hm3⟩
          have Hm3 := Lib.hid (((Hm2.out).al (.cells #[.int .i64 0, .int .i64 1, .int .i64 x, .int .i64 2, .int .i64 5] 3)).tr' hm3)
          have Hr3 := Lib.hid hr3
          clear hy hr3 hm3 RL
          go_wp2_with fail
          go_meet
          exact ⟨y, rfl, Lib.hid (Hm3.out.cellE hQ.out (by omega)), Lib.hid (hO.out.mod Hm3.out (fun b hb e => by have := (hO.out.lt hb).1; omega)), Lib.hid (Hr3.out.more (by omega)), Lib.hid (hM.out.tr' Hm3.out)⟩
        · have z1 : (n.kind == 0) = false := by rw [beq_eq_false_iff_ne]; exact hk
          clear hk
          go_wp2_with fail
          go_meet
          exact ⟨0, rfl, hQ, hO, Lib.hid (hR.out.more (by omega)), hM⟩
      case rest =>
        clear q0 b0 k1 bk
        obtain ⟨x, rfl, hQ2, hO2, hR2, hM2⟩ := hcut
        have hws := hM2.out.size
        go_wp2_with (at_builtin; refine wpList_app1 rfl rfl eiInt rfl hO2.out rfl rfl (one_int _ _) (by omega) (by omega) (by omega) ?_; intro A9 c9 w9 ho9 hg9 hat9; have Ho9 := Lib.hid ho9; have Hg9 := Lib.hid hg9; have Ha9 := Lib.hid hat9; clear ho9 hg9 hat9)
        go_roundw
        case rel =>
          have hlt5 := fun b hb => hO2.out.lt (g := b) hb
          refine ⟨l ++ [x], A9, c9, by simp, by simp, by simp; omega, Lib.hid (grown_cell Hg9.out hQ2.out hD.out), Lib.hid (by have := Ho9.out; simpa using this), Lib.hid ?_, Lib.hid (by simp only [List.length_append, List.length_singleton]; exact (hR2.out.gr Hg9.out (fun b hb => by have := (hlt5 b hb).1; omega)).more (by omega)), Lib.hid (hM2.out.gr Hg9.out (fun b hb => .inr (hlt5 b hb).1))⟩
          intro e
          rcases Ha9.out with h | ⟨q, hq, hle⟩
          · exact hD.out (by rw [← h]; exact e)
          · rw [hq] at e
            injection e with e
            have := blt hQ2.out
            omega
        case measure => simp [intOf]; omega
    · have hle : l.length = g.length := by omega
      have HLE := Lib.hid hle
      have hnl : ¬ ((l.length : Int) < (g.length : Int)) := by omega
      clear hle
      go_wp2
      go_ret
      exact ⟨l, A5, c5, rfl, hO.out, by rw [HLE.out]; exact Nat.le_refl _, by rw [HLE.out]; exact Nat.le_refl _, hR.out.more (by omega), hM.out⟩

set_option maxRecDepth 100000 in
set_option maxHeartbeats 4000000 in
theorem s_someCells (R m : Nat) (A : Option Addr) (c : Nat) (g : Sg.Graph) (w : World) (h : Rdr w R m) (hg : ∀ W, Mod (fun b => b = R) w W → RdN W A g) (hgl : g.length ≤ 10) (hg0 : 0 < g.length) (hm : m ≤ 900000) :
    Calls Tryz.prog 185 #[.pointer (some ⟨R, 0, none⟩), .agg #[.slice A g.length c]] w (Celled R (m + 30) 1 11 w) := by
  have hRl := h.lt
  have M0 := Lib.hid (Mod.of (F := fun b => b = R) ((Ext.rfl' w).al (.cells #[.slice A g.length c] 25)))
  have HC := Lib.hid (s_goodCells R m A c g _ (h.ext ((Ext.rfl' w).al (.cells #[.slice A g.length c] 25))) (fun W hW => hg W (M0.out.tr' hW)) hgl hm)
  have q0 : World.cell? (World.alloc w (.cells #[.slice A g.length c] 25)) ⟨w.heap.size, 0, none⟩ = some (.slice A g.length c) := by simp [go_sem]
  clear h hg
  go_enter Tryz.func185, Tryz.ntmps185
  go_wp2_with fail
  refine HC.out.mono ?_
  rintro e w1 ⟨l, A5, c5, rfl, ho, hl1, hl2, hr1, hm1⟩
  have M1 := Lib.hid (M0.out.tr' hm1)
  have O1 := Lib.hid (ho.mono (B' := w.heap.size) (by simp))
  have hr0 := hr1.lt
  have R1 := Lib.hid hr1
  have hl0 : 0 < l.length := by omega
  clear ho hr1 hm1 M0 HC q0
  go_wp2_with fail
  refine (s_pick R (m + 20) 24 _ R1.out (by omega) (by omega) (by omega)).mono ?_
  rintro e w2 ⟨x, rfl, hx0, hx1, hr2, hm2⟩
  have M2 := Lib.hid (M1.out.tr' hm2)
  have O2 := Lib.hid (O1.out.mod hm2 (fun b hb e => by have := (O1.out.lt hb).1; omega))
  have R2 := Lib.hid hr2
  have hws := M2.out.size
  clear hx0 hx1 hr2 hm2 M1 O1 R1
  by_cases h0 : x = 0
  · have z1 : (x == 0) = true := by simp [h0]
    clear h0
    go_wp2_with (at_builtin; refine wpList_app1 rfl rfl eiInt rfl O2.out rfl rfl (one_int _ _) (by omega) (by omega) (by omega) ?_; intro A9 c9 w9 ho9 hg9 hat9; have Ho9 := Lib.hid ho9; have Hg9 := Lib.hid hg9; clear ho9 hg9 hat9)
    go_ret
    have hlt5 := fun b hb => O2.out.lt (g := b) hb
    exact ⟨l ++ [0], A9, c9, by simp, by have := Ho9.out; simpa using this, by simp, by simp; omega, (R2.out.gr Hg9.out (fun b hb => by have := (hlt5 b hb).1; omega)).more (by omega), M2.out.gr Hg9.out (fun b hb => .inr (hlt5 b hb).1)⟩
  · have z1 : (x == 0) = false := by rw [beq_eq_false_iff_ne]; exact h0
    clear h0
    by_cases h1 : x = 1
    · have z2 : (x == 1) = true := by simp [h1]
      clear h1
      obtain ⟨b5, rfl, hb5⟩ := O2.out.at_ (by omega)
      go_wp2_with fail
      refine (s_pick R (m + 21) (l.length : Int) _ R2.out (by omega) (by omega) (by omega)).mono ?_
      rintro e w3 ⟨y, rfl, hy0, hy1, hr3, hm3⟩
      obtain ⟨j, rfl⟩ := Int.eq_ofNat_of_zero_le hy0
      have hj : j < l.length := by omega
      have M3 := Lib.hid (M2.out.tr' hm3)
      have O3 := Lib.hid (O2.out.mod hm3 (fun b hb e => by have := (O2.out.lt hb).1; omega))
      have R3 := Lib.hid hr3
      clear hy0 hy1 hr3 hm3 M2 O2 R2
      go_wp2_with fail
      have RL := (Own.new w3 (B := 0) 3 1 #[.int .i64 (-1), .int .i64 1000, .int .i64 7] 3 (Nat.zero_le _) (by unfold maxLen; omega) rfl).rd
      have hRl2 := R3.out.lt
      refine (s_one R (m + 22) _ 3 [-1, 1000, 7] _ (R3.out.ext ((Ext.rfl' w3).al _)) RL (by simp) (by simp) (by intro b hb; simp [blk] at hb; omega) (by omega)).mono ?_
      rintro e w4 ⟨v, rfl, hv, hr4, hm4⟩
      have M4 := Lib.hid ((M3.out.al (.cells #[.int .i64 (-1), .int .i64 1000, .int .i64 7] 3)).tr' hm4)
      have O4 := Lib.hid ((O3.out.al (.cells #[.int .i64 (-1), .int .i64 1000, .int .i64 7] 3)).mod hm4 (fun b hb e => by have := (O3.out.lt hb).1; omega))
      have R4 := Lib.hid hr4
      clear hv hr4 hm4 RL M3 O3 R3
      obtain ⟨y0, hy0⟩ : ∃ y0, l[j]? = some y0 := ⟨_, List.getElem?_eq_getElem hj⟩
      have cj := O4.out.cell (j := j) (u := .int .i64 y0) (by rw [ints_at, hy0]; rfl)
      have fj := O4.out.free j
      have bj := blt cj
      clear hy0
      go_wp2
      go_ret
      have hb5l := (O4.out.lt (g := b5) rfl).1
      refine ⟨l.set j v, some ⟨b5, 0, none⟩, c5, by simp, by have := O4.out.st j (.int .i64 v); rw [ints_set] at this; simpa using this, by simp; omega, by simp; omega, ?_, ?_⟩
      · exact (R4.out.mod (F := fun b => b = b5) (Mod.set (F := fun b => b = b5) (Mod.rfl' (fun b => b = b5) _) (p := ⟨b5, j, none⟩) (.inl rfl) _) (fun b e => by omega)).more (by omega)
      · exact M4.out.set (p := ⟨b5, j, none⟩) (.inr hb5l) _
    · have z2 : (x == 1) = false := by rw [beq_eq_false_iff_ne]; exact h1
      clear h1
      go_wp2
      go_ret
      exact ⟨l, A5, c5, rfl, O2.out, by omega, by omega, R2.out.more (by omega), M2.out⟩
end Go.Proofs.YtmelggoagbhieaaGreat
