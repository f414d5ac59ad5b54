/- The library's DeleteFunc on an own list, and the program's common: contracts. Conditions: bounds on lengths. -/
import Derived.Test.YtkbihkggneaeeaaImplX
import Derived.Test.YtkbihkggneaeeaaCore
import Derived.Lib.SliceRun
namespace Go.Proofs.Ytkbihkggneaeeaa
open Go.RowKit

theorem findFrom_cases (p : Int → Bool) (l : List Int) (k : Nat) : (findFrom p k l = -1 ∧ l.filter (fun x => !p x) = l) ∨ ∃ j x, findFrom p k l = ((k + j : Nat) : Int) ∧ l[j]? = some x ∧ p x = true ∧ (l.take j).filter (fun x => !p x) = l.take j := by
  induction l generalizing k with
  | nil => exact .inl ⟨rfl, rfl⟩
  | cons x l ih =>
    unfold findFrom
    by_cases h : p x = true
    · rw [if_pos h]
      exact .inr ⟨0, x, by simp, rfl, h, rfl⟩
    · rw [if_neg h]
      have h' : p x = false := by simpa using h
      rcases ih (k + 1) with ⟨h1, h2⟩ | ⟨j, y, h1, h2, h3, h4⟩
      · exact .inl ⟨h1, by simp [h', h2]⟩
      · exact .inr ⟨j + 1, y, by rw [h1]; congr 1; omega, by simpa using h2, h3, by simp [h', h4]⟩
/-- the row while it is being sifted: i kept of the first j -/
structure Sift (p : Int → Bool) (l : List Int) (i j : Nat) (m : List Int) : Prop where
  len : m.length = l.length
  lt : i < j
  le : j ≤ l.length
  got : m.take i = (l.take j).filter fun x => !p x
  rest : m.drop j = l.drop j
theorem Sift.at_ {p : Int → Bool} {l m : List Int} {i j : Nat} (h : Sift p l i j m) (hj : j < l.length) : ∃ x, l[j]? = some x ∧ m[j]? = some x := by
  have hm : j < m.length := by rw [h.len]; exact hj
  have hx : l[j]? = some l[j] := List.getElem?_eq_getElem hj
  refine ⟨_, hx, ?_⟩
  have h1 := congrArg (fun t => t[0]?) h.rest
  simp only [List.getElem?_drop, Nat.add_zero] at h1
  rw [h1]; exact hx
theorem Sift.skip {p : Int → Bool} {l m : List Int} {i j : Nat} (h : Sift p l i j m) {x : Int} (hx : l[j]? = some x) (hp : p x = true) : Sift p l i (j + 1) m := by
  have hj := (List.getElem?_eq_some_iff.1 hx).1
  refine ⟨h.len, by have := h.lt; omega, hj, ?_, ?_⟩
  · rw [take_snoc l j hx, List.filter_append, h.got]; simp [hp]
  · have := congrArg (List.drop 1) h.rest
    simpa [List.drop_drop] using this
theorem Sift.keep {p : Int → Bool} {l m : List Int} {i j : Nat} (h : Sift p l i j m) {x : Int} (hx : l[j]? = some x) (hp : p x = false) : Sift p l (i + 1) (j + 1) (m.set i x) := by
  have hj := (List.getElem?_eq_some_iff.1 hx).1
  have hl := h.lt
  have hm := h.len
  refine ⟨by simpa using h.len, by omega, hj, ?_, ?_⟩
  · rw [take_snoc l j hx, List.filter_append, ← h.got, take_snoc (m.set i x) i (x := x) (by rw [List.getElem?_set_self (by omega)])]
    rw [List.take_set_of_le (Nat.le_refl _)]
    simp [hp]
  · rw [List.drop_set_of_lt (by omega)]
    have := congrArg (List.drop 1) h.rest
    simpa [List.drop_drop] using this
theorem Sift.ilen {p : Int → Bool} {l m : List Int} {i : Nat} (h : Sift p l i l.length m) : m.take i = l.filter (fun x => !p x) ∧ (l.filter (fun x => !p x)).length = i := by
  have h1 := h.got
  rw [List.take_length] at h1
  refine ⟨h1, ?_⟩
  rw [← h1]
  have h2 := h.len
  have h3 := h.lt
  simp
  omega
theorem Own.cut {w : World} {B e n c : Nat} {A : Option Addr} {xs : List Value} (h : Own w B e 1 A n c xs) (i : Nat) (hi : i ≤ n) : Own w B e 1 A i c (xs.take i) := by
  have h1 := h.1
  refine ⟨by simp; omega, Nat.le_trans hi h.2.1, h.2.2.1, ?_⟩
  rcases h.2.2.2 with h2 | ⟨g, cur, ha, hb, hh, hc, ht⟩
  · exact .inl h2
  · refine .inr ⟨g, cur, ha, hb, hh, hc, ?_⟩
    rw [← ht, List.take_take]
    congr 1
    omega
theorem Own.behind {B e g n c : Nat} {xs : List Value} (vs : List Value) : ∀ (w : World) (o : Nat), Own w B e 1 (some ⟨g, 0, none⟩) n c xs → n ≤ o → Own (w.setCells g o vs) B e 1 (some ⟨g, 0, none⟩) n c xs := by
  induction vs with
  | nil => intro w o h _; exact h
  | cons v vs ih =>
    intro w o h ho
    have h1 := h.st o v
    have hl := h.1
    rw [List.set_eq_of_length_le (by omega)] at h1
    exact ih _ (o + 1) h1 (by omega)
theorem Mod.cells {F : Nat → Prop} {a : World} (g : Nat) (hg : F g) (vs : List Value) : ∀ (w : World) (o : Nat), Mod F a w → Mod F a (w.setCells g o vs) := by
  induction vs with
  | nil => intro w o h; exact h
  | cons v vs ih => intro w o h; exact ih _ (o + 1) (h.set (.inl hg) v)

set_option maxHeartbeats 2000000 in
theorem i_DeleteFunc {fid : Nat} {caps : List Value} {inv : World → Prop} {p : Int → Bool} {dom : Int → Prop} (C : Prd Try.prog fid caps inv p dom) (B : Nat) (A : Option Addr) (n c : Nat) (l : List Int) (w : World) (h : Own w B 3 1 A n c (ints l)) (hi : inv w) (hd : ∀ x ∈ l, dom x)
    (hmd : ∀ w w', inv w → Mod (fun b => blk A = some b) w w' → inv w') (hb : n ≤ 1048576) :
    Calls Try.prog 96 #[.slice A n c, .func (.func fid) #[] caps.toArray] w fun e w' => e = .returned (.slice A (l.filter fun x => !p x).length c) ∧ Own w' B 3 1 A (l.filter fun x => !p x).length c (ints (l.filter fun x => !p x)) ∧ Mod (fun b => blk A = some b) w w' := by
  have hln := h.len
  have HIF := Lib.hid (i_IndexFunc C A n c l w h.rd hi hd)
  have hent := C.ent
  have HC := Lib.hid C
  have HD := Lib.hid hd
  have HI := Lib.hid hi
  have HM := Lib.hid hmd
  have Ho := Lib.hid h
  have hcap := h.2.1
  have hcm := h.2.2.1
  unfold maxLen at hcm
  clear C hi hd hmd
  rcases findFrom_cases p l 0 with ⟨h1, h2⟩ | ⟨k0, x0, h1, h2, h3, h4⟩
  · have H1 := Lib.hid h1
    have H2 := Lib.hid h2
    have Hl := Lib.hid hln
    clear h1 h2 h hln
    go_enter Try.func96, Try.ntmps96
    go_wp2_with fail
    refine HIF.out.mono ?_
    rintro e w1 ⟨rfl, he1⟩
    rw [H1.out]
    go_wp2
    go_ret
    rw [H2.out, Hl.out]
    exact ⟨rfl, Ho.out.ext he1, Mod.of he1⟩
  · rw [Nat.zero_add] at h1
    have hk0 : k0 < l.length := (List.getElem?_eq_some_iff.1 h2).1
    obtain ⟨g, rfl, hg⟩ := h.at_ (show 0 < n * 1 by omega)
    have hS : Sift p l k0 (k0 + 1) l := ⟨rfl, by omega, hk0, by rw [take_snoc l k0 h2, List.filter_append, h4]; simp [h3], rfl⟩
    have HS := Lib.hid hS
    have H1 := Lib.hid h1
    have hne : ((k0 : Int) == -1) = false := by rw [beq_eq_false_iff_ne]; omega
    obtain rfl := hln
    clear h1 h2 h3 h4 h hS
    go_enter Try.func96, Try.ntmps96
    go_wp2_with fail
    refine HIF.out.mono ?_
    rintro e w1 ⟨rfl, he1⟩
    rw [H1.out]
    go_wp2
    have E1 := Lib.hid (Mod.of (F := fun b => blk (some (⟨g, 0, none⟩ : Addr)) = some b) he1)
    have O1 := Lib.hid (Ho.out.ext he1)
    clear he1
    go_loopw [5, 6] (fun si sj wr => ∃ (i j : Nat) (m : List Int), si = .int .i64 i ∧ sj = .int .i64 j ∧ Hid (Sift p l i j m) ∧ Hid (Own wr B 3 1 (some ⟨g, 0, none⟩) l.length c (ints m)) ∧ Hid (Mod (fun b => blk (some (⟨g, 0, none⟩ : Addr)) = some b) w wr)) (fun _ sj _ => l.length - (intOf sj).toNat)
    case atStart => exact ⟨k0, k0 + 1, l, rfl, by go_num, HS, O1, E1⟩
    case round =>
      obtain ⟨i, j, m, rfl, rfl, hS, hO, hE⟩ := hrel
      have hij := hS.out.lt
      have hjl := hS.out.le
      have hml := hS.out.len
      have hlt0 := hO.out.lt (g := g) rfl
      by_cases hlt : j < l.length
      · obtain ⟨x, hx, hmx⟩ := hS.out.at_ hlt
        have hcx := hO.out.cell (j := j) (u := .int .i64 x) (by rw [ints_at, hmx]; rfl)
        obtain ⟨y, hy⟩ : ∃ y, m[i]? = some y := ⟨_, List.getElem?_eq_getElem (by omega)⟩
        have hcy := hO.out.cell (j := i) (u := .int .i64 y) (by rw [ints_at, hy]; rfl)
        have hfy := hO.out.free i
        have Hx := Lib.hid hx
        have Hdx := Lib.hid (HD.out x (List.mem_of_getElem? hx))
        clear hx hmx hy
        cases hp : p x
        · have Hp := Lib.hid hp
          clear hp
          go_wp2_with fail
          refine (HC.out.call _ x (HM.out _ _ HI.out hE.out) Hdx.out).mono ?_
          rw [Hp.out]
          rintro e w2 ⟨rfl, he2⟩
          have k1 := he2.cellE hcy
          have k2 := (he2.frozen (p := ⟨g, i, none⟩) hlt0.2).trans hfy
          have b2 := blt k1
          clear hcx hcy hfy
          go_wp2
          go_roundw
          case rel => exact ⟨i + 1, j + 1, m.set i x, by go_num, by go_num, Lib.hid (hS.out.keep Hx.out Hp.out), Lib.hid (by rw [← ints_set]; exact (hO.out.ext he2).st i _), Lib.hid (Mod.set (p := ⟨g, i, none⟩) (hE.out.tr' (Mod.of he2)) (.inl rfl) _)⟩
          case measure => simp [intOf]; omega
        · have Hp := Lib.hid hp
          clear hp
          go_wp2_with fail
          refine (HC.out.call _ x (HM.out _ _ HI.out hE.out) Hdx.out).mono ?_
          rw [Hp.out]
          rintro e w2 ⟨rfl, he2⟩
          clear hcx hcy hfy
          go_wp2
          go_roundw
          case rel => exact ⟨i, j + 1, m, rfl, by go_num, Lib.hid (hS.out.skip Hx.out Hp.out), Lib.hid (hO.out.ext he2), Lib.hid (hE.out.tr' (Mod.of he2))⟩
          case measure => simp [intOf]; omega
      · obtain rfl : j = l.length := by omega
        have HL := Lib.hid hS.out.ilen
        have hcl : ∀ ty, (Builtin.clear_ #[26] ty #[.slice (some ⟨g, i, none⟩) (l.length - i) (c - i)]).run Try.prog wr = .ok (.tuple #[]) (wr.setCells g i (List.replicate (l.length - i) (.int .i64 0))) := fun ty =>
          Lib.run_clear_slice wr _ _ ty _ Try.underlying26 Try.zeroValue3 rfl rfl g i _ _ (by omega) (fun t ht => by
            have : (ints m)[i + t]? = some (.int .i64 (m[i + t]'(by omega))) := by rw [ints_at, List.getElem?_eq_getElem (by omega)]; rfl
            rw [hO.out.cell this]; rfl) (fun t ht => hO.out.free _)
        have HO2 := Lib.hid ((Own.behind (List.replicate (l.length - i) (Value.int .i64 0)) wr i (hO.out.cut i (by omega)) (Nat.le_refl _)))
        have HE2 := Lib.hid (Mod.cells (F := fun b => blk (some (⟨g, 0, none⟩ : Addr)) = some b) g rfl (List.replicate (l.length - i) (Value.int .i64 0)) wr i hE.out)
        have hic : i ≤ c := by omega
        have hil : i ≤ l.length := by omega
        go_wp2
        go_ret
        rw [HL.out.2]
        refine ⟨rfl, ?_, HE2.out⟩
        have := HO2.out
        rw [ints_take, HL.out.1] at this
        exact this
end Go.Proofs.Ytkbihkggneaeeaa
