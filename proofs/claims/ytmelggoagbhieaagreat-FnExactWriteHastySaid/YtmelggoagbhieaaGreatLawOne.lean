/- Parts of one proof, joined. The laws' sizes: contracts. Conditions: the purse is a natural number of at most 2^20. The laws' sizes of formulas, nodes, graphs, lists: contracts. Conditions: the purse is a natural number of at most 2^20. The laws' sizes of graphs and states; the reference's ValidEager: contracts. The laws' comparisons of ints, parts, formulas at equal contents: contracts. The laws' comparisons of nodes, graphs, lists, states at equal contents: contracts. -/
import Derived.Test.YtmelggoagbhieaaGreatCore
import Derived.Test.YtmelggoagbhieaaGreatSpecTwo
import Derived.Deep.QuietTactic
import Derived.BigQuiet
import Derived.Deep.RegionHeld3
/- The laws' sizes: contracts. Conditions: the purse is a natural number of at most 2^20. -/
namespace Sg
def szI (n L : Nat) : Int := if L < n then -1 else ((L - n : Nat) : Int)
def szFrom : List Nat → Nat → Int
  | [], L => L
  | n :: r, L => if L < n then -1 else szFrom r (L - n)
def szL (ns : List Nat) (L : Nat) : Int := if L < ns.length then -1 else szFrom ns (L - ns.length)
theorem szFrom_ok : ∀ (ns : List Nat) (L : Nat), 0 ≤ szFrom ns L → (∀ n ∈ ns, n ≤ L) ∧ ∃ M : Nat, M ≤ L ∧ szFrom ns L = M
  | [], L, _ => ⟨fun n hn => (by cases hn), L, Nat.le_refl _, rfl⟩
  | n :: r, L, h => by
    unfold szFrom at h ⊢
    split at h
    · omega
    · rename_i hl
      rw [if_neg hl]
      obtain ⟨h1, M, h2, h3⟩ := szFrom_ok r (L - n) h
      refine ⟨fun m hm => ?_, M, by omega, h3⟩
      rcases List.mem_cons.1 hm with rfl | hm
      · omega
      · have := h1 m hm; omega
theorem szL_ok (ns : List Nat) (L : Nat) (h : 0 ≤ szL ns L) : ns.length ≤ L ∧ (∀ n ∈ ns, n ≤ L) ∧ ∃ M : Nat, M ≤ L ∧ szL ns L = M := by
  unfold szL at h ⊢
  split at h
  · omega
  · rename_i hl
    rw [if_neg hl]
    obtain ⟨h1, M, h2, h3⟩ := szFrom_ok ns _ h
    exact ⟨by omega, fun n hn => by have := h1 n hn; omega, M, by omega, h3⟩
end Sg
namespace Go.Proofs.YtmelggoagbhieaaGreat
open Go.RowKit

/-- nodes in memory, of any number -/
def RdN0 (w : World) (A : Option Addr) (g : Sg.Graph) : Prop :=
  g.length ≤ maxLen ∧ ∀ (i : Nat) (n : Sg.Node), g[i]? = some n → ∃ b o Ap cp, A = some ⟨b, o, none⟩ ∧ w.cell? ⟨b, o + i * 2, none⟩ = some (.int .i64 n.kind) ∧
    w.cell? ⟨b, o + i * 2 + 1, none⟩ = some (.slice Ap n.f.length cp) ∧ Rd w 5 Ap n.f.length (parts n.f)
theorem RdN0.ext {w w' : World} {A : Option Addr} {g : Sg.Graph} (h : RdN0 w A g) (e : Ext w w') : RdN0 w' A g :=
  ⟨h.1, fun i n hn => let ⟨b, o, Ap, cp, ha, h1, h2, h3⟩ := h.2 i n hn; ⟨b, o, Ap, cp, ha, e.cellE h1, e.cellE h2, h3.ext e⟩⟩
theorem RdN0.at_ {w : World} {A : Option Addr} {g : Sg.Graph} (h : RdN0 w A g) {i : Nat} (hi : i < g.length) : ∃ n b o Ap cp, g[i]? = some n ∧ A = some ⟨b, o, none⟩ ∧ w.cell? ⟨b, o + i * 2, none⟩ = some (.int .i64 n.kind) ∧
    w.cell? ⟨b, o + i * 2 + 1, none⟩ = some (.slice Ap n.f.length cp) ∧ Rd w 5 Ap n.f.length (parts n.f) := by
  have hx : g[i]? = some g[i] := List.getElem?_eq_getElem hi
  obtain ⟨b, o, Ap, cp, r⟩ := h.2 i _ hx
  exact ⟨_, b, o, Ap, cp, hx, r⟩
/-- lists of numbers in memory, of any number -/
def RdL0 (w : World) (A : Option Addr) (ll : List (List Int)) : Prop :=
  ll.length ≤ maxLen ∧ ∀ (i : Nat) (l : List Int), ll[i]? = some l → ∃ b o Al cl, A = some ⟨b, o, none⟩ ∧ w.cell? ⟨b, o + i, none⟩ = some (.slice Al l.length cl) ∧ Rd w 1 Al l.length (ints l)
theorem RdL0.ext {w w' : World} {A : Option Addr} {ll : List (List Int)} (h : RdL0 w A ll) (e : Ext w w') : RdL0 w' A ll :=
  ⟨h.1, fun i l hl => let ⟨b, o, Al, cl, ha, h1, h2⟩ := h.2 i l hl; ⟨b, o, Al, cl, ha, e.cellE h1, h2.ext e⟩⟩
theorem RdL0.at_ {w : World} {A : Option Addr} {ll : List (List Int)} (h : RdL0 w A ll) {i : Nat} (hi : i < ll.length) : ∃ l b o Al cl, ll[i]? = some l ∧ A = some ⟨b, o, none⟩ ∧ w.cell? ⟨b, o + i, none⟩ = some (.slice Al l.length cl) ∧ Rd w 1 Al l.length (ints l) := by
  have hx : ll[i]? = some ll[i] := List.getElem?_eq_getElem hi
  obtain ⟨b, o, Al, cl, r⟩ := h.2 i _ hx
  exact ⟨_, b, o, Al, cl, hx, r⟩

theorem RdN.to0 {w : World} {A : Option Addr} {g : Sg.Graph} (h : RdN w A g) : RdN0 w A g :=
  ⟨by have := h.1; unfold maxLen; omega, fun i n hn => let ⟨b, o, Ap, cp, ha, h1, h2, h3, _⟩ := h.2 i n hn; ⟨b, o, Ap, cp, ha, h1, h2, h3⟩⟩
theorem RdL.to0 {w : World} {A : Option Addr} {ll : List (List Int)} (h : RdL w A ll) : RdL0 w A ll :=
  ⟨by have := h.1; unfold maxLen; omega, fun i l hi => let ⟨b, o, Al, cl, ha, h1, h2, _⟩ := h.2 i l hi; ⟨b, o, Al, cl, ha, h1, h2⟩⟩

theorem l_szIntS (A : Option Addr) (n c L : Nat) (w : World) (hn : n ≤ 9223372036854775807) (hL : L ≤ 1048576) : Calls Tryz.prog 101 #[.slice A n c, .int .i64 (L : Int)] w fun e w' => e = .returned (.int .i64 (Sg.szI n L)) ∧ w = w' := by
  unfold Sg.szI
  by_cases h : L < n
  · rw [if_pos h]
    go_enter Tryz.func101, Tryz.ntmps101
    go_wp2
    go_ret
    exact ⟨rfl, rfl⟩
  · rw [if_neg h]
    go_enter Tryz.func101, Tryz.ntmps101
    go_wp2
    go_ret
    exact ⟨ret_int (by omega), rfl⟩
theorem l_szPartS (A : Option Addr) (n c L : Nat) (w : World) (hn : n ≤ 9223372036854775807) (hL : L ≤ 1048576) : Calls Tryz.prog 213 #[.slice A n c, .int .i64 (L : Int)] w fun e w' => e = .returned (.int .i64 (Sg.szI n L)) ∧ w = w' := by
  unfold Sg.szI
  by_cases h : L < n
  · rw [if_pos h]
    go_enter Tryz.func213, Tryz.ntmps213
    go_wp2
    go_ret
    exact ⟨rfl, rfl⟩
  · rw [if_neg h]
    go_enter Tryz.func213, Tryz.ntmps213
    go_wp2
    go_ret
    exact ⟨ret_int (by omega), rfl⟩
end Go.Proofs.YtmelggoagbhieaaGreat

/- The laws' sizes of formulas, nodes, graphs, lists: contracts. Conditions: the purse is a natural number of at most 2^20. -/
namespace Go.Proofs.YtmelggoagbhieaaGreat
open Go.RowKit

theorem l_szFormula (A : Option Addr) (n c L : Nat) (w : World) (hn : n ≤ 9223372036854775807) (hL : L ≤ 1048576) : Calls Tryz.prog 198 #[.agg #[.slice A n c], .int .i64 (L : Int)] w fun e w' => e = .returned (.int .i64 (Sg.szI n L)) ∧ Ext w w' := by
  have HC := Lib.hid (fun w => l_szPartS A n c L w hn hL)
  by_cases h : L < n
  · have hs : Sg.szI n L = -1 := by unfold Sg.szI; rw [if_pos h]
    have Hs := Lib.hid hs
    clear hs
    go_enter Tryz.func198, Tryz.ntmps198
    go_wp2_with (go_at_call 213; refine (HC.out _).mono ?_; rintro e w1 ⟨rfl, he1⟩; rw [Hs.out])
    go_ret
    exact ⟨ret_int Hs.out.symm, by subst he1; exact (Ext.rfl' w).al _⟩
  · obtain ⟨M, hM⟩ : ∃ M, M = L - n := ⟨_, rfl⟩
    have hs : Sg.szI n L = (M : Int) := by unfold Sg.szI; rw [if_neg h, hM]
    clear hM
    have Hs := Lib.hid hs
    clear hs
    go_enter Tryz.func198, Tryz.ntmps198
    go_wp2_with (go_at_call 213; refine (HC.out _).mono ?_; rintro e w1 ⟨rfl, he1⟩; rw [Hs.out])
    go_ret
    exact ⟨ret_int Hs.out.symm, by subst he1; exact (Ext.rfl' w).al _⟩

theorem l_szNode (k : Int) (A : Option Addr) (n c L : Nat) (w : World) (hn : n ≤ 9223372036854775807) (hL : L ≤ 1048576) : Calls Tryz.prog 162 #[.agg #[.int .i64 k, .slice A n c], .int .i64 (L : Int)] w fun e w' => e = .returned (.int .i64 (Sg.szI n L)) ∧ Ext w w' := by
  have HC := Lib.hid (fun w => l_szFormula A n c L w hn hL)
  by_cases h : L < n
  · have hs : Sg.szI n L = -1 := by unfold Sg.szI; rw [if_pos h]
    have Hs := Lib.hid hs
    clear hs
    go_enter Tryz.func162, Tryz.ntmps162
    go_wp2_with (go_at_call 198; refine (HC.out _).mono ?_; rintro e w1 ⟨rfl, he1⟩; rw [Hs.out])
    go_ret
    exact ⟨ret_int Hs.out.symm, ((Ext.rfl' w).al _).tr he1⟩
  · obtain ⟨M, hM⟩ : ∃ M, M = L - n := ⟨_, rfl⟩
    have hs : Sg.szI n L = (M : Int) := by unfold Sg.szI; rw [if_neg h, hM]
    clear hM
    have Hs := Lib.hid hs
    clear hs
    go_enter Tryz.func162, Tryz.ntmps162
    go_wp2_with (go_at_call 198; refine (HC.out _).mono ?_; rintro e w1 ⟨rfl, he1⟩; rw [Hs.out])
    go_ret
    exact ⟨ret_int Hs.out.symm, ((Ext.rfl' w).al _).tr he1⟩

theorem l_szNodeS (A : Option Addr) (c : Nat) (g : Sg.Graph) (L : Nat) (w : World) (h : RdN0 w A g) (hL : L ≤ 1048576) :
    Calls Tryz.prog 100 #[.slice A g.length c, .int .i64 (L : Int)] w fun e w' => e = .returned (.int .i64 (Sg.szL (g.map (fun n => n.f.length)) L)) ∧ Ext w w' := by
  have hm := h.1
  unfold maxLen at hm
  by_cases hl : L < g.length
  · have hs : Sg.szL (g.map (fun n => n.f.length)) L = -1 := by unfold Sg.szL; rw [if_pos (by simpa using hl)]
    rw [hs]
    clear hs
    go_enter Tryz.func100, Tryz.ntmps100
    go_wp2
    go_ret
    exact ⟨rfl, Ext.rfl' w⟩
  · have hs : Sg.szL (g.map (fun n => n.f.length)) L = Sg.szFrom (g.map (fun n => n.f.length)) (L - g.length) := by unfold Sg.szL; rw [if_neg (by simpa using hl)]; simp
    rw [hs]
    clear hs
    have hM : L - g.length ≤ 1048576 := by omega
    have hM2 : (L : Int) - (g.length : Int) = ((L - g.length : Nat) : Int) := by omega
    generalize hz : L - g.length = M at *
    go_enter Tryz.func100, Tryz.ntmps100
    go_wp2
    go_loopw [1, 5] (fun u i wr => ∃ k N : Nat, k ≤ g.length ∧ N ≤ 1048576 ∧ i = .int .i64 k ∧ u = .int .i64 N ∧ Ext w wr ∧ Sg.szFrom ((g.map (fun n => n.f.length)).drop k) N = Sg.szFrom (g.map (fun n => n.f.length)) M) (fun _ i _ => g.length - (intOf i).toNat)
    case atStart => exact ⟨0, M, Nat.zero_le _, hM, rfl, by first | rfl | (rw [hM2]) | (congr 1; omega), Ext.rfl' _, rfl⟩
    case round =>
      obtain ⟨k, N, hk, hN, rfl, rfl, he, hf⟩ := hrel
      by_cases hlt : k < g.length
      · obtain ⟨⟨nk, nf⟩, b, o, Ap, cp, hx, rfl, hkc, hs0, hr⟩ := (h.ext he).at_ hlt
        have hx' : (g.map (fun n => n.f.length))[k]? = some nf.length := by simp [hx]
        rw [drop_cons _ k hx'] at hf
        have hbig := hr.big
        clear hx hx'
        by_cases hlN : N < nf.length
        · have hs : Sg.szI nf.length N = -1 := by unfold Sg.szI; rw [if_pos hlN]
          have Hs := Lib.hid hs
          have hf' : Sg.szFrom (g.map (fun n => n.f.length)) M = -1 := by rw [← hf]; unfold Sg.szFrom; rw [if_pos hlN]
          have Hf := Lib.hid hf'
          clear hs hf hf' hz hM2
          go_wp2_with (go_at_call 162; refine (l_szNode nk Ap nf.length cp N _ hbig hN).mono ?_; rintro e w2 ⟨rfl, he2⟩; rw [Hs.out])
          go_ret
          exact ⟨ret_int Hf.out.symm, he.tr he2⟩
        · obtain ⟨N2, hN2⟩ : ∃ N2, N2 = N - nf.length := ⟨_, rfl⟩
          have hs : Sg.szI nf.length N = (N2 : Int) := by unfold Sg.szI; rw [if_neg hlN, hN2]
          have Hs := Lib.hid hs
          have hf' : Sg.szFrom ((g.map (fun n => n.f.length)).drop (k + 1)) N2 = Sg.szFrom (g.map (fun n => n.f.length)) M := by
            rw [← hf, hN2]
            simp only [Sg.szFrom]
            rw [if_neg hlN]
          have Hf := Lib.hid hf'
          have hN' : N2 ≤ 1048576 := by omega
          clear hN2
          clear hs hf hf' hz hM2
          go_wp2_with (go_at_call 162; refine (l_szNode nk Ap nf.length cp N _ hbig hN).mono ?_; rintro e w2 ⟨rfl, he2⟩; rw [Hs.out])
          go_roundw
          case rel => exact ⟨k + 1, N2, by omega, hN', by go_num, rfl, he.tr he2, Hf.out⟩
          case measure => simp [intOf]; omega
      · obtain rfl : k = g.length := by omega
        have hf' : (N : Int) = Sg.szFrom (g.map (fun n => n.f.length)) M := by rw [← hf, List.drop_eq_nil_of_le (by simp)]; rfl
        have Hf := Lib.hid hf'
        clear hf hf' hz hM2
        go_wp2
        go_ret
        exact ⟨ret_int Hf.out, he⟩

theorem l_szIntSS (A : Option Addr) (c : Nat) (ll : List (List Int)) (L : Nat) (w : World) (h : RdL0 w A ll) (hL : L ≤ 1048576) :
    Calls Tryz.prog 102 #[.slice A ll.length c, .int .i64 (L : Int)] w fun e w' => e = .returned (.int .i64 (Sg.szL (ll.map List.length) L)) ∧ Ext w w' := by
  have hm := h.1
  unfold maxLen at hm
  by_cases hl : L < ll.length
  · have hs : Sg.szL (ll.map List.length) L = -1 := by unfold Sg.szL; rw [if_pos (by simpa using hl)]
    rw [hs]
    clear hs
    go_enter Tryz.func102, Tryz.ntmps102
    go_wp2
    go_ret
    exact ⟨rfl, Ext.rfl' w⟩
  · have hs : Sg.szL (ll.map List.length) L = Sg.szFrom (ll.map List.length) (L - ll.length) := by unfold Sg.szL; rw [if_neg (by simpa using hl)]; simp
    rw [hs]
    clear hs
    have hM : L - ll.length ≤ 1048576 := by omega
    have hM2 : (L : Int) - (ll.length : Int) = ((L - ll.length : Nat) : Int) := by omega
    generalize hz : L - ll.length = M at *
    go_enter Tryz.func102, Tryz.ntmps102
    go_wp2
    go_loopw [1, 5] (fun u i wr => ∃ k N : Nat, k ≤ ll.length ∧ N ≤ 1048576 ∧ i = .int .i64 k ∧ u = .int .i64 N ∧ Ext w wr ∧ Sg.szFrom ((ll.map List.length).drop k) N = Sg.szFrom (ll.map List.length) M) (fun _ i _ => ll.length - (intOf i).toNat)
    case atStart => exact ⟨0, M, Nat.zero_le _, hM, rfl, by first | rfl | (rw [hM2]) | (congr 1; omega), Ext.rfl' _, rfl⟩
    case round =>
      obtain ⟨k, N, hk, hN, rfl, rfl, he, hf⟩ := hrel
      by_cases hlt : k < ll.length
      · obtain ⟨l, b, o, Al, cl, hx, rfl, hlc, hr⟩ := (h.ext he).at_ hlt
        have hx' : (ll.map List.length)[k]? = some l.length := by simp [hx]
        rw [drop_cons _ k hx'] at hf
        have hbig := hr.big
        clear hx hx'
        by_cases hlN : N < l.length
        · have hs : Sg.szI l.length N = -1 := by unfold Sg.szI; rw [if_pos hlN]
          have Hs := Lib.hid hs
          have hf' : Sg.szFrom (ll.map List.length) M = -1 := by rw [← hf]; unfold Sg.szFrom; rw [if_pos hlN]
          have Hf := Lib.hid hf'
          clear hs hf hf' hz hM2
          go_wp2_with (go_at_call 101; refine (l_szIntS Al l.length cl N _ hbig hN).mono ?_; rintro e w2 ⟨rfl, he2⟩; rw [Hs.out])
          go_ret
          exact ⟨ret_int Hf.out.symm, by subst he2; exact he⟩
        · obtain ⟨N2, hN2⟩ : ∃ N2, N2 = N - l.length := ⟨_, rfl⟩
          have hs : Sg.szI l.length N = (N2 : Int) := by unfold Sg.szI; rw [if_neg hlN, hN2]
          have Hs := Lib.hid hs
          have hf' : Sg.szFrom ((ll.map List.length).drop (k + 1)) N2 = Sg.szFrom (ll.map List.length) M := by
            rw [← hf, hN2]
            simp only [Sg.szFrom]
            rw [if_neg hlN]
          have Hf := Lib.hid hf'
          have hN' : N2 ≤ 1048576 := by omega
          clear hN2
          clear hs hf hf' hz hM2
          go_wp2_with (go_at_call 101; refine (l_szIntS Al l.length cl N _ hbig hN).mono ?_; rintro e w2 ⟨rfl, he2⟩; rw [Hs.out])
          go_roundw
          case rel => exact ⟨k + 1, N2, by omega, hN', by go_num, rfl, by subst he2; exact he, Hf.out⟩
          case measure => simp [intOf]; omega
      · obtain rfl : k = ll.length := by omega
        have hf' : (N : Int) = Sg.szFrom (ll.map List.length) M := by rw [← hf, List.drop_eq_nil_of_le (by simp)]; rfl
        have Hf := Lib.hid hf'
        clear hf hf' hz hM2
        go_wp2
        go_ret
        exact ⟨ret_int Hf.out, he⟩
end Go.Proofs.YtmelggoagbhieaaGreat


/- The laws' sizes of graphs and states; the reference's ValidEager: contracts. -/
namespace Sg
theorem szFrom_neg : ∀ (ns : List Nat) (L : Nat), szFrom ns L = -1 ∨ 0 ≤ szFrom ns L
  | [], L => .inr (by simp [szFrom])
  | n :: r, L => by
    simp only [szFrom]
    split
    · exact .inl rfl
    · exact szFrom_neg r _
theorem szL_neg (ns : List Nat) (L : Nat) : szL ns L = -1 ∨ 0 ≤ szL ns L := by
  unfold szL
  split
  · exact .inl rfl
  · exact szFrom_neg _ _
def szE (v : List Int) (r : List (List Int)) (L : Nat) : Int := if L < v.length then -1 else szL (r.map List.length) (L - v.length)
end Sg
namespace Go.Proofs.YtmelggoagbhieaaGreat
open Go.RowKit

theorem l_szGraph (A : Option Addr) (c : Nat) (g : Sg.Graph) (L : Nat) (w : World) (h : RdN0 w A g) (hL : L ≤ 1048576) :
    Calls Tryz.prog 28 #[.agg #[.slice A g.length c], .int .i64 (L : Int)] w fun e w' => e = .returned (.int .i64 (Sg.szL (g.map (fun n => n.f.length)) L)) ∧ Ext w w' := by
  have HC := Lib.hid (fun w h => l_szNodeS A c g L w h hL)
  rcases Sg.szL_neg (g.map (fun n => n.f.length)) L with hs | hs
  · have Hs := Lib.hid hs
    clear hs
    go_enter Tryz.func28, Tryz.ntmps28
    go_wp2_with (go_at_call 100; refine (HC.out _ (h.ext ((Ext.rfl' w).al _))).mono ?_; rintro e w1 ⟨rfl, he1⟩; rw [Hs.out])
    go_ret
    exact ⟨ret_int Hs.out.symm, ((Ext.rfl' w).al _).tr he1⟩
  · obtain ⟨_, _, M, _, hM⟩ := Sg.szL_ok _ _ hs
    have Hs := Lib.hid hM
    clear hs hM
    go_enter Tryz.func28, Tryz.ntmps28
    go_wp2_with (go_at_call 100; refine (HC.out _ (h.ext ((Ext.rfl' w).al _))).mono ?_; rintro e w1 ⟨rfl, he1⟩; rw [Hs.out])
    go_ret
    exact ⟨ret_int Hs.out.symm, ((Ext.rfl' w).al _).tr he1⟩

theorem l_szEager (Av Ar : Option Addr) (cv cr : Nat) (v : List Int) (r : List (List Int)) (L : Nat) (w : World) (hv : v.length ≤ 9223372036854775807) (h : RdL0 w Ar r) (hL : L ≤ 1048576) :
    Calls Tryz.prog 47 #[.agg #[.slice Av v.length cv, .slice Ar r.length cr], .int .i64 (L : Int)] w fun e w' => e = .returned (.int .i64 (Sg.szE v r L)) ∧ Ext w w' := by
  have HC := Lib.hid (fun w => l_szIntS Av v.length cv L w hv hL)
  unfold Sg.szE
  by_cases hl : L < v.length
  · rw [if_pos hl]
    have hs : Sg.szI v.length L = -1 := by unfold Sg.szI; rw [if_pos hl]
    have Hs := Lib.hid hs
    clear hs
    go_enter Tryz.func47, Tryz.ntmps47
    go_wp2_with (go_at_call 101; refine (HC.out _).mono ?_; rintro e w1 ⟨rfl, rfl⟩; rw [Hs.out])
    go_ret
    exact ⟨rfl, (Ext.rfl' w).al _⟩
  · rw [if_neg hl]
    have hs : Sg.szI v.length L = ((L - v.length : Nat) : Int) := by unfold Sg.szI; rw [if_neg hl]
    have hK : L - v.length ≤ 1048576 := by omega
    generalize L - v.length = K at *
    have HD := Lib.hid (fun w h => l_szIntSS Ar cr r K w h hK)
    have Hs := Lib.hid hs
    clear hs
    rcases Sg.szL_neg (r.map List.length) K with hs | hs
    · have Hq := Lib.hid hs
      clear hs
      go_enter Tryz.func47, Tryz.ntmps47
      go_wp2_with (first
        | (go_at_call 101; refine (HC.out _).mono ?_; rintro e w1 ⟨rfl, rfl⟩; rw [Hs.out])
        | (go_at_call 102; refine (HD.out _ (h.ext ((Ext.rfl' w).al _))).mono ?_; rintro e w2 ⟨rfl, he2⟩; rw [Hq.out]))
      go_ret
      exact ⟨ret_int Hq.out.symm, ((Ext.rfl' w).al _).tr he2⟩
    · obtain ⟨_, _, M, _, hM⟩ := Sg.szL_ok _ _ hs
      have Hq := Lib.hid hM
      clear hs hM
      go_enter Tryz.func47, Tryz.ntmps47
      go_wp2_with (first
        | (go_at_call 101; refine (HC.out _).mono ?_; rintro e w1 ⟨rfl, rfl⟩; rw [Hs.out])
        | (go_at_call 102; refine (HD.out _ (h.ext ((Ext.rfl' w).al _))).mono ?_; rintro e w2 ⟨rfl, he2⟩; rw [Hq.out]))
      go_ret
      exact ⟨ret_int Hq.out.symm, ((Ext.rfl' w).al _).tr he2⟩

end Go.Proofs.YtmelggoagbhieaaGreat

/- The laws' comparisons of ints, parts, formulas at equal contents: contracts. -/
namespace Go.Proofs.YtmelggoagbhieaaGreat
open Go.RowKit

set_option maxHeartbeats 1000000 in
theorem l_eqIntS (A B : Option Addr) (ca cb : Nat) (a : List Int) (w : World) (h : Rd w 1 A a.length (ints a)) (k : Rd w 1 B a.length (ints a)) :
    Calls Tryz.prog 35 #[.slice A a.length ca, .slice B a.length cb] w fun e w' => e = .returned (.bool true) ∧ Ext w w' := by
  have hk := k.big
  go_enter Tryz.func35, Tryz.ntmps35
  go_wp2
  go_loopw [5] (fun i wr => ∃ n : Nat, n ≤ a.length ∧ i = .int .i64 n ∧ Ext w wr) (fun i _ => a.length - (intOf i).toNat)
  case atStart => exact ⟨0, Nat.zero_le _, rfl, Ext.rfl' w⟩
  case round =>
    obtain ⟨n, hn, rfl, hext⟩ := hrel
    by_cases hlt : n < a.length
    · obtain ⟨ba, oa, x, rfl, hx, hcx⟩ := (h.ext hext).at1 hlt
      obtain ⟨bb, ob, y, rfl, hy, hcy⟩ := (k.ext hext).at1 hlt
      rw [hx] at hy
      injection hy with hy
      subst hy
      have hb1 : (x != x) = false := by simp
      clear hx
      go_wp2
      go_quiet (fail)
      go_wp2
      go_roundw
      case rel => exact ⟨n + 1, by omega, by go_num, hext.drN _⟩
      case measure => simp [intOf]; omega
    · obtain rfl : n = a.length := by omega
      go_wp2
      go_ret
      exact ⟨rfl, hext⟩

theorem l_eqPart (p : Sg.Part) (w : World) : Calls Tryz.prog 231 #[pv p, pv p] w fun e w' => e = .returned (.bool true) ∧ Ext w w' := by
  obtain ⟨k, a, b, c, n⟩ := p
  go_enter Tryz.func231, Tryz.ntmps231
  go_wp2
  go_ret
  exact ⟨rfl, ((Ext.rfl' w).al _).al _⟩

set_option maxHeartbeats 1000000 in
theorem l_eqPartS (A B : Option Addr) (ca cb : Nat) (f : List Sg.Part) (w : World) (h : Rd w 5 A f.length (parts f)) (k : Rd w 5 B f.length (parts f)) :
    Calls Tryz.prog 215 #[.slice A f.length ca, .slice B f.length cb] w fun e w' => e = .returned (.bool true) ∧ Ext w w' := by
  have hk := k.big
  have HP := Lib.hid l_eqPart
  go_enter Tryz.func215, Tryz.ntmps215
  go_wp2
  go_loopw [5] (fun i wr => ∃ n : Nat, n ≤ f.length ∧ i = .int .i64 n ∧ Ext w wr) (fun i _ => f.length - (intOf i).toNat)
  case atStart => exact ⟨0, Nat.zero_le _, rfl, Ext.rfl' w⟩
  case round =>
    obtain ⟨n, hn, rfl, hext⟩ := hrel
    by_cases hlt : n < f.length
    · obtain ⟨ba, oa, x, rfl, hx, h0, h1, h2, h3, h4⟩ := (h.ext hext).atP hlt
      obtain ⟨bb, ob, y, rfl, hy, g0, g1, g2, g3, g4⟩ := (k.ext hext).atP hlt
      rw [hx] at hy
      injection hy with hy
      subst hy
      clear hx
      have H0 := Lib.hid ((Ext.rfl' wr).dr)
      go_wp2_with fail
      go_region_held3 (fun W => W.cell? ⟨ba, oa + n * 5, none⟩ = some (.int .i64 x.kind) ∧ W.cell? ⟨ba, oa + n * 5 + 1, none⟩ = some (.int .i64 x.a) ∧ W.cell? ⟨ba, oa + n * 5 + 2, none⟩ = some (.int .i64 x.b) ∧ W.cell? ⟨ba, oa + n * 5 + 3, none⟩ = some (.int .i64 x.c) ∧ W.cell? ⟨ba, oa + n * 5 + 4, none⟩ = some (.int .i64 x.n)
          ∧ W.cell? ⟨bb, ob + n * 5, none⟩ = some (.int .i64 x.kind) ∧ W.cell? ⟨bb, ob + n * 5 + 1, none⟩ = some (.int .i64 x.a) ∧ W.cell? ⟨bb, ob + n * 5 + 2, none⟩ = some (.int .i64 x.b) ∧ W.cell? ⟨bb, ob + n * 5 + 3, none⟩ = some (.int .i64 x.c) ∧ W.cell? ⟨bb, ob + n * 5 + 4, none⟩ = some (.int .i64 x.n))
        (first | exact ⟨e9.cellE h0, e9.cellE h1, e9.cellE h2, e9.cellE h3, e9.cellE h4, e9.cellE g0, e9.cellE g1, e9.cellE g2, e9.cellE g3, e9.cellE g4⟩ | go_keep)
        (first | (go_at_call 231; refine (HP.out x _).mono ?_; rintro e w2 ⟨rfl, he2⟩; have e9 := H0.out.tr he2))
      all_goals
        go_wp2
        go_roundw
        case rel => exact ⟨n + 1, by omega, by go_num, hext.tr e9⟩
        case measure => simp [intOf]; omega
    · obtain rfl : n = f.length := by omega
      go_wp2
      go_ret
      exact ⟨rfl, hext⟩

theorem l_eqFormula (A B : Option Addr) (ca cb : Nat) (f : List Sg.Part) (w : World) (h : Rd w 5 A f.length (parts f)) (k : Rd w 5 B f.length (parts f)) :
    Calls Tryz.prog 203 #[.agg #[.slice A f.length ca], .agg #[.slice B f.length cb]] w fun e w' => e = .returned (.bool true) ∧ Ext w w' := by
  have HE := Lib.hid (((Ext.rfl' w).al (.cells #[.slice A f.length ca] 91)).al (.cells #[.slice B f.length cb] 91))
  have HC := Lib.hid (fun w h k => l_eqPartS A B ca cb f w h k)
  go_enter Tryz.func203, Tryz.ntmps203
  go_wp2_with (go_at_call 215; refine (HC.out _ (h.ext HE.out) (k.ext HE.out)).mono ?_; rintro e w2 ⟨rfl, he2⟩)
  go_ret
  exact ⟨rfl, HE.out.tr he2⟩

theorem l_eqNode (kd : Int) (A B : Option Addr) (ca cb : Nat) (f : List Sg.Part) (w : World) (h : Rd w 5 A f.length (parts f)) (k : Rd w 5 B f.length (parts f)) :
    Calls Tryz.prog 170 #[.agg #[.int .i64 kd, .slice A f.length ca], .agg #[.int .i64 kd, .slice B f.length cb]] w fun e w' => e = .returned (.bool true) ∧ Ext w w' := by
  have HE := Lib.hid (((Ext.rfl' w).al (.cells #[.int .i64 kd, .slice A f.length ca] 93)).al (.cells #[.int .i64 kd, .slice B f.length cb] 93))
  have HC := Lib.hid (fun w h k => l_eqFormula A B ca cb f w h k)
  have hb : (kd != kd) = false := by simp
  go_enter Tryz.func170, Tryz.ntmps170
  go_wp2_with (go_at_call 203; refine (HC.out _ (h.ext HE.out) (k.ext HE.out)).mono ?_; rintro e w2 ⟨rfl, he2⟩)
  go_ret
  exact ⟨rfl, HE.out.tr he2⟩
end Go.Proofs.YtmelggoagbhieaaGreat

/- The laws' comparisons of nodes, graphs, lists, states at equal contents: contracts. -/
namespace Go.Proofs.YtmelggoagbhieaaGreat
open Go.RowKit

set_option maxHeartbeats 1000000 in
theorem l_eqNodeS (A B : Option Addr) (ca cb : Nat) (g : Sg.Graph) (w : World) (h : RdN w A g) (k : RdN w B g) :
    Calls Tryz.prog 114 #[.slice A g.length ca, .slice B g.length cb] w fun e w' => e = .returned (.bool true) ∧ Ext w w' := by
  have hk := k.1
  go_enter Tryz.func114, Tryz.ntmps114
  go_wp2
  go_loopw [5] (fun i wr => ∃ n : Nat, n ≤ g.length ∧ i = .int .i64 n ∧ Ext w wr) (fun i _ => g.length - (intOf i).toNat)
  case atStart => exact ⟨0, Nat.zero_le _, rfl, Ext.rfl' w⟩
  case round =>
    obtain ⟨n, hn, rfl, hext⟩ := hrel
    by_cases hlt : n < g.length
    · obtain ⟨⟨nk, nf⟩, ba, oa, Ap, cp, hx, rfl, h0, h1, hr, _⟩ := (h.ext hext).at_ hlt
      obtain ⟨y, bb, ob, Bp, cq, hy, rfl, g0, g1, gr, _⟩ := (k.ext hext).at_ hlt
      rw [hx] at hy
      injection hy with hy
      subst hy
      clear hx
      dsimp only at *
      have H0 := Lib.hid ((Ext.rfl' wr).dr)
      have HC := Lib.hid (fun w h k => l_eqNode nk Ap Bp cp cq nf w h k)
      go_wp2_with fail
      go_region_held3 (fun W => W.cell? ⟨ba, oa + n * 2, none⟩ = some (.int .i64 nk) ∧ W.cell? ⟨ba, oa + n * 2 + 1, none⟩ = some (.slice Ap nf.length cp)
          ∧ W.cell? ⟨bb, ob + n * 2, none⟩ = some (.int .i64 nk) ∧ W.cell? ⟨bb, ob + n * 2 + 1, none⟩ = some (.slice Bp nf.length cq))
        (first | exact ⟨e9.cellE h0, e9.cellE h1, e9.cellE g0, e9.cellE g1⟩ | go_keep)
        (first | (go_at_call 170; refine (HC.out _ (hr.ext H0.out) (gr.ext H0.out)).mono ?_; rintro e w2 ⟨rfl, he2⟩; have e9 := H0.out.tr he2))
      all_goals
        go_wp2
        go_roundw
        case rel => exact ⟨n + 1, by omega, by go_num, hext.tr e9⟩
        case measure => simp [intOf]; omega
    · obtain rfl : n = g.length := by omega
      go_wp2
      go_ret
      exact ⟨rfl, hext⟩

set_option maxHeartbeats 1000000 in
theorem l_eqIntSS (A B : Option Addr) (ca cb : Nat) (g : List (List Int)) (w : World) (h : RdL w A g) (k : RdL w B g) :
    Calls Tryz.prog 113 #[.slice A g.length ca, .slice B g.length cb] w fun e w' => e = .returned (.bool true) ∧ Ext w w' := by
  have hk := k.1
  go_enter Tryz.func113, Tryz.ntmps113
  go_wp2
  go_loopw [5] (fun i wr => ∃ n : Nat, n ≤ g.length ∧ i = .int .i64 n ∧ Ext w wr) (fun i _ => g.length - (intOf i).toNat)
  case atStart => exact ⟨0, Nat.zero_le _, rfl, Ext.rfl' w⟩
  case round =>
    obtain ⟨n, hn, rfl, hext⟩ := hrel
    by_cases hlt : n < g.length
    · obtain ⟨l, ba, oa, Ap, cp, hx, rfl, h0, hr, _⟩ := (h.ext hext).at_ hlt
      obtain ⟨y, bb, ob, Bp, cq, hy, rfl, g0, gr, _⟩ := (k.ext hext).at_ hlt
      rw [hx] at hy
      injection hy with hy
      subst hy
      clear hx
      have H0 := Lib.hid ((Ext.rfl' wr).dr)
      have HC := Lib.hid (fun w h k => l_eqIntS Ap Bp cp cq l w h k)
      go_wp2_with fail
      go_region_held3 (fun W => W.cell? ⟨ba, oa + n, none⟩ = some (.slice Ap l.length cp) ∧ W.cell? ⟨bb, ob + n, none⟩ = some (.slice Bp l.length cq))
        (first | exact ⟨e9.cellE h0, e9.cellE g0⟩ | go_keep)
        (first | (go_at_call 35; refine (HC.out _ (hr.ext H0.out) (gr.ext H0.out)).mono ?_; rintro e w2 ⟨rfl, he2⟩; have e9 := H0.out.tr he2))
      all_goals
        go_wp2
        go_roundw
        case rel => exact ⟨n + 1, by omega, by go_num, hext.tr e9⟩
        case measure => simp [intOf]; omega
    · obtain rfl : n = g.length := by omega
      go_wp2
      go_ret
      exact ⟨rfl, hext⟩

theorem l_eqGraph (A B : Option Addr) (ca cb : Nat) (g : Sg.Graph) (w : World) (h : RdN w A g) (k : RdN w B g) :
    Calls Tryz.prog 36 #[.agg #[.slice A g.length ca], .agg #[.slice B g.length cb]] w fun e w' => e = .returned (.bool true) ∧ Ext w w' := by
  have HE := Lib.hid (((Ext.rfl' w).al (.cells #[.slice A g.length ca] 25)).al (.cells #[.slice B g.length cb] 25))
  have HC := Lib.hid (fun w h k => l_eqNodeS A B ca cb g w h k)
  go_enter Tryz.func36, Tryz.ntmps36
  go_wp2_with (go_at_call 114; refine (HC.out _ (h.ext HE.out) (k.ext HE.out)).mono ?_; rintro e w2 ⟨rfl, he2⟩)
  go_ret
  exact ⟨rfl, HE.out.tr he2⟩

theorem l_eqEager (Av Bv Ar Br : Option Addr) (cv cw cr cs : Nat) (v : List Int) (r : List (List Int)) (w : World) (hv : Rd w 1 Av v.length (ints v)) (kv : Rd w 1 Bv v.length (ints v)) (hr : RdL w Ar r) (kr : RdL w Br r) :
    Calls Tryz.prog 51 #[.agg #[.slice Av v.length cv, .slice Ar r.length cr], .agg #[.slice Bv v.length cw, .slice Br r.length cs]] w fun e w' => e = .returned (.bool true) ∧ Ext w w' := by
  have HE := Lib.hid (((Ext.rfl' w).al (.cells #[.slice Av v.length cv, .slice Ar r.length cr] 29)).al (.cells #[.slice Bv v.length cw, .slice Br r.length cs] 29))
  have HC := Lib.hid (fun w h k => l_eqIntS Av Bv cv cw v w h k)
  have HD := Lib.hid (fun w h k => l_eqIntSS Ar Br cr cs r w h k)
  go_enter Tryz.func51, Tryz.ntmps51
  go_wp2_with (first
    | (go_at_call 35; refine (HC.out _ (hv.ext HE.out) (kv.ext HE.out)).mono ?_; rintro e w2 ⟨rfl, he2⟩; have e2 := HE.out.tr he2; have k1 := he2.cellE (by simp [go_sem] : (((w.alloc (.cells #[.slice Av v.length cv, .slice Ar r.length cr] 29)).alloc (.cells #[.slice Bv v.length cw, .slice Br r.length cs] 29)).cell? ⟨w.heap.size, 1, none⟩ = some (.slice Ar r.length cr))); have k2 := he2.cellE (by simp [go_sem] : (((w.alloc (.cells #[.slice Av v.length cv, .slice Ar r.length cr] 29)).alloc (.cells #[.slice Bv v.length cw, .slice Br r.length cs] 29)).cell? ⟨w.heap.size + 1, 1, none⟩ = some (.slice Br r.length cs))))
    | (go_at_call 113; refine (HD.out _ (hr.ext e2) (kr.ext e2)).mono ?_; rintro e w3 ⟨rfl, he3⟩))
  go_ret
  exact ⟨rfl, e2.tr he3⟩
end Go.Proofs.YtmelggoagbhieaaGreat
