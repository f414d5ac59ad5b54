/- The laws' sizes of formulas, nodes, graphs, lists: contracts. Conditions: the purse is a natural number of at most 2^20. -/
import Derived.Test.YtkkegmimofmhpaaLawA
namespace Go.Proofs.Ytkkegmimofmhpaa
open Go.RowKit

theorem l_szFormula (A : Option Addr) (n c L : Nat) (w : World) (hn : n ≤ 9223372036854775807) (hL : L ≤ 1048576) : Calls Try.prog 177 #[.agg #[.slice A n c], .int .i64 (L : Int)] w fun e w' => e = .returned (.int .i64 (Sg.szI n L)) ∧ Ext w w' := by
  have HC := Lib.hid (fun w => l_szPartS A n c L w hn hL)
  by_cases h : L < n
  · have hs : Sg.szI n L = -1 := by unfold Sg.szI; rw [if_pos h]
    have Hs := Lib.hid hs
    clear hs
    go_enter Try.func177, Try.ntmps177
    go_wp2_with (go_at_call 193; refine (HC.out _).mono ?_; rintro e w1 ⟨rfl, he1⟩; rw [Hs.out])
    go_ret
    exact ⟨ret_int Hs.out.symm, by subst he1; exact (Ext.rfl' w).al _⟩
  · obtain ⟨M, hM⟩ : ∃ M, M = L - n := ⟨_, rfl⟩
    have hs : Sg.szI n L = (M : Int) := by unfold Sg.szI; rw [if_neg h, hM]
    clear hM
    have Hs := Lib.hid hs
    clear hs
    go_enter Try.func177, Try.ntmps177
    go_wp2_with (go_at_call 193; refine (HC.out _).mono ?_; rintro e w1 ⟨rfl, he1⟩; rw [Hs.out])
    go_ret
    exact ⟨ret_int Hs.out.symm, by subst he1; exact (Ext.rfl' w).al _⟩

theorem l_szNode (k : Int) (A : Option Addr) (n c L : Nat) (w : World) (hn : n ≤ 9223372036854775807) (hL : L ≤ 1048576) : Calls Try.prog 142 #[.agg #[.int .i64 k, .slice A n c], .int .i64 (L : Int)] w fun e w' => e = .returned (.int .i64 (Sg.szI n L)) ∧ Ext w w' := by
  have HC := Lib.hid (fun w => l_szFormula A n c L w hn hL)
  by_cases h : L < n
  · have hs : Sg.szI n L = -1 := by unfold Sg.szI; rw [if_pos h]
    have Hs := Lib.hid hs
    clear hs
    go_enter Try.func142, Try.ntmps142
    go_wp2_with (go_at_call 177; refine (HC.out _).mono ?_; rintro e w1 ⟨rfl, he1⟩; rw [Hs.out])
    go_ret
    exact ⟨ret_int Hs.out.symm, ((Ext.rfl' w).al _).tr he1⟩
  · obtain ⟨M, hM⟩ : ∃ M, M = L - n := ⟨_, rfl⟩
    have hs : Sg.szI n L = (M : Int) := by unfold Sg.szI; rw [if_neg h, hM]
    clear hM
    have Hs := Lib.hid hs
    clear hs
    go_enter Try.func142, Try.ntmps142
    go_wp2_with (go_at_call 177; refine (HC.out _).mono ?_; rintro e w1 ⟨rfl, he1⟩; rw [Hs.out])
    go_ret
    exact ⟨ret_int Hs.out.symm, ((Ext.rfl' w).al _).tr he1⟩

theorem l_szNodeS (A : Option Addr) (c : Nat) (g : Sg.Graph) (L : Nat) (w : World) (h : RdN0 w A g) (hL : L ≤ 1048576) :
    Calls Try.prog 79 #[.slice A g.length c, .int .i64 (L : Int)] w fun e w' => e = .returned (.int .i64 (Sg.szL (g.map (fun n => n.f.length)) L)) ∧ Ext w w' := by
  have hm := h.1
  unfold maxLen at hm
  by_cases hl : L < g.length
  · have hs : Sg.szL (g.map (fun n => n.f.length)) L = -1 := by unfold Sg.szL; rw [if_pos (by simpa using hl)]
    rw [hs]
    clear hs
    go_enter Try.func79, Try.ntmps79
    go_wp2
    go_ret
    exact ⟨rfl, Ext.rfl' w⟩
  · have hs : Sg.szL (g.map (fun n => n.f.length)) L = Sg.szFrom (g.map (fun n => n.f.length)) (L - g.length) := by unfold Sg.szL; rw [if_neg (by simpa using hl)]; simp
    rw [hs]
    clear hs
    have hM : L - g.length ≤ 1048576 := by omega
    have hM2 : (L : Int) - (g.length : Int) = ((L - g.length : Nat) : Int) := by omega
    generalize hz : L - g.length = M at *
    go_enter Try.func79, Try.ntmps79
    go_wp2
    go_loopw [1, 5] (fun u i wr => ∃ k N : Nat, k ≤ g.length ∧ N ≤ 1048576 ∧ i = .int .i64 k ∧ u = .int .i64 N ∧ Ext w wr ∧ Sg.szFrom ((g.map (fun n => n.f.length)).drop k) N = Sg.szFrom (g.map (fun n => n.f.length)) M) (fun _ i _ => g.length - (intOf i).toNat)
    case atStart => exact ⟨0, M, Nat.zero_le _, hM, rfl, by first | rfl | (rw [hM2]) | (congr 1; omega), Ext.rfl' _, rfl⟩
    case round =>
      obtain ⟨k, N, hk, hN, rfl, rfl, he, hf⟩ := hrel
      by_cases hlt : k < g.length
      · obtain ⟨⟨nk, nf⟩, b, o, Ap, cp, hx, rfl, hkc, hs0, hr⟩ := (h.ext he).at_ hlt
        have hx' : (g.map (fun n => n.f.length))[k]? = some nf.length := by simp [hx]
        rw [drop_cons _ k hx'] at hf
        have hbig := hr.big
        clear hx hx'
        by_cases hlN : N < nf.length
        · have hs : Sg.szI nf.length N = -1 := by unfold Sg.szI; rw [if_pos hlN]
          have Hs := Lib.hid hs
          have hf' : Sg.szFrom (g.map (fun n => n.f.length)) M = -1 := by rw [← hf]; unfold Sg.szFrom; rw [if_pos hlN]
          have Hf := Lib.hid hf'
          clear hs hf hf' hz hM2
          go_wp2_with (go_at_call 142; refine (l_szNode nk Ap nf.length cp N _ hbig hN).mono ?_; rintro e w2 ⟨rfl, he2⟩; rw [Hs.out])
          go_ret
          exact ⟨ret_int Hf.out.symm, he.tr he2⟩
        · obtain ⟨N2, hN2⟩ : ∃ N2, N2 = N - nf.length := ⟨_, rfl⟩
          have hs : Sg.szI nf.length N = (N2 : Int) := by unfold Sg.szI; rw [if_neg hlN, hN2]
          have Hs := Lib.hid hs
          have hf' : Sg.szFrom ((g.map (fun n => n.f.length)).drop (k + 1)) N2 = Sg.szFrom (g.map (fun n => n.f.length)) M := by
            rw [← hf, hN2]
            simp only [Sg.szFrom]
            rw [if_neg hlN]
          have Hf := Lib.hid hf'
          have hN' : N2 ≤ 1048576 := by omega
          clear hN2
          clear hs hf hf' hz hM2
          go_wp2_with (go_at_call 142; refine (l_szNode nk Ap nf.length cp N _ hbig hN).mono ?_; rintro e w2 ⟨rfl, he2⟩; rw [Hs.out])
          go_roundw
          case rel => exact ⟨k + 1, N2, by omega, hN', by go_num, rfl, he.tr he2, Hf.out⟩
          case measure => simp [intOf]; omega
      · obtain rfl : k = g.length := by omega
        have hf' : (N : Int) = Sg.szFrom (g.map (fun n => n.f.length)) M := by rw [← hf, List.drop_eq_nil_of_le (by simp)]; rfl
        have Hf := Lib.hid hf'
        clear hf hf' hz hM2
        go_wp2
        go_ret
        exact ⟨ret_int Hf.out, he⟩

theorem l_szIntSS (A : Option Addr) (c : Nat) (ll : List (List Int)) (L : Nat) (w : World) (h : RdL0 w A ll) (hL : L ≤ 1048576) :
    Calls Try.prog 81 #[.slice A ll.length c, .int .i64 (L : Int)] w fun e w' => e = .returned (.int .i64 (Sg.szL (ll.map List.length) L)) ∧ Ext w w' := by
  have hm := h.1
  unfold maxLen at hm
  by_cases hl : L < ll.length
  · have hs : Sg.szL (ll.map List.length) L = -1 := by unfold Sg.szL; rw [if_pos (by simpa using hl)]
    rw [hs]
    clear hs
    go_enter Try.func81, Try.ntmps81
    go_wp2
    go_ret
    exact ⟨rfl, Ext.rfl' w⟩
  · have hs : Sg.szL (ll.map List.length) L = Sg.szFrom (ll.map List.length) (L - ll.length) := by unfold Sg.szL; rw [if_neg (by simpa using hl)]; simp
    rw [hs]
    clear hs
    have hM : L - ll.length ≤ 1048576 := by omega
    have hM2 : (L : Int) - (ll.length : Int) = ((L - ll.length : Nat) : Int) := by omega
    generalize hz : L - ll.length = M at *
    go_enter Try.func81, Try.ntmps81
    go_wp2
    go_loopw [1, 5] (fun u i wr => ∃ k N : Nat, k ≤ ll.length ∧ N ≤ 1048576 ∧ i = .int .i64 k ∧ u = .int .i64 N ∧ Ext w wr ∧ Sg.szFrom ((ll.map List.length).drop k) N = Sg.szFrom (ll.map List.length) M) (fun _ i _ => ll.length - (intOf i).toNat)
    case atStart => exact ⟨0, M, Nat.zero_le _, hM, rfl, by first | rfl | (rw [hM2]) | (congr 1; omega), Ext.rfl' _, rfl⟩
    case round =>
      obtain ⟨k, N, hk, hN, rfl, rfl, he, hf⟩ := hrel
      by_cases hlt : k < ll.length
      · obtain ⟨l, b, o, Al, cl, hx, rfl, hlc, hr⟩ := (h.ext he).at_ hlt
        have hx' : (ll.map List.length)[k]? = some l.length := by simp [hx]
        rw [drop_cons _ k hx'] at hf
        have hbig := hr.big
        clear hx hx'
        by_cases hlN : N < l.length
        · have hs : Sg.szI l.length N = -1 := by unfold Sg.szI; rw [if_pos hlN]
          have Hs := Lib.hid hs
          have hf' : Sg.szFrom (ll.map List.length) M = -1 := by rw [← hf]; unfold Sg.szFrom; rw [if_pos hlN]
          have Hf := Lib.hid hf'
          clear hs hf hf' hz hM2
          go_wp2_with (go_at_call 80; refine (l_szIntS Al l.length cl N _ hbig hN).mono ?_; rintro e w2 ⟨rfl, he2⟩; rw [Hs.out])
          go_ret
          exact ⟨ret_int Hf.out.symm, by subst he2; exact he⟩
        · obtain ⟨N2, hN2⟩ : ∃ N2, N2 = N - l.length := ⟨_, rfl⟩
          have hs : Sg.szI l.length N = (N2 : Int) := by unfold Sg.szI; rw [if_neg hlN, hN2]
          have Hs := Lib.hid hs
          have hf' : Sg.szFrom ((ll.map List.length).drop (k + 1)) N2 = Sg.szFrom (ll.map List.length) M := by
            rw [← hf, hN2]
            simp only [Sg.szFrom]
            rw [if_neg hlN]
          have Hf := Lib.hid hf'
          have hN' : N2 ≤ 1048576 := by omega
          clear hN2
          clear hs hf hf' hz hM2
          go_wp2_with (go_at_call 80; refine (l_szIntS Al l.length cl N _ hbig hN).mono ?_; rintro e w2 ⟨rfl, he2⟩; rw [Hs.out])
          go_roundw
          case rel => exact ⟨k + 1, N2, by omega, hN', by go_num, rfl, by subst he2; exact he, Hf.out⟩
          case measure => simp [intOf]; omega
      · obtain rfl : k = ll.length := by omega
        have hf' : (N : Int) = Sg.szFrom (ll.map List.length) M := by rw [← hf, List.drop_eq_nil_of_le (by simp)]; rfl
        have Hf := Lib.hid hf'
        clear hf hf' hz hM2
        go_wp2
        go_ret
        exact ⟨ret_int Hf.out, he⟩
end Go.Proofs.Ytkkegmimofmhpaa

