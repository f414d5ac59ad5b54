/- Parts of one proof, joined. The laws' sizes: contracts. Conditions: the purse is a natural number of at most 2^20. The laws' sizes of formulas, nodes, graphs, lists: contracts. Conditions: the purse is a natural number of at most 2^20. The laws' sizes of graphs and states; the reference's ValidEager: contracts. The laws' comparisons of ints, parts, formulas at equal contents: contracts. The laws' comparisons of nodes, graphs, lists, states at equal contents: contracts. The laws' copies of ints and parts: contracts. Conditions: at most 2^20 elements. The laws' copies of formulas and nodes: contracts. Conditions: at most 2^20 elements. The laws' copies of nodes: contracts. Conditions: at most 2^20 elements. The laws' copies of lists of lists: contract. Conditions: at most 2^20 elements. Zero nodes in memory. Conditions: none. The laws' copies of lists of nodes: contract. The laws' copies of graphs and states: contracts. The laws' marks: every number of a value is written anew, one after the other; and held. Contracts. Conditions: bounds on lengths. The laws' marks of parts, nodes, graphs, states: contracts. Conditions: bounds on lengths. -/
import Derived.Test.YtdnlpklmihoapaaDoorCore
import Derived.Test.YtdnlpklmihoapaaDoorSpecTwo
import Derived.Deep.QuietTactic
import Derived.BigQuiet
import Derived.Deep.RegionHeld3
import Derived.Handy
import Derived.Test.YtdnlpklmihoapaaDoorTy
/- The laws' sizes: contracts. Conditions: the purse is a natural number of at most 2^20. -/
namespace Sg
def szI (n L : Nat) : Int := if L < n then -1 else ((L - n : Nat) : Int)
def szFrom : List Nat → Nat → Int
 | [], L => L
 | n :: r, L => if L < n then -1 else szFrom r (L - n)
def szL (ns : List Nat) (L : Nat) : Int := if L < ns.length then -1 else szFrom ns (L - ns.length)
theorem szFrom_ok : ∀ (ns : List Nat) (L : Nat), 0 ≤ szFrom ns L → (∀ n ∈ ns, n ≤ L) ∧ ∃ M : Nat, M ≤ L ∧ szFrom ns L = M
 | [], L, _ => ⟨fun n hn => (by cases hn), L, Nat.le_refl _, rfl⟩
 | n :: r, L, h => by
  unfold szFrom at h ⊢
  split at h
  ·omega
  ·rename_i hl
   rw [if_neg hl]
   obtain ⟨h1, M, h2, h3⟩ := szFrom_ok r (L - n) h
   refine ⟨fun m hm => ?_, M, by omega, h3⟩
   rcases List.mem_cons.1 hm with rfl | hm
   ·omega
   ·have := h1 m hm; omega
theorem szL_ok (ns : List Nat) (L : Nat) (h : 0 ≤ szL ns L) : ns.length ≤ L ∧ (∀ n ∈ ns, n ≤ L) ∧ ∃ M : Nat, M ≤ L ∧ szL ns L = M := by
 unfold szL at h ⊢
 split at h
 ·omega
 ·rename_i hl
  rw [if_neg hl]
  obtain ⟨h1, M, h2, h3⟩ := szFrom_ok ns _ h
  exact ⟨by omega, fun n hn => by have := h1 n hn; omega, M, by omega, h3⟩
end Sg
namespace Go.Proofs.YtdnlpklmihoapaaDoor
open Go.RowKit

/-- nodes in memory, of any number -/
def RdN0 (w : World) (A : Option Addr) (g : Sg.Graph) : Prop :=
 g.length ≤ maxLen ∧ ∀ (i : Nat) (n : Sg.Node), g[i]? = some n → ∃ b o Ap cp, A = some ⟨b, o, none⟩ ∧ w.cell? ⟨b, o + i * 2, none⟩ = some (.int .i64 n.kind) ∧
  w.cell? ⟨b, o + i * 2 + 1, none⟩ = some (.slice Ap n.f.length cp) ∧ Rd w 5 Ap n.f.length (parts n.f)
theorem RdN0.ext {w w' : World} {A : Option Addr} {g : Sg.Graph} (h : RdN0 w A g) (e : Ext w w') : RdN0 w' A g :=
 ⟨h.1, fun i n hn => let ⟨b, o, Ap, cp, ha, h1, h2, h3⟩ := h.2 i n hn; ⟨b, o, Ap, cp, ha, e.cellE h1, e.cellE h2, h3.ext e⟩⟩
theorem RdN0.at_ {w : World} {A : Option Addr} {g : Sg.Graph} (h : RdN0 w A g) {i : Nat} (hi : i < g.length) : ∃ n b o Ap cp, g[i]? = some n ∧ A = some ⟨b, o, none⟩ ∧ w.cell? ⟨b, o + i * 2, none⟩ = some (.int .i64 n.kind) ∧
  w.cell? ⟨b, o + i * 2 + 1, none⟩ = some (.slice Ap n.f.length cp) ∧ Rd w 5 Ap n.f.length (parts n.f) := by
 have hx : g[i]? = some g[i] := List.getElem?_eq_getElem hi
 obtain ⟨b, o, Ap, cp, r⟩ := h.2 i _ hx
 exact ⟨_, b, o, Ap, cp, hx, r⟩
/-- lists of numbers in memory, of any number -/
def RdL0 (w : World) (A : Option Addr) (ll : List (List Int)) : Prop :=
 ll.length ≤ maxLen ∧ ∀ (i : Nat) (l : List Int), ll[i]? = some l → ∃ b o Al cl, A = some ⟨b, o, none⟩ ∧ w.cell? ⟨b, o + i, none⟩ = some (.slice Al l.length cl) ∧ Rd w 1 Al l.length (ints l)
theorem RdL0.ext {w w' : World} {A : Option Addr} {ll : List (List Int)} (h : RdL0 w A ll) (e : Ext w w') : RdL0 w' A ll :=
 ⟨h.1, fun i l hl => let ⟨b, o, Al, cl, ha, h1, h2⟩ := h.2 i l hl; ⟨b, o, Al, cl, ha, e.cellE h1, h2.ext e⟩⟩
theorem RdL0.at_ {w : World} {A : Option Addr} {ll : List (List Int)} (h : RdL0 w A ll) {i : Nat} (hi : i < ll.length) : ∃ l b o Al cl, ll[i]? = some l ∧ A = some ⟨b, o, none⟩ ∧ w.cell? ⟨b, o + i, none⟩ = some (.slice Al l.length cl) ∧ Rd w 1 Al l.length (ints l) := by
 have hx : ll[i]? = some ll[i] := List.getElem?_eq_getElem hi
 obtain ⟨b, o, Al, cl, r⟩ := h.2 i _ hx
 exact ⟨_, b, o, Al, cl, hx, r⟩

theorem RdN.to0 {w : World} {A : Option Addr} {g : Sg.Graph} (h : RdN w A g) : RdN0 w A g :=
 ⟨by have := h.1; unfold maxLen; omega, fun i n hn => let ⟨b, o, Ap, cp, ha, h1, h2, h3, _⟩ := h.2 i n hn; ⟨b, o, Ap, cp, ha, h1, h2, h3⟩⟩
theorem RdL.to0 {w : World} {A : Option Addr} {ll : List (List Int)} (h : RdL w A ll) : RdL0 w A ll :=
 ⟨by have := h.1; unfold maxLen; omega, fun i l hi => let ⟨b, o, Al, cl, ha, h1, h2, _⟩ := h.2 i l hi; ⟨b, o, Al, cl, ha, h1, h2⟩⟩

theorem l_szPartS (A : Option Addr) (n c L : Nat) (w : World) (hn : n ≤ 9223372036854775807) (hL : L ≤ 1048576) : Calls Tryd.prog 104 #[.slice A n c, .int .i64 (L : Int)] w fun e w' => e = .returned (.int .i64 (Sg.szI n L)) ∧ w = w' := by
 unfold Sg.szI
 by_cases h : L < n
 ·rw [if_pos h]
  go_enter Tryd.func104, Tryd.ntmps104
  go_wp2
  go_ret
  exact ⟨rfl, rfl⟩
 ·rw [if_neg h]
  go_enter Tryd.func104, Tryd.ntmps104
  go_wp2
  go_ret
  exact ⟨ret_int (by omega), rfl⟩
end Go.Proofs.YtdnlpklmihoapaaDoor

/- The laws' sizes of formulas, nodes, graphs, lists: contracts. Conditions: the purse is a natural number of at most 2^20. -/
namespace Go.Proofs.YtdnlpklmihoapaaDoor
open Go.RowKit

theorem l_szFormula (A : Option Addr) (n c L : Nat) (w : World) (hn : n ≤ 9223372036854775807) (hL : L ≤ 1048576) : Calls Tryd.prog 87 #[.agg #[.slice A n c], .int .i64 (L : Int)] w fun e w' => e = .returned (.int .i64 (Sg.szI n L)) ∧ Ext w w' := by
 have HC := lh (fun w => l_szPartS A n c L w hn hL)
 by_cases h : L < n
 ·have hs : Sg.szI n L = -1 := by unfold Sg.szI; rw [if_pos h]
  have Hs := lh hs
  clear hs
  go_enter Tryd.func87, Tryd.ntmps87
  go_wp2_with (go_at_call 104; refine (HC.out _).mono ?_; rintro e w1 ⟨rfl, he1⟩; rw [Hs.out])
  go_ret
  exact ⟨ret_int Hs.out.symm, by subst he1; exact (Ext.rfl' w).al _⟩
 ·obtain ⟨M, hM⟩ : ∃ M, M = L - n := ⟨_, rfl⟩
  have hs : Sg.szI n L = (M : Int) := by unfold Sg.szI; rw [if_neg h, hM]
  clear hM
  have Hs := lh hs
  clear hs
  go_enter Tryd.func87, Tryd.ntmps87
  go_wp2_with (go_at_call 104; refine (HC.out _).mono ?_; rintro e w1 ⟨rfl, he1⟩; rw [Hs.out])
  go_ret
  exact ⟨ret_int Hs.out.symm, by subst he1; exact (Ext.rfl' w).al _⟩

theorem l_szNode (k : Int) (A : Option Addr) (n c L : Nat) (w : World) (hn : n ≤ 9223372036854775807) (hL : L ≤ 1048576) : Calls Tryd.prog 60 #[.agg #[.int .i64 k, .slice A n c], .int .i64 (L : Int)] w fun e w' => e = .returned (.int .i64 (Sg.szI n L)) ∧ Ext w w' := by
 have HC := lh (fun w => l_szFormula A n c L w hn hL)
 by_cases h : L < n
 ·have hs : Sg.szI n L = -1 := by unfold Sg.szI; rw [if_pos h]
  have Hs := lh hs
  clear hs
  go_enter Tryd.func60, Tryd.ntmps60
  go_wp2_with (go_at_call 87; refine (HC.out _).mono ?_; rintro e w1 ⟨rfl, he1⟩; rw [Hs.out])
  go_ret
  exact ⟨ret_int Hs.out.symm, ((Ext.rfl' w).al _).tr he1⟩
 ·obtain ⟨M, hM⟩ : ∃ M, M = L - n := ⟨_, rfl⟩
  have hs : Sg.szI n L = (M : Int) := by unfold Sg.szI; rw [if_neg h, hM]
  clear hM
  have Hs := lh hs
  clear hs
  go_enter Tryd.func60, Tryd.ntmps60
  go_wp2_with (go_at_call 87; refine (HC.out _).mono ?_; rintro e w1 ⟨rfl, he1⟩; rw [Hs.out])
  go_ret
  exact ⟨ret_int Hs.out.symm, ((Ext.rfl' w).al _).tr he1⟩

theorem l_szNodeS (A : Option Addr) (c : Nat) (g : Sg.Graph) (L : Nat) (w : World) (h : RdN0 w A g) (hL : L ≤ 1048576) :
  Calls Tryd.prog 26 #[.slice A g.length c, .int .i64 (L : Int)] w fun e w' => e = .returned (.int .i64 (Sg.szL (g.map (fun n => n.f.length)) L)) ∧ Ext w w' := by
 have hm := h.1
 unfold maxLen at hm
 by_cases hl : L < g.length
 ·have hs : Sg.szL (g.map (fun n => n.f.length)) L = -1 := by unfold Sg.szL; rw [if_pos (by simpa using hl)]
  rw [hs]
  clear hs
  go_enter Tryd.func26, Tryd.ntmps26
  go_wp2
  go_ret
  exact ⟨rfl, Ext.rfl' w⟩
 ·have hs : Sg.szL (g.map (fun n => n.f.length)) L = Sg.szFrom (g.map (fun n => n.f.length)) (L - g.length) := by unfold Sg.szL; rw [if_neg (by simpa using hl)]; simp
  rw [hs]
  clear hs
  have hM : L - g.length ≤ 1048576 := by omega
  have hM2 : (L : Int) - (g.length : Int) = ((L - g.length : Nat) : Int) := by omega
  generalize hz : L - g.length = M at *
  go_enter Tryd.func26, Tryd.ntmps26
  go_wp2
  go_loopw [1, 5] (fun u i wr => ∃ k N : Nat, k ≤ g.length ∧ N ≤ 1048576 ∧ i = .int .i64 k ∧ u = .int .i64 N ∧ Ext w wr ∧ Sg.szFrom ((g.map (fun n => n.f.length)).drop k) N = Sg.szFrom (g.map (fun n => n.f.length)) M) (fun _ i _ => g.length - (intOf i).toNat)
  case atStart => exact ⟨0, M, Nat.zero_le _, hM, rfl, by first | rfl | (rw [hM2]) | (congr 1; omega), Ext.rfl' _, rfl⟩
  case round =>
   obtain ⟨k, N, hk, hN, rfl, rfl, he, hf⟩ := hrel
   by_cases hlt : k < g.length
   ·obtain ⟨⟨nk, nf⟩, b, o, Ap, cp, hx, rfl, hkc, hs0, hr⟩ := (h.ext he).at_ hlt
    have hx' : (g.map (fun n => n.f.length))[k]? = some nf.length := by simp [hx]
    rw [drop_cons _ k hx'] at hf
    have hbig := hr.big
    clear hx hx'
    by_cases hlN : N < nf.length
    ·have hs : Sg.szI nf.length N = -1 := by unfold Sg.szI; rw [if_pos hlN]
     have Hs := lh hs
     have hf' : Sg.szFrom (g.map (fun n => n.f.length)) M = -1 := by rw [← hf]; unfold Sg.szFrom; rw [if_pos hlN]
     have Hf := lh hf'
     clear hs hf hf' hz hM2
     go_wp2_with (go_at_call 60; refine (l_szNode nk Ap nf.length cp N _ hbig hN).mono ?_; rintro e w2 ⟨rfl, he2⟩; rw [Hs.out])
     go_ret
     exact ⟨ret_int Hf.out.symm, he.tr he2⟩
    ·obtain ⟨N2, hN2⟩ : ∃ N2, N2 = N - nf.length := ⟨_, rfl⟩
     have hs : Sg.szI nf.length N = (N2 : Int) := by unfold Sg.szI; rw [if_neg hlN, hN2]
     have Hs := lh hs
     have hf' : Sg.szFrom ((g.map (fun n => n.f.length)).drop (k + 1)) N2 = Sg.szFrom (g.map (fun n => n.f.length)) M := by
      rw [← hf, hN2]
      simp only [Sg.szFrom]
      rw [if_neg hlN]
     have Hf := lh hf'
     have hN' : N2 ≤ 1048576 := by omega
     clear hN2
     clear hs hf hf' hz hM2
     go_wp2_with (go_at_call 60; refine (l_szNode nk Ap nf.length cp N _ hbig hN).mono ?_; rintro e w2 ⟨rfl, he2⟩; rw [Hs.out])
     go_roundw
     case rel => exact ⟨k + 1, N2, by omega, hN', by go_num, rfl, he.tr he2, Hf.out⟩
     case measure => simp [intOf]; omega
   ·obtain rfl : k = g.length := by omega
    have hf' : (N : Int) = Sg.szFrom (g.map (fun n => n.f.length)) M := by rw [← hf, List.drop_eq_nil_of_le (by simp)]; rfl
    have Hf := lh hf'
    clear hf hf' hz hM2
    go_wp2
    go_ret
    exact ⟨ret_int Hf.out, he⟩

end Go.Proofs.YtdnlpklmihoapaaDoor


/- The laws' sizes of graphs and states; the reference's ValidEager: contracts. -/
namespace Sg
theorem szFrom_neg : ∀ (ns : List Nat) (L : Nat), szFrom ns L = -1 ∨ 0 ≤ szFrom ns L
 | [], L => .inr (by simp [szFrom])
 | n :: r, L => by
  simp only [szFrom]
  split
  ·exact .inl rfl
  ·exact szFrom_neg r _
theorem szL_neg (ns : List Nat) (L : Nat) : szL ns L = -1 ∨ 0 ≤ szL ns L := by
 unfold szL
 split
 ·exact .inl rfl
 ·exact szFrom_neg _ _
def szE (v : List Int) (r : List (List Int)) (L : Nat) : Int := if L < v.length then -1 else szL (r.map List.length) (L - v.length)
end Sg
namespace Go.Proofs.YtdnlpklmihoapaaDoor
open Go.RowKit

theorem l_szGraph (A : Option Addr) (c : Nat) (g : Sg.Graph) (L : Nat) (w : World) (h : RdN0 w A g) (hL : L ≤ 1048576) :
  Calls Tryd.prog 7 #[.agg #[.slice A g.length c], .int .i64 (L : Int)] w fun e w' => e = .returned (.int .i64 (Sg.szL (g.map (fun n => n.f.length)) L)) ∧ Ext w w' := by
 have HC := lh (fun w h => l_szNodeS A c g L w h hL)
 rcases Sg.szL_neg (g.map (fun n => n.f.length)) L with hs | hs
 ·have Hs := lh hs
  clear hs
  go_enter Tryd.func7, Tryd.ntmps7
  go_wp2_with (go_at_call 26; refine (HC.out _ (h.ext ((Ext.rfl' w).al _))).mono ?_; rintro e w1 ⟨rfl, he1⟩; rw [Hs.out])
  go_ret
  exact ⟨ret_int Hs.out.symm, ((Ext.rfl' w).al _).tr he1⟩
 ·obtain ⟨_, _, M, _, hM⟩ := Sg.szL_ok _ _ hs
  have Hs := lh hM
  clear hs hM
  go_enter Tryd.func7, Tryd.ntmps7
  go_wp2_with (go_at_call 26; refine (HC.out _ (h.ext ((Ext.rfl' w).al _))).mono ?_; rintro e w1 ⟨rfl, he1⟩; rw [Hs.out])
  go_ret
  exact ⟨ret_int Hs.out.symm, ((Ext.rfl' w).al _).tr he1⟩

end Go.Proofs.YtdnlpklmihoapaaDoor

/- The laws' comparisons of ints, parts, formulas at equal contents: contracts. -/
namespace Go.Proofs.YtdnlpklmihoapaaDoor
open Go.RowKit

set_option maxHeartbeats 1000000 in
theorem l_eqIntS (A B : Option Addr) (ca cb : Nat) (a : List Int) (w : World) (h : Rd w 1 A a.length (ints a)) (k : Rd w 1 B a.length (ints a)) :
  Calls Tryd.prog 13 #[.slice A a.length ca, .slice B a.length cb] w fun e w' => e = .returned (.bool true) ∧ Ext w w' := by
 have hk := k.big
 go_enter Tryd.func13, Tryd.ntmps13
 go_wp2
 go_loopw [5] (fun i wr => ∃ n : Nat, n ≤ a.length ∧ i = .int .i64 n ∧ Ext w wr) (fun i _ => a.length - (intOf i).toNat)
 case atStart => exact ⟨0, Nat.zero_le _, rfl, Ext.rfl' w⟩
 case round =>
  obtain ⟨n, hn, rfl, hext⟩ := hrel
  by_cases hlt : n < a.length
  ·obtain ⟨ba, oa, x, rfl, hx, hcx⟩ := (h.ext hext).at1 hlt
   obtain ⟨bb, ob, y, rfl, hy, hcy⟩ := (k.ext hext).at1 hlt
   rw [hx] at hy
   injection hy with hy
   subst hy
   have hb1 : (x != x) = false := by simp
   clear hx
   go_wp2
   go_quiet (fail)
   go_wp2
   go_roundw
   case rel => exact ⟨n + 1, by omega, by go_num, hext.drN _⟩
   case measure => simp [intOf]; omega
  ·obtain rfl : n = a.length := by omega
   go_wp2
   go_ret
   exact ⟨rfl, hext⟩

theorem l_eqPart (p : Sg.Part) (w : World) : Calls Tryd.prog 84 #[pv p, pv p] w fun e w' => e = .returned (.bool true) ∧ Ext w w' := by
 obtain ⟨k, a, b, c, n⟩ := p
 go_enter Tryd.func84, Tryd.ntmps84
 go_wp2
 go_ret
 exact ⟨rfl, ((Ext.rfl' w).al _).al _⟩

set_option maxHeartbeats 1000000 in
theorem l_eqPartS (A B : Option Addr) (ca cb : Nat) (f : List Sg.Part) (w : World) (h : Rd w 5 A f.length (parts f)) (k : Rd w 5 B f.length (parts f)) :
  Calls Tryd.prog 54 #[.slice A f.length ca, .slice B f.length cb] w fun e w' => e = .returned (.bool true) ∧ Ext w w' := by
 have hk := k.big
 have HP := lh l_eqPart
 go_enter Tryd.func54, Tryd.ntmps54
 go_wp2
 go_loopw [5] (fun i wr => ∃ n : Nat, n ≤ f.length ∧ i = .int .i64 n ∧ Ext w wr) (fun i _ => f.length - (intOf i).toNat)
 case atStart => exact ⟨0, Nat.zero_le _, rfl, Ext.rfl' w⟩
 case round =>
  obtain ⟨n, hn, rfl, hext⟩ := hrel
  by_cases hlt : n < f.length
  ·obtain ⟨ba, oa, x, rfl, hx, h0, h1, h2, h3, h4⟩ := (h.ext hext).atP hlt
   obtain ⟨bb, ob, y, rfl, hy, g0, g1, g2, g3, g4⟩ := (k.ext hext).atP hlt
   rw [hx] at hy
   injection hy with hy
   subst hy
   clear hx
   have H0 := lh ((Ext.rfl' wr).dr)
   go_wp2_with fail
   go_region_held3 (fun W => W.cell? ⟨ba, oa + n * 5, none⟩ = some (.int .i64 x.kind) ∧ W.cell? ⟨ba, oa + n * 5 + 1, none⟩ = some (.int .i64 x.a) ∧ W.cell? ⟨ba, oa + n * 5 + 2, none⟩ = some (.int .i64 x.b) ∧ W.cell? ⟨ba, oa + n * 5 + 3, none⟩ = some (.int .i64 x.c) ∧ W.cell? ⟨ba, oa + n * 5 + 4, none⟩ = some (.int .i64 x.n)
     ∧ W.cell? ⟨bb, ob + n * 5, none⟩ = some (.int .i64 x.kind) ∧ W.cell? ⟨bb, ob + n * 5 + 1, none⟩ = some (.int .i64 x.a) ∧ W.cell? ⟨bb, ob + n * 5 + 2, none⟩ = some (.int .i64 x.b) ∧ W.cell? ⟨bb, ob + n * 5 + 3, none⟩ = some (.int .i64 x.c) ∧ W.cell? ⟨bb, ob + n * 5 + 4, none⟩ = some (.int .i64 x.n))
    (first | exact ⟨e9.cellE h0, e9.cellE h1, e9.cellE h2, e9.cellE h3, e9.cellE h4, e9.cellE g0, e9.cellE g1, e9.cellE g2, e9.cellE g3, e9.cellE g4⟩ | go_keep)
    (first | (go_at_call 84; refine (HP.out x _).mono ?_; rintro e w2 ⟨rfl, he2⟩; have e9 := H0.out.tr he2))
   all_goals
    go_wp2
    go_roundw
    case rel => exact ⟨n + 1, by omega, by go_num, hext.tr e9⟩
    case measure => simp [intOf]; omega
  ·obtain rfl : n = f.length := by omega
   go_wp2
   go_ret
   exact ⟨rfl, hext⟩

theorem l_eqFormula (A B : Option Addr) (ca cb : Nat) (f : List Sg.Part) (w : World) (h : Rd w 5 A f.length (parts f)) (k : Rd w 5 B f.length (parts f)) :
  Calls Tryd.prog 22 #[.agg #[.slice A f.length ca], .agg #[.slice B f.length cb]] w fun e w' => e = .returned (.bool true) ∧ Ext w w' := by
 have HE := lh (((Ext.rfl' w).al (.cells #[.slice A f.length ca] 39)).al (.cells #[.slice B f.length cb] 39))
 have HC := lh (fun w h k => l_eqPartS A B ca cb f w h k)
 go_enter Tryd.func22, Tryd.ntmps22
 go_wp2_with (go_at_call 54; refine (HC.out _ (h.ext HE.out) (k.ext HE.out)).mono ?_; rintro e w2 ⟨rfl, he2⟩)
 go_ret
 exact ⟨rfl, HE.out.tr he2⟩

theorem l_eqNode (kd : Int) (A B : Option Addr) (ca cb : Nat) (f : List Sg.Part) (w : World) (h : Rd w 5 A f.length (parts f)) (k : Rd w 5 B f.length (parts f)) :
  Calls Tryd.prog 71 #[.agg #[.int .i64 kd, .slice A f.length ca], .agg #[.int .i64 kd, .slice B f.length cb]] w fun e w' => e = .returned (.bool true) ∧ Ext w w' := by
 have HE := lh (((Ext.rfl' w).al (.cells #[.int .i64 kd, .slice A f.length ca] 55)).al (.cells #[.int .i64 kd, .slice B f.length cb] 55))
 have HC := lh (fun w h k => l_eqFormula A B ca cb f w h k)
 have hb : (kd != kd) = false := by simp
 go_enter Tryd.func71, Tryd.ntmps71
 go_wp2_with (go_at_call 22; refine (HC.out _ (h.ext HE.out) (k.ext HE.out)).mono ?_; rintro e w2 ⟨rfl, he2⟩)
 go_ret
 exact ⟨rfl, HE.out.tr he2⟩
end Go.Proofs.YtdnlpklmihoapaaDoor

/- The laws' comparisons of nodes, graphs, lists, states at equal contents: contracts. -/
namespace Go.Proofs.YtdnlpklmihoapaaDoor
open Go.RowKit

set_option maxHeartbeats 1000000 in
theorem l_eqNodeS (A B : Option Addr) (ca cb : Nat) (g : Sg.Graph) (w : World) (h : RdN w A g) (k : RdN w B g) :
  Calls Tryd.prog 36 #[.slice A g.length ca, .slice B g.length cb] w fun e w' => e = .returned (.bool true) ∧ Ext w w' := by
 have hk := k.1
 go_enter Tryd.func36, Tryd.ntmps36
 go_wp2
 go_loopw [5] (fun i wr => ∃ n : Nat, n ≤ g.length ∧ i = .int .i64 n ∧ Ext w wr) (fun i _ => g.length - (intOf i).toNat)
 case atStart => exact ⟨0, Nat.zero_le _, rfl, Ext.rfl' w⟩
 case round =>
  obtain ⟨n, hn, rfl, hext⟩ := hrel
  by_cases hlt : n < g.length
  ·obtain ⟨⟨nk, nf⟩, ba, oa, Ap, cp, hx, rfl, h0, h1, hr, _⟩ := (h.ext hext).at_ hlt
   obtain ⟨y, bb, ob, Bp, cq, hy, rfl, g0, g1, gr, _⟩ := (k.ext hext).at_ hlt
   rw [hx] at hy
   injection hy with hy
   subst hy
   clear hx
   dsimp only at *
   have H0 := lh ((Ext.rfl' wr).dr)
   have HC := lh (fun w h k => l_eqNode nk Ap Bp cp cq nf w h k)
   go_wp2_with fail
   go_region_held3 (fun W => W.cell? ⟨ba, oa + n * 2, none⟩ = some (.int .i64 nk) ∧ W.cell? ⟨ba, oa + n * 2 + 1, none⟩ = some (.slice Ap nf.length cp)
     ∧ W.cell? ⟨bb, ob + n * 2, none⟩ = some (.int .i64 nk) ∧ W.cell? ⟨bb, ob + n * 2 + 1, none⟩ = some (.slice Bp nf.length cq))
    (first | exact ⟨e9.cellE h0, e9.cellE h1, e9.cellE g0, e9.cellE g1⟩ | go_keep)
    (first | (go_at_call 71; refine (HC.out _ (hr.ext H0.out) (gr.ext H0.out)).mono ?_; rintro e w2 ⟨rfl, he2⟩; have e9 := H0.out.tr he2))
   all_goals
    go_wp2
    go_roundw
    case rel => exact ⟨n + 1, by omega, by go_num, hext.tr e9⟩
    case measure => simp [intOf]; omega
  ·obtain rfl : n = g.length := by omega
   go_wp2
   go_ret
   exact ⟨rfl, hext⟩

theorem l_eqGraph (A B : Option Addr) (ca cb : Nat) (g : Sg.Graph) (w : World) (h : RdN w A g) (k : RdN w B g) :
  Calls Tryd.prog 12 #[.agg #[.slice A g.length ca], .agg #[.slice B g.length cb]] w fun e w' => e = .returned (.bool true) ∧ Ext w w' := by
 have HE := lh (((Ext.rfl' w).al (.cells #[.slice A g.length ca] 30)).al (.cells #[.slice B g.length cb] 30))
 have HC := lh (fun w h k => l_eqNodeS A B ca cb g w h k)
 go_enter Tryd.func12, Tryd.ntmps12
 go_wp2_with (go_at_call 36; refine (HC.out _ (h.ext HE.out) (k.ext HE.out)).mono ?_; rintro e w2 ⟨rfl, he2⟩)
 go_ret
 exact ⟨rfl, HE.out.tr he2⟩

end Go.Proofs.YtdnlpklmihoapaaDoor

/- The laws' copies of ints and parts: contracts. Conditions: at most 2^20 elements. -/
namespace Go.Proofs.YtdnlpklmihoapaaDoor
open Go.RowKit

theorem ints_fill (a : List Int) (k : Nat) {x : Int} (hx : a[k]? = some x) : (ints (a.take k ++ List.replicate (a.length - k) 0)).set k (.int .i64 x) = ints (a.take (k + 1) ++ List.replicate (a.length - (k + 1)) 0) := by
 obtain ⟨hk, rfl⟩ := List.getElem?_eq_some_iff.1 hx
 unfold ints
 rw [← List.map_set (f := Value.int .i64)]
 congr 1
 rw [List.set_append_right _ _ (by simp; omega), take_snoc a k (List.getElem?_eq_getElem hk)]
 have h1 : k - (a.take k).length = 0 := by simp; omega
 rw [h1, show a.length - k = (a.length - (k + 1)) + 1 from by omega, List.replicate_succ, List.set_cons_zero, List.append_assoc]
 rfl

set_option maxHeartbeats 1000000 in
theorem l_toIntS (A : Option Addr) (c : Nat) (a : List Int) (w : World) (h : Rd w 1 A a.length (ints a)) (hb : a.length ≤ 1048576) :
  Calls Tryd.prog 10 #[.slice A a.length c] w fun e w' => ∃ A', e = .returned (.slice A' a.length a.length) ∧ Own w' w.heap.size 3 1 A' a.length a.length (ints a) ∧ Ext w w' := by
 go_enter Tryd.func10, Tryd.ntmps10
 go_wp2_with (at_make; refine wpList_mk rfl rfl eiInt (B := w.heap.size) rfl rfl (by omega) (by omega) (by simp) ?_; intro w1 hown hext)
 rw [made_one _ _ rfl] at hown
 have hu0 : List.replicate a.length (Value.int .i64 0) = ints (a.take 0 ++ List.replicate (a.length - 0) 0) := by simp [ints]
 rw [hu0] at hown
 clear hu0
 go_loopw [4] (fun i wr => ∃ k : Nat, k ≤ a.length ∧ i = .int .i64 k ∧ Ext w wr ∧ Own wr w.heap.size 3 1 (some ⟨w.heap.size, 0, none⟩) a.length a.length (ints (a.take k ++ List.replicate (a.length - k) 0))) (fun i _ => a.length - (intOf i).toNat)
 case atStart => exact ⟨0, Nat.zero_le _, rfl, hext, hown⟩
 case round =>
  clear hown hext
  obtain ⟨k, hk, rfl, he, hown⟩ := hrel
  by_cases hlt : k < a.length
  ·obtain ⟨b, o, x, rfl, hx, hcx⟩ := (h.ext he).at1 hlt
   have hbw := blt hcx
   obtain ⟨y, hy⟩ : ∃ y, (ints (a.take k ++ List.replicate (a.length - k) 0))[k]? = some y := ⟨_, List.getElem?_eq_getElem (by simp; omega)⟩
   have hcy := hown.cell hy
   have hfy := hown.free k
   have Hf := lh (ints_fill a k hx)
   have Ho := lh hown
   have Hx := lh hx
   clear hy hown hx
   go_wp2
   go_roundw
   case rel => exact ⟨k + 1, by omega, by go_num, he.set (by simp) _, by rw [← Hf.out]; exact Ho.out.st k _⟩
   case measure => simp [intOf]; omega
  ·obtain rfl : k = a.length := by omega
   have hfin : a.take a.length ++ List.replicate (a.length - a.length) 0 = a := by simp
   rw [hfin] at hown
   have Ho := lh hown
   clear hown hfin
   go_wp2
   go_ret
   exact ⟨_, rfl, Ho.out, he⟩

theorem l_toPart (p : Sg.Part) (w : World) : Calls Tryd.prog 123 #[pv p] w fun e w' => e = .returned (pv p) ∧ Ext w w' := by
 obtain ⟨k, a, b, c, n⟩ := p
 go_enter Tryd.func123, Tryd.ntmps123
 go_wp2
 go_returns
 exact ⟨rfl, (((Ext.rfl' w).al _).al _).al _⟩

/-- parts of value zero -/
def zpart : Sg.Part := ⟨0, 0, 0, 0, 0⟩
theorem parts_fill (f : List Sg.Part) (k : Nat) {p : Sg.Part} (hp : f[k]? = some p) :
  ((((((parts (f.take k ++ List.replicate (f.length - k) zpart)).set (k * 5) (.int .i64 p.kind)).set (k * 5 + 1) (.int .i64 p.a)).set (k * 5 + 2) (.int .i64 p.b)).set (k * 5 + 3) (.int .i64 p.c)).set (k * 5 + 4) (.int .i64 p.n)) = parts (f.take (k + 1) ++ List.replicate (f.length - (k + 1)) zpart) := by
 obtain ⟨hk, rfl⟩ := List.getElem?_eq_some_iff.1 hp
 have e1 : parts (f.take k ++ List.replicate (f.length - k) zpart) = parts (f.take k) ++ (pcs zpart ++ parts (List.replicate (f.length - (k + 1)) zpart)) := by
  rw [show f.length - k = (f.length - (k + 1)) + 1 from by omega, List.replicate_succ]; simp [parts]
 have e2 : parts (f.take (k + 1) ++ List.replicate (f.length - (k + 1)) zpart) = parts (f.take k) ++ (pcs f[k] ++ parts (List.replicate (f.length - (k + 1)) zpart)) := by
  rw [take_snoc f k (List.getElem?_eq_getElem hk), List.append_assoc]; simp [parts]
 have hl : (parts (f.take k)).length = k * 5 := by simp; omega
 rw [e1, e2]
 generalize parts (f.take k) = X at *
 generalize parts (List.replicate (f.length - (k + 1)) zpart) = Y
 subst_vars
 rw [← hl]
 simp [pcs, zpart]
theorem made_parts (f : List Sg.Part) : (madeCells (Value.agg #[.int .i64 0, .int .i64 0, .int .i64 0, .int .i64 0, .int .i64 0]).cells (f.length * 5)).toList = parts (f.take 0 ++ List.replicate (f.length - 0) zpart) := by
 have h1 : (madeCells (Value.agg #[.int .i64 0, .int .i64 0, .int .i64 0, .int .i64 0, .int .i64 0]).cells (f.length * 5)).toList = List.replicate (f.length * 5) (.int .i64 0) := by
  rw [List.eq_replicate_iff]
  refine ⟨by rw [Array.length_toList, size_madeCells], fun b hb => ?_⟩
  show b = _
  change b ∈ (madeCells #[.int .i64 0, .int .i64 0, .int .i64 0, .int .i64 0, .int .i64 0] (f.length * 5)).toList at hb
  simp only [madeCells, Array.toList_map, List.mem_map] at hb
  obtain ⟨j, _, rfl⟩ := hb
  have hj : j % 5 < 5 := Nat.mod_lt _ (by omega)
  show #[Value.int .i64 0, .int .i64 0, .int .i64 0, .int .i64 0, .int .i64 0][j % 5]! = _
  generalize j % 5 = m at hj
  match m, hj with
  | 0, _ => rfl
  | 1, _ => rfl
  | 2, _ => rfl
  | 3, _ => rfl
  | 4, _ => rfl
 have h2 : parts (f.take 0 ++ List.replicate (f.length - 0) zpart) = List.replicate (f.length * 5) (.int .i64 0) := by
  rw [List.eq_replicate_iff]
  refine ⟨by simp, fun b hb => ?_⟩
  unfold parts at hb
  rw [List.mem_flatMap] at hb
  obtain ⟨p, hp, hb⟩ := hb
  simp at hp
  rw [hp.2] at hb
  simpa [pcs, zpart] using hb
 rw [h1, h2]

set_option maxHeartbeats 1000000 in
theorem l_toPartS (A : Option Addr) (c : Nat) (f : List Sg.Part) (w : World) (h : Rd w 5 A f.length (parts f)) (hb : f.length ≤ 1048576) :
  Calls Tryd.prog 105 #[.slice A f.length c] w fun e w' => ∃ A', e = .returned (.slice A' f.length f.length) ∧ Own w' w.heap.size 73 5 A' f.length f.length (parts f) ∧ Ext w w' := by
 have HP := lh l_toPart
 go_enter Tryd.func105, Tryd.ntmps105
 go_wp2_with (at_make; refine wpList_mk rfl rfl eiPart (B := w.heap.size) rfl rfl (by omega) (by omega) (by simp) ?_; intro w1 hown hext)
 have hu0 : (madeCells (Value.agg #[.int .i64 0, .int .i64 0, .int .i64 0, .int .i64 0, .int .i64 0]).cells (f.length * 5)).toList = parts (f.take 0 ++ List.replicate (f.length - 0) zpart) := made_parts f
 rw [hu0] at hown
 clear hu0
 go_loopw [4] (fun i wr => ∃ k : Nat, k ≤ f.length ∧ i = .int .i64 k ∧ Ext w wr ∧ Own wr w.heap.size 73 5 (some ⟨w.heap.size, 0, none⟩) f.length f.length (parts (f.take k ++ List.replicate (f.length - k) zpart))) (fun i _ => f.length - (intOf i).toNat)
 case atStart => exact ⟨0, Nat.zero_le _, rfl, hext, hown⟩
 case round =>
  clear hown hext
  obtain ⟨k, hk, rfl, he, hown⟩ := hrel
  by_cases hlt : k < f.length
  ·obtain ⟨b, o, x, rfl, hx, h0, h1, h2, h3, h4⟩ := (h.ext he).atP hlt
   have hbw := blt h0
   have Hf := lh (parts_fill f k hx)
   have Hx := lh hx
   have Ho := lh hown
   clear hx hown
   have hxs : ∀ j, j < 5 → ∃ u, (parts (f.take k ++ List.replicate (f.length - k) zpart))[k * 5 + j]? = some u := fun j hj => ⟨_, List.getElem?_eq_getElem (by simp; omega)⟩
   obtain ⟨u0, e0⟩ := hxs 0 (by omega)
   obtain ⟨u1, e1⟩ := hxs 1 (by omega)
   obtain ⟨u2, e2⟩ := hxs 2 (by omega)
   obtain ⟨u3, e3⟩ := hxs 3 (by omega)
   obtain ⟨u4, e4⟩ := hxs 4 (by omega)
   have E0 := lh e0
   have E1 := lh e1
   have E2 := lh e2
   have E3 := lh e3
   have E4 := lh e4
   clear e0 e1 e2 e3 e4 hxs
   go_wp2_with (go_at_call 123; refine (HP.out x _).mono ?_; rintro e w2 ⟨rfl, he2⟩; have ho2 := Ho.out.ext he2; have r0 := ho2.cell E0.out; have r1 := ho2.cell E1.out; have r2 := ho2.cell E2.out; have r3 := ho2.cell E3.out; have r4 := ho2.cell E4.out; rw [Nat.add_zero] at r0; have q0 := ho2.free (k * 5); have q1 := ho2.free (k * 5 + 1); have q2 := ho2.free (k * 5 + 2); have q3 := ho2.free (k * 5 + 3); have q4 := ho2.free (k * 5 + 4))
   go_roundw
   case rel => exact ⟨k + 1, by omega, by go_num, (((((he.tr he2).set (by simp) _).set (by simp) _).set (by simp) _).set (by simp) _).set (by simp) _, by rw [← Hf.out]; exact ((((ho2.st _ _).st _ _).st _ _).st _ _).st _ _⟩
   case measure => simp [intOf]; omega
  ·obtain rfl : k = f.length := by omega
   have hfin : f.take f.length ++ List.replicate (f.length - f.length) zpart = f := by simp
   rw [hfin] at hown
   have Ho := lh hown
   clear hown hfin
   go_wp2
   go_ret
   exact ⟨_, rfl, Ho.out, he⟩
end Go.Proofs.YtdnlpklmihoapaaDoor

/- The laws' copies of formulas and nodes: contracts. Conditions: at most 2^20 elements. -/
namespace Go.Proofs.YtdnlpklmihoapaaDoor
open Go.RowKit

set_option maxHeartbeats 1000000 in
theorem l_toFormula (A : Option Addr) (c : Nat) (f : List Sg.Part) (w : World) (h : Rd w 5 A f.length (parts f)) (hb : f.length ≤ 1048576) :
  Calls Tryd.prog 91 #[.agg #[.slice A f.length c]] w fun e w' => ∃ A', e = .returned (.agg #[.slice A' f.length f.length]) ∧ Own w' w.heap.size 73 5 A' f.length f.length (parts f) ∧ Ext w w' := by
 have HC := lh (fun w h => l_toPartS A c f w h hb)
 have H := lh h
 clear h
 go_enter Tryd.func91, Tryd.ntmps91
 go_wp2_with (go_at_call 105; refine (HC.out _ (H.out.ext ((((Ext.rfl' w).al _).al _).al _))).mono ?_; rintro e w1 ⟨A', rfl, ho, he1⟩; have k1 := he1.cellE (show (((w.alloc (.cells #[.slice A f.length c] 99)).alloc (.cells #[.slice none 0 0] 39)).alloc (.cells #[.slice none 0 0] 39)).cell? ⟨w.heap.size + 1, 0, none⟩ = some (.slice none 0 0) by simp [go_sem]); obtain ⟨bc, bf⟩ := bcell he1; have hz1 := he1.size)
 have q : ∀ u v : Value, ((w1.setCell ⟨w.heap.size + 1 + 1, 0, none⟩ u).setCell ⟨w.heap.size + 1, 0, none⟩ v).cell? ⟨w.heap.size + 1, 0, none⟩ = some v := by
  intro u v
  have k2 : (w1.setCell ⟨w.heap.size + 1 + 1, 0, none⟩ u).cell? ⟨w.heap.size + 1, 0, none⟩ = some (.slice none 0 0) := by
   rw [co]; exact k1
  exact World.cell?_setCell_same _ _ _ k2
 refine bodyPost_ret (v := .agg #[.slice A' f.length f.length]) (by simp [results, Tryd.results91, go_sem, q]; try rfl) rfl ?_
 refine ⟨A', rfl, (ho.set (by intro e; have := (ho.lt e).1; simp at this; omega) _ |>.set (by intro e; have := (ho.lt e).1; simp at this; omega) _).mono (by simp; try omega), (((((((Ext.rfl' w).al _).al _).al _).tr he1).set (by simp; omega) _).set (by simp) _)⟩
end Go.Proofs.YtdnlpklmihoapaaDoor

/- The laws' copies of nodes: contracts. Conditions: at most 2^20 elements. -/
namespace Go.Proofs.YtdnlpklmihoapaaDoor
open Go.RowKit

set_option maxHeartbeats 1000000 in
theorem l_toNode (kd : Int) (A : Option Addr) (c : Nat) (f : List Sg.Part) (w : World) (h : Rd w 5 A f.length (parts f)) (hb : f.length ≤ 1048576) :
  Calls Tryd.prog 65 #[.agg #[.int .i64 kd, .slice A f.length c]] w fun e w' => ∃ A', e = .returned (.agg #[.int .i64 kd, .slice A' f.length f.length]) ∧ Own w' w.heap.size 73 5 A' f.length f.length (parts f) ∧ Ext w w' := by
 have HC := lh (fun w h => l_toFormula A c f w h hb)
 have H := lh h
 clear h
 go_enter Tryd.func65, Tryd.ntmps65
 go_wp2_with (go_at_call 91; refine (HC.out _ (H.out.ext ((((Ext.rfl' w).al _).al _).al _))).mono ?_; rintro e w1 ⟨A', rfl, ho, he1⟩; have k0 := he1.cellE (show (((w.alloc (.cells #[.int .i64 kd, .slice A f.length c] 101)).alloc (.cells #[.int .i64 0, .slice none 0 0] 55)).alloc (.cells #[.int .i64 kd, .slice none 0 0] 55)).cell? ⟨w.heap.size + 1, 0, none⟩ = some (.int .i64 0) by simp [go_sem]); have k1 := he1.cellE (show (((w.alloc (.cells #[.int .i64 kd, .slice A f.length c] 101)).alloc (.cells #[.int .i64 0, .slice none 0 0] 55)).alloc (.cells #[.int .i64 kd, .slice none 0 0] 55)).cell? ⟨w.heap.size + 1, 1, none⟩ = some (.slice none 0 0) by simp [go_sem]); have hz1 := he1.size; obtain ⟨bc, bf⟩ := bcell he1)
 have q0 : ∀ u v z : Value, (((w1.setCell ⟨w.heap.size + 1 + 1, 1, none⟩ u).setCell ⟨w.heap.size + 1, 0, none⟩ v).setCell ⟨w.heap.size + 1, 1, none⟩ z).cell? ⟨w.heap.size + 1, 0, none⟩ = some v := by
  intro u v z
  rw [co]
  refine World.cell?_setCell_same _ _ _ (u := .int .i64 0) ?_
  rw [co]
  exact k0
 have q1 : ∀ u v z : Value, (((w1.setCell ⟨w.heap.size + 1 + 1, 1, none⟩ u).setCell ⟨w.heap.size + 1, 0, none⟩ v).setCell ⟨w.heap.size + 1, 1, none⟩ z).cell? ⟨w.heap.size + 1, 1, none⟩ = some z := by
  intro u v z
  refine World.cell?_setCell_same _ _ _ (u := .slice none 0 0) ?_
  rw [co]
  rw [co]
  exact k1
 refine bodyPost_ret (v := .agg #[.int .i64 kd, .slice A' f.length f.length]) (by simp [results, Tryd.results65, go_sem, q0, q1]; try rfl) rfl ?_
 have hne : ∀ b, b < w.heap.size + 1 + 1 + 1 → blk A' ≠ some b := by intro b hb e; have := (ho.lt e).1; simp at this; omega
 have hz : w.heap.size + 1 + 1 + 1 ≤ w1.heap.size := by simpa using hz1
 exact ⟨A', rfl, (((ho.set (hne (w.heap.size + 1 + 1) (by omega)) _).set (hne (w.heap.size + 1) (by omega)) _).set (hne (w.heap.size + 1) (by omega)) _).mono (by simp; try omega), ((((((((Ext.rfl' w).al _).al _).al _).tr he1).set (show w.heap.size ≤ w.heap.size + 1 + 1 by omega) _).set (show w.heap.size ≤ w.heap.size + 1 by omega) _).set (show w.heap.size ≤ w.heap.size + 1 by omega) _)⟩
end Go.Proofs.YtdnlpklmihoapaaDoor

/- The laws' copies of lists of lists: contract. Conditions: at most 2^20 elements. -/
namespace Go.Proofs.YtdnlpklmihoapaaDoor
open Go.RowKit

theorem fill1 (hs : List Value) (k n : Nat) (h : hs.length = k) (hk : k < n) (z x : Value) : (hs ++ List.replicate (n - k) z).set k x = (hs ++ [x]) ++ List.replicate (n - (k + 1)) z := by
 rw [List.set_append_right _ _ (by omega), h, Nat.sub_self, show n - k = (n - (k + 1)) + 1 from by omega, List.replicate_succ, List.set_cons_zero, List.append_assoc]
 rfl

end Go.Proofs.YtdnlpklmihoapaaDoor

/- Zero nodes in memory. Conditions: none. -/
namespace Go.Proofs.YtdnlpklmihoapaaDoor
open Go.RowKit
theorem fill2 (hs Z : List Value) (k : Nat) (h : hs.length = k * 2) (z0 z1 x y : Value) : ((hs ++ (z0 :: z1 :: Z)).set (k * 2) x).set (k * 2 + 1) y = (hs ++ [x, y]) ++ Z := by
 rw [← h]
 simp
def zs (m : Nat) : List Value := (List.replicate m [Value.int .i64 0, .slice none 0 0]).flatten
theorem zs_succ (m : Nat) : zs (m + 1) = .int .i64 0 :: .slice none 0 0 :: zs m := by simp [zs, List.replicate_succ]
theorem length_zs (m : Nat) : (zs m).length = m * 2 := by
 induction m with
 | zero => rfl
 | succ m ih => rw [zs_succ]; simp [ih]; omega
theorem zs_get (m j : Nat) (h : j < m * 2) : (zs m)[j]? = some (if j % 2 = 0 then .int .i64 0 else .slice none 0 0) := by
 induction m generalizing j with
 | zero => omega
 | succ m ih =>
  rw [zs_succ]
  match j, h with
  | 0, _ => rfl
  | 1, _ => rfl
  | j + 2, h =>
   simp only [List.getElem?_cons_succ]
   rw [ih j (by omega), show (j + 2) % 2 = j % 2 from by omega]
theorem made_nodes (n : Nat) : (madeCells (Value.agg #[.int .i64 0, .slice none 0 0]).cells (n * 2)).toList = zs n := by
 apply List.ext_getElem?
 intro j
 by_cases hj : j < n * 2
 ·rw [zs_get n j hj]
  change ((madeCells #[.int .i64 0, .slice none 0 0] (n * 2)).toList)[j]? = _
  have hm : j % 2 = 0 ∨ j % 2 = 1 := by omega
  rcases hm with hm | hm <;> simp [madeCells, hj, hm]
 ·rw [List.getElem?_eq_none (by rw [Array.length_toList, size_madeCells]; omega), List.getElem?_eq_none (by rw [length_zs]; omega)]
end Go.Proofs.YtdnlpklmihoapaaDoor

/- The laws' copies of lists of nodes: contract. -/
namespace Go.Proofs.YtdnlpklmihoapaaDoor
open Go.RowKit

set_option maxHeartbeats 1000000 in
theorem l_toNodeS (A : Option Addr) (c : Nat) (g : Sg.Graph) (w : World) (h : RdN w A g) :
  Calls Tryd.prog 31 #[.slice A g.length c] w fun e w' => ∃ A' hs, e = .returned (.slice A' g.length g.length) ∧ OwnN w' w.heap.size A' g.length g hs ∧ Ext w w' := by
 have hb := h.1
 go_enter Tryd.func31, Tryd.ntmps31
 go_wp2_with (at_make; refine wpList_mk rfl rfl eiNode (B := w.heap.size) rfl rfl (by omega) (by omega) (by simp) ?_; intro w1 hown hext)
 rw [made_nodes] at hown
 go_loopw [4] (fun i wr => ∃ (k : Nat) (hs : List (Option Addr × Nat)), k ≤ g.length ∧ i = .int .i64 k ∧ hs.length = k ∧ Ext w wr ∧ InnD wr w.heap.size 73 5 w.heap.size (nodeIts g) hs ∧ Own wr w.heap.size 55 2 (some ⟨w.heap.size, 0, none⟩) g.length g.length (dcells (nodeIts g) hs ++ zs (g.length - k))) (fun i _ => g.length - (intOf i).toNat)
 case atStart => exact ⟨0, [], Nat.zero_le _, rfl, rfl, hext, InnD.nil _ _ _ _ _ _, by rw [dcells_nil]; exact hown⟩
 case round =>
  clear hown hext
  obtain ⟨k, hs, hk, rfl, hlen, he, hinn, hown⟩ := hrel
  have hwr : w.heap.size < wr.heap.size := (hown.lt (g := w.heap.size) rfl).2
  have hdl : (dcells (nodeIts g) hs).length = k * 2 := by rw [length_dcells (nodeIts_pre g) (by simp; omega), hlen]
  by_cases hlt : k < g.length
  ·obtain ⟨⟨nk, nf⟩, b, o, Al, cl, hl, rfl, h0, h1, hr, hll⟩ := (h.ext he).at_ hlt
   dsimp only at *
   have hbw := blt h0
   have HC := lh (fun w h => l_toNode nk Al cl nf w h hll)
   have hz : zs (g.length - k) = .int .i64 0 :: .slice none 0 0 :: zs (g.length - (k + 1)) := by rw [show g.length - k = (g.length - (k + 1)) + 1 from by omega, zs_succ]
   rw [hz] at hown
   have hy0 : (dcells (nodeIts g) hs ++ (.int .i64 0 :: .slice none 0 0 :: zs (g.length - (k + 1))))[k * 2]? = some (.int .i64 0) := by rw [List.getElem?_append_right (by omega), hdl]; simp
   have hy1 : (dcells (nodeIts g) hs ++ (.int .i64 0 :: .slice none 0 0 :: zs (g.length - (k + 1))))[k * 2 + 1]? = some (.slice none 0 0) := by rw [List.getElem?_append_right (by omega), hdl]; simp
   have Hy0 := lh hy0
   have Hy1 := lh hy1
   have Ho := lh hown
   have Hl := lh hl
   have Hinn := lh hinn
   have Hlen := lh hlen
   have Hdl := lh hdl
   clear hown hl hinn hz hlen hdl hy0 hy1
   go_wp2_with (go_at_call 65; refine (HC.out _ hr).mono ?_; rintro e w2 ⟨A2, rfl, ho2, he2⟩; have hor := Ho.out.ext he2; have q0 := hor.cell Hy0.out; have q1 := hor.cell Hy1.out; have f0 := hor.free (k * 2); have f1 := hor.free (k * 2 + 1))
   go_roundw
   case rel =>
    have hat : (nodeIts g)[hs.length]? = some ⟨[.int .i64 nk], nf.length, parts nf⟩ := by rw [Hlen.out]; exact nodeIts_at Hl.out
    refine ⟨k + 1, hs ++ [(A2, nf.length)], by omega, by go_num, by simp [Hlen.out], ((he.tr he2).set (by simp) _).set (by simp) _, ((Hinn.out.snoc he2 (by omega) hwr hat ho2).st _ _).st _ _, ?_⟩
    have := (hor.st (k * 2) (.int .i64 nk)).st (k * 2 + 1) (.slice A2 nf.length nf.length)
    rw [fill2 _ _ k Hdl.out] at this
    rw [dcells_snoc _ hat]
    exact this
   case measure => simp [intOf]; omega
  ·obtain rfl : k = g.length := by omega
   rw [Nat.sub_self, show zs 0 = [] from rfl, List.append_nil] at hown
   have Hfin := lh (hinn.own (eo := 55) (so := 2) (c := g.length) (by simp [hlen]) (by simpa using hown))
   clear hown hinn hlen hdl
   go_wp2
   go_ret
   exact ⟨_, hs, rfl, Hfin.out, he⟩
end Go.Proofs.YtdnlpklmihoapaaDoor

/- The laws' copies of graphs and states: contracts. -/
namespace Go.Proofs.YtdnlpklmihoapaaDoor
open Go.RowKit

set_option maxHeartbeats 1000000 in
theorem l_toGraph (A : Option Addr) (c : Nat) (g : Sg.Graph) (w : World) (h : RdN w A g) :
  Calls Tryd.prog 9 #[.agg #[.slice A g.length c]] w fun e w' => ∃ A' hs, e = .returned (.agg #[.slice A' g.length g.length]) ∧ OwnN w' w.heap.size A' g.length g hs ∧ Ext w w' := by
 have HC := lh (fun w h => l_toNodeS A c g w h)
 have H := lh h
 clear h
 go_enter Tryd.func9, Tryd.ntmps9
 go_wp2_with (go_at_call 31; refine (HC.out _ (H.out.ext ((((Ext.rfl' w).al _).al _).al _))).mono ?_; rintro e w1 ⟨A', hs, rfl, ho, he1⟩; have k1 := he1.cellE (show (((w.alloc (.cells #[.slice A g.length c] 24)).alloc (.cells #[.slice none 0 0] 30)).alloc (.cells #[.slice none 0 0] 30)).cell? ⟨w.heap.size + 1, 0, none⟩ = some (.slice none 0 0) by simp [go_sem]); obtain ⟨bc, bf⟩ := bcell he1; have hz1 := he1.size)
 have q : ∀ u v : Value, ((w1.setCell ⟨w.heap.size + 1 + 1, 0, none⟩ u).setCell ⟨w.heap.size + 1, 0, none⟩ v).cell? ⟨w.heap.size + 1, 0, none⟩ = some v := by
  intro u v
  have k2 : (w1.setCell ⟨w.heap.size + 1 + 1, 0, none⟩ u).cell? ⟨w.heap.size + 1, 0, none⟩ = some (.slice none 0 0) := by
   rw [co]; exact k1
  exact World.cell?_setCell_same _ _ _ k2
 refine bodyPost_ret (v := .agg #[.slice A' g.length g.length]) (by simp [results, Tryd.results9, go_sem, q]; try rfl) rfl ?_
 refine ⟨A', hs, rfl, ((ho.below (by simp) _).below (by simp) _).mono (by simp; try omega), (((((((Ext.rfl' w).al _).al _).al _).tr he1).set (by simp; omega) _).set (by simp) _)⟩

end Go.Proofs.YtdnlpklmihoapaaDoor

/- The laws' marks: every number of a value is written anew, one after the other; and held. Contracts. Conditions: bounds on lengths. -/
namespace Go.Proofs.YtdnlpklmihoapaaDoor
open Go.RowKit

theorem OwnL.upd {w w' : World} {B c : Nat} {A : Option Addr} {ll : List (List Int)} {hs : List (Option Addr × Nat)} (k : OwnL w B A c ll hs) {j : Nat} {l l' : List Int} {h0 : Option Addr × Nat} (hl : ll[j]? = some l) (hh : hs[j]? = some h0) (hn : l'.length = l.length)
  (own' : Own w' B 3 1 h0.1 l'.length h0.2 (ints l')) (m : Mod (fun b => blk h0.1 = some b) w w') : OwnL w' B A c (ll.set j l') hs := by
 have e : (listIts ll).set j ⟨[], l'.length, ints l'⟩ = listIts (ll.set j l') := by simp [listIts, List.map_set]
 unfold OwnL
 rw [← e]
 refine OwnD.upd k hh ?_ own' fun b _ h1 _ => ?_
 ·rw [dcells_same (it' := ⟨[], l'.length, ints l'⟩) (listIts_at hl) rfl hn]
  exact k.out.keep fun g hg => m.block g (k.out.lt hg).2 (fun e => k.dio j h0 hh g hg e)
 ·by_cases hb : b < w.heap.size
  ·exact m.block b hb h1
  ·have := (k.lt ‹fpD A hs b›).2
   omega

end Go.Proofs.YtdnlpklmihoapaaDoor

/- The laws' marks of parts, nodes, graphs, states: contracts. Conditions: bounds on lengths. -/
namespace Go.Proofs.YtdnlpklmihoapaaDoor
open Go.RowKit

theorem parts_mark (f : List Sg.Part) (k : Int) (j : Nat) (hj : j < f.length) :
  ((((((parts (numP k j ++ f.drop j)).set (j * 5) (.int .i64 (k + 5 * (j : Int)))).set (j * 5 + 1) (.int .i64 (k + 5 * (j : Int) + 1))).set (j * 5 + 2) (.int .i64 (k + 5 * (j : Int) + 2))).set (j * 5 + 3) (.int .i64 (k + 5 * (j : Int) + 3))).set (j * 5 + 4) (.int .i64 (k + 5 * (j : Int) + 4))) = parts (numP k (j + 1) ++ f.drop (j + 1)) := by
 have e1 : parts (numP k j ++ f.drop j) = parts (numP k j) ++ (pcs f[j] ++ parts (f.drop (j + 1))) := by
  rw [drop_cons f j (List.getElem?_eq_getElem hj)]; simp only [parts, List.flatMap_append, List.flatMap_cons]
 have e2 : parts (numP k (j + 1) ++ f.drop (j + 1)) = parts (numP k j) ++ (pcs ⟨k + 5 * (j : Int), k + 5 * (j : Int) + 1, k + 5 * (j : Int) + 2, k + 5 * (j : Int) + 3, k + 5 * (j : Int) + 4⟩ ++ parts (f.drop (j + 1))) := by
  rw [numP_succ]; simp [parts]
 have hl : (parts (numP k j)).length = j * 5 := by simp
 rw [e1, e2]
 generalize parts (numP k j) = X at *
 generalize parts (f.drop (j + 1)) = Y
 generalize f[j] = p
 rw [← hl]
 simp [pcs]

set_option maxHeartbeats 2000000 in
theorem l_markPartS {B : Nat} (A : Option Addr) (c : Nat) (f : List Sg.Part) (k : Int) (w : World) (h : Own w B 73 5 A f.length c (parts f)) (hk : 0 ≤ k) (hb : k + 5 * (f.length : Int) ≤ 1000000000000) :
  Calls Tryd.prog 55 #[.slice A f.length c, .int .i64 k] w fun e w' => e = .returned (.int .i64 (k + 5 * (f.length : Int))) ∧ Own w' B 73 5 A f.length c (parts (numP k f.length)) ∧ Mod (fun b => blk A = some b) w w' := by
 have H := lh h
 go_enter Tryd.func55, Tryd.ntmps55
 go_wp2
 go_loopw [1, 5] (fun s i wr => ∃ j : Nat, j ≤ f.length ∧ i = .int .i64 j ∧ s = .int .i64 (k + 5 * (j : Int)) ∧ Own wr B 73 5 A f.length c (parts (numP k j ++ f.drop j)) ∧ Mod (fun b => blk A = some b) w wr) (fun _ i _ => f.length - (intOf i).toNat)
 case atStart => exact ⟨0, Nat.zero_le _, rfl, by simp, by simpa [numP] using h, Mod.rfl' _ _⟩
 case round =>
  clear h
  obtain ⟨j, hj, rfl, rfl, hown, hm⟩ := hrel
  by_cases hlt : j < f.length
  ·obtain ⟨g, rfl, hg⟩ := hown.at_ (by omega)
   have hxs : ∀ i, i < 5 → ∃ u, (parts (numP k j ++ f.drop j))[j * 5 + i]? = some u := fun i hi => ⟨_, List.getElem?_eq_getElem (by simp; omega)⟩
   obtain ⟨u0, e0⟩ := hxs 0 (by omega)
   obtain ⟨u1, e1⟩ := hxs 1 (by omega)
   obtain ⟨u2, e2⟩ := hxs 2 (by omega)
   obtain ⟨u3, e3⟩ := hxs 3 (by omega)
   obtain ⟨u4, e4⟩ := hxs 4 (by omega)
   have r0 := hown.cell e0
   have r1 := hown.cell e1
   have r2 := hown.cell e2
   have r3 := hown.cell e3
   have r4 := hown.cell e4
   rw [Nat.add_zero] at r0
   have q0 := hown.free (j * 5)
   have q1 := hown.free (j * 5 + 1)
   have q2 := hown.free (j * 5 + 2)
   have q3 := hown.free (j * 5 + 3)
   have q4 := hown.free (j * 5 + 4)
   have hgw := (hown.lt (g := g) rfl).2
   have Hs := lh (parts_mark f k j hlt)
   have Ho := lh hown
   have Hm := lh hm
   clear hown hm hxs e0 e1 e2 e3 e4
   go_wp2
   go_roundw
   case rel =>
    refine ⟨j + 1, by omega, by go_num, by simp only [Value.int.injEq, true_and]; omega, ?_, ((((Hm.out.set (p := ⟨g, j * 5, none⟩) (.inl rfl) _).set (p := ⟨g, j * 5 + 1, none⟩) (.inl rfl) _).set (p := ⟨g, j * 5 + 2, none⟩) (.inl rfl) _).set (p := ⟨g, j * 5 + 3, none⟩) (.inl rfl) _).set (p := ⟨g, j * 5 + 4, none⟩) (.inl rfl) _⟩
    rw [← Hs.out]
    have := ((((Ho.out.st (j * 5) (.int .i64 (k + 5 * (j : Int)))).st (j * 5 + 1) (.int .i64 (k + 5 * (j : Int) + 1))).st (j * 5 + 2) (.int .i64 (k + 5 * (j : Int) + 2))).st (j * 5 + 3) (.int .i64 (k + 5 * (j : Int) + 3))).st (j * 5 + 4) (.int .i64 (k + 5 * (j : Int) + 4))
    refine cast ?_ this
    congr 1
    simp only [Int.add_assoc]
    rfl
   case measure => simp [intOf]; omega
  ·obtain rfl : j = f.length := by omega
   rw [List.drop_length, List.append_nil] at hown
   have Ho := lh hown
   clear hown
   go_wp2
   go_ret
   exact ⟨rfl, Ho.out, hm⟩

theorem OwnN.upd {w w1 w' : World} {B c o : Nat} {g : Sg.Graph} {hs : List (Option Addr × Nat)} (k : OwnN w B (some ⟨o, 0, none⟩) c g hs) {j : Nat} {n : Sg.Node} {kd : Int} {f' : List Sg.Part} {h0 : Option Addr × Nat} (hl : g[j]? = some n) (hh : hs[j]? = some h0) (hn : f'.length = n.f.length)
  (hw1 : w1 = w.setCell ⟨o, j * 2, none⟩ (.int .i64 kd)) (own' : Own w' B 73 5 h0.1 f'.length h0.2 (parts f')) (m : Mod (fun b => blk h0.1 = some b) w1 w') : OwnN w' B (some ⟨o, 0, none⟩) c (g.set j ⟨kd, f'⟩) hs := by
 have e : (nodeIts g).set j ⟨[.int .i64 kd], f'.length, parts f'⟩ = nodeIts (g.set j ⟨kd, f'⟩) := by simp [nodeIts, List.map_set]
 have hoo : blk h0.1 ≠ some o := k.dio j h0 hh o rfl
 have hz : w1.heap.size = w.heap.size := by rw [hw1]; simp [World.setCell]
 unfold OwnN
 rw [← e]
 refine OwnD.upd k hh ?_ own' fun b hb h1 h2 => ?_
 ·have h1 := k.out.st (j * 2) (.int .i64 kd)
  rw [← hw1, dcells_pre (it' := ⟨[.int .i64 kd], f'.length, parts f'⟩) (nodeIts_pre g) (List.getElem?_eq_some_iff.1 hh).1 (nodeIts_at hl) rfl rfl hn] at h1
  exact h1.keep fun b hb => by
   simp [blk] at hb
   subst hb
   exact m.block o (h1.lt rfl).2 hoo
 ·have hbw := (k.lt hb).2
  have : w1.heap[b]? = w.heap[b]? := by rw [hw1]; exact Below.heap_setCell _ _ _ _ (fun e => h2 (by simp [blk, e]))
  rw [← this]
  exact m.block b (by omega) h1

end Go.Proofs.YtdnlpklmihoapaaDoor
