/- The program's decimal, in memory: its contract. Conditions: the program's variables as they were laid (Ge); texts of at most 2^21 bytes. -/
import Derived.Test.YtdnlpklmihoapaaDoorTxF
import Derived.Test.YtdnlpklmihoapaaDoorTxI
import Derived.Lib.AtoiErrMem
namespace Go.Proofs.YtdnlpklmihoapaaDoor
open Go.RowKit
/-- what the program's variables hold: with the errors of strconv, and a number in MaxLen -/
structure Ge (w : World) : Prop where
 gl : Gl w
 max : ∃ m, w.cell? ⟨2, 0, none⟩ = some (.int .i64 m)
 es : ∃ tp p, w.var? Tryd.prog "strconv.ErrSyntax" = some #[.iface tp p]
 er : ∃ tp p, w.var? Tryd.prog "strconv.ErrRange" = some #[.iface tp p]
theorem Ge.ext {w w' : World} (h : Ge w) (e : Ext w w') : Ge w' := by
 obtain ⟨hg, ⟨m, hm⟩, ⟨t1, p1, h1⟩, ⟨t2, p2, h2⟩⟩ := h
 exact ⟨hg.ext e, ⟨m, e.cellE hm⟩, ⟨t1, p1, var_ext e h1⟩, ⟨t2, p2, var_ext e h2⟩⟩
theorem a_bad (s : ByteArray) (hlim : s.size ≤ 281474976710656) (h : Lib.atoiAll s.data.toList = Lib.atoiAll []) (tp : TypeId) (p : Value) (w : World) (hvar : w.var? Tryd.prog "strconv.ErrSyntax" = some #[.iface tp p]) :
  Calls Tryd.prog 80 #[.string s] w fun e w' => ∃ N, e = .returned (.tuple #[.int .i64 0, .iface 151 (.pointer (some ⟨N, 0, none⟩))]) ∧ Below w.heap.size w w' :=
 (Any.strconv_Atoi_syntax_var Tryd.laysC172 s hlim h tp p w hvar).mono fun _ _ ⟨N, h1, _, _, h2⟩ => ⟨N, h1, h2⟩
theorem i_Atoi (s : ByteArray) (hs : s.size ≤ 2100000) (w : World) (hG : Ge w) : Calls Tryd.prog 80 #[.string s] w fun e w' => ∃ (n : Int) (er : Value), e = .returned (.tuple #[.int .i64 n, er]) ∧ Ext w w' ∧
  ((er = .nilIface ∧ Lib.atoiAll (tx s) = .ok n) ∨ ((∃ N, er = .iface 151 (.pointer (some ⟨N, 0, none⟩))) ∧ ∀ v, Lib.atoiAll (tx s) ≠ .ok v)) := by
 obtain ⟨_, _, ⟨t1, p1, h1⟩, ⟨t2, p2, h2⟩⟩ := hG
 cases h : Lib.atoiAll (tx s)
 ·rename_i v
  refine (Tryd.strconv_Atoi_ok s (by omega) v h w).mono ?_
  rintro e w' ⟨rfl, hw⟩
  refine ⟨v, .nilIface, rfl, ?_, .inl ⟨rfl, rfl⟩⟩
  rcases hw with rfl | ⟨t, rfl⟩
  ·exact Ext.rfl' _
  ·exact Lib.bytesWorld_below w _ t
 ·refine (a_bad s (by omega) h t1 p1 w h1).mono ?_
  rintro e w' ⟨N, rfl, he⟩
  exact ⟨0, _, rfl, he, .inr ⟨⟨N, rfl⟩, fun v e => by cases e⟩⟩
 ·refine (Tryd.strconv_Atoi_range_var s (by omega) h t2 p2 w h2).mono ?_
  rintro e w' ⟨N, rfl, _, _, he⟩
  exact ⟨_, _, rfl, he, .inr ⟨⟨N, rfl⟩, fun v e => by cases e⟩⟩
theorem i_ItoaB (n : Nat) (h : (n : Int) ≤ 9223372036854775807) (w : World) (hg : Gl w) : Calls Tryd.prog 34 #[.int .i64 (n : Int)] w fun e w' => e = .returned (.string (ts (Sg.numT n))) ∧ Ext w w' := by
 refine (Tryd.strconv_Itoa (n : Int) (by omega) h w hg.tab).mono ?_
 rintro e w' ⟨rfl, k, os, rfl⟩
 rw [Sg.itoa_nat]
 exact ⟨rfl, rfl, rfl, rfl, by simp [Go.Sort.grow, World.drewN], fun b hb => Array.getElem?_append_left hb⟩
set_option maxRecDepth 100000 in
set_option maxHeartbeats 2000000 in
theorem i_decimal (s : ByteArray) (hs : s.size ≤ 2100000) (w : World) (hG : Ge w) : Calls Tryd.prog 48 #[.string s] w fun e w' => ∃ (n : Int) (ok : Bool), e = .returned (.tuple #[.int .i64 n, .bool ok]) ∧ Ext w w' ∧
  (ok = true → ∃ k : Nat, n = k ∧ Sg.decL (tx s) = some k) ∧ (ok = false → Sg.decL (tx s) = none) := by
 have HA := lh (i_Atoi s hs w hG)
 have HG := lh hG
 clear hG
 go_enter Tryd.func48, Tryd.ntmps48
 go_wp2_with fail
 refine HA.out.mono ?_
 rintro e w2 ⟨n, er, rfl, he, hr⟩
 have E := lh he
 clear he
 rcases hr with ⟨rfl, ha⟩ | ⟨⟨N, rfl⟩, ha⟩
 ·by_cases hn : 0 ≤ n
  ·obtain ⟨k, rfl⟩ := Int.eq_ofNat_of_zero_le hn
   have HI := lh fun w' (e : Ext w w') => i_ItoaB k (Lib.atoiAll_bounds ha).2 w' (HG.out.ext e).gl
   by_cases ht : tx s = Sg.numT k
   ·have b1 : (Sg.numT k == s.toList) = true := by rw [Bool.beq_comm, beq_tl]; simp [ht]
    have HD := lh (show Sg.decL (tx s) = some k by unfold Sg.decL; rw [ha]; simp only; rw [Sg.itoa_nat, if_pos ⟨hn, ht.symm⟩]; rfl)
    clear ha ht
    go_wp2_with fail
    refine (HI.out _ E.out).mono ?_
    rintro e w3 ⟨rfl, he3⟩
    go_wp2
    go_ret2
    exact ⟨k, true, rfl, E.out.tr he3, fun _ => ⟨k, rfl, HD.out⟩, fun h => by cases h⟩
   ·have b1 : (Sg.numT k == s.toList) = false := by rw [Bool.beq_comm, beq_tl]; simp [ht]
    have HD := lh (show Sg.decL (tx s) = none by unfold Sg.decL; rw [ha]; simp only; rw [Sg.itoa_nat, if_neg (fun e => ht e.2.symm)])
    clear ha ht
    go_wp2_with fail
    refine (HI.out _ E.out).mono ?_
    rintro e w3 ⟨rfl, he3⟩
    go_wp2
    go_ret2
    exact ⟨k, false, rfl, E.out.tr he3, (fun h => by cases h), fun _ => HD.out⟩
  ·have hnx : ¬ n ≥ 0 := hn
   have HD := lh (show Sg.decL (tx s) = none by unfold Sg.decL; rw [ha]; simp only; rw [if_neg (fun e => hn e.1)])
   clear ha hn
   go_wp2
   go_ret2
   first | exact ⟨n, false, rfl, E.out, (fun h => by cases h), fun _ => HD.out⟩ | exact .inl ⟨rfl, E.out, HD.out⟩ | exact .inl ⟨n, rfl, E.out, HD.out⟩ | exact ⟨n, .inl ⟨rfl, E.out, HD.out⟩⟩
 ·have HD := lh (show Sg.decL (tx s) = none by
   unfold Sg.decL
   split
   ·rename_i v hv
    exact absurd hv (ha v)
   ·rfl)
  clear ha
  go_wp2
  go_ret2
  first | exact ⟨n, false, rfl, E.out, (fun h => by cases h), fun _ => HD.out⟩ | exact .inl ⟨rfl, E.out, HD.out⟩ | exact .inl ⟨n, rfl, E.out, HD.out⟩ | exact ⟨n, .inl ⟨rfl, E.out, HD.out⟩⟩
end Go.Proofs.YtdnlpklmihoapaaDoor
