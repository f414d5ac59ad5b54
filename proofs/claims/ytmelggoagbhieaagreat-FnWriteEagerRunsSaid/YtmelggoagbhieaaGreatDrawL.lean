/- The reference's someWrites: its contract. Conditions: bounds on the number of draws. -/
import Derived.Test.YtmelggoagbhieaaGreatDrawB
import Derived.Test.YtmelggoagbhieaaGreatCellA
import Derived.Test.YtmelggoagbhieaaGreatSepAll
import Derived.Test.YtmelggoagbhieaaGreatDrawC
import Derived.Deep.DeepCutAuto
namespace Go.Proofs.YtmelggoagbhieaaGreat
open Go.RowKit

def Written (R m : Nat) (w : World) (e : Ending) (w' : World) : Prop := ∃ (nodes vals : List Int) (A1 : Option Addr) (c1 : Nat) (A2 : Option Addr) (c2 : Nat), e = .returned (.tuple #[.slice A1 nodes.length c1, .slice A2 vals.length c2]) ∧
  Own w' (w.heap.size + 1) 3 1 A1 nodes.length c1 (ints nodes) ∧ Own w' (w.heap.size + 1) 3 1 A2 vals.length c2 (ints vals) ∧ nodes.length = vals.length ∧ nodes.length ≤ 3 ∧ Rdr w' R (m + 30) ∧ Mod (fun b => b = R) w w'
set_option maxRecDepth 100000 in
set_option maxHeartbeats 16000000 in
theorem s_someWrites (R m : Nat) (A : Option Addr) (c : Nat) (g : Sg.Graph) (w : World) (h : Rdr w R m) (hg : ∀ W, Mod (fun b => b = R) w W → RdN W A g) (hg0 : 1 ≤ g.length) (hg10 : g.length ≤ 10) (hm : m ≤ 500000) :
    Calls Tryz.prog 77 #[.pointer (some ⟨R, 0, none⟩), .agg #[.slice A g.length c]] w (Written R m w) := by
  have hRl := h.lt
  have HG := Lib.hid hg
  have e2 : Ext w (World.alloc (World.alloc (World.alloc (World.alloc w (.cells #[.slice A g.length c] 25)) (.cells #[] 3)) (.cells #[] 3)) (.cells #[.int .i64 1, .int .i64 2, .int .i64 1, .int .i64 3, .int .i64 0] 3)) := (((((Ext.rfl' w).al _).al _).al _).al _)
  have R2 := Lib.hid (h.ext e2)
  have o1 := Own.new (World.alloc w (.cells #[.slice A g.length c] 25)) (B := w.heap.size + 1) 3 1 #[] 0 (by simp) (by unfold maxLen; omega) rfl
  have o2 := Own.new (World.alloc (World.alloc w (.cells #[.slice A g.length c] 25)) (.cells #[] 3)) (B := w.heap.size + 1) 3 1 #[] 0 (by simp) (by unfold maxLen; omega) rfl
  have sp : Sep [Th.own (w.heap.size + 1) 3 1 (some ⟨w.heap.size + 1, 0, none⟩) ([] : List Int).length 0 (ints []), Th.own (w.heap.size + 1) 3 1 (some ⟨w.heap.size + 1 + 1, 0, none⟩) ([] : List Int).length 0 (ints [])] (World.alloc (World.alloc (World.alloc (World.alloc w (.cells #[.slice A g.length c] 25)) (.cells #[] 3)) (.cells #[] 3)) (.cells #[.int .i64 1, .int .i64 2, .int .i64 1, .int .i64 3, .int .i64 0] 3)) := by
    simp only [World.size_alloc] at o1 o2
    exact Sep.ext (W := (World.alloc (World.alloc (World.alloc w (.cells #[.slice A g.length c] 25)) (.cells #[] 3)) (.cells #[] 3))) ⟨by show Own _ _ _ _ _ _ _ _; simpa [ints] using o1.ext ((Ext.rfl' _).al (.cells #[] 3)), fun s hs b hb hb' => by simp at hs; subst hs; have h1 : some (w.heap.size + 1) = some b := hb; have h2 : some (w.heap.size + 1 + 1) = some b := hb'; simp at h1 h2; omega, by show Own _ _ _ _ _ _ _ _; simpa [ints] using o2, by simp, trivial⟩ ((Ext.rfl' _).al _)
  have S2 := Lib.hid sp
  have BG2 := Lib.hid (show Bx (World.alloc (World.alloc (World.alloc (World.alloc w (.cells #[.slice A g.length c] 25)) (.cells #[] 3)) (.cells #[] 3)) (.cells #[.int .i64 1, .int .i64 2, .int .i64 1, .int .i64 3, .int .i64 0] 3)) w.heap.size [.slice A g.length c] from (((Bx.new w #[.slice A g.length c] 25).al _).al _).al _)
  have E2 := Lib.hid e2
  have rl0 := (Own.new (World.alloc (World.alloc (World.alloc w (.cells #[.slice A g.length c] 25)) (.cells #[] 3)) (.cells #[] 3)) (B := 0) 3 1 #[.int .i64 1, .int .i64 2, .int .i64 1, .int .i64 3, .int .i64 0] 5 (Nat.zero_le _) (by unfold maxLen; omega) rfl).rd
  simp only [World.size_alloc] at rl0
  have RL := Lib.hid rl0
  clear rl0
  clear h hg e2 o1 o2 sp
  go_enter Tryz.func77, Tryz.ntmps77
  go_wp2_with fail
  refine (s_one R m _ 5 [1, 2, 1, 3, 0] _ R2.out RL.out (by simp) (by simp) (by intro y hy; simp [blk] at hy; omega) (by omega)).mono ?_
  rintro e w3 ⟨x, rfl, hx, hr3, hm3⟩
  obtain ⟨n0, rfl, hn3⟩ : ∃ n0 : Nat, x = n0 ∧ n0 ≤ 3 := by simp only [List.mem_cons, List.not_mem_nil, or_false] at hx; rcases hx with rfl | rfl | rfl | rfl | rfl <;> first | exact ⟨0, rfl, by omega⟩ | exact ⟨1, rfl, by omega⟩ | exact ⟨2, rfl, by omega⟩ | exact ⟨3, rfl, by omega⟩
  have S3 := Lib.hid (S2.out.mod hm3 (fun b e => by omega))
  have BG3 := Lib.hid (BG2.out.mod hm3 (by omega))
  have R3 := Lib.hid hr3
  have M3 := Lib.hid ((Mod.of (F := fun b => b = R) E2.out).tr' hm3)
  have hz3 := BG3.out.lt
  clear hx hr3 hm3 S2 BG2 E2 R2 RL
  go_wp2_with fail
  go_loopw [6, 7, 8] (fun s6 s7 s8 wr => ∃ (n : Nat) (nodes vals : List Int) (A1 : Option Addr) (c1 : Nat) (A2 : Option Addr) (c2 t : Nat), n ≤ 3 ∧ s8 = .int .i64 n ∧ s6 = .slice A1 nodes.length c1 ∧ s7 = .slice A2 vals.length c2 ∧ nodes.length = vals.length ∧ nodes.length + n ≤ 3 ∧ t + 5 * n ≤ m + 1 + 15 ∧ Hid (Sep [Th.own (w.heap.size + 1) 3 1 A1 nodes.length c1 (ints nodes), Th.own (w.heap.size + 1) 3 1 A2 vals.length c2 (ints vals)] wr) ∧ Hid (Rdr wr R t) ∧ Hid (Bx wr w.heap.size [.slice A g.length c]) ∧ Hid (Mod (fun b => b = R) w wr)) (fun _ _ s8 _ => (intOf s8).toNat)
  case atStart => exact ⟨n0, [], [], _, _, _, _, m + 1, hn3, rfl, rfl, rfl, rfl, by simpa using hn3, by omega, S3, R3, BG3, M3⟩
  case round =>
    clear S3 R3 BG3 M3
    obtain ⟨n, nodes, vals, A1, c1, A2, c2, tt, hn, rfl, rfl, rfl, hlen, hln, htt, hS, hR, hB, hM⟩ := hrel
    by_cases hn0 : 0 < n
    · have S4 := hS
      have R4 := hR
      have B4 := hB
      have M4 := hM
      have HLN := Lib.hid hlen
      have hv3 : vals.length ≤ 3 := by omega
      clear hS hR hB hM hlen
      have cg := B4.out.cell (j := 0) rfl
      have bcg := blt cg
      have hgp : ((n : Int) > 0) := by omega
      have iw : IntKind.i64.wrap ((n : Int) - 1) = (n : Int) - 1 := IntWalk.i64_in _ (by omega)
      go_wp2_with fail
      refine (s_pick R (tt) (g.length : Int) _ R4.out (by omega) (by omega) (by omega)).mono ?_
      rintro e w5 ⟨x, rfl, hx0, hx1, hr5, hm5⟩
      have S5 := Lib.hid (S4.out.mod hm5 (fun b e => by omega))
      have B5 := Lib.hid (B4.out.mod hm5 (by omega))
      have M5 := Lib.hid (M4.out.tr' hm5)
      have R5 := Lib.hid hr5
      clear hr5 hm5
      obtain ⟨k, rfl⟩ := Int.eq_ofNat_of_zero_le hx0
      have hk : k < g.length := by omega
      clear hx0 hx1 cg bcg
      have cg := B5.out.cell (j := 0) rfl
      have bcg := blt cg
      cases hic : Sg.isCell g (k : Int)
      · have HIC := Lib.hid hic
        clear hic
        go_wp2_with fail
        refine (s_isCell A c g (k : Int) _ (HG.out _ M5.out)).mono ?_
        rw [HIC.out]
        rintro e w6 ⟨rfl, he6⟩
        have S6 := Lib.hid (S5.out.ext he6)
        have B6 := Lib.hid (B5.out.ext he6)
        have M6 := Lib.hid (M5.out.tr' (Mod.of he6))
        have R6 := Lib.hid (R5.out.ext he6)
        clear he6 cg bcg S5 R5 B5 M5
        go_wp2_with fail
        refine (s_pick R ((tt + 1)) 8 _ R6.out (by omega) (by omega) (by omega)).mono ?_
        rintro e w6a ⟨u, rfl, hu0, hu1, hr6a, hm6a⟩
        have S6a := Lib.hid (S6.out.mod hm6a (fun b e => by omega))
        have B6a := Lib.hid (B6.out.mod hm6a (by omega))
        have M6a := Lib.hid (M6.out.tr' hm6a)
        have R6a := Lib.hid hr6a
        clear hr6a hm6a
        clear hu1
        by_cases hup : u > 0
        · skip
          have HP := Lib.hid (s_placeIn A1 nodes.length c1 nodes (0 : Int) _ (show Own _ (w.heap.size + 1) 3 1 A1 nodes.length c1 (ints nodes) from Sep.get S6a.out 0 rfl).rd)
          by_cases hin : (0 : Int) ∈ nodes
          · have hp : placeIn nodes (0 : Int) ≥ 0 := by have := (placeIn_neg nodes (0 : Int)).1; by_cases h0 : placeIn nodes (0 : Int) < 0; exact absurd hin (this h0); omega
            clear hin
            go_wp2_with fail
            refine HP.out.mono ?_
            rintro e w' ⟨rfl, rfl⟩
            clear HP
            generalize placeIn nodes (0 : Int) = pp at hp ⊢
            go_wp2_with fail
            refine (s_pick R ((tt + 1 + 1)) 8 _ R6a.out (by omega) (by omega) (by omega)).mono ?_
            rintro e w7 ⟨z, rfl, hz0, hz1, hr7, hm7⟩
            have S7 := Lib.hid (S6a.out.mod hm7 (fun b e => by omega))
            have B7 := Lib.hid (B6a.out.mod hm7 (by omega))
            have M7 := Lib.hid (M6a.out.tr' hm7)
            have R7 := Lib.hid hr7
            clear hr7 hm7
            clear hz1
            by_cases hzp : z > 0
            · go_wp2_with fail
              go_roundw
              case rel => exact ⟨n - 1, nodes, vals, A1, c1, A2, c2, ((tt + 1 + 1) + 1), by omega, by go_num, by simp, by simp, HLN.out, (by have := HLN.out; omega), by omega, S7, R7, B7, M7⟩
              case measure => simp [intOf]; omega
            · skip
              have hs8 := B7.out.lt
              have hx8l : nodes.length ≤ 3 := by omega
              go_wp2_with (at_builtin; refine wpList_app1 rfl rfl eiInt rfl (show Own _ (w.heap.size + 1) 3 1 A1 nodes.length c1 (ints nodes) from Sep.get S7.out 0 rfl) rfl rfl (one_int _ _) (by omega) (by omega) (by omega) ?_; intro A8 c8 w8 ho8 hg8 hat8; have O8 := Lib.hid ho8; have G8 := Lib.hid hg8; have T8 := Lib.hid hat8; clear ho8 hg8 hat8)
              have HL8 := Lib.hid (show (nodes ++ [(0 : Int)]).length = nodes.length + 1 by simp)
              have m8 := Lib.hid ((Mod.rfl' (fun b => blk A1 = some b) w7).gr G8.out (fun b e => .inl e))
              have hA8 := Lib.hid (fun b (hb : blk A1 = some b) => (Sep.lt S7.out (t := Th.own (w.heap.size + 1) 3 1 A1 nodes.length c1 (ints nodes)) (by simp) hb).1)
              have R8 := Lib.hid (R7.out.mod m8.out (fun b e => by have := hA8.out b e; omega))
              have B8 := Lib.hid (B7.out.mod m8.out (fun e => by have := hA8.out _ e; omega))
              have M8 := Lib.hid (M7.out.tr m8.out (fun b e => .inr (by have := hA8.out b e; omega)))
              have S8 : Hid (Sep [Th.own (w.heap.size + 1) 3 1 A8 (nodes ++ [(0 : Int)]).length c8 (ints (nodes ++ [(0 : Int)])), Th.own (w.heap.size + 1) 3 1 A2 vals.length c2 (ints vals)] w8) := Lib.hid (Sep.app S7.out 0 rfl (n' := (nodes ++ [(0 : Int)]).length) (xs' := ints (nodes ++ [(0 : Int)])) (by rw [HL8.out]; simpa using O8.out) G8.out T8.out)
              clear O8 G8 T8 m8 hA8
              refine (s_pick R (((tt + 1 + 1) + 1)) 1000 _ R8.out (by omega) (by omega) (by omega)).mono ?_
              rintro e w9 ⟨y, rfl, hy0, hy1, hr9, hm9⟩
              have S9 := Lib.hid (S8.out.mod hm9 (fun b e => by omega))
              have B9 := Lib.hid (B8.out.mod hm9 (by omega))
              have M9 := Lib.hid (M8.out.tr' hm9)
              have R9 := Lib.hid hr9
              clear hr9 hm9
              clear hy1
              go_wp2_with fail
              have RLx := (Own.new w9 (B := 0) 3 1 #[.int .i64 0, .int .i64 1, .int .i64 y, .int .i64 3] 4 (Nat.zero_le _) (by unfold maxLen; omega) rfl).rd
              have e9 := (Ext.rfl' w9).al (.cells #[.int .i64 0, .int .i64 1, .int .i64 y, .int .i64 3] 3)
              refine (s_one R (((tt + 1 + 1) + 1) + 1) _ 4 [0, 1, y, 3] _ (R9.out.ext e9) RLx (by simp) (by simp) (by intro y hy; simp [blk] at hy; have := R9.out.lt; omega) (by omega)).mono ?_
              rintro e w10 ⟨yv, rfl, hyv, hr10, hm10⟩
              have S10 := Lib.hid ((S9.out.ext e9).mod hm10 (fun b e => by omega))
              have B10 := Lib.hid ((B9.out.ext e9).mod hm10 (by omega))
              have M10 := Lib.hid ((M9.out.tr' (Mod.of e9)).tr' hm10)
              have R10 := Lib.hid hr10
              clear RLx e9 hyv hr10 hm10
              have HV3 := Lib.hid (show vals.length ≤ 3 from hv3)
              have hs11 := B10.out.lt
              have hx11l : vals.length ≤ 3 := by omega
              go_wp2_with (at_builtin; refine wpList_app1 rfl rfl eiInt rfl (show Own _ (w.heap.size + 1) 3 1 A2 vals.length c2 (ints vals) from Sep.get S10.out 1 rfl) rfl rfl (one_int _ _) (by omega) (by omega) (by omega) ?_; intro A9x c9x w11 ho8 hg8 hat8; have O11 := Lib.hid ho8; have G11 := Lib.hid hg8; have T11 := Lib.hid hat8; clear ho8 hg8 hat8)
              have HL11 := Lib.hid (show (vals ++ [yv]).length = vals.length + 1 by simp)
              have m11 := Lib.hid ((Mod.rfl' (fun b => blk A2 = some b) w10).gr G11.out (fun b e => .inl e))
              have hA11 := Lib.hid (fun b (hb : blk A2 = some b) => (Sep.lt S10.out (t := Th.own (w.heap.size + 1) 3 1 A2 vals.length c2 (ints vals)) (by simp) hb).1)
              have R11 := Lib.hid (R10.out.mod m11.out (fun b e => by have := hA11.out b e; omega))
              have B11 := Lib.hid (B10.out.mod m11.out (fun e => by have := hA11.out _ e; omega))
              have M11 := Lib.hid (M10.out.tr m11.out (fun b e => .inr (by have := hA11.out b e; omega)))
              have S11 : Hid (Sep [Th.own (w.heap.size + 1) 3 1 A8 (nodes ++ [(0 : Int)]).length c8 (ints (nodes ++ [(0 : Int)])), Th.own (w.heap.size + 1) 3 1 A9x (vals ++ [yv]).length c9x (ints (vals ++ [yv]))] w11) := Lib.hid (Sep.app S10.out 1 rfl (n' := (vals ++ [yv]).length) (xs' := ints (vals ++ [yv])) (by rw [HL11.out]; simpa using O11.out) G11.out T11.out)
              clear O11 G11 T11 m11 hA11
              go_roundw
              case rel => exact ⟨n - 1, (nodes ++ [(0 : Int)]), (vals ++ [yv]), A8, c8, A9x, c9x, (((tt + 1 + 1) + 1) + 2), by omega, by go_num, by simp, by simp, (by have := HLN.out; simp; omega), (by have := HLN.out; simp; omega), by omega, S11, R11, B11, M11⟩
              case measure => simp [intOf]; omega
          · have hp : ¬ (placeIn nodes (0 : Int) ≥ 0) := by have := (placeIn_neg nodes (0 : Int)).2 hin; omega
            clear hin
            go_wp2_with fail
            refine HP.out.mono ?_
            rintro e w' ⟨rfl, rfl⟩
            clear HP
            generalize placeIn nodes (0 : Int) = pp at hp ⊢
            have hs8 := B6a.out.lt
            have hx8l : nodes.length ≤ 3 := by omega
            go_wp2_with (at_builtin; refine wpList_app1 rfl rfl eiInt rfl (show Own _ (w.heap.size + 1) 3 1 A1 nodes.length c1 (ints nodes) from Sep.get S6a.out 0 rfl) rfl rfl (one_int _ _) (by omega) (by omega) (by omega) ?_; intro A8 c8 w8 ho8 hg8 hat8; have O8 := Lib.hid ho8; have G8 := Lib.hid hg8; have T8 := Lib.hid hat8; clear ho8 hg8 hat8)
            have HL8 := Lib.hid (show (nodes ++ [(0 : Int)]).length = nodes.length + 1 by simp)
            have m8 := Lib.hid ((Mod.rfl' (fun b => blk A1 = some b) w6a).gr G8.out (fun b e => .inl e))
            have hA8 := Lib.hid (fun b (hb : blk A1 = some b) => (Sep.lt S6a.out (t := Th.own (w.heap.size + 1) 3 1 A1 nodes.length c1 (ints nodes)) (by simp) hb).1)
            have R8 := Lib.hid (R6a.out.mod m8.out (fun b e => by have := hA8.out b e; omega))
            have B8 := Lib.hid (B6a.out.mod m8.out (fun e => by have := hA8.out _ e; omega))
            have M8 := Lib.hid (M6a.out.tr m8.out (fun b e => .inr (by have := hA8.out b e; omega)))
            have S8 : Hid (Sep [Th.own (w.heap.size + 1) 3 1 A8 (nodes ++ [(0 : Int)]).length c8 (ints (nodes ++ [(0 : Int)])), Th.own (w.heap.size + 1) 3 1 A2 vals.length c2 (ints vals)] w8) := Lib.hid (Sep.app S6a.out 0 rfl (n' := (nodes ++ [(0 : Int)]).length) (xs' := ints (nodes ++ [(0 : Int)])) (by rw [HL8.out]; simpa using O8.out) G8.out T8.out)
            clear O8 G8 T8 m8 hA8
            refine (s_pick R ((tt + 1 + 1)) 1000 _ R8.out (by omega) (by omega) (by omega)).mono ?_
            rintro e w9 ⟨y, rfl, hy0, hy1, hr9, hm9⟩
            have S9 := Lib.hid (S8.out.mod hm9 (fun b e => by omega))
            have B9 := Lib.hid (B8.out.mod hm9 (by omega))
            have M9 := Lib.hid (M8.out.tr' hm9)
            have R9 := Lib.hid hr9
            clear hr9 hm9
            clear hy1
            go_wp2_with fail
            have RLx := (Own.new w9 (B := 0) 3 1 #[.int .i64 0, .int .i64 1, .int .i64 y, .int .i64 3] 4 (Nat.zero_le _) (by unfold maxLen; omega) rfl).rd
            have e9 := (Ext.rfl' w9).al (.cells #[.int .i64 0, .int .i64 1, .int .i64 y, .int .i64 3] 3)
            refine (s_one R ((tt + 1 + 1) + 1) _ 4 [0, 1, y, 3] _ (R9.out.ext e9) RLx (by simp) (by simp) (by intro y hy; simp [blk] at hy; have := R9.out.lt; omega) (by omega)).mono ?_
            rintro e w10 ⟨yv, rfl, hyv, hr10, hm10⟩
            have S10 := Lib.hid ((S9.out.ext e9).mod hm10 (fun b e => by omega))
            have B10 := Lib.hid ((B9.out.ext e9).mod hm10 (by omega))
            have M10 := Lib.hid ((M9.out.tr' (Mod.of e9)).tr' hm10)
            have R10 := Lib.hid hr10
            clear RLx e9 hyv hr10 hm10
            have HV3 := Lib.hid (show vals.length ≤ 3 from hv3)
            have hs11 := B10.out.lt
            have hx11l : vals.length ≤ 3 := by omega
            go_wp2_with (at_builtin; refine wpList_app1 rfl rfl eiInt rfl (show Own _ (w.heap.size + 1) 3 1 A2 vals.length c2 (ints vals) from Sep.get S10.out 1 rfl) rfl rfl (one_int _ _) (by omega) (by omega) (by omega) ?_; intro A9x c9x w11 ho8 hg8 hat8; have O11 := Lib.hid ho8; have G11 := Lib.hid hg8; have T11 := Lib.hid hat8; clear ho8 hg8 hat8)
            have HL11 := Lib.hid (show (vals ++ [yv]).length = vals.length + 1 by simp)
            have m11 := Lib.hid ((Mod.rfl' (fun b => blk A2 = some b) w10).gr G11.out (fun b e => .inl e))
            have hA11 := Lib.hid (fun b (hb : blk A2 = some b) => (Sep.lt S10.out (t := Th.own (w.heap.size + 1) 3 1 A2 vals.length c2 (ints vals)) (by simp) hb).1)
            have R11 := Lib.hid (R10.out.mod m11.out (fun b e => by have := hA11.out b e; omega))
            have B11 := Lib.hid (B10.out.mod m11.out (fun e => by have := hA11.out _ e; omega))
            have M11 := Lib.hid (M10.out.tr m11.out (fun b e => .inr (by have := hA11.out b e; omega)))
            have S11 : Hid (Sep [Th.own (w.heap.size + 1) 3 1 A8 (nodes ++ [(0 : Int)]).length c8 (ints (nodes ++ [(0 : Int)])), Th.own (w.heap.size + 1) 3 1 A9x (vals ++ [yv]).length c9x (ints (vals ++ [yv]))] w11) := Lib.hid (Sep.app S10.out 1 rfl (n' := (vals ++ [yv]).length) (xs' := ints (vals ++ [yv])) (by rw [HL11.out]; simpa using O11.out) G11.out T11.out)
            clear O11 G11 T11 m11 hA11
            go_roundw
            case rel => exact ⟨n - 1, (nodes ++ [(0 : Int)]), (vals ++ [yv]), A8, c8, A9x, c9x, ((tt + 1 + 1) + 2), by omega, by go_num, by simp, by simp, (by have := HLN.out; simp; omega), (by have := HLN.out; simp; omega), by omega, S11, R11, B11, M11⟩
            case measure => simp [intOf]; omega
        · skip
          have HP := Lib.hid (s_placeIn A1 nodes.length c1 nodes (k : Int) _ (show Own _ (w.heap.size + 1) 3 1 A1 nodes.length c1 (ints nodes) from Sep.get S6a.out 0 rfl).rd)
          by_cases hin : (k : Int) ∈ nodes
          · have hp : placeIn nodes (k : Int) ≥ 0 := by have := (placeIn_neg nodes (k : Int)).1; by_cases h0 : placeIn nodes (k : Int) < 0; exact absurd hin (this h0); omega
            clear hin
            go_wp2_with fail
            refine HP.out.mono ?_
            rintro e w' ⟨rfl, rfl⟩
            clear HP
            generalize placeIn nodes (k : Int) = pp at hp ⊢
            go_wp2_with fail
            refine (s_pick R ((tt + 1 + 1)) 8 _ R6a.out (by omega) (by omega) (by omega)).mono ?_
            rintro e w7 ⟨z, rfl, hz0, hz1, hr7, hm7⟩
            have S7 := Lib.hid (S6a.out.mod hm7 (fun b e => by omega))
            have B7 := Lib.hid (B6a.out.mod hm7 (by omega))
            have M7 := Lib.hid (M6a.out.tr' hm7)
            have R7 := Lib.hid hr7
            clear hr7 hm7
            clear hz1
            by_cases hzp : z > 0
            · go_wp2_with fail
              go_roundw
              case rel => exact ⟨n - 1, nodes, vals, A1, c1, A2, c2, ((tt + 1 + 1) + 1), by omega, by go_num, by simp, by simp, HLN.out, (by have := HLN.out; omega), by omega, S7, R7, B7, M7⟩
              case measure => simp [intOf]; omega
            · skip
              have hs8 := B7.out.lt
              have hx8l : nodes.length ≤ 3 := by omega
              go_wp2_with (at_builtin; refine wpList_app1 rfl rfl eiInt rfl (show Own _ (w.heap.size + 1) 3 1 A1 nodes.length c1 (ints nodes) from Sep.get S7.out 0 rfl) rfl rfl (one_int _ _) (by omega) (by omega) (by omega) ?_; intro A8 c8 w8 ho8 hg8 hat8; have O8 := Lib.hid ho8; have G8 := Lib.hid hg8; have T8 := Lib.hid hat8; clear ho8 hg8 hat8)
              have HL8 := Lib.hid (show (nodes ++ [(k : Int)]).length = nodes.length + 1 by simp)
              have m8 := Lib.hid ((Mod.rfl' (fun b => blk A1 = some b) w7).gr G8.out (fun b e => .inl e))
              have hA8 := Lib.hid (fun b (hb : blk A1 = some b) => (Sep.lt S7.out (t := Th.own (w.heap.size + 1) 3 1 A1 nodes.length c1 (ints nodes)) (by simp) hb).1)
              have R8 := Lib.hid (R7.out.mod m8.out (fun b e => by have := hA8.out b e; omega))
              have B8 := Lib.hid (B7.out.mod m8.out (fun e => by have := hA8.out _ e; omega))
              have M8 := Lib.hid (M7.out.tr m8.out (fun b e => .inr (by have := hA8.out b e; omega)))
              have S8 : Hid (Sep [Th.own (w.heap.size + 1) 3 1 A8 (nodes ++ [(k : Int)]).length c8 (ints (nodes ++ [(k : Int)])), Th.own (w.heap.size + 1) 3 1 A2 vals.length c2 (ints vals)] w8) := Lib.hid (Sep.app S7.out 0 rfl (n' := (nodes ++ [(k : Int)]).length) (xs' := ints (nodes ++ [(k : Int)])) (by rw [HL8.out]; simpa using O8.out) G8.out T8.out)
              clear O8 G8 T8 m8 hA8
              refine (s_pick R (((tt + 1 + 1) + 1)) 1000 _ R8.out (by omega) (by omega) (by omega)).mono ?_
              rintro e w9 ⟨y, rfl, hy0, hy1, hr9, hm9⟩
              have S9 := Lib.hid (S8.out.mod hm9 (fun b e => by omega))
              have B9 := Lib.hid (B8.out.mod hm9 (by omega))
              have M9 := Lib.hid (M8.out.tr' hm9)
              have R9 := Lib.hid hr9
              clear hr9 hm9
              clear hy1
              go_wp2_with fail
              have RLx := (Own.new w9 (B := 0) 3 1 #[.int .i64 0, .int .i64 1, .int .i64 y, .int .i64 3] 4 (Nat.zero_le _) (by unfold maxLen; omega) rfl).rd
              have e9 := (Ext.rfl' w9).al (.cells #[.int .i64 0, .int .i64 1, .int .i64 y, .int .i64 3] 3)
              refine (s_one R (((tt + 1 + 1) + 1) + 1) _ 4 [0, 1, y, 3] _ (R9.out.ext e9) RLx (by simp) (by simp) (by intro y hy; simp [blk] at hy; have := R9.out.lt; omega) (by omega)).mono ?_
              rintro e w10 ⟨yv, rfl, hyv, hr10, hm10⟩
              have S10 := Lib.hid ((S9.out.ext e9).mod hm10 (fun b e => by omega))
              have B10 := Lib.hid ((B9.out.ext e9).mod hm10 (by omega))
              have M10 := Lib.hid ((M9.out.tr' (Mod.of e9)).tr' hm10)
              have R10 := Lib.hid hr10
              clear RLx e9 hyv hr10 hm10
              have HV3 := Lib.hid (show vals.length ≤ 3 from hv3)
              have hs11 := B10.out.lt
              have hx11l : vals.length ≤ 3 := by omega
              go_wp2_with (at_builtin; refine wpList_app1 rfl rfl eiInt rfl (show Own _ (w.heap.size + 1) 3 1 A2 vals.length c2 (ints vals) from Sep.get S10.out 1 rfl) rfl rfl (one_int _ _) (by omega) (by omega) (by omega) ?_; intro A9x c9x w11 ho8 hg8 hat8; have O11 := Lib.hid ho8; have G11 := Lib.hid hg8; have T11 := Lib.hid hat8; clear ho8 hg8 hat8)
              have HL11 := Lib.hid (show (vals ++ [yv]).length = vals.length + 1 by simp)
              have m11 := Lib.hid ((Mod.rfl' (fun b => blk A2 = some b) w10).gr G11.out (fun b e => .inl e))
              have hA11 := Lib.hid (fun b (hb : blk A2 = some b) => (Sep.lt S10.out (t := Th.own (w.heap.size + 1) 3 1 A2 vals.length c2 (ints vals)) (by simp) hb).1)
              have R11 := Lib.hid (R10.out.mod m11.out (fun b e => by have := hA11.out b e; omega))
              have B11 := Lib.hid (B10.out.mod m11.out (fun e => by have := hA11.out _ e; omega))
              have M11 := Lib.hid (M10.out.tr m11.out (fun b e => .inr (by have := hA11.out b e; omega)))
              have S11 : Hid (Sep [Th.own (w.heap.size + 1) 3 1 A8 (nodes ++ [(k : Int)]).length c8 (ints (nodes ++ [(k : Int)])), Th.own (w.heap.size + 1) 3 1 A9x (vals ++ [yv]).length c9x (ints (vals ++ [yv]))] w11) := Lib.hid (Sep.app S10.out 1 rfl (n' := (vals ++ [yv]).length) (xs' := ints (vals ++ [yv])) (by rw [HL11.out]; simpa using O11.out) G11.out T11.out)
              clear O11 G11 T11 m11 hA11
              go_roundw
              case rel => exact ⟨n - 1, (nodes ++ [(k : Int)]), (vals ++ [yv]), A8, c8, A9x, c9x, (((tt + 1 + 1) + 1) + 2), by omega, by go_num, by simp, by simp, (by have := HLN.out; simp; omega), (by have := HLN.out; simp; omega), by omega, S11, R11, B11, M11⟩
              case measure => simp [intOf]; omega
          · have hp : ¬ (placeIn nodes (k : Int) ≥ 0) := by have := (placeIn_neg nodes (k : Int)).2 hin; omega
            clear hin
            go_wp2_with fail
            refine HP.out.mono ?_
            rintro e w' ⟨rfl, rfl⟩
            clear HP
            generalize placeIn nodes (k : Int) = pp at hp ⊢
            have hs8 := B6a.out.lt
            have hx8l : nodes.length ≤ 3 := by omega
            go_wp2_with (at_builtin; refine wpList_app1 rfl rfl eiInt rfl (show Own _ (w.heap.size + 1) 3 1 A1 nodes.length c1 (ints nodes) from Sep.get S6a.out 0 rfl) rfl rfl (one_int _ _) (by omega) (by omega) (by omega) ?_; intro A8 c8 w8 ho8 hg8 hat8; have O8 := Lib.hid ho8; have G8 := Lib.hid hg8; have T8 := Lib.hid hat8; clear ho8 hg8 hat8)
            have HL8 := Lib.hid (show (nodes ++ [(k : Int)]).length = nodes.length + 1 by simp)
            have m8 := Lib.hid ((Mod.rfl' (fun b => blk A1 = some b) w6a).gr G8.out (fun b e => .inl e))
            have hA8 := Lib.hid (fun b (hb : blk A1 = some b) => (Sep.lt S6a.out (t := Th.own (w.heap.size + 1) 3 1 A1 nodes.length c1 (ints nodes)) (by simp) hb).1)
            have R8 := Lib.hid (R6a.out.mod m8.out (fun b e => by have := hA8.out b e; omega))
            have B8 := Lib.hid (B6a.out.mod m8.out (fun e => by have := hA8.out _ e; omega))
            have M8 := Lib.hid (M6a.out.tr m8.out (fun b e => .inr (by have := hA8.out b e; omega)))
            have S8 : Hid (Sep [Th.own (w.heap.size + 1) 3 1 A8 (nodes ++ [(k : Int)]).length c8 (ints (nodes ++ [(k : Int)])), Th.own (w.heap.size + 1) 3 1 A2 vals.length c2 (ints vals)] w8) := Lib.hid (Sep.app S6a.out 0 rfl (n' := (nodes ++ [(k : Int)]).length) (xs' := ints (nodes ++ [(k : Int)])) (by rw [HL8.out]; simpa using O8.out) G8.out T8.out)
            clear O8 G8 T8 m8 hA8
            refine (s_pick R ((tt + 1 + 1)) 1000 _ R8.out (by omega) (by omega) (by omega)).mono ?_
            rintro e w9 ⟨y, rfl, hy0, hy1, hr9, hm9⟩
            have S9 := Lib.hid (S8.out.mod hm9 (fun b e => by omega))
            have B9 := Lib.hid (B8.out.mod hm9 (by omega))
            have M9 := Lib.hid (M8.out.tr' hm9)
            have R9 := Lib.hid hr9
            clear hr9 hm9
            clear hy1
            go_wp2_with fail
            have RLx := (Own.new w9 (B := 0) 3 1 #[.int .i64 0, .int .i64 1, .int .i64 y, .int .i64 3] 4 (Nat.zero_le _) (by unfold maxLen; omega) rfl).rd
            have e9 := (Ext.rfl' w9).al (.cells #[.int .i64 0, .int .i64 1, .int .i64 y, .int .i64 3] 3)
            refine (s_one R ((tt + 1 + 1) + 1) _ 4 [0, 1, y, 3] _ (R9.out.ext e9) RLx (by simp) (by simp) (by intro y hy; simp [blk] at hy; have := R9.out.lt; omega) (by omega)).mono ?_
            rintro e w10 ⟨yv, rfl, hyv, hr10, hm10⟩
            have S10 := Lib.hid ((S9.out.ext e9).mod hm10 (fun b e => by omega))
            have B10 := Lib.hid ((B9.out.ext e9).mod hm10 (by omega))
            have M10 := Lib.hid ((M9.out.tr' (Mod.of e9)).tr' hm10)
            have R10 := Lib.hid hr10
            clear RLx e9 hyv hr10 hm10
            have HV3 := Lib.hid (show vals.length ≤ 3 from hv3)
            have hs11 := B10.out.lt
            have hx11l : vals.length ≤ 3 := by omega
            go_wp2_with (at_builtin; refine wpList_app1 rfl rfl eiInt rfl (show Own _ (w.heap.size + 1) 3 1 A2 vals.length c2 (ints vals) from Sep.get S10.out 1 rfl) rfl rfl (one_int _ _) (by omega) (by omega) (by omega) ?_; intro A9x c9x w11 ho8 hg8 hat8; have O11 := Lib.hid ho8; have G11 := Lib.hid hg8; have T11 := Lib.hid hat8; clear ho8 hg8 hat8)
            have HL11 := Lib.hid (show (vals ++ [yv]).length = vals.length + 1 by simp)
            have m11 := Lib.hid ((Mod.rfl' (fun b => blk A2 = some b) w10).gr G11.out (fun b e => .inl e))
            have hA11 := Lib.hid (fun b (hb : blk A2 = some b) => (Sep.lt S10.out (t := Th.own (w.heap.size + 1) 3 1 A2 vals.length c2 (ints vals)) (by simp) hb).1)
            have R11 := Lib.hid (R10.out.mod m11.out (fun b e => by have := hA11.out b e; omega))
            have B11 := Lib.hid (B10.out.mod m11.out (fun e => by have := hA11.out _ e; omega))
            have M11 := Lib.hid (M10.out.tr m11.out (fun b e => .inr (by have := hA11.out b e; omega)))
            have S11 : Hid (Sep [Th.own (w.heap.size + 1) 3 1 A8 (nodes ++ [(k : Int)]).length c8 (ints (nodes ++ [(k : Int)])), Th.own (w.heap.size + 1) 3 1 A9x (vals ++ [yv]).length c9x (ints (vals ++ [yv]))] w11) := Lib.hid (Sep.app S10.out 1 rfl (n' := (vals ++ [yv]).length) (xs' := ints (vals ++ [yv])) (by rw [HL11.out]; simpa using O11.out) G11.out T11.out)
            clear O11 G11 T11 m11 hA11
            go_roundw
            case rel => exact ⟨n - 1, (nodes ++ [(k : Int)]), (vals ++ [yv]), A8, c8, A9x, c9x, ((tt + 1 + 1) + 2), by omega, by go_num, by simp, by simp, (by have := HLN.out; simp; omega), (by have := HLN.out; simp; omega), by omega, S11, R11, B11, M11⟩
            case measure => simp [intOf]; omega
      · have HIC := Lib.hid hic
        clear hic
        go_wp2_with fail
        refine (s_isCell A c g (k : Int) _ (HG.out _ M5.out)).mono ?_
        rw [HIC.out]
        rintro e w6 ⟨rfl, he6⟩
        have S6 := Lib.hid (S5.out.ext he6)
        have B6 := Lib.hid (B5.out.ext he6)
        have M6 := Lib.hid (M5.out.tr' (Mod.of he6))
        have R6 := Lib.hid (R5.out.ext he6)
        clear he6 cg bcg S5 R5 B5 M5
        have HP := Lib.hid (s_placeIn A1 nodes.length c1 nodes (k : Int) _ (show Own _ (w.heap.size + 1) 3 1 A1 nodes.length c1 (ints nodes) from Sep.get S6.out 0 rfl).rd)
        by_cases hin : (k : Int) ∈ nodes
        · have hp : placeIn nodes (k : Int) ≥ 0 := by have := (placeIn_neg nodes (k : Int)).1; by_cases h0 : placeIn nodes (k : Int) < 0; exact absurd hin (this h0); omega
          clear hin
          go_wp2_with fail
          refine HP.out.mono ?_
          rintro e w' ⟨rfl, rfl⟩
          clear HP
          generalize placeIn nodes (k : Int) = pp at hp ⊢
          go_wp2_with fail
          refine (s_pick R ((tt + 1)) 8 _ R6.out (by omega) (by omega) (by omega)).mono ?_
          rintro e w7 ⟨z, rfl, hz0, hz1, hr7, hm7⟩
          have S7 := Lib.hid (S6.out.mod hm7 (fun b e => by omega))
          have B7 := Lib.hid (B6.out.mod hm7 (by omega))
          have M7 := Lib.hid (M6.out.tr' hm7)
          have R7 := Lib.hid hr7
          clear hr7 hm7
          clear hz1
          by_cases hzp : z > 0
          · go_wp2_with fail
            go_roundw
            case rel => exact ⟨n - 1, nodes, vals, A1, c1, A2, c2, ((tt + 1) + 1), by omega, by go_num, by simp, by simp, HLN.out, (by have := HLN.out; omega), by omega, S7, R7, B7, M7⟩
            case measure => simp [intOf]; omega
          · skip
            have hs8 := B7.out.lt
            have hx8l : nodes.length ≤ 3 := by omega
            go_wp2_with (at_builtin; refine wpList_app1 rfl rfl eiInt rfl (show Own _ (w.heap.size + 1) 3 1 A1 nodes.length c1 (ints nodes) from Sep.get S7.out 0 rfl) rfl rfl (one_int _ _) (by omega) (by omega) (by omega) ?_; intro A8 c8 w8 ho8 hg8 hat8; have O8 := Lib.hid ho8; have G8 := Lib.hid hg8; have T8 := Lib.hid hat8; clear ho8 hg8 hat8)
            have HL8 := Lib.hid (show (nodes ++ [(k : Int)]).length = nodes.length + 1 by simp)
            have m8 := Lib.hid ((Mod.rfl' (fun b => blk A1 = some b) w7).gr G8.out (fun b e => .inl e))
            have hA8 := Lib.hid (fun b (hb : blk A1 = some b) => (Sep.lt S7.out (t := Th.own (w.heap.size + 1) 3 1 A1 nodes.length c1 (ints nodes)) (by simp) hb).1)
            have R8 := Lib.hid (R7.out.mod m8.out (fun b e => by have := hA8.out b e; omega))
            have B8 := Lib.hid (B7.out.mod m8.out (fun e => by have := hA8.out _ e; omega))
            have M8 := Lib.hid (M7.out.tr m8.out (fun b e => .inr (by have := hA8.out b e; omega)))
            have S8 : Hid (Sep [Th.own (w.heap.size + 1) 3 1 A8 (nodes ++ [(k : Int)]).length c8 (ints (nodes ++ [(k : Int)])), Th.own (w.heap.size + 1) 3 1 A2 vals.length c2 (ints vals)] w8) := Lib.hid (Sep.app S7.out 0 rfl (n' := (nodes ++ [(k : Int)]).length) (xs' := ints (nodes ++ [(k : Int)])) (by rw [HL8.out]; simpa using O8.out) G8.out T8.out)
            clear O8 G8 T8 m8 hA8
            refine (s_pick R (((tt + 1) + 1)) 1000 _ R8.out (by omega) (by omega) (by omega)).mono ?_
            rintro e w9 ⟨y, rfl, hy0, hy1, hr9, hm9⟩
            have S9 := Lib.hid (S8.out.mod hm9 (fun b e => by omega))
            have B9 := Lib.hid (B8.out.mod hm9 (by omega))
            have M9 := Lib.hid (M8.out.tr' hm9)
            have R9 := Lib.hid hr9
            clear hr9 hm9
            clear hy1
            go_wp2_with fail
            have RLx := (Own.new w9 (B := 0) 3 1 #[.int .i64 0, .int .i64 1, .int .i64 y, .int .i64 3] 4 (Nat.zero_le _) (by unfold maxLen; omega) rfl).rd
            have e9 := (Ext.rfl' w9).al (.cells #[.int .i64 0, .int .i64 1, .int .i64 y, .int .i64 3] 3)
            refine (s_one R (((tt + 1) + 1) + 1) _ 4 [0, 1, y, 3] _ (R9.out.ext e9) RLx (by simp) (by simp) (by intro y hy; simp [blk] at hy; have := R9.out.lt; omega) (by omega)).mono ?_
            rintro e w10 ⟨yv, rfl, hyv, hr10, hm10⟩
            have S10 := Lib.hid ((S9.out.ext e9).mod hm10 (fun b e => by omega))
            have B10 := Lib.hid ((B9.out.ext e9).mod hm10 (by omega))
            have M10 := Lib.hid ((M9.out.tr' (Mod.of e9)).tr' hm10)
            have R10 := Lib.hid hr10
            clear RLx e9 hyv hr10 hm10
            have HV3 := Lib.hid (show vals.length ≤ 3 from hv3)
            have hs11 := B10.out.lt
            have hx11l : vals.length ≤ 3 := by omega
            go_wp2_with (at_builtin; refine wpList_app1 rfl rfl eiInt rfl (show Own _ (w.heap.size + 1) 3 1 A2 vals.length c2 (ints vals) from Sep.get S10.out 1 rfl) rfl rfl (one_int _ _) (by omega) (by omega) (by omega) ?_; intro A9x c9x w11 ho8 hg8 hat8; have O11 := Lib.hid ho8; have G11 := Lib.hid hg8; have T11 := Lib.hid hat8; clear ho8 hg8 hat8)
            have HL11 := Lib.hid (show (vals ++ [yv]).length = vals.length + 1 by simp)
            have m11 := Lib.hid ((Mod.rfl' (fun b => blk A2 = some b) w10).gr G11.out (fun b e => .inl e))
            have hA11 := Lib.hid (fun b (hb : blk A2 = some b) => (Sep.lt S10.out (t := Th.own (w.heap.size + 1) 3 1 A2 vals.length c2 (ints vals)) (by simp) hb).1)
            have R11 := Lib.hid (R10.out.mod m11.out (fun b e => by have := hA11.out b e; omega))
            have B11 := Lib.hid (B10.out.mod m11.out (fun e => by have := hA11.out _ e; omega))
            have M11 := Lib.hid (M10.out.tr m11.out (fun b e => .inr (by have := hA11.out b e; omega)))
            have S11 : Hid (Sep [Th.own (w.heap.size + 1) 3 1 A8 (nodes ++ [(k : Int)]).length c8 (ints (nodes ++ [(k : Int)])), Th.own (w.heap.size + 1) 3 1 A9x (vals ++ [yv]).length c9x (ints (vals ++ [yv]))] w11) := Lib.hid (Sep.app S10.out 1 rfl (n' := (vals ++ [yv]).length) (xs' := ints (vals ++ [yv])) (by rw [HL11.out]; simpa using O11.out) G11.out T11.out)
            clear O11 G11 T11 m11 hA11
            go_roundw
            case rel => exact ⟨n - 1, (nodes ++ [(k : Int)]), (vals ++ [yv]), A8, c8, A9x, c9x, (((tt + 1) + 1) + 2), by omega, by go_num, by simp, by simp, (by have := HLN.out; simp; omega), (by have := HLN.out; simp; omega), by omega, S11, R11, B11, M11⟩
            case measure => simp [intOf]; omega
        · have hp : ¬ (placeIn nodes (k : Int) ≥ 0) := by have := (placeIn_neg nodes (k : Int)).2 hin; omega
          clear hin
          go_wp2_with fail
          refine HP.out.mono ?_
          rintro e w' ⟨rfl, rfl⟩
          clear HP
          generalize placeIn nodes (k : Int) = pp at hp ⊢
          have hs8 := B6.out.lt
          have hx8l : nodes.length ≤ 3 := by omega
          go_wp2_with (at_builtin; refine wpList_app1 rfl rfl eiInt rfl (show Own _ (w.heap.size + 1) 3 1 A1 nodes.length c1 (ints nodes) from Sep.get S6.out 0 rfl) rfl rfl (one_int _ _) (by omega) (by omega) (by omega) ?_; intro A8 c8 w8 ho8 hg8 hat8; have O8 := Lib.hid ho8; have G8 := Lib.hid hg8; have T8 := Lib.hid hat8; clear ho8 hg8 hat8)
          have HL8 := Lib.hid (show (nodes ++ [(k : Int)]).length = nodes.length + 1 by simp)
          have m8 := Lib.hid ((Mod.rfl' (fun b => blk A1 = some b) w6).gr G8.out (fun b e => .inl e))
          have hA8 := Lib.hid (fun b (hb : blk A1 = some b) => (Sep.lt S6.out (t := Th.own (w.heap.size + 1) 3 1 A1 nodes.length c1 (ints nodes)) (by simp) hb).1)
          have R8 := Lib.hid (R6.out.mod m8.out (fun b e => by have := hA8.out b e; omega))
          have B8 := Lib.hid (B6.out.mod m8.out (fun e => by have := hA8.out _ e; omega))
          have M8 := Lib.hid (M6.out.tr m8.out (fun b e => .inr (by have := hA8.out b e; omega)))
          have S8 : Hid (Sep [Th.own (w.heap.size + 1) 3 1 A8 (nodes ++ [(k : Int)]).length c8 (ints (nodes ++ [(k : Int)])), Th.own (w.heap.size + 1) 3 1 A2 vals.length c2 (ints vals)] w8) := Lib.hid (Sep.app S6.out 0 rfl (n' := (nodes ++ [(k : Int)]).length) (xs' := ints (nodes ++ [(k : Int)])) (by rw [HL8.out]; simpa using O8.out) G8.out T8.out)
          clear O8 G8 T8 m8 hA8
          refine (s_pick R ((tt + 1)) 1000 _ R8.out (by omega) (by omega) (by omega)).mono ?_
          rintro e w9 ⟨y, rfl, hy0, hy1, hr9, hm9⟩
          have S9 := Lib.hid (S8.out.mod hm9 (fun b e => by omega))
          have B9 := Lib.hid (B8.out.mod hm9 (by omega))
          have M9 := Lib.hid (M8.out.tr' hm9)
          have R9 := Lib.hid hr9
          clear hr9 hm9
          clear hy1
          go_wp2_with fail
          have RLx := (Own.new w9 (B := 0) 3 1 #[.int .i64 0, .int .i64 1, .int .i64 y, .int .i64 3] 4 (Nat.zero_le _) (by unfold maxLen; omega) rfl).rd
          have e9 := (Ext.rfl' w9).al (.cells #[.int .i64 0, .int .i64 1, .int .i64 y, .int .i64 3] 3)
          refine (s_one R ((tt + 1) + 1) _ 4 [0, 1, y, 3] _ (R9.out.ext e9) RLx (by simp) (by simp) (by intro y hy; simp [blk] at hy; have := R9.out.lt; omega) (by omega)).mono ?_
          rintro e w10 ⟨yv, rfl, hyv, hr10, hm10⟩
          have S10 := Lib.hid ((S9.out.ext e9).mod hm10 (fun b e => by omega))
          have B10 := Lib.hid ((B9.out.ext e9).mod hm10 (by omega))
          have M10 := Lib.hid ((M9.out.tr' (Mod.of e9)).tr' hm10)
          have R10 := Lib.hid hr10
          clear RLx e9 hyv hr10 hm10
          have HV3 := Lib.hid (show vals.length ≤ 3 from hv3)
          have hs11 := B10.out.lt
          have hx11l : vals.length ≤ 3 := by omega
          go_wp2_with (at_builtin; refine wpList_app1 rfl rfl eiInt rfl (show Own _ (w.heap.size + 1) 3 1 A2 vals.length c2 (ints vals) from Sep.get S10.out 1 rfl) rfl rfl (one_int _ _) (by omega) (by omega) (by omega) ?_; intro A9x c9x w11 ho8 hg8 hat8; have O11 := Lib.hid ho8; have G11 := Lib.hid hg8; have T11 := Lib.hid hat8; clear ho8 hg8 hat8)
          have HL11 := Lib.hid (show (vals ++ [yv]).length = vals.length + 1 by simp)
          have m11 := Lib.hid ((Mod.rfl' (fun b => blk A2 = some b) w10).gr G11.out (fun b e => .inl e))
          have hA11 := Lib.hid (fun b (hb : blk A2 = some b) => (Sep.lt S10.out (t := Th.own (w.heap.size + 1) 3 1 A2 vals.length c2 (ints vals)) (by simp) hb).1)
          have R11 := Lib.hid (R10.out.mod m11.out (fun b e => by have := hA11.out b e; omega))
          have B11 := Lib.hid (B10.out.mod m11.out (fun e => by have := hA11.out _ e; omega))
          have M11 := Lib.hid (M10.out.tr m11.out (fun b e => .inr (by have := hA11.out b e; omega)))
          have S11 : Hid (Sep [Th.own (w.heap.size + 1) 3 1 A8 (nodes ++ [(k : Int)]).length c8 (ints (nodes ++ [(k : Int)])), Th.own (w.heap.size + 1) 3 1 A9x (vals ++ [yv]).length c9x (ints (vals ++ [yv]))] w11) := Lib.hid (Sep.app S10.out 1 rfl (n' := (vals ++ [yv]).length) (xs' := ints (vals ++ [yv])) (by rw [HL11.out]; simpa using O11.out) G11.out T11.out)
          clear O11 G11 T11 m11 hA11
          go_roundw
          case rel => exact ⟨n - 1, (nodes ++ [(k : Int)]), (vals ++ [yv]), A8, c8, A9x, c9x, ((tt + 1) + 2), by omega, by go_num, by simp, by simp, (by have := HLN.out; simp; omega), (by have := HLN.out; simp; omega), by omega, S11, R11, B11, M11⟩
          case measure => simp [intOf]; omega
    · have hz0 : n = 0 := by omega
      subst hz0
      have S4 := hS
      have R4 := hR
      have B4 := hB
      have M4 := hM
      have HLN := Lib.hid hlen
      have hv3 : vals.length ≤ 3 := by omega
      clear hS hR hB hM hlen
      by_cases hv0 : vals.length = 0
      · have hvz : ¬ ((vals.length : Int) > 0) := by omega
        clear hv0
        go_wp2
        go_ret2
        exact ⟨nodes, vals, A1, c1, A2, c2, rfl, Sep.get S4.out 0 rfl, Sep.get S4.out 1 rfl, HLN.out, by omega, R4.out.more (by omega), M4.out⟩
      · have hvz : ((vals.length : Int) > 0) := by omega
        go_wp2_with fail
        refine (s_pick R (tt) 24 _ R4.out (by omega) (by omega) (by omega)).mono ?_
        rintro e w5 ⟨x, rfl, hx0, hx1, hr5, hm5⟩
        have S5 := Lib.hid (S4.out.mod hm5 (fun b e => by omega))
        have B5 := Lib.hid (B4.out.mod hm5 (by omega))
        have M5 := Lib.hid (M4.out.tr' hm5)
        have R5 := Lib.hid hr5
        clear hr5 hm5
        by_cases hx00 : x = 0
        · subst hx00
          clear hx0 hx1
          go_wp2_with fail
          have RLx := (Own.new w5 (B := 0) 3 1 #[.int .i64 (-1), .int .i64 1000] 2 (Nat.zero_le _) (by unfold maxLen; omega) rfl).rd
          have e9 := (Ext.rfl' w5).al (.cells #[.int .i64 (-1), .int .i64 1000] 3)
          refine (s_one R (tt + 1) _ 2 [-1, 1000] _ (R5.out.ext e9) RLx (by simp) (by simp) (by intro y hy; simp [blk] at hy; have := R5.out.lt; omega) (by omega)).mono ?_
          rintro e w10 ⟨yv, rfl, hyv, hr10, hm10⟩
          have S10 := Lib.hid ((S5.out.ext e9).mod hm10 (fun b e => by omega))
          have M10 := Lib.hid ((M5.out.tr' (Mod.of e9)).tr' hm10)
          have R10 := Lib.hid hr10
          clear RLx e9 hyv hr10 hm10
          have hO2 := Lib.hid (show Own w10 (w.heap.size + 1) 3 1 A2 vals.length c2 (ints vals) from Sep.get S10.out 1 rfl)
          obtain ⟨gv, rfl, hgv⟩ := hO2.out.at_ (by omega)
          obtain ⟨z0, hz0⟩ : ∃ z, vals[0]? = some z := ⟨_, List.getElem?_eq_getElem (by omega)⟩
          have cz := hO2.out.cell (j := 0) (u := .int .i64 z0) (by rw [ints_at, hz0]; rfl)
          have fz := hO2.out.free 0
          have bz := blt cz
          clear hz0
          have hst := hO2.out.st 0 (.int .i64 yv)
          rw [ints_set] at hst
          have S11 : Hid (Sep [Th.own (w.heap.size + 1) 3 1 A1 nodes.length c1 (ints nodes), Th.own (w.heap.size + 1) 3 1 (some ⟨gv, 0, none⟩) (vals.set 0 yv).length c2 (ints (vals.set 0 yv))] (World.setCell w10 ⟨gv, 0, none⟩ (.int .i64 yv))) := Lib.hid (Sep.st S10.out 1 rfl ⟨gv, 0, none⟩ (.int .i64 yv) rfl (Th.own (w.heap.size + 1) 3 1 (some ⟨gv, 0, none⟩) (vals.set 0 yv).length c2 (ints (vals.set 0 yv))) (by show Own _ _ _ _ _ _ _ _; rw [List.length_set]; exact hst) (fun b e => e))
          have R11 := Lib.hid (R10.out.mod (Mod.set (F := fun b => b = gv) (Mod.rfl' (fun b => b = gv) w10) (p := ⟨gv, 0, none⟩) (.inl rfl) (.int .i64 yv)) (fun b e => by omega))
          have M11 := Lib.hid (Mod.set M10.out (p := ⟨gv, 0, none⟩) (.inr (show w.heap.size ≤ gv by omega)) (.int .i64 yv))
          clear hst
          go_wp2
          go_ret2
          exact ⟨nodes, vals.set 0 yv, A1, c1, some ⟨gv, 0, none⟩, c2, by simp, Sep.get S11.out 0 rfl, Sep.get S11.out 1 rfl, by simp [HLN.out], by omega, R11.out.more (by omega), M11.out⟩
        · have hx01 : (x == 0) = false := by rw [beq_eq_false_iff_ne]; exact hx00
          clear hx00
          go_wp2
          go_ret2
          exact ⟨nodes, vals, A1, c1, A2, c2, rfl, Sep.get S5.out 0 rfl, Sep.get S5.out 1 rfl, HLN.out, by omega, R5.out.more (by omega), M5.out⟩
end Go.Proofs.YtmelggoagbhieaaGreat
