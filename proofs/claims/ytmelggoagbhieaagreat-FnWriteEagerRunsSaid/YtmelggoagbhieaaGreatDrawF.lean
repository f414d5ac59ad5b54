/- The reference's goodGraph: its contract. Conditions: bounds on the number of draws. -/
import Derived.Test.YtmelggoagbhieaaGreatDrawD
import Derived.Test.YtmelggoagbhieaaGreatDrawE
import Derived.Deep.DeepCutAuto
namespace Go.Proofs.YtmelggoagbhieaaGreat
open Go.RowKit

def Graphed (R m : Nat) (w : World) (e : Ending) (w' : World) : Prop := ∃ (g : Sg.Graph) (A : Option Addr) (c : Nat) (hs : List (Option Addr × Nat)), e = .returned (.agg #[.slice A g.length c]) ∧ OwnN w' w.heap.size A c g hs ∧ 2 ≤ g.length ∧ g.length ≤ 10 ∧ (∀ n ∈ g, n.f.length ≤ 30) ∧ Rdr w' R (m + 1200) ∧ Mod (fun b => b = R) w w'
theorem GG.start {R m : Nat} {w : World} (h : Rdr w R m) : GG w.heap.size R m w 0 0 (some ⟨w.heap.size + 1 + 1, 0, none⟩) 0 (World.alloc (World.alloc (World.alloc (World.alloc w (.cells #[.slice none 0 0] 25)) (.cells #[.slice none 0 0] 25)) (.cells #[] 3)) (.cells #[.int .i64 6, .int .i64 5, .int .i64 7, .int .i64 8, .int .i64 4, .int .i64 10, .int .i64 2] 3)) := by
  have hR := h.lt
  have b0 := ((Bx.new w #[.slice none 0 0] 25).al (.cells #[.slice none 0 0] 25)).al (.cells #[] 3) |>.al (.cells #[.int .i64 6, .int .i64 5, .int .i64 7, .int .i64 8, .int .i64 4, .int .i64 10, .int .i64 2] 3)
  have b1 := ((Bx.new (World.alloc w (.cells #[.slice none 0 0] 25)) #[.slice none 0 0] 25).al (.cells #[] 3)).al (.cells #[.int .i64 6, .int .i64 5, .int .i64 7, .int .i64 8, .int .i64 4, .int .i64 10, .int .i64 2] 3)
  have o1 := (Own.new (World.alloc (World.alloc w (.cells #[.slice none 0 0] 25)) (.cells #[.slice none 0 0] 25)) (B := w.heap.size + 2) 3 1 #[] 0 (by simp) (by unfold maxLen; omega) rfl).al (.cells #[.int .i64 6, .int .i64 5, .int .i64 7, .int .i64 8, .int .i64 4, .int .i64 10, .int .i64 2] 3)
  simp only [World.size_alloc] at b1 o1
  have e1 : Ext w (World.alloc (World.alloc (World.alloc (World.alloc w (.cells #[.slice none 0 0] 25)) (.cells #[.slice none 0 0] 25)) (.cells #[] 3)) (.cells #[.int .i64 6, .int .i64 5, .int .i64 7, .int .i64 8, .int .i64 4, .int .i64 10, .int .i64 2] 3)) := ((((Ext.rfl' w).al _).al _).al _).al _
  exact ⟨[], none, 0, [], rfl, by simp, rfl, hR, b0, b1, OwnD.nil _ _ _ _ _ _, ⟨[], rfl, o1⟩, (by intro b hb hb'; rcases hb' with hb' | ⟨x, hx, _⟩ <;> simp_all [blk]), h.ext e1, Mod.of e1⟩

set_option maxRecDepth 100000 in
set_option maxHeartbeats 16000000 in
theorem s_goodGraph (R m : Nat) (w : World) (h : Rdr w R m) (hm : m ≤ 800000) :
    Calls Tryz.prog 205 #[.pointer (some ⟨R, 0, none⟩)] w (Graphed R m w) := by
  have hRl := h.lt
  have G0 := Lib.hid (GG.start h)
  have HR0 := Lib.hid (h.ext (show Ext w (World.alloc (World.alloc (World.alloc (World.alloc w (.cells #[.slice none 0 0] 25)) (.cells #[.slice none 0 0] 25)) (.cells #[] 3)) (.cells #[.int .i64 6, .int .i64 5, .int .i64 7, .int .i64 8, .int .i64 4, .int .i64 10, .int .i64 2] 3)) from ((((Ext.rfl' w).al _).al _).al _).al _))
  clear h
  go_enter Tryz.func205, Tryz.ntmps205
  go_wp2_with fail
  have RL := (Own.new (World.alloc (World.alloc (World.alloc w (.cells #[.slice none 0 0] 25)) (.cells #[.slice none 0 0] 25)) (.cells #[] 3)) (B := 0) 3 1 #[.int .i64 6, .int .i64 5, .int .i64 7, .int .i64 8, .int .i64 4, .int .i64 10, .int .i64 2] 7 (Nat.zero_le _) (by unfold maxLen; omega) rfl).rd
  simp only [World.size_alloc] at RL
  refine (s_one R m _ 7 [6, 5, 7, 8, 4, 10, 2] _ HR0.out RL (by simp) (by simp) (by intro b hb; simp [blk] at hb; omega) (by omega)).mono ?_
  rintro e w1 ⟨x, rfl, hx, hr, hm1⟩
  obtain ⟨k0, rfl, hk0⟩ : ∃ k : Nat, x = k ∧ 2 ≤ k ∧ k ≤ 10 := ⟨x.toNat, by simp at hx; omega, by simp at hx; omega⟩
  have G1 := Lib.hid (show GG w.heap.size R (m + 1) w 0 0 (some ⟨w.heap.size + 1 + 1, 0, none⟩) 0 w1 from by obtain ⟨a, b, c, d, e, f⟩ := G0.out; exact ⟨a, b, c, d, e, f.pick hm1 hr⟩)
  clear RL hx hr hm1 G0 HR0
  go_wp2_with fail
  go_loopw [4, 6] (fun s4 s6 wr => ∃ (k n4 : Nat) (A4 : Option Addr) (c4 : Nat), s4 = .slice A4 n4 c4 ∧ s6 = .int .i64 k ∧ k ≤ k0 ∧ n4 ≤ k ∧ Hid (GG w.heap.size R (m + 1 + 110 * k) w k n4 A4 c4 wr)) (fun _ s6 _ => k0 - (intOf s6).toNat)
  case atStart => exact ⟨0, 0, _, _, rfl, rfl, by omega, by omega, G1⟩
  case round =>
    obtain ⟨k, n4, A4, c4, rfl, rfl, hk9, hn4, hG⟩ := hrel
    clear G1
    have hsz := hG.out.size
    have hrl := hG.out.rl
    by_cases hk : k < k0
    · obtain ⟨M, hM⟩ : ∃ M, M = m + 1 + 110 * k := ⟨_, rfl⟩
      have hMb : M ≤ m + 1001 := by omega
      have HMe := Lib.hid hM
      rw [← hM] at hG
      clear hM
      have N0 := Lib.hid (GN.start hG.out 93)
      clear hG
      go_upto_region 8 with fail
      go_cut [26] (fun s26 wx => ∃ b : Bool, s26 = .bool b ∧ Hid (GN w.heap.size R (M + 1) w wr.heap.size k n4 A4 c4 0 false wx))
      case first =>
        by_cases h1 : (1 : Int) < (k : Int)
        · go_wp2_with fail
          go_meet
          exact ⟨_, rfl, Lib.hid (N0.out.more (by omega))⟩
        · have z1 : decide ((1 : Int) < (k : Int)) = false := by simpa using h1
          go_wp2_with fail
          refine (s_pick R M 8 _ N0.out.rdr (by omega) (by omega) (by omega)).mono ?_
          rintro e w2 ⟨x, rfl, hx0, hx1, hr, hm2⟩
          have N1 := Lib.hid (N0.out.pick hm2 hr)
          clear hx0 hx1 hr hm2 z1 h1
          go_wp2_with fail
          go_meet
          exact ⟨_, rfl, N1⟩
      case rest =>
        obtain ⟨b, rfl, hN⟩ := hcut
        clear N0
        go_upto_if 26 with fail
        go_cut [] (fun wx => ∃ kd : Int, Hid (GN w.heap.size R (M + 2) w wr.heap.size k n4 A4 c4 kd false wx))
        case first =>
          cases b
          · go_wp2_with fail
            go_meet
            exact ⟨0, Lib.hid (hN.out.more (by omega))⟩
          · go_wp2_with fail
            have RL := (Own.new wc (B := 0) 3 1 #[.int .i64 1, .int .i64 1, .int .i64 2, .int .i64 0, .int .i64 1] 5 (Nat.zero_le _) (by unfold maxLen; omega) rfl).rd
            refine (s_one R (M + 1) _ 5 [1, 1, 2, 0, 1] _ (hN.out.rdr.ext ((Ext.rfl' wc).al _)) RL (by simp) (by simp) (by intro b hb; simp [blk] at hb; have := hN.out.rl; omega) (by omega)).mono ?_
            rintro e w3 ⟨x, rfl, hx, hr, hm3⟩
            have N2 := Lib.hid ((hN.out.ext ((Ext.rfl' wc).al (.cells #[.int .i64 1, .int .i64 1, .int .i64 2, .int .i64 0, .int .i64 1] 3))).pick hm3 hr)
            clear hx hr hm3 RL
            have f0 := N2.out.c0.2 0
            have q3 := N2.out.c0.1
            have bl := N2.out.rl.2.2
            go_wp2_with fail
            go_meet
            exact ⟨x, Lib.hid (N2.out.kind x)⟩
        case rest =>
          obtain ⟨wa, rfl⟩ : ∃ wa : World, wa = wc := ⟨_, rfl⟩
          obtain ⟨kd, hN2⟩ := hcut
          clear hN
          have q0 := hN2.out.c0.1
          have bl := blt q0
          go_upto_if 33 with fail
          clear q0 bl
          go_cut [] (fun wx => Hid (GN w.heap.size R (M + 103) w wr.heap.size k n4 A4 c4 kd true wx))
          case first =>
            by_cases hkd : kd = 0
            · have z3 : (kd != 0) = false := by simp [hkd]
              go_wp2_with fail
              go_meet
              exact Lib.hid (hN2.out.whole.more (by omega))
            · have z3 : (kd != 0) = true := by simp [hkd]
              clear hkd
              obtain ⟨l, hll, hlo⟩ := hN2.out.free
              have Hlo := Lib.hid hlo
              clear hlo
              have hrl2 := hN2.out.rl
              have hlm := Hlo.out.2.2.1
              have hln := Hlo.out.2.1
              unfold maxLen at hlm
              subst hll
              by_cases h3 : 3 < l.length
              · obtain ⟨b4, rfl, hb4⟩ := Hlo.out.at_ (by omega)
                have z4 : (3 : Int) < (l.length : Int) := by omega
                obtain ⟨j3, hj3⟩ : ∃ j, j = l.length - 3 := ⟨_, rfl⟩
                go_wp2_with fail
                refine (s_pick R (M + 2) 2 _ hN2.out.rdr (by omega) (by omega) (by omega)).mono ?_
                rintro e w5 ⟨x, rfl, hx0, hx1, hr, hm5⟩
                have N3 := Lib.hid (hN2.out.pick hm5 hr)
                have Ho5 := Lib.hid (Hlo.out.mod hm5 (fun b hb e => by simp [blk] at hb; omega))
                clear hx0 hx1 hr hm5 hN2
                by_cases hx : x = 0
                · have z5 : (x == 0) = true := by simp [hx]
                  have i1 : IntKind.i64.wrap ((l.length : Int) - 3) = (j3 : Int) := by rw [IntWalk.i64_in _ (by omega)]; omega
                  have i2 : j3 ≤ c4 := by omega
                  have i3 : (j3 : Int) ≤ (c4 : Int) := by omega
                  have i4 : j3 ≤ l.length := by omega
                  have i5 : (j3 : Int) ≤ (l.length : Int) := by omega
                  have i6 : ¬ c4 = j3 := by omega
                  have RT := Lib.hid (Ho5.out.rd.tail j3 i4)
                  obtain ⟨l3, hl3⟩ : ∃ l3, l3 = l.drop j3 := ⟨_, rfl⟩
                  have e9 : l.length - j3 = l3.length := by rw [hl3, List.length_drop]
                  have hl30 : l3.length ≤ 10 := by rw [← e9]; omega
                  rw [← hl3, Nat.zero_add, e9] at RT
                  have E9 := Lib.hid e9
                  clear hx e9 hl3 hj3
                  go_wp2_with fail
                  rw [E9.out]
                  refine (s_goodFormula R (M + 3) _ _ l3 w5 N3.out.rdr RT.out (by omega) (by intro b hb; simp [blk] at hb; omega) (by omega)).mono ?_
                  rintro e w9 ⟨f, Af, cf, rfl, ho, hf1, hf30, hr9, hm9⟩
                  have N9 := Lib.hid (N3.out.form hm9 hr9 ho hf30)
                  have f1 : w9.frozen? ⟨wr.heap.size, 1, none⟩ = false := (N3.out.pick hm9 hr9).c0.2 1
                  have q3 := (N3.out.pick hm9 hr9).c1
                  have bl := (N3.out.pick hm9 hr9).rl.2.2
                  clear ho hf1 hr9 hm9
                  go_wp2_with fail
                  go_meet
                  exact Lib.hid (N9.out.more (by omega))
                · have z5 : (x == 0) = false := by rw [beq_eq_false_iff_ne]; exact hx
                  clear hx
                  go_wp2_with fail
                  refine (s_goodFormula R (M + 3) _ _ l w5 N3.out.rdr Ho5.out.rd (by omega) (by intro b hb; simp [blk] at hb; omega) (by omega)).mono ?_
                  rintro e w9 ⟨f, Af, cf, rfl, ho, hf1, hf30, hr9, hm9⟩
                  have N9 := Lib.hid (N3.out.form hm9 hr9 ho hf30)
                  have f1 : w9.frozen? ⟨wr.heap.size, 1, none⟩ = false := (N3.out.pick hm9 hr9).c0.2 1
                  have q3 := (N3.out.pick hm9 hr9).c1
                  have bl := (N3.out.pick hm9 hr9).rl.2.2
                  clear ho hf1 hr9 hm9
                  go_wp2_with fail
                  go_meet
                  exact Lib.hid (N9.out.more (by omega))
              · have z4 : ¬ (3 : Int) < (l.length : Int) := by omega
                have z4' : decide ((3 : Int) < (l.length : Int)) = false := by simpa using z4
                go_wp2_with fail
                refine (s_goodFormula R (M + 2) A4 c4 l wa hN2.out.rdr Hlo.out.rd (by omega) (by intro b hb; have := Hlo.out.lt hb; omega) (by omega)).mono ?_
                rintro e w9 ⟨f, Af, cf, rfl, ho, hf1, hf30, hr9, hm9⟩
                have N9 := Lib.hid (hN2.out.form hm9 hr9 ho hf30)
                have f1 : w9.frozen? ⟨wr.heap.size, 1, none⟩ = false := (hN2.out.pick hm9 hr9).c0.2 1
                have q3 := (hN2.out.pick hm9 hr9).c1
                have bl := (hN2.out.pick hm9 hr9).rl.2.2
                clear ho hf1 hr9 hm9
                go_wp2_with fail
                go_meet
                exact Lib.hid (N9.out.more (by omega))
          case rest =>
            have hN3 := hcut
            clear hcut hN2
            obtain ⟨g, Ag, cg, hs, f, Af, cf, hgk, hS, hP, _⟩ := hN3.out
            have HS := Lib.hid hS
            have HP := Lib.hid hP
            have hb4 := hS.room
            have q0 := hP.bx.cell (j := 0) rfl
            have q1 := hP.bx.cell (j := 1) rfl
            have bl := blt q0
            have qb := hS.box.cell (j := 0) rfl
            have qf := hS.box.free 0
            have bq := blt qb
            have HOW := Lib.hid hS.own.out
            have hA1 : ∀ b, blk Ag = some b → b ≠ w.heap.size + 1 := fun b hb e => by have := (hS.own.out.lt hb).1; omega
            have HA1 := Lib.hid hA1
            have hsz9 := hS.size
            subst hgk
            clear hS hP hN3 hA1
            have hON := Lib.hid (show Own wc (w.heap.size + 2) 93 2 Ag g.length cg (dcells (nodeIts g) hs) from by have := HOW.out; simpa using this)
            go_upto_region 16 with (at_builtin; refine wpList_app1 (cs := [.int .i64 kd, .slice Af f.length cf]) rfl rfl eiNode rfl hON.out rfl rfl (by intro u hu; simp at hu; rcases hu with rfl | rfl <;> rfl) (by omega) (by omega) (by omega) ?_; intro A7 c7 w7 ho7 hg7 hat7; have hne7 : blk Ag ≠ some (w.heap.size + 1) := (fun e => HA1.out _ e rfl); have hcf7 := grown_cell hg7 qb hne7; have hff7 := grown_free hg7 bq qf hne7; have blf7 := blt hcf7; have GX := Lib.hid (GS.node HS.out HP.out ho7 hg7 hat7); clear q0 q1 bl qb qf bq ho7 hg7 hat7 hne7)
            obtain ⟨hS9, hB9⟩ := GX.out
            have HS9 := Lib.hid hS9
            have HB9 := Lib.hid hB9
            clear hS9 hB9 GX hcf7 hff7 blf7
            generalize (World.setCell w7 ⟨w.heap.size + 1, 0, none⟩ (.slice A7 (g.length + 1) c7)) = w8 at *
            have q0 := HB9.out.cell (j := 0) rfl
            have bl := blt q0
            have hs8 := HS9.out.size
            obtain ⟨l, hll, hlo⟩ := HS9.out.fr
            have Hlo := Lib.hid hlo
            have Hll := Lib.hid hll
            clear hlo hll
            by_cases hk2 : kd = 2
            · have z3 : (kd != 2) = false := by simp [hk2]
              go_wp2_with fail
              go_wp2
              go_roundw
              case rel => exact ⟨g.length + 1, n4, A4, c4, rfl, (by simp), by omega, by omega, Lib.hid ⟨_, _, _, _, (by simp), HS9.out.more (by have := HMe.out; omega)⟩⟩
              case measure => simp [intOf]; omega
            · have z3 : (kd != 2) = true := by simp [hk2]
              go_wp2_with (at_builtin; refine wpList_app1 rfl rfl eiInt rfl Hlo.out rfl rfl (one_int _ _) (by omega) (by omega) (by omega) ?_; intro A9 c9 w9 ho9 hg9 hat9; have GF := Lib.hid (GS.free HS9.out _ ho9 Hll.out hg9 hat9); clear ho9 hg9 hat9 q0 bl)
              go_roundw
              case rel => exact ⟨g.length + 1, n4 + 1, A9, c9, (by simp), (by simp), by omega, by omega, Lib.hid ⟨_, _, _, _, (by simp), GF.out.more (by have := HMe.out; omega)⟩⟩
              case measure => simp [intOf]; omega
    · obtain rfl : k = k0 := by omega
      obtain ⟨g, Ag, cg, hs, hgk, hS⟩ := hG.out
      subst hgk
      have hnf := hS.nf
      have HNF := Lib.hid hnf
      have HS := Lib.hid hS
      have qb := hS.box.cell (j := 0) rfl
      have bq := blt qb
      have f0 := hS.res.free 0
      have qr := hS.res.cell (j := 0) rfl
      have bl := hS.res.lt
      have HRS := Lib.hid hS.res
      clear hS hnf hG
      go_wp2
      have s0 : ∀ u : Value, World.cell? (World.setCell wr ⟨w.heap.size, 0, none⟩ u) ⟨w.heap.size, 0, none⟩ = some u := fun u => (HRS.out.set 0 u).cell (j := 0) rfl
      refine bodyPost_ret (v := .agg #[.slice Ag g.length cg]) (by simp [results, Tryz.results205, go_sem, s0]; try rfl) rfl ?_
      refine ⟨g, Ag, cg, hs, rfl, (OwnD.below HS.out.own (by show w.heap.size < w.heap.size + 2; omega) _).mono (by omega), by omega, by omega, HNF.out, ?_, ?_⟩
      · exact (HS.out.rdr.mod (F := fun b => b = w.heap.size) (Mod.set (F := fun b => b = w.heap.size) (Mod.rfl' (fun b => b = w.heap.size) _) (p := ⟨w.heap.size, 0, none⟩) (.inl rfl) _) (fun b e => by omega)).more (by omega)
      · exact HS.out.md.set (p := ⟨w.heap.size, 0, none⟩) (.inr (Nat.le_refl _)) _
end Go.Proofs.YtmelggoagbhieaaGreat
