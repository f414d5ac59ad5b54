/- The draw of ReadAll's arguments: its contract. Conditions: the code can be read. -/
import Derived.Test.YtmkfjnkdaeoppaaGreatTy
import Derived.Test.YtmkfjnkdaeoppaaGreatDrawY
import Derived.IntWalk
namespace Go.Proofs.YtmkfjnkdaeoppaaGreat
open Go.RowKit

set_option maxRecDepth 100000 in
set_option maxHeartbeats 4000000 in
theorem s_DrawReadAll (A : Option Addr) (c : Nat) (l : List Int) (w : World) (h : Rd w 1 A l.length (u8s l)) (hr : ∀ x ∈ l, 0 ≤ x ∧ x ≤ 255) (hc : l.length ≤ c) (hcm : c ≤ maxLen) :
  Calls Tryz.prog 42 #[.slice A l.length c] w fun e w' => ∃ (g : Sg.Graph) (Ag : Option Addr) (cg : Nat) (v : List Int) (Av : Option Addr) (cv : Nat) (r : List (List Int)) (Ar : Option Addr) (cr : Nat) (q : List Int) (Aq : Option Addr) (cq : Nat) (ns : List Int) (An : Option Addr) (cn : Nat), e = .returned (.tuple #[.agg #[.slice Ag g.length cg], .agg #[.slice Av v.length cv, .slice Ar r.length cr, .slice Aq q.length cq], .slice An ns.length cn]) ∧ 2 ≤ g.length ∧ g.length ≤ 10 ∧ v.length ≤ 11 ∧ r.length ≤ 10 ∧ q.length ≤ 10 ∧ RdN w' Ag g ∧ Rd w' 1 Av v.length (ints v) ∧ RdLC w' Ar r ∧ Rd w' 1 Aq q.length (ints q) ∧ Rd w' 1 An ns.length (ints ns) ∧ ns.length ≤ 5 ∧ Ext w w' := by
 have e0 : Ext w (World.alloc (World.alloc w (.cells #[.slice none 0 0] 25)) (.cells #[.slice none 0 0, .slice none 0 0, .slice none 0 0] 29)) := ((Ext.rfl' w).al _).al _
 have HN := lh (s_newReader A c l _ (h.ext e0) hr hc hcm)
 have B0 := lh ((Bx.new w #[.slice none 0 0] 25).al (.cells #[.slice none 0 0, .slice none 0 0, .slice none 0 0] 29))
 have d0 := Bx.new (World.alloc w (.cells #[.slice none 0 0] 25)) #[.slice none 0 0, .slice none 0 0, .slice none 0 0] 29
 simp only [World.size_alloc] at d0
 have D0 := lh d0
 have E0 := lh e0
 clear h e0 d0
 go_enter Tryz.func42, Tryz.ntmps42
 go_wp2_with fail
 refine HN.out.mono ?_
 rintro e w1 ⟨rfl, hr1, he1⟩
 have B1 := lh (B0.out.ext he1)
 have D1 := lh (D0.out.ext he1)
 have E1 := lh (E0.out.tr he1)
 have R1 := lh hr1
 have hw1 := he1.size
 simp only [World.size_alloc] at hw1 hr1
 have hR1 := hr1.lt
 clear hr1 he1 HN B0 D0 E0
 go_wp2_with fail
 refine (s_lazyOf _ 0 _ (by have := R1.out; simpa using this) (by omega)).mono ?_
 rintro e w2 ⟨g, Ag, cg, v, Av, cv, r, Ar, cr, q, Aq, cq, rfl, hg2, hg10, hvl, hrl, hql, hok, hr2, hm2⟩
 have hw2 := hm2.size
 have eb : Ext w2 (World.alloc (World.alloc w2 (.cells #[.slice Ag g.length cg] 25)) (.cells #[.slice Av v.length cv, .slice Ar r.length cr, .slice Aq q.length cq] 29)) := ((Ext.rfl' w2).al _).al _
 have b3 := Bx.new w2 #[.slice Ag g.length cg] 25
 have d3 := Bx.new (World.alloc w2 (.cells #[.slice Ag g.length cg] 25)) #[.slice Av v.length cv, .slice Ar r.length cr, .slice Aq q.length cq] 29
 simp only [World.size_alloc] at d3
 have Q3 := lh (show DQY w (w.heap.size + 1 + 1) w1.heap.size w2.heap.size Ag cg g Av cv v Ar cr r Aq cq q 1600 (World.alloc (World.alloc w2 (.cells #[.slice Ag g.length cg] 25)) (.cells #[.slice Av v.length cv, .slice Ar r.length cr, .slice Aq q.length cq] 29)) from
  ⟨(B1.out.mod hm2 (by omega)).ext eb, (D1.out.mod hm2 (by omega)).ext eb, b3.al (.cells #[.slice Av v.length cv, .slice Ar r.length cr, .slice Aq q.length cq] 29), d3, by have := hr2.ext eb; simpa using this, (Ext.md E1.out hm2 (fun b e => by omega)).tr eb, fun X hX => hok X (((Mod.of eb).tr' hX).mono (fun b hb e => by omega)), rfl, hR1, hw2⟩)
 clear hok hr2 hm2 R1 B1 D1 E1 b3 d3 eb
 go_upto_region 3 with fail
 have hs23 : w2.heap.size < (World.alloc (World.alloc w2 (.cells #[.slice Ag g.length cg] 25)) (.cells #[.slice Av v.length cv, .slice Ar r.length cr, .slice Aq q.length cq] 29)).heap.size := by simp only [World.size_alloc]; omega
 generalize World.alloc (World.alloc w2 (.cells #[.slice Ag g.length cg] 25)) (.cells #[.slice Av v.length cv, .slice Ar r.length cr, .slice Aq q.length cq] 29) = w3 at *
 generalize hPP : w2.heap.size = P at *
 clear hPP
 have Q4 := lh (Q3.out.ext ((Ext.rfl' w3).al (.cells #[] 3)))
 have z3 := Q3.out.size
 have o4 := lh (show Own (w3.alloc (.cells #[] 3)) (P + 2) 3 1 (some ⟨w3.heap.size, 0, none⟩) ([] : List Int).length 0 (ints []) by simpa [ints] using Own.new w3 (B := P + 2) 3 1 #[] 0 (by omega) (by unfold maxLen; omega) rfl)
 clear Q3
 go_upto_region 4 with fail
 have hs34 : w3.heap.size < (w3.alloc (.cells #[] 3)).heap.size := by simp
 generalize w3.alloc (.cells #[] 3) = w4 at *
 go_wp2_with fail
 refine (s_pick _ 1600 5 _ Q4.out.rd (by omega) (by omega) (by omega)).mono ?_
 rintro e w5 ⟨x, rfl, hx0, hx1, hr5, hm5⟩
 have Q5 := lh (Q4.out.draw hm5 hr5)
 have O5 := lh (o4.out.mod hm5 (fun b hb e => by have := (o4.out.lt hb).1; have := Q4.out.hT; have := Q4.out.hP; omega))
 obtain ⟨n0, rfl⟩ := Int.eq_ofNat_of_zero_le hx0
 have hn0 : n0 ≤ 4 := by omega
 clear hx0 hx1 hr5 hm5 Q4 o4
 go_wp2_with fail
 go_loopw [8, 9] (fun s8 s9 wr => ∃ (n : Nat) (l : List Int) (A2 : Option Addr) (c2 tt : Nat), s8 = .slice A2 l.length c2 ∧ s9 = .int .i64 n ∧ l.length + n ≤ 4 ∧ tt + n ≤ 1610 ∧ Hid (DQY w (w.heap.size + 1 + 1) w1.heap.size P Ag cg g Av cv v Ar cr r Aq cq q tt wr) ∧ Hid (Own wr (P + 2) 3 1 A2 l.length c2 (ints l))) (fun _ s9 _ => (intOf s9).toNat)
 case atStart => exact ⟨n0, [], _, _, _, rfl, rfl, by simpa using hn0, by omega, Q5, O5⟩
 case round =>
  clear Q5 O5
  obtain ⟨n, l, A2, c2, tt, rfl, rfl, hln, htt, Q, O⟩ := hrel
  have C := Q.out.cells
  have zz := Q.out.size
  have bg := blt C.1
  have cg0 := C.1
  have hT9 := Q.out.hT
  have hP9 := Q.out.hP
  have rlQ := Q.out.rd.lt
  by_cases hn : 0 < n
  ·have hgp : ((n : Int) > 0) := by omega
   have iw : IntKind.i64.wrap ((n : Int) - 1) = (n : Int) - 1 := IntWalk.i64_in _ (by omega)
   go_wp2_with fail
   refine (s_pick _ tt (g.length : Int) _ Q.out.rd (by omega) (by omega) (by omega)).mono ?_
   rintro e w6 ⟨x, rfl, hx0, hx1, hr6, hm6⟩
   have Q6 := lh (Q.out.draw hm6 hr6)
   have O6 := lh (O.out.mod hm6 (fun b hb e => by have := (O.out.lt hb).1; omega))
   have C6 := Q6.out.cells
   clear hx0 hx1 hr6 hm6 Q O C bg cg0 zz rlQ
   have HB := lh (fun b (hb : blk A2 = some b) => (O6.out.lt hb).1)
   have hl4 : l.length ≤ 4 := by omega
   have hbs : P + 2 ≤ w6.heap.size := by have := Q6.out.size; omega
   go_wp2_with (at_builtin; refine wpList_app1 rfl rfl eiInt rfl O6.out rfl rfl (one_int _ _) (by omega) (by omega) hbs ?_; intro A8 c8 w8 ho8 hg8 hat8; have O8 := lh ho8; have G8 := lh hg8; clear ho8 hg8 hat8)
   have HL8 := lh (show (l ++ [x]).length = l.length + 1 by simp)
   have Q8 := lh (Q6.out.grow G8.out (fun b hb => HB.out b hb))
   have O9 := lh (show Own w8 (P + 2) 3 1 A8 (l ++ [x]).length c8 (ints (l ++ [x])) by rw [HL8.out]; simpa using O8.out)
   clear O8 G8 HB
   go_roundw
   case rel => exact ⟨n - 1, l ++ [x], A8, c8, tt + 1, by rw [HL8.out], by go_num, by rw [HL8.out]; omega, by omega, Q8, O9⟩
   case measure => simp [intOf]; omega
  ·obtain rfl : n = 0 := by omega
   go_wp2_with fail
   refine (s_pick _ tt 20 _ Q.out.rd (by omega) (by omega) (by omega)).mono ?_
   rintro e w6 ⟨x, rfl, hx0, hx1, hr6, hm6⟩
   have Q6 := lh (Q.out.draw hm6 hr6)
   have O6 := lh (O.out.mod hm6 (fun b hb e => by have := (O.out.lt hb).1; omega))
   have C6 := Q6.out.cells
   have z6 := Q6.out.size
   have rl6 := Q6.out.rd.lt
   clear hx0 hx1 hr6 hm6 Q O C bg cg0 zz rlQ
   by_cases h0 : x = 0
   ·have z1 : (x == 0) = true := by simp [h0]
    clear h0
    go_wp2_with fail
    have RLx := (Own.new w6 (B := 0) 3 1 #[.int .i64 (-1), .int .i64 10] 2 (Nat.zero_le _) (by unfold maxLen; omega) rfl).rd
    have e9 := (Ext.rfl' w6).al (.cells #[.int .i64 (-1), .int .i64 10] 3)
    refine (s_one _ (tt + 1) _ 2 [-1, 10] _ (Q6.out.rd.ext e9) RLx (by simp) (by simp) (by intro y hy; simp [blk] at hy; omega) (by omega)).mono ?_
    rintro e w7 ⟨y, rfl, hy, hr7, hm7⟩
    have Q7 := lh ((Q6.out.ext e9).draw hm7 hr7)
    have O7 := lh ((O6.out.ext e9).mod hm7 (fun b hb e => by have := (O6.out.lt hb).1; omega))
    clear RLx e9 hy hr7 hm7 Q6 O6 C6 z6 rl6
    have HB := lh (fun b (hb : blk A2 = some b) => (O7.out.lt hb).1)
    have hl4 : l.length ≤ 4 := by omega
    have hbs : P + 2 ≤ w7.heap.size := by have := Q7.out.size; omega
    go_wp2_with (at_builtin; refine wpList_app1 rfl rfl eiInt rfl O7.out rfl rfl (one_int _ _) (by omega) (by omega) hbs ?_; intro A8 c8 w8 ho8 hg8 hat8; have O8 := lh ho8; have G8 := lh hg8; clear ho8 hg8 hat8)
    have HL8 := lh (show (l ++ [y]).length = l.length + 1 by simp)
    have Q8 := lh (Q7.out.grow G8.out (fun b hb => HB.out b hb))
    have O9 := lh (show Own w8 (P + 2) 3 1 A8 (l ++ [y]).length c8 (ints (l ++ [y])) by rw [HL8.out]; simpa using O8.out)
    clear O8 G8 HB
    have C3 := Q8.out.cells
    have bg3 := blt C3.1
    have bp3 := blt C3.2.1
    have f0 := Q8.out.lb.free 0
    have x0 := Q8.out.lb.cell (j := 0) rfl
    have h0 := Q8.out.lc.free 0
    have h1 := Q8.out.lc.free 1
    have h2 := Q8.out.lc.free 2
    have y0 := Q8.out.lc.cell (j := 0) rfl
    have y1 := Q8.out.lc.cell (j := 1) rfl
    have y2 := Q8.out.lc.cell (j := 2) rfl
    have bl := Q8.out.lc.lt
    have hT9 := Q8.out.hT
    have hP9 := Q8.out.hP
    go_wp2_with fail
    refine wp_region_held_drew (S := (fun W => W.cell? ⟨P, 0, none⟩ = some (.slice Ag g.length cg) ∧ W.cell? ⟨P + 1, 0, none⟩ = some (.slice Av v.length cv) ∧ W.cell? ⟨P + 1, 1, none⟩ = some (.slice Ar r.length cr) ∧ W.cell? ⟨P + 1, 2, none⟩ = some (.slice Aq q.length cq))) (by kernel_rfl) ?_ (fun hHeld => ?_)
    ·exact ⟨((Ext.rfl' _).dr).cellE (C3.1), ((Ext.rfl' _).dr).cellE (C3.2.1), ((Ext.rfl' _).dr).cellE (C3.2.2.1), ((Ext.rfl' _).dr).cellE (C3.2.2.2)⟩
    refine ty 0 ?_
    refine ty 1 ?_
    refine ty 2 ?_
    refine rd1 3 rfl fun K hK => ?_
    go_simp
    refine hK.out _ _ (by exact ⟨((Ext.rfl' _).dr).cellE (((co).trans C3.1)), ((Ext.rfl' _).dr).cellE (((co).trans C3.2.1)), ((Ext.rfl' _).dr).cellE (((co).trans C3.2.2.1)), ((Ext.rfl' _).dr).cellE (((co).trans C3.2.2.2))⟩) fun hh2 => ?_; clear hK K hHeld; have hHeld := hh2; clear hh2
    try simp only [Act.put]
    refine rd1 4 rfl fun K hK => ?_
    go_simp
    refine hK.out _ _ (by exact ⟨((Ext.rfl' _).dr).cellE (((co).trans ((co).trans ((co).trans ((co).trans C3.1))))), ((Ext.rfl' _).dr).cellE (((co).trans ((co).trans ((co).trans ((co).trans C3.2.1))))), ((Ext.rfl' _).dr).cellE (((co).trans ((co).trans ((co).trans ((co).trans C3.2.2.1))))), ((Ext.rfl' _).dr).cellE (((co).trans ((co).trans ((co).trans ((co).trans C3.2.2.2)))))⟩) fun hh2 => ?_; clear hK K hHeld; have hHeld := hh2; clear hh2
    try simp only [Act.put]
    refine ty 5 ?_
    refine dn ?_
    go_wp2
    have bx0 : Bx (World.setCell (World.setCell (World.setCell (World.setCell w8 ⟨w.heap.size, 0, none⟩ (.slice Ag g.length cg)) ⟨w.heap.size + 1, 0, none⟩ (.slice Av v.length cv)) ⟨w.heap.size + 1, 1, none⟩ (.slice Ar r.length cr)) ⟨w.heap.size + 1, 2, none⟩ (.slice Aq q.length cq)) w.heap.size [.slice Ag g.length cg] := (((Q8.out.lb.set 0 (.slice Ag g.length cg)).oth (show w.heap.size + 1 ≠ w.heap.size by omega) (.slice Av v.length cv)).oth (show w.heap.size + 1 ≠ w.heap.size by omega) (.slice Ar r.length cr)).oth (show w.heap.size + 1 ≠ w.heap.size by omega) (.slice Aq q.length cq)
    have bx1 : Bx (World.setCell (World.setCell (World.setCell (World.setCell w8 ⟨w.heap.size, 0, none⟩ (.slice Ag g.length cg)) ⟨w.heap.size + 1, 0, none⟩ (.slice Av v.length cv)) ⟨w.heap.size + 1, 1, none⟩ (.slice Ar r.length cr)) ⟨w.heap.size + 1, 2, none⟩ (.slice Aq q.length cq)) (w.heap.size + 1) [.slice Av v.length cv, .slice Ar r.length cr, .slice Aq q.length cq] := Bx.set3z (Q8.out.lc.oth (show w.heap.size ≠ w.heap.size + 1 by omega) (.slice Ag g.length cg)) (.slice Av v.length cv) (.slice Ar r.length cr) (.slice Aq q.length cq)
    have s0 := bx0.cell (j := 0) rfl
    have s1 := bx1.cell (j := 0) rfl
    have s2 := bx1.cell (j := 1) rfl
    have s3 := bx1.cell (j := 2) rfl
    have hS : Mod (fun b => b = w.heap.size ∨ b = w.heap.size + 1) w8 (World.drew (World.setCell (World.setCell (World.setCell (World.setCell w8 ⟨w.heap.size, 0, none⟩ (.slice Ag g.length cg)) ⟨w.heap.size + 1, 0, none⟩ (.slice Av v.length cv)) ⟨w.heap.size + 1, 1, none⟩ (.slice Ar r.length cr)) ⟨w.heap.size + 1, 2, none⟩ (.slice Aq q.length cq))) := Mod.dr (Mod.set (F := fun b => b = w.heap.size ∨ b = w.heap.size + 1) (Mod.set (F := fun b => b = w.heap.size ∨ b = w.heap.size + 1) (Mod.set (F := fun b => b = w.heap.size ∨ b = w.heap.size + 1) (Mod.set (F := fun b => b = w.heap.size ∨ b = w.heap.size + 1) (Mod.rfl' _ _) (p := ⟨w.heap.size, 0, none⟩) (.inl (.inl rfl)) _) (p := ⟨w.heap.size + 1, 0, none⟩) (.inl (.inr rfl)) _) (p := ⟨w.heap.size + 1, 1, none⟩) (.inl (.inr rfl)) _) (p := ⟨w.heap.size + 1, 2, none⟩) (.inl (.inr rfl)) _)
    refine bodyPost_ret (v := .tuple #[.agg #[.slice Ag g.length cg], .agg #[.slice Av v.length cv, .slice Ar r.length cr, .slice Aq q.length cq], .slice A8 (l ++ [y]).length c8]) (by simp [results, Tryz.results42, go_sem, s0, s1, s2, s3]; try rfl) rfl ?_
    obtain ⟨z1, z2, z3, z4⟩ := Q8.out.ok _ (hS.mono (fun b _ e => by omega))
    exact ⟨g, Ag, cg, v, Av, cv, r, Ar, cr, q, Aq, cq, (l ++ [y]), A8, c8, rfl, hg2, hg10, hvl, hrl, hql, z1, z2, z3, z4, (O9.out.mod hS (fun b hb e => by have := (O9.out.lt hb).1; omega)).rd, by rw [HL8.out]; omega, Ext.md Q8.out.ex hS (fun b e => by omega)⟩
   ·have z1 : (x == 0) = false := by rw [beq_eq_false_iff_ne]; exact h0
    clear h0
    have C3 := Q6.out.cells
    have bg3 := blt C3.1
    have bp3 := blt C3.2.1
    have f0 := Q6.out.lb.free 0
    have x0 := Q6.out.lb.cell (j := 0) rfl
    have h0 := Q6.out.lc.free 0
    have h1 := Q6.out.lc.free 1
    have h2 := Q6.out.lc.free 2
    have y0 := Q6.out.lc.cell (j := 0) rfl
    have y1 := Q6.out.lc.cell (j := 1) rfl
    have y2 := Q6.out.lc.cell (j := 2) rfl
    have bl := Q6.out.lc.lt
    have hT9 := Q6.out.hT
    have hP9 := Q6.out.hP
    go_wp2_with fail
    refine wp_region_held_drew (S := (fun W => W.cell? ⟨P, 0, none⟩ = some (.slice Ag g.length cg) ∧ W.cell? ⟨P + 1, 0, none⟩ = some (.slice Av v.length cv) ∧ W.cell? ⟨P + 1, 1, none⟩ = some (.slice Ar r.length cr) ∧ W.cell? ⟨P + 1, 2, none⟩ = some (.slice Aq q.length cq))) (by kernel_rfl) ?_ (fun hHeld => ?_)
    ·exact ⟨((Ext.rfl' _).dr).cellE (C3.1), ((Ext.rfl' _).dr).cellE (C3.2.1), ((Ext.rfl' _).dr).cellE (C3.2.2.1), ((Ext.rfl' _).dr).cellE (C3.2.2.2)⟩
    refine ty 0 ?_
    refine ty 1 ?_
    refine ty 2 ?_
    refine rd1 3 rfl fun K hK => ?_
    go_simp
    refine hK.out _ _ (by exact ⟨((Ext.rfl' _).dr).cellE (((co).trans C3.1)), ((Ext.rfl' _).dr).cellE (((co).trans C3.2.1)), ((Ext.rfl' _).dr).cellE (((co).trans C3.2.2.1)), ((Ext.rfl' _).dr).cellE (((co).trans C3.2.2.2))⟩) fun hh2 => ?_; clear hK K hHeld; have hHeld := hh2; clear hh2
    try simp only [Act.put]
    refine rd1 4 rfl fun K hK => ?_
    go_simp
    refine hK.out _ _ (by exact ⟨((Ext.rfl' _).dr).cellE (((co).trans ((co).trans ((co).trans ((co).trans C3.1))))), ((Ext.rfl' _).dr).cellE (((co).trans ((co).trans ((co).trans ((co).trans C3.2.1))))), ((Ext.rfl' _).dr).cellE (((co).trans ((co).trans ((co).trans ((co).trans C3.2.2.1))))), ((Ext.rfl' _).dr).cellE (((co).trans ((co).trans ((co).trans ((co).trans C3.2.2.2)))))⟩) fun hh2 => ?_; clear hK K hHeld; have hHeld := hh2; clear hh2
    try simp only [Act.put]
    refine ty 5 ?_
    refine dn ?_
    go_wp2
    have bx0 : Bx (World.setCell (World.setCell (World.setCell (World.setCell w6 ⟨w.heap.size, 0, none⟩ (.slice Ag g.length cg)) ⟨w.heap.size + 1, 0, none⟩ (.slice Av v.length cv)) ⟨w.heap.size + 1, 1, none⟩ (.slice Ar r.length cr)) ⟨w.heap.size + 1, 2, none⟩ (.slice Aq q.length cq)) w.heap.size [.slice Ag g.length cg] := (((Q6.out.lb.set 0 (.slice Ag g.length cg)).oth (show w.heap.size + 1 ≠ w.heap.size by omega) (.slice Av v.length cv)).oth (show w.heap.size + 1 ≠ w.heap.size by omega) (.slice Ar r.length cr)).oth (show w.heap.size + 1 ≠ w.heap.size by omega) (.slice Aq q.length cq)
    have bx1 : Bx (World.setCell (World.setCell (World.setCell (World.setCell w6 ⟨w.heap.size, 0, none⟩ (.slice Ag g.length cg)) ⟨w.heap.size + 1, 0, none⟩ (.slice Av v.length cv)) ⟨w.heap.size + 1, 1, none⟩ (.slice Ar r.length cr)) ⟨w.heap.size + 1, 2, none⟩ (.slice Aq q.length cq)) (w.heap.size + 1) [.slice Av v.length cv, .slice Ar r.length cr, .slice Aq q.length cq] := Bx.set3z (Q6.out.lc.oth (show w.heap.size ≠ w.heap.size + 1 by omega) (.slice Ag g.length cg)) (.slice Av v.length cv) (.slice Ar r.length cr) (.slice Aq q.length cq)
    have s0 := bx0.cell (j := 0) rfl
    have s1 := bx1.cell (j := 0) rfl
    have s2 := bx1.cell (j := 1) rfl
    have s3 := bx1.cell (j := 2) rfl
    have hS : Mod (fun b => b = w.heap.size ∨ b = w.heap.size + 1) w6 (World.drew (World.setCell (World.setCell (World.setCell (World.setCell w6 ⟨w.heap.size, 0, none⟩ (.slice Ag g.length cg)) ⟨w.heap.size + 1, 0, none⟩ (.slice Av v.length cv)) ⟨w.heap.size + 1, 1, none⟩ (.slice Ar r.length cr)) ⟨w.heap.size + 1, 2, none⟩ (.slice Aq q.length cq))) := Mod.dr (Mod.set (F := fun b => b = w.heap.size ∨ b = w.heap.size + 1) (Mod.set (F := fun b => b = w.heap.size ∨ b = w.heap.size + 1) (Mod.set (F := fun b => b = w.heap.size ∨ b = w.heap.size + 1) (Mod.set (F := fun b => b = w.heap.size ∨ b = w.heap.size + 1) (Mod.rfl' _ _) (p := ⟨w.heap.size, 0, none⟩) (.inl (.inl rfl)) _) (p := ⟨w.heap.size + 1, 0, none⟩) (.inl (.inr rfl)) _) (p := ⟨w.heap.size + 1, 1, none⟩) (.inl (.inr rfl)) _) (p := ⟨w.heap.size + 1, 2, none⟩) (.inl (.inr rfl)) _)
    refine bodyPost_ret (v := .tuple #[.agg #[.slice Ag g.length cg], .agg #[.slice Av v.length cv, .slice Ar r.length cr, .slice Aq q.length cq], .slice A2 l.length c2]) (by simp [results, Tryz.results42, go_sem, s0, s1, s2, s3]; try rfl) rfl ?_
    obtain ⟨z1, z2, z3, z4⟩ := Q6.out.ok _ (hS.mono (fun b _ e => by omega))
    exact ⟨g, Ag, cg, v, Av, cv, r, Ar, cr, q, Aq, cq, l, A2, c2, rfl, hg2, hg10, hvl, hrl, hql, z1, z2, z3, z4, (O6.out.mod hS (fun b hb e => by have := (O6.out.lt hb).1; omega)).rd, by omega, Ext.md Q6.out.ex hS (fun b e => by omega)⟩
end Go.Proofs.YtmkfjnkdaeoppaaGreat
