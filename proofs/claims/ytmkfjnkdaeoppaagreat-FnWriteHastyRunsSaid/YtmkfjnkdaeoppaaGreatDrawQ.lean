/- The draw of WriteHasty's arguments: its contract. Conditions: the code can be read. -/
import Derived.Test.YtmkfjnkdaeoppaaGreatTy
import Derived.Test.YtmkfjnkdaeoppaaGreatDrawJ
import Derived.IntWalk
namespace Go.Proofs.YtmkfjnkdaeoppaaGreat
open Go.RowKit

structure DQE (w : World) (R T P : Nat) (A : Option Addr) (c : Nat) (g : Sg.Graph) (Av : Option Addr) (cv : Nat) (v : List Int) (Ar : Option Addr) (cr : Nat) (r : List (List Int)) (t : Nat) (W : World) : Prop where
 lb : Bx W w.heap.size [.slice none 0 0]
 lc : Bx W (w.heap.size + 1) [.slice none 0 0, .slice none 0 0]
 gb : Bx W P [.slice A g.length c]
 pb : Bx W (P + 1) [.slice Av v.length cv, .slice Ar r.length cr]
 rd : Rdr W R t
 ex : Ext w W
 ok : ∀ X, Mod (fun b => b ≤ R ∨ b < T ∨ P ≤ b) W X → RdN X A g ∧ Rd X 1 Av v.length (ints v) ∧ RdL X Ar r
 hR : R = w.heap.size + 1 + 1
 hT : R < T
 hP : T ≤ P
section
variable {w W W' : World} {R T P c cv cr t : Nat} {A Av Ar : Option Addr} {g : Sg.Graph} {v : List Int} {r : List (List Int)}
theorem DQE.cells (h : DQE w R T P A c g Av cv v Ar cr r t W) : W.cell? ⟨P, 0, none⟩ = some (.slice A g.length c) ∧ W.cell? ⟨P + 1, 0, none⟩ = some (.slice Av v.length cv) ∧ W.cell? ⟨P + 1, 1, none⟩ = some (.slice Ar r.length cr) :=
 ⟨h.gb.cell (j := 0) rfl, h.pb.cell (j := 0) rfl, h.pb.cell (j := 1) rfl⟩
theorem DQE.size (h : DQE w R T P A c g Av cv v Ar cr r t W) : P + 1 < W.heap.size := h.pb.lt
theorem DQE.ext (h : DQE w R T P A c g Av cv v Ar cr r t W) (e : Ext W W') : DQE w R T P A c g Av cv v Ar cr r t W' :=
 ⟨h.lb.ext e, h.lc.ext e, h.gb.ext e, h.pb.ext e, h.rd.ext e, h.ex.tr e, fun X hX => h.ok X ((Mod.of e).tr' hX), h.hR, h.hT, h.hP⟩
theorem DQE.draw (h : DQE w R T P A c g Av cv v Ar cr r t W) {t' : Nat} (k : Mod (fun b => b = R) W W') (hr : Rdr W' R t') : DQE w R T P A c g Av cv v Ar cr r t' W' := by
 have h1 := h.hR; have h2 := h.hT; have h3 := h.hP
 exact ⟨h.lb.mod k (by omega), h.lc.mod k (by omega), h.gb.mod k (by omega), h.pb.mod k (by omega), hr, Ext.md h.ex k (fun b e => by omega), fun X hX => h.ok X ((k.mono (fun b _ e => by omega)).tr' hX), h1, h2, h3⟩
end

set_option maxRecDepth 100000 in
set_option maxHeartbeats 4000000 in
theorem s_DrawWriteHasty (A : Option Addr) (c : Nat) (l : List Int) (w : World) (h : Rd w 1 A l.length (u8s l)) (hr : ∀ x ∈ l, 0 ≤ x ∧ x ≤ 255) (hc : l.length ≤ c) (hcm : c ≤ maxLen) :
  Calls Tryz.prog 53 #[.slice A l.length c] w fun e w' => ∃ (g : Sg.Graph) (Ag : Option Addr) (cg : Nat) (v : List Int) (Av : Option Addr) (cv : Nat) (r : List (List Int)) (Ar : Option Addr) (cr : Nat) (n m : Int), e = .returned (.tuple #[.agg #[.slice Ag g.length cg], .agg #[.slice Av v.length cv, .slice Ar r.length cr], .int .i64 n, .int .i64 m]) ∧
   2 ≤ g.length ∧ g.length ≤ 10 ∧ v.length ≤ 11 ∧ r.length ≤ 10 ∧ RdN w' Ag g ∧ Rd w' 1 Av v.length (ints v) ∧ RdL w' Ar r ∧ Ext w w' := by
 have e0 : Ext w (World.alloc (World.alloc w (.cells #[.slice none 0 0] 25)) (.cells #[.slice none 0 0, .slice none 0 0] 63)) := ((Ext.rfl' w).al _).al _
 have HN := lh (s_newReader A c l _ (h.ext e0) hr hc hcm)
 have B0 := lh ((Bx.new w #[.slice none 0 0] 25).al (.cells #[.slice none 0 0, .slice none 0 0] 63))
 have d0 := Bx.new (World.alloc w (.cells #[.slice none 0 0] 25)) #[.slice none 0 0, .slice none 0 0] 63
 simp only [World.size_alloc] at d0
 have D0 := lh d0
 have E0 := lh e0
 clear h e0 d0
 go_enter Tryz.func53, Tryz.ntmps53
 go_wp2_with fail
 refine HN.out.mono ?_
 rintro e w1 ⟨rfl, hr1, he1⟩
 have B1 := lh (B0.out.ext he1)
 have D1 := lh (D0.out.ext he1)
 have E1 := lh (E0.out.tr he1)
 have R1 := lh hr1
 have hw1 := he1.size
 simp only [World.size_alloc] at hw1 hr1
 have hR1 := hr1.lt
 clear hr1 he1 HN B0 D0 E0
 go_wp2_with fail
 refine (s_eagerOf _ 0 _ (by have := R1.out; simpa using this) (by omega)).mono ?_
 rintro e w2 ⟨g, Ag, cg, v, Av, cv, r, Ar, cr, rfl, hg2, hg10, hvl, hrl, hok, hr2, hm2⟩
 have hw2 := hm2.size
 have eb : Ext w2 (World.alloc (World.alloc w2 (.cells #[.slice Ag g.length cg] 25)) (.cells #[.slice Av v.length cv, .slice Ar r.length cr] 63)) := ((Ext.rfl' w2).al _).al _
 have b3 := Bx.new w2 #[.slice Ag g.length cg] 25
 have d3 := Bx.new (World.alloc w2 (.cells #[.slice Ag g.length cg] 25)) #[.slice Av v.length cv, .slice Ar r.length cr] 63
 simp only [World.size_alloc] at d3
 have Q3 := lh (show DQE w (w.heap.size + 1 + 1) w1.heap.size w2.heap.size Ag cg g Av cv v Ar cr r 1600 (World.alloc (World.alloc w2 (.cells #[.slice Ag g.length cg] 25)) (.cells #[.slice Av v.length cv, .slice Ar r.length cr] 63)) from
  ⟨(B1.out.mod hm2 (by omega)).ext eb, (D1.out.mod hm2 (by omega)).ext eb, b3.al (.cells #[.slice Av v.length cv, .slice Ar r.length cr] 63), d3, by have := hr2.ext eb; simpa using this, (Ext.md E1.out hm2 (fun b e => by omega)).tr eb, fun X hX => hok X (((Mod.of eb).tr' hX).mono (fun b hb e => by omega)), rfl, hR1, hw2⟩)
 clear hok hr2 hm2 R1 B1 D1 E1 b3 d3 eb
 go_upto_region 3 with fail
 have hs23 : w2.heap.size < (World.alloc (World.alloc w2 (.cells #[.slice Ag g.length cg] 25)) (.cells #[.slice Av v.length cv, .slice Ar r.length cr] 63)).heap.size := by simp only [World.size_alloc]; omega
 generalize World.alloc (World.alloc w2 (.cells #[.slice Ag g.length cg] 25)) (.cells #[.slice Av v.length cv, .slice Ar r.length cr] 63) = w3 at *
 generalize hPP : w2.heap.size = P at *
 clear hPP
 have QD := lh (Q3.out.ext ((Ext.rfl' w3).dr))
 have CQD := QD.out.cells
 have C3 := Q3.out.cells
 have bg3 := blt C3.1
 have bp3 := blt C3.2.1
 go_wp2_with fail
 refine wp_region_held_drew (S := (fun W => W.cell? ⟨P, 0, none⟩ = some (.slice Ag g.length cg) ∧ W.cell? ⟨P + 1, 0, none⟩ = some (.slice Av v.length cv) ∧ W.cell? ⟨P + 1, 1, none⟩ = some (.slice Ar r.length cr))) (by kernel_rfl) ?_ (fun hHeld => ?_)
 ·exact CQD
 refine ty 0 ?_
 refine ty 1 ?_
 refine ty 2 ?_
 refine ty 3 ?_
 refine ty 4 ?_
 refine ty 5 ?_
 refine ty 6 ?_
 refine ty 10 ?_
 refine ty 11 ?_
 refine rd1 7 rfl fun K hK => ?_
 go_simp
 refine (s_pick _ (1600) (g.length : Int) _ QD.out.rd (by omega) (by omega) (by omega)).mono ?_
 rintro e w5 ⟨x, rfl, hx0, hx1, hr_w5, hm_w5⟩
 have Q5 := lh (QD.out.draw hm_w5 hr_w5)
 have CQ5 := Q5.out.cells
 have ZQ5 := Q5.out.size
 have rlQ5 := Q5.out.rd.lt
 clear hr_w5 hm_w5 hx0 hx1
 have QA := lh (Q5.out.ext ((Ext.rfl' _).al (.cells #[.int .i64 (0), .int .i64 (1), .int .i64 (x), .int .i64 (0), .int .i64 (-1)] 3)))
 have CQA := QA.out.cells
 have RLQA := lh (Own.new w5 (B := 0) 3 1 #[.int .i64 (0), .int .i64 (1), .int .i64 (x), .int .i64 (0), .int .i64 (-1)] 5 (Nat.zero_le _) (by unfold maxLen; omega) rfl).rd
 try go_wp2_with fail
 refine hK.out _ _ (by exact CQ5) fun hh2 => ?_; clear hK K hHeld; have hHeld := hh2; clear hh2
 try simp only [Act.put, pu]
 refine rd1 8 rfl fun K hK => ?_
 go_simp
 refine hK.out _ _ (by exact CQA) fun hh2 => ?_; clear hK K hHeld; have hHeld := hh2; clear hh2
 try simp only [Act.put, pu]
 refine rd1 9 rfl fun K hK => ?_
 go_simp
 refine (s_one _ (1600 + 1) _ 5 [0, 1, x, 0, -1] _ QA.out.rd RLQA.out (by simp) (by simp) (by intro y hy; simp [blk] at hy; omega) (by omega)).mono ?_
 rintro e w6 ⟨n, rfl, hn, hr_w6, hm_w6⟩
 have Q6 := lh (QA.out.draw hm_w6 hr_w6)
 have CQ6 := Q6.out.cells
 have ZQ6 := Q6.out.size
 have rlQ6 := Q6.out.rd.lt
 clear hr_w6 hm_w6 hn RLQA
 try go_wp2_with fail
 refine hK.out _ _ (by exact CQ6) fun hh2 => ?_; clear hK K hHeld; have hHeld := hh2; clear hh2
 try simp only [Act.put, pu]
 refine rd1 12 rfl fun K hK => ?_
 go_simp
 refine (s_pick _ (1600 + 1 + 1) 1000 _ Q6.out.rd (by omega) (by omega) (by omega)).mono ?_
 rintro e w7 ⟨z, rfl, hz0, hz1, hr_w7, hm_w7⟩
 have Q7 := lh (Q6.out.draw hm_w7 hr_w7)
 have CQ7 := Q7.out.cells
 have ZQ7 := Q7.out.size
 have rlQ7 := Q7.out.rd.lt
 clear hr_w7 hm_w7 hz0 hz1
 have QB := lh (Q7.out.ext ((Ext.rfl' _).al (.cells #[.int .i64 (3), .int .i64 (0), .int .i64 (z), .int .i64 (1), .int .i64 (1000)] 3)))
 have CQB := QB.out.cells
 have RLQB := lh (Own.new w7 (B := 0) 3 1 #[.int .i64 (3), .int .i64 (0), .int .i64 (z), .int .i64 (1), .int .i64 (1000)] 5 (Nat.zero_le _) (by unfold maxLen; omega) rfl).rd
 try go_wp2_with fail
 refine hK.out _ _ (by exact CQ7) fun hh2 => ?_; clear hK K hHeld; have hHeld := hh2; clear hh2
 try simp only [Act.put, pu]
 refine rd1 13 rfl fun K hK => ?_
 go_simp
 refine hK.out _ _ (by exact CQB) fun hh2 => ?_; clear hK K hHeld; have hHeld := hh2; clear hh2
 try simp only [Act.put, pu]
 refine rd1 14 rfl fun K hK => ?_
 go_simp
 refine (s_one _ (1600 + 1 + 1 + 1) _ 5 [3, 0, z, 1, 1000] _ QB.out.rd RLQB.out (by simp) (by simp) (by intro y hy; simp [blk] at hy; omega) (by omega)).mono ?_
 rintro e w8 ⟨m, rfl, hm, hr_w8, hm_w8⟩
 have Q8 := lh (QB.out.draw hm_w8 hr_w8)
 have CQ8 := Q8.out.cells
 have ZQ8 := Q8.out.size
 have rlQ8 := Q8.out.rd.lt
 clear hr_w8 hm_w8 hm RLQB
 have f0 := Q8.out.lb.free 0
 have x0 := Q8.out.lb.cell (j := 0) rfl
 have h0 := Q8.out.lc.free 0
 have h1 := Q8.out.lc.free 1
 have y0 := Q8.out.lc.cell (j := 0) rfl
 have y1 := Q8.out.lc.cell (j := 1) rfl
 have bl := Q8.out.lc.lt
 have hT9 := Q8.out.hT
 have hP9 := Q8.out.hP
 try go_wp2_with fail
 refine hK.out _ _ (by exact CQ8) fun hh2 => ?_; clear hK K hHeld; have hHeld := hh2; clear hh2
 try simp only [Act.put, pu]
 refine rd1 15 rfl fun K hK => ?_
 go_simp
 refine hK.out _ _ (by exact ⟨((co).trans CQ8.1), ((co).trans CQ8.2.1), ((co).trans CQ8.2.2)⟩) fun hh2 => ?_; clear hK K hHeld; have hHeld := hh2; clear hh2
 try simp only [Act.put]
 refine rd1 16 rfl fun K hK => ?_
 go_simp
 refine hK.out _ _ (by exact ⟨((co).trans ((co).trans ((co).trans CQ8.1))), ((co).trans ((co).trans ((co).trans CQ8.2.1))), ((co).trans ((co).trans ((co).trans CQ8.2.2)))⟩) fun hh2 => ?_; clear hK K hHeld; have hHeld := hh2; clear hh2
 try simp only [Act.put]
 refine ty 17 ?_
 refine ty 18 ?_
 refine dn ?_
 go_wp2
 have bx0 : Bx (World.setCell (World.setCell (World.setCell w8 ⟨w.heap.size, 0, none⟩ (.slice Ag g.length cg)) ⟨w.heap.size + 1, 0, none⟩ (.slice Av v.length cv)) ⟨w.heap.size + 1, 1, none⟩ (.slice Ar r.length cr)) w.heap.size [.slice Ag g.length cg] := ((Q8.out.lb.set 0 (.slice Ag g.length cg)).oth (show w.heap.size + 1 ≠ w.heap.size by omega) (.slice Av v.length cv)).oth (show w.heap.size + 1 ≠ w.heap.size by omega) (.slice Ar r.length cr)
 have bx1 : Bx (World.setCell (World.setCell (World.setCell w8 ⟨w.heap.size, 0, none⟩ (.slice Ag g.length cg)) ⟨w.heap.size + 1, 0, none⟩ (.slice Av v.length cv)) ⟨w.heap.size + 1, 1, none⟩ (.slice Ar r.length cr)) (w.heap.size + 1) [.slice Av v.length cv, .slice Ar r.length cr] := ((Q8.out.lc.oth (show w.heap.size ≠ w.heap.size + 1 by omega) (.slice Ag g.length cg)).set 0 (.slice Av v.length cv)).set 1 (.slice Ar r.length cr)
 have s0 := bx0.cell (j := 0) rfl
 have s1 := bx1.cell (j := 0) rfl
 have s2 := bx1.cell (j := 1) rfl
 have hS : Mod (fun b => b = w.heap.size ∨ b = w.heap.size + 1) w8 (World.setCell (World.setCell (World.setCell w8 ⟨w.heap.size, 0, none⟩ (.slice Ag g.length cg)) ⟨w.heap.size + 1, 0, none⟩ (.slice Av v.length cv)) ⟨w.heap.size + 1, 1, none⟩ (.slice Ar r.length cr)) := Mod.set (F := fun b => b = w.heap.size ∨ b = w.heap.size + 1) (Mod.set (F := fun b => b = w.heap.size ∨ b = w.heap.size + 1) (Mod.set (F := fun b => b = w.heap.size ∨ b = w.heap.size + 1) (Mod.rfl' _ _) (p := ⟨w.heap.size, 0, none⟩) (.inl (.inl rfl)) _) (p := ⟨w.heap.size + 1, 0, none⟩) (.inl (.inr rfl)) _) (p := ⟨w.heap.size + 1, 1, none⟩) (.inl (.inr rfl)) _
 refine bodyPost_ret (v := .tuple #[.agg #[.slice Ag g.length cg], .agg #[.slice Av v.length cv, .slice Ar r.length cr], .int .i64 n, .int .i64 m]) (by simp [results, Tryz.results53, go_sem, s0, s1, s2]; try rfl) rfl ?_
 obtain ⟨z1, z2, z3⟩ := Q8.out.ok _ (hS.mono (fun b _ e => by omega))
 exact ⟨g, Ag, cg, v, Av, cv, r, Ar, cr, n, m, rfl, hg2, hg10, hvl, hrl, z1, z2, z3, Ext.md Q8.out.ex hS (fun b e => by omega)⟩
end Go.Proofs.YtmkfjnkdaeoppaaGreat
