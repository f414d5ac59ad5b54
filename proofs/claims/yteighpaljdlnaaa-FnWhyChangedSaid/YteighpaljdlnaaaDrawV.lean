/- The reference's twoCells and DrawWhyChanged: contracts. Conditions: bounds on the number of draws; the code can be read. -/
import Derived.Test.YteighpaljdlnaaaTy
import Derived.Test.YteighpaljdlnaaaDrawTwo
import Derived.Test.YteighpaljdlnaaaSpecThree
import Derived.Test.YteighpaljdlnaaaCellA
import Derived.IntWalk
namespace Go.Proofs.Yteighpaljdlnaaa
open Go.RowKit

structure TQ (w : World) (R P : Nat) (A : Option Addr) (c : Nat) (g : Sg.Graph) (Aa : Option Addr) (ca : Nat) (a : List Int) (Ab : Option Addr) (cb : Nat) (b : List Int) (t : Nat) (W : World) : Prop where
 lb : Bx W w.heap.size [.slice none 0 0]
 gb : Bx W P [.slice A g.length c]
 rd : Rdr W R t
 mo : Mod (fun b => b = R) w W
 ok : ∀ X, Mod (fun b => b < w.heap.size + 1 ∨ P ≤ b) W X → RdN X A g ∧ Rd X 1 Aa a.length (ints a)
 ob : Own W (P + 1) 3 1 Ab b.length cb (ints b)
 hR : R < w.heap.size
 hP : w.heap.size + 1 ≤ P
section
variable {w W W' : World} {R P c ca cb t : Nat} {A Aa Ab : Option Addr} {g : Sg.Graph} {a b : List Int}
theorem TQ.size (h : TQ w R P A c g Aa ca a Ab cb b t W) : P < W.heap.size := h.gb.lt
theorem TQ.reads (h : TQ w R P A c g Aa ca a Ab cb b t W) : RdN W A g ∧ Rd W 1 Aa a.length (ints a) := h.ok W (Mod.rfl' _ _)
theorem TQ.ext (h : TQ w R P A c g Aa ca a Ab cb b t W) (e : Ext W W') : TQ w R P A c g Aa ca a Ab cb b t W' := ⟨h.lb.ext e, h.gb.ext e, h.rd.ext e, h.mo.tr' (Mod.of e), fun X hX => h.ok X ((Mod.of e).tr' hX), h.ob.ext e, h.hR, h.hP⟩
theorem TQ.draw (h : TQ w R P A c g Aa ca a Ab cb b t W) {t' : Nat} (k : Mod (fun b => b = R) W W') (hr : Rdr W' R t') : TQ w R P A c g Aa ca a Ab cb b t' W' := by
 have h1 := h.hR; have h2 := h.hP
 exact ⟨h.lb.mod k (by omega), h.gb.mod k (by omega), hr, h.mo.tr' k, fun X hX => h.ok X ((k.mono (fun b _ e => .inl (by omega))).tr' hX), h.ob.mod k (fun b hb e => by have := (h.ob.lt hb).1; omega), h1, h2⟩
theorem TQ.put {gb' : Nat} (h : TQ w R P A c g Aa ca a (some ⟨gb', 0, none⟩) cb b t W) (k : Nat) (x : Int) : TQ w R P A c g Aa ca a (some ⟨gb', 0, none⟩) cb (b.set k x) t (W.setCell ⟨gb', k, none⟩ (.int .i64 x)) := by
 have h1 := h.hR; have h2 := h.hP
 have hg := (h.ob.lt (g := gb') rfl).1
 have m : Mod (fun b => b = gb') W (W.setCell ⟨gb', k, none⟩ (.int .i64 x)) := Mod.set (F := fun b => b = gb') (Mod.rfl' _ W) (p := ⟨gb', k, none⟩) (.inl rfl) _
 have o := h.ob.st k (.int .i64 x)
 rw [ints_set] at o
 exact ⟨h.lb.mod m (by omega), h.gb.mod m (by omega), h.rd.mod m (fun b e => by omega), h.mo.tr m (fun b e => .inr (by omega)), fun X hX => h.ok X ((m.mono (fun b _ e => .inr (by omega))).tr' hX), by rw [List.length_set]; exact o, h1, h2⟩
end
def TwoC (R m : Nat) (w : World) (e : Ending) (w' : World) : Prop := ∃ (g : Sg.Graph) (A : Option Addr) (c : Nat) (a : List Int) (Aa : Option Addr) (ca : Nat) (b : List Int) (Ab : Option Addr) (cb : Nat), e = .returned (.tuple #[.agg #[.slice A g.length c], .slice Aa a.length ca, .slice Ab b.length cb]) ∧
 2 ≤ g.length ∧ g.length ≤ 10 ∧ a.length ≤ 11 ∧ b.length ≤ 11 ∧ (∀ X, Mod (fun b => b ≤ R ∨ b < w.heap.size) w' X → RdN X A g ∧ Rd X 1 Aa a.length (ints a) ∧ Rd X 1 Ab b.length (ints b)) ∧ Rdr w' R (m + 1600) ∧ Mod (fun b => b = R) w w'

set_option maxRecDepth 100000 in
set_option maxHeartbeats 8000000 in
theorem s_twoCells (R m : Nat) (w : World) (h : Rdr w R m) (hm : m ≤ 500000) :
  Calls Try.prog 20 #[.pointer (some ⟨R, 0, none⟩)] w (TwoC R m w) := by
 have hRl := h.lt
 have E0 : Ext w (World.alloc w (.cells #[.slice none 0 0] 25)) := (Ext.rfl' w).al _
 have H0 := lh (h.ext E0)
 have M0 := lh (Mod.of (F := fun b => b = R) E0)
 have B0 := lh (Bx.new w #[.slice none 0 0] 25)
 clear h E0
 go_enter Try.func20, Try.ntmps20
 go_wp2_with fail
 refine (s_graphOf R m _ H0.out (by omega)).mono ?_
 rintro e w1 ⟨g, A, c, hs, a, Aa, ca, rfl, hk1, ho1, hl1, hl2, -, hr1, hm1⟩
 have hsz1 := hm1.size
 simp only [World.size_alloc] at hsz1
 have hlo := hk1.lo
 have hhi := hk1.hi
 have OK1 := lh (show ∀ X, Mod (fun b => b < w.heap.size + 1 ∨ w1.heap.size ≤ b) w1 X → RdN X A g ∧ Rd X 1 Aa a.length (ints a) from fun X hX =>
  ⟨(⟨hk1.own.mod hX (fun b hb e => by have := hk1.own.lt hb; simp only [World.size_alloc] at this; omega), hk1.lo, hk1.hi, hk1.nf⟩ : GOK (World.alloc w (.cells #[.slice none 0 0] 25)).heap.size R A c g hs X).rd, (ho1.mod hX (fun b hb e => by have := ho1.lt hb; simp only [World.size_alloc] at this; omega)).rd⟩)
 have M1 := lh ((M0.out.tr' hm1).al (.cells #[.slice A g.length c] 25))
 have B1 := lh ((B0.out.mod hm1 (by omega)).al (.cells #[.slice A g.length c] 25))
 have G1 := lh (Bx.new w1 #[.slice A g.length c] 25)
 have R1 := lh (hr1.ext ((Ext.rfl' w1).al (.cells #[.slice A g.length c] 25)))
 have OK2 := lh (fun X (hX : Mod (fun b => b < w.heap.size + 1 ∨ w1.heap.size ≤ b) (World.alloc w1 (.cells #[.slice A g.length c] 25)) X) => OK1.out X ((Mod.of ((Ext.rfl' w1).al (.cells #[.slice A g.length c] 25))).tr' hX))
 clear hk1 ho1 hr1 hm1 M0 B0 H0 OK1
 go_upto_region 2 with fail
 have hW1 : (World.alloc w1 (.cells #[.slice A g.length c] 25)).heap.size = w1.heap.size + 1 := by simp
 generalize World.alloc w1 (.cells #[.slice A g.length c] 25) = W1 at *
 have hW2 := Nat.le_of_eq hW1
 have hW3 := Nat.le_of_eq hW1.symm
 clear hW1
 generalize hPP : w1.heap.size = P at *
 clear hPP
 obtain ⟨y1, y2⟩ := OK2.out _ (Mod.rfl' _ W1)
 have Y2 := lh y2
 clear y1 y2
 go_wp2_with fail
 refine (s_copyInts Aa a.length ca a _ Y2.out (by omega)).mono ?_
 rintro e w2 ⟨Ab, cb, rfl, hob, he2⟩
 have Q2 := lh (show TQ w R P A c g Aa ca a Ab cb a (m + 1500) w2 from ⟨B1.out.ext he2, G1.out.ext he2, R1.out.ext he2, M1.out.tr' (Mod.of he2), fun X hX => OK2.out X ((Mod.of he2).tr' hX), hob.mono (by omega), hRl, hsz1⟩)
 have q2 := Q2.out.gb.cell (j := 0) rfl
 have b2 := blt q2
 have z2 := he2.size
 clear hob he2 M1 B1 G1 R1 OK2 Y2
 have HVG := lh (s_validGraph A c g)
 have HVC := lh (s_validCells A Aa c ca g a)
 cases hG : Sg.validG g
 ·have HG := lh hG
  clear hG
  go_wp2_with fail
  refine (HVG.out _ Q2.out.reads.1).mono ?_
  rintro e w3 ⟨rfl, he3⟩
  rw [HG.out]
  have Q3 := lh (Q2.out.ext he3)
  have q3 := Q3.out.gb.cell (j := 0) rfl
  have b3 := blt q3
  clear he3 q2 b2 Q2
  have QD := lh (Q3.out.ext ((Ext.rfl' _).dr))
  have zD := QD.out.size
  have hP8 := QD.out.hP
  go_wp2_with fail
  refine wp_region_held_drew (S := (fun W => W.cell? ⟨P, 0, none⟩ = some (.slice A g.length c))) (by kernel_rfl) ?_ (fun hHeld => ?_)
  ·exact (((Ext.rfl' _).dr).cellE q3)
  refine ty 0 ?_
  refine ty 1 ?_
  refine ty 2 ?_
  refine ty 3 ?_
  refine rd1 4 rfl fun K hK => ?_
  go_simp
  refine (s_someCells R (m + 1500) A c g _ QD.out.rd (fun X hX => (QD.out.ok X (hX.mono (fun b _ e => .inl (by omega)))).1) hhi (by omega) (by omega)).mono ?_
  rintro e w8 ⟨l8, A8, c8, rfl, ho8, hl81, hl82, hr8, hm8⟩
  have Q8 := lh (QD.out.draw hm8 hr8)
  have O8 := lh ho8
  have q8 := Q8.out.gb.cell (j := 0) rfl
  have b8 := blt q8
  have f8 := Q8.out.lb.free 0
  have x8 := Q8.out.lb.cell (j := 0) rfl
  have bl8 := Q8.out.lb.lt
  clear ho8 hr8 hm8
  try go_wp2_with fail
  refine hK.out _ _ (by exact q8) fun hh2 => ?_; clear hK K hHeld; have hHeld := hh2; clear hh2
  try simp only [Act.put, pu]
  refine rd1 5 rfl fun K hK => ?_
  go_simp
  refine hK.out _ _ (by exact ((co).trans q8)) fun hh2 => ?_; clear hK K hHeld; have hHeld := hh2; clear hh2
  try simp only [Act.put]
  refine ty 6 ?_
  refine ty 7 ?_
  refine dn ?_
  go_wp2
  have bx0 := Bx.set Q8.out.lb 0 (.slice A g.length c)
  have s0 := bx0.cell (j := 0) rfl
  have hS : Mod (fun b => b = w.heap.size) w8 (World.setCell w8 ⟨w.heap.size, 0, none⟩ (.slice A g.length c)) := Mod.set (F := fun b => b = w.heap.size) (Mod.rfl' _ _) (p := ⟨w.heap.size, 0, none⟩) (.inl rfl) _
  refine bodyPost_ret (v := .tuple #[.agg #[.slice A g.length c], .slice Aa a.length ca, .slice A8 l8.length c8]) (by simp [results, Try.results20, go_sem, s0]; (try rfl); (try exact HBL.out.symm)) rfl ?_
  refine ⟨g, A, c, a, Aa, ca, l8, A8, c8, rfl, hlo, hhi, by omega, by omega, fun X hX => ?_, (Q8.out.rd.mod hS (fun b e => by omega)).more (by omega), Q8.out.mo.tr hS (fun b e => .inr (by omega))⟩
  have hX2 := (hS.mono (F' := fun b => b < w.heap.size + 1) (fun b _ e => by omega)).tr' (hX.mono (F' := fun b => b < w.heap.size + 1) (fun b _ e => by omega))
  obtain ⟨z1, z2⟩ := Q8.out.ok X (hX2.mono (fun b _ e => .inl e))
  exact ⟨z1, z2, (O8.out.mod hX2 (fun b hb e => by have := (O8.out.lt hb).1; omega)).rd⟩
 ·have HG := lh hG
  clear hG
  cases hC : Sg.validC g a
  ·have HC := lh hC
   clear hC
   go_wp2_with fail
   refine (HVG.out _ Q2.out.reads.1).mono ?_
   rintro e w3 ⟨rfl, he3⟩
   rw [HG.out]
   have Q3 := lh (Q2.out.ext he3)
   have q3 := Q3.out.gb.cell (j := 0) rfl
   have b3 := blt q3
   clear he3 q2 b2 Q2
   go_wp2_with fail
   refine (HVC.out _ Q3.out.reads.1 Q3.out.reads.2).mono ?_
   rintro e w4 ⟨rfl, he4⟩
   rw [HC.out]
   have Q4 := lh (Q3.out.ext he4)
   have q4 := Q4.out.gb.cell (j := 0) rfl
   have b4 := blt q4
   clear he4 q3 b3 Q3
   have QD := lh (Q4.out.ext ((Ext.rfl' _).dr))
   have zD := QD.out.size
   have hP8 := QD.out.hP
   go_wp2_with fail
   refine wp_region_held_drew (S := (fun W => W.cell? ⟨P, 0, none⟩ = some (.slice A g.length c))) (by kernel_rfl) ?_ (fun hHeld => ?_)
   ·exact (((Ext.rfl' _).dr).cellE q4)
   refine ty 0 ?_
   refine ty 1 ?_
   refine ty 2 ?_
   refine ty 3 ?_
   refine rd1 4 rfl fun K hK => ?_
   go_simp
   refine (s_someCells R (m + 1500) A c g _ QD.out.rd (fun X hX => (QD.out.ok X (hX.mono (fun b _ e => .inl (by omega)))).1) hhi (by omega) (by omega)).mono ?_
   rintro e w8 ⟨l8, A8, c8, rfl, ho8, hl81, hl82, hr8, hm8⟩
   have Q8 := lh (QD.out.draw hm8 hr8)
   have O8 := lh ho8
   have q8 := Q8.out.gb.cell (j := 0) rfl
   have b8 := blt q8
   have f8 := Q8.out.lb.free 0
   have x8 := Q8.out.lb.cell (j := 0) rfl
   have bl8 := Q8.out.lb.lt
   clear ho8 hr8 hm8
   try go_wp2_with fail
   refine hK.out _ _ (by exact q8) fun hh2 => ?_; clear hK K hHeld; have hHeld := hh2; clear hh2
   try simp only [Act.put, pu]
   refine rd1 5 rfl fun K hK => ?_
   go_simp
   refine hK.out _ _ (by exact ((co).trans q8)) fun hh2 => ?_; clear hK K hHeld; have hHeld := hh2; clear hh2
   try simp only [Act.put]
   refine ty 6 ?_
   refine ty 7 ?_
   refine dn ?_
   go_wp2
   have bx0 := Bx.set Q8.out.lb 0 (.slice A g.length c)
   have s0 := bx0.cell (j := 0) rfl
   have hS : Mod (fun b => b = w.heap.size) w8 (World.setCell w8 ⟨w.heap.size, 0, none⟩ (.slice A g.length c)) := Mod.set (F := fun b => b = w.heap.size) (Mod.rfl' _ _) (p := ⟨w.heap.size, 0, none⟩) (.inl rfl) _
   refine bodyPost_ret (v := .tuple #[.agg #[.slice A g.length c], .slice Aa a.length ca, .slice A8 l8.length c8]) (by simp [results, Try.results20, go_sem, s0]; (try rfl); (try exact HBL.out.symm)) rfl ?_
   refine ⟨g, A, c, a, Aa, ca, l8, A8, c8, rfl, hlo, hhi, by omega, by omega, fun X hX => ?_, (Q8.out.rd.mod hS (fun b e => by omega)).more (by omega), Q8.out.mo.tr hS (fun b e => .inr (by omega))⟩
   have hX2 := (hS.mono (F' := fun b => b < w.heap.size + 1) (fun b _ e => by omega)).tr' (hX.mono (F' := fun b => b < w.heap.size + 1) (fun b _ e => by omega))
   obtain ⟨z1, z2⟩ := Q8.out.ok X (hX2.mono (fun b _ e => .inl e))
   exact ⟨z1, z2, (O8.out.mod hX2 (fun b hb e => by have := (O8.out.lt hb).1; omega)).rd⟩
  ·have HC := lh hC
   clear hC
   go_wp2_with fail
   refine (HVG.out _ Q2.out.reads.1).mono ?_
   rintro e w3 ⟨rfl, he3⟩
   rw [HG.out]
   have Q3 := lh (Q2.out.ext he3)
   have q3 := Q3.out.gb.cell (j := 0) rfl
   have b3 := blt q3
   clear he3 q2 b2 Q2
   go_wp2_with fail
   refine (HVC.out _ Q3.out.reads.1 Q3.out.reads.2).mono ?_
   rintro e w4 ⟨rfl, he4⟩
   rw [HC.out]
   have Q4 := lh (Q3.out.ext he4)
   have q4 := Q4.out.gb.cell (j := 0) rfl
   have b4 := blt q4
   clear he4 q3 b3 Q3
   have hRd := Q4.out.rd.lt
   go_wp2_with fail
   refine (s_pick R (m + 1500) 4 _ Q4.out.rd (by omega) (by omega) (by omega)).mono ?_
   rintro e w5 ⟨x, rfl, hx0, hx1, hr5, hm5⟩
   have Q5 := lh (Q4.out.draw hm5 hr5)
   have q5 := Q5.out.gb.cell (j := 0) rfl
   have b5 := blt q5
   clear hx0 hx1 hr5 hm5 q4 b4 Q4 hRd
   by_cases h0 : x = 0
   ·have z1 : (x == 0) = true := by simp [h0]
    clear h0
    have QD := lh (Q5.out.ext ((Ext.rfl' _).dr))
    have zD := QD.out.size
    have hP8 := QD.out.hP
    go_wp2_with fail
    refine wp_region_held_drew (S := (fun W => W.cell? ⟨P, 0, none⟩ = some (.slice A g.length c))) (by kernel_rfl) ?_ (fun hHeld => ?_)
    ·exact (((Ext.rfl' _).dr).cellE q5)
    refine ty 0 ?_
    refine ty 1 ?_
    refine ty 2 ?_
    refine ty 3 ?_
    refine rd1 4 rfl fun K hK => ?_
    go_simp
    refine (s_someCells R (m + 1500 + 1) A c g _ QD.out.rd (fun X hX => (QD.out.ok X (hX.mono (fun b _ e => .inl (by omega)))).1) hhi (by omega) (by omega)).mono ?_
    rintro e w8 ⟨l8, A8, c8, rfl, ho8, hl81, hl82, hr8, hm8⟩
    have Q8 := lh (QD.out.draw hm8 hr8)
    have O8 := lh ho8
    have q8 := Q8.out.gb.cell (j := 0) rfl
    have b8 := blt q8
    have f8 := Q8.out.lb.free 0
    have x8 := Q8.out.lb.cell (j := 0) rfl
    have bl8 := Q8.out.lb.lt
    clear ho8 hr8 hm8
    try go_wp2_with fail
    refine hK.out _ _ (by exact q8) fun hh2 => ?_; clear hK K hHeld; have hHeld := hh2; clear hh2
    try simp only [Act.put, pu]
    refine rd1 5 rfl fun K hK => ?_
    go_simp
    refine hK.out _ _ (by exact ((co).trans q8)) fun hh2 => ?_; clear hK K hHeld; have hHeld := hh2; clear hh2
    try simp only [Act.put]
    refine ty 6 ?_
    refine ty 7 ?_
    refine dn ?_
    go_wp2
    have bx0 := Bx.set Q8.out.lb 0 (.slice A g.length c)
    have s0 := bx0.cell (j := 0) rfl
    have hS : Mod (fun b => b = w.heap.size) w8 (World.setCell w8 ⟨w.heap.size, 0, none⟩ (.slice A g.length c)) := Mod.set (F := fun b => b = w.heap.size) (Mod.rfl' _ _) (p := ⟨w.heap.size, 0, none⟩) (.inl rfl) _
    refine bodyPost_ret (v := .tuple #[.agg #[.slice A g.length c], .slice Aa a.length ca, .slice A8 l8.length c8]) (by simp [results, Try.results20, go_sem, s0]; (try rfl); (try exact HBL.out.symm)) rfl ?_
    refine ⟨g, A, c, a, Aa, ca, l8, A8, c8, rfl, hlo, hhi, by omega, by omega, fun X hX => ?_, (Q8.out.rd.mod hS (fun b e => by omega)).more (by omega), Q8.out.mo.tr hS (fun b e => .inr (by omega))⟩
    have hX2 := (hS.mono (F' := fun b => b < w.heap.size + 1) (fun b _ e => by omega)).tr' (hX.mono (F' := fun b => b < w.heap.size + 1) (fun b _ e => by omega))
    obtain ⟨z1, z2⟩ := Q8.out.ok X (hX2.mono (fun b _ e => .inl e))
    exact ⟨z1, z2, (O8.out.mod hX2 (fun b hb e => by have := (O8.out.lt hb).1; omega)).rd⟩
   ·have z1 : (x == 0) = false := by rw [beq_eq_false_iff_ne]; exact h0
    clear h0
    have hRd := Q5.out.rd.lt
    go_wp2_with fail
    refine (s_pick R (m + 1500 + 1) 3 _ Q5.out.rd (by omega) (by omega) (by omega)).mono ?_
    rintro e w6 ⟨y, rfl, hy0, hy1, hr6, hm6⟩
    have Q6 := lh (Q5.out.draw hm6 hr6)
    have hy2 : y ≤ 2 := by omega
    clear hr6 hm6 q5 b5 Q5 hRd hy1
    go_wp2_with fail
    go_loopw [8, 9] (fun s8 s9 wr => ∃ (n : Int) (bb : List Int) (tt : Nat), s8 = .int .i64 n ∧ -1 ≤ n ∧ n ≤ 2 ∧ bb.length = a.length ∧ (tt : Int) + 3 * (n + 1) ≤ m + 1502 + 9 ∧ Hid (TQ w R P A c g Aa ca a Ab cb bb tt wr)) (fun s8 _ _ => (intOf s8 + 1).toNat)
    case atStart => exact ⟨y, a, m + 1500 + 1 + 1, rfl, by omega, hy2, rfl, by omega, Q6⟩
    case round =>
      clear Q6
      obtain ⟨n, bb, tt, rfl, hn0, hn2, hbl, htt, Q7⟩ := hrel
      have HBL := lh hbl
      have hb11 : bb.length ≤ 11 := by omega
      have hb1 : 1 ≤ bb.length := by omega
      clear hbl
      have q7 := Q7.out.gb.cell (j := 0) rfl
      have b7 := blt q7
      have hRd := Q7.out.rd.lt
      by_cases hn : n ≥ (0 : Int)
      ·have iw : IntKind.i64.wrap (n - 1) = n - 1 := IntWalk.i64_in _ (by omega)
       go_wp2_with fail
       refine (s_pick R tt (a.length : Int) _ Q7.out.rd (by omega) (by omega) (by omega)).mono ?_
       rintro e w8 ⟨k, rfl, hk0, hk1, hr8, hm8⟩
       obtain ⟨k, rfl⟩ := Int.eq_ofNat_of_zero_le hk0
       have hka : k < a.length := by omega
       have hk : k < bb.length := by rw [HBL.out]; exact hka
       have Q8 := lh (Q7.out.draw hm8 hr8)
       have q8 := Q8.out.gb.cell (j := 0) rfl
       have b8 := blt q8
       clear hk0 hk1 hr8 hm8 q7 b7 Q7 hRd
       have HIC := lh (fun w h => s_isCell A c g (k : Int) w h)
       cases hic : Sg.isCell g (k : Int)
       ·have HI := lh hic
        clear hic
        go_wp2_with fail
        refine (HIC.out _ Q8.out.reads.1).mono ?_
        rw [HI.out]
        rintro e w9 ⟨rfl, he9⟩
        have Q9 := lh (Q8.out.ext he9)
        have q9 := Q9.out.gb.cell (j := 0) rfl
        have b9 := blt q9
        clear he9 q8 b8 Q8
        have hRd := Q9.out.rd.lt
        go_wp2
        go_roundw
        case rel => exact ⟨n - 1, bb, tt + 1, by go_num, by omega, by omega, HBL.out, by omega, Q9⟩
        case measure => simp [intOf]; omega
       ·have HI := lh hic
        clear hic
        go_wp2_with fail
        refine (HIC.out _ Q8.out.reads.1).mono ?_
        rw [HI.out]
        rintro e w9 ⟨rfl, he9⟩
        have Q9 := lh (Q8.out.ext he9)
        have q9 := Q9.out.gb.cell (j := 0) rfl
        have b9 := blt q9
        clear he9 q8 b8 Q8
        have hRd := Q9.out.rd.lt
        go_wp2_with fail
        refine (s_pick R (tt + 1) 1000 _ Q9.out.rd (by omega) (by omega) (by omega)).mono ?_
        rintro e w10 ⟨y, rfl, hy0, hy1, hr10, hm10⟩
        have Q10 := lh (Q9.out.draw hm10 hr10)
        have hR10 := Q10.out.rd.lt
        clear hr10 hm10 q9 b9 Q9 hRd hy0 hy1
        go_wp2_with fail
        have RLx := (Own.new w10 (B := 0) 3 1 #[.int .i64 0, .int .i64 1, .int .i64 y, .int .i64 3] 4 (Nat.zero_le _) (by unfold maxLen; omega) rfl).rd
        have e10 := (Ext.rfl' w10).al (.cells #[.int .i64 0, .int .i64 1, .int .i64 y, .int .i64 3] 3)
        refine (s_one R (tt + 1 + 1) _ 4 [0, 1, y, 3] _ (Q10.out.rd.ext e10) RLx (by simp) (by simp) (by intro z hz; simp [blk] at hz; omega) (by omega)).mono ?_
        rintro e w11 ⟨yv, rfl, hyv, hr11, hm11⟩
        have Q11 := lh ((Q10.out.ext e10).draw hm11 hr11)
        clear RLx e10 hyv hr11 hm11 Q10 hR10
        obtain ⟨gv, rfl, hgv⟩ := Q11.out.ob.at_ (by omega)
        obtain ⟨z0, hz0⟩ : ∃ z, bb[k]? = some z := ⟨_, List.getElem?_eq_getElem hk⟩
        have cz := Q11.out.ob.cell (j := k) (u := .int .i64 z0) (by rw [ints_at, hz0]; rfl)
        have fz := Q11.out.ob.free k
        have bz := blt cz
        have Q12 := lh (Q11.out.put k yv)
        have HBS := lh (show (bb.set k yv).length = a.length by rw [List.length_set]; exact HBL.out)
        clear hz0
        go_wp2
        go_roundw
        case rel => exact ⟨n - 1, bb.set k yv, tt + 1 + 1 + 1, by go_num, by omega, by omega, HBS.out, by omega, Q12⟩
        case measure => simp [intOf]; omega
      ·have f7 := Q7.out.lb.free 0
       have x7 := Q7.out.lb.cell (j := 0) rfl
       have bl7 := Q7.out.lb.lt
       have hP8 := Q7.out.hP
       have O7 := lh Q7.out.ob
       go_wp2
       have bx0 := Bx.set Q7.out.lb 0 (.slice A g.length c)
       have s0 := bx0.cell (j := 0) rfl
       have hS : Mod (fun b => b = w.heap.size) wr (World.setCell wr ⟨w.heap.size, 0, none⟩ (.slice A g.length c)) := Mod.set (F := fun b => b = w.heap.size) (Mod.rfl' _ _) (p := ⟨w.heap.size, 0, none⟩) (.inl rfl) _
       refine bodyPost_ret (v := .tuple #[.agg #[.slice A g.length c], .slice Aa a.length ca, .slice Ab bb.length cb]) (by simp [results, Try.results20, go_sem, s0]; (try rfl); (try exact HBL.out.symm)) rfl ?_
       refine ⟨g, A, c, a, Aa, ca, bb, Ab, cb, rfl, hlo, hhi, by omega, by omega, fun X hX => ?_, (Q7.out.rd.mod hS (fun b e => by omega)).more (by omega), Q7.out.mo.tr hS (fun b e => .inr (by omega))⟩
       have hX2 := (hS.mono (F' := fun b => b < w.heap.size + 1) (fun b _ e => by omega)).tr' (hX.mono (F' := fun b => b < w.heap.size + 1) (fun b _ e => by omega))
       obtain ⟨z1, z2⟩ := Q7.out.ok X (hX2.mono (fun b _ e => .inl e))
       exact ⟨z1, z2, (O7.out.mod hX2 (fun b hb e => by have := (O7.out.lt hb).1; omega)).rd⟩

set_option maxRecDepth 100000 in
set_option maxHeartbeats 4000000 in
theorem s_DrawWhyChanged (A : Option Addr) (c : Nat) (l : List Int) (w : World) (h : Rd w 1 A l.length (u8s l)) (hr : ∀ x ∈ l, 0 ≤ x ∧ x ≤ 255) (hc : l.length ≤ c) (hcm : c ≤ maxLen) :
  Calls Try.prog 5 #[.slice A l.length c] w fun e w' => ∃ (g : Sg.Graph) (Ag : Option Addr) (cg : Nat) (a : List Int) (Aa : Option Addr) (ca : Nat) (b : List Int) (Ab : Option Addr) (cb : Nat) (n : Int), e = .returned (.tuple #[.agg #[.slice Ag g.length cg], .slice Aa a.length ca, .slice Ab b.length cb, .int .i64 n]) ∧
   2 ≤ g.length ∧ g.length ≤ 10 ∧ a.length ≤ 11 ∧ b.length ≤ 11 ∧ -1 ≤ n ∧ n ≤ 10 ∧ RdN w' Ag g ∧ Rd w' 1 Aa a.length (ints a) ∧ Rd w' 1 Ab b.length (ints b) ∧ Ext w w' := by
 have e0 : Ext w (World.alloc w (.cells #[.slice none 0 0] 25)) := (Ext.rfl' w).al _
 have HN := lh (s_newReader A c l _ (h.ext e0) hr hc hcm)
 have B0 := lh (Bx.new w #[.slice none 0 0] 25)
 have E0 := lh e0
 clear h e0
 go_enter Try.func5, Try.ntmps5
 go_wp2_with fail
 refine HN.out.mono ?_
 rintro e w1 ⟨rfl, hr1, he1⟩
 have B1 := lh (B0.out.ext he1)
 have E1 := lh (E0.out.tr he1)
 have R1 := lh hr1
 have hw1 := he1.size
 simp only [World.size_alloc] at hw1 hr1
 have hR1 := hr1.lt
 clear hr1 he1 HN B0 E0
 go_wp2_with fail
 refine (s_twoCells _ 0 _ (by have := R1.out; simpa using this) (by omega)).mono ?_
 rintro e w2 ⟨g, Ag, cg, a, Aa, ca, b, Ab, cb, rfl, hg2, hg10, hal, hbl, hok, hr2, hm2⟩
 have hw2 := hm2.size
 have HOK := lh (fun X (hX : Mod (fun b => b ≤ w.heap.size + 1 ∨ b < w1.heap.size ∨ w2.heap.size ≤ b) w2 X) => hok X (hX.mono (fun b hb e => by simp only [World.size_alloc] at *; omega)))
 have B2 := lh ((B1.out.mod hm2 (by (try simp only [World.size_alloc]); omega)).al (.cells #[.slice Ag g.length cg] 25))
 have E2 := lh ((Ext.md E1.out hm2 (fun b e => by (try simp only [World.size_alloc] at e); omega)).al (.cells #[.slice Ag g.length cg] 25))
 have G2 := lh (Bx.new w2 #[.slice Ag g.length cg] 25)
 have R2 := lh (show Rdr (World.alloc w2 (.cells #[.slice Ag g.length cg] 25)) (w.heap.size + 1) 1600 by have := hr2.ext ((Ext.rfl' w2).al (.cells #[.slice Ag g.length cg] 25)); simpa using this)
 have OK2 := lh (fun X (hX : Mod (fun b => b ≤ w.heap.size + 1 ∨ b < w1.heap.size ∨ w2.heap.size ≤ b) (World.alloc w2 (.cells #[.slice Ag g.length cg] 25)) X) => HOK.out X ((Mod.of ((Ext.rfl' w2).al (.cells #[.slice Ag g.length cg] 25))).tr' hX))
 clear hok hr2 hm2 R1 B1 E1 HOK
 go_upto_region 3 with fail
 have hs2 : w2.heap.size < (World.alloc w2 (.cells #[.slice Ag g.length cg] 25)).heap.size := by simp
 generalize World.alloc w2 (.cells #[.slice Ag g.length cg] 25) = w3 at *
 generalize hPP : w2.heap.size = P at *
 clear hPP

 have ed := (Ext.rfl' w3).dr
 have B3 := lh (B2.out.ext ed)
 have E3 := lh (E2.out.tr ed)
 have G3 := lh (G2.out.ext ed)
 have R3 := lh (R2.out.ext ed)
 have OK3 := lh (fun X (hX : Mod (fun b => b ≤ w.heap.size + 1 ∨ b < w1.heap.size ∨ P ≤ b) _ X) => OK2.out X ((Mod.of ed).tr' hX))
 have g3 := G3.out.cell (j := 0) rfl
 have z3 := G3.out.lt
 have rl3 := R3.out.lt
 have g2 := G2.out.cell (j := 0) rfl
 have bg2 := blt g2
 clear ed
 have iw : IntKind.i64.wrap ((g.length : Int) - 1) = (g.length : Int) - 1 := IntWalk.i64_in _ (by omega)
 go_wp2_with fail
 refine wp_region_held_drew (S := (fun W => W.cell? ⟨P, 0, none⟩ = some (.slice Ag g.length cg))) (by kernel_rfl) ?_ (fun hHeld => ?_)
 ·exact g3
 refine ty 0 ?_
 refine ty 1 ?_
 refine ty 2 ?_
 refine ty 3 ?_
 refine ty 4 ?_
 refine ty 5 ?_
 refine ty 6 ?_
 refine ty 7 ?_
 refine ty 8 ?_
 refine ty 9 ?_
 refine ty 10 ?_
 refine ty 11 ?_
 refine ty 13 ?_
 refine ty 14 ?_
 refine ty 15 ?_
 refine ty 16 ?_
 refine rd1 12 rfl fun K hK => ?_
 go_simp
 refine (s_pick _ 1600 (g.length : Int) _ R3.out (by omega) (by omega) (by omega)).mono ?_
 rintro e w5 ⟨x, rfl, hx0, hx1, hr5, hm5⟩
 have B5 := lh (B3.out.mod hm5 (by omega))
 have E5 := lh (Ext.md E3.out hm5 (fun b e => by omega))
 have G5 := lh (G3.out.mod hm5 (by omega))
 have R5 := lh hr5
 have OK5 := lh (fun X (hX : Mod (fun b => b ≤ w.heap.size + 1 ∨ b < w1.heap.size ∨ P ≤ b) _ X) => OK3.out X ((hm5.mono (fun b _ e => .inl (by omega))).tr' hX))
 have g5 := G5.out.cell (j := 0) rfl
 have z5 := G5.out.lt
 have rl5 := R5.out.lt
 clear hr5 hm5
 try go_wp2_with fail
 refine hK.out _ _ (by exact g5) fun hh2 => ?_; clear hK K hHeld; have hHeld := hh2; clear hh2
 try simp only [Act.put, pu]
 refine rd1 17 rfl fun K hK => ?_
 go_simp
 refine (s_pick _ (1600 + 1) (g.length : Int) _ R5.out (by omega) (by omega) (by omega)).mono ?_
 rintro e w6 ⟨y, rfl, hy0, hy1, hr6, hm6⟩
 have B6 := lh (B5.out.mod hm6 (by omega))
 have E6 := lh (Ext.md E5.out hm6 (fun b e => by omega))
 have G6 := lh (G5.out.mod hm6 (by omega))
 have R6 := lh hr6
 have OK6 := lh (fun X (hX : Mod (fun b => b ≤ w.heap.size + 1 ∨ b < w1.heap.size ∨ P ≤ b) _ X) => OK5.out X ((hm6.mono (fun b _ e => .inl (by omega))).tr' hX))
 have g6 := G6.out.cell (j := 0) rfl
 have z6 := G6.out.lt
 have rl6 := R6.out.lt
 clear hr6 hm6
 have eL := (Ext.rfl' w6).al (.cells #[.int .i64 ((g.length : Int) - 1), .int .i64 x, .int .i64 y, .int .i64 (-1)] 3)
 have B7 := lh (B6.out.ext eL)
 have E7 := lh (E6.out.tr eL)
 have G7 := lh (G6.out.ext eL)
 have R7 := lh (R6.out.ext eL)
 have OK7 := lh (fun X (hX : Mod (fun b => b ≤ w.heap.size + 1 ∨ b < w1.heap.size ∨ P ≤ b) _ X) => OK6.out X ((Mod.of eL).tr' hX))
 have g7 := G7.out.cell (j := 0) rfl
 have z7 := G7.out.lt
 have rl7 := R7.out.lt
 have RL := lh (Own.new w6 (B := 0) 3 1 #[.int .i64 ((g.length : Int) - 1), .int .i64 x, .int .i64 y, .int .i64 (-1)] 4 (Nat.zero_le _) (by unfold maxLen; omega) rfl).rd
 clear eL
 try go_wp2_with fail
 refine hK.out _ _ (by exact g6) fun hh2 => ?_; clear hK K hHeld; have hHeld := hh2; clear hh2
 try simp only [Act.put, pu]
 refine rd1 18 rfl fun K hK => ?_
 go_simp
 refine hK.out _ _ (by exact g7) fun hh2 => ?_; clear hK K hHeld; have hHeld := hh2; clear hh2
 try simp only [Act.put, pu]
 refine rd1 19 rfl fun K hK => ?_
 go_simp
 refine (s_one _ (1600 + 1 + 1) _ 4 [(g.length : Int) - 1, x, y, -1] _ R7.out RL.out (by simp) (by simp) (by intro z hz; simp [blk] at hz; omega) (by omega)).mono ?_
 rintro e w8 ⟨n, rfl, hn, hr8, hm8⟩
 have B8 := lh (B7.out.mod hm8 (by omega))
 have E8 := lh (Ext.md E7.out hm8 (fun b e => by omega))
 have G8 := lh (G7.out.mod hm8 (by omega))
 have R8 := lh hr8
 have OK8 := lh (fun X (hX : Mod (fun b => b ≤ w.heap.size + 1 ∨ b < w1.heap.size ∨ P ≤ b) _ X) => OK7.out X ((hm8.mono (fun b _ e => .inl (by omega))).tr' hX))
 have g8 := G8.out.cell (j := 0) rfl
 have z8 := G8.out.lt
 have rl8 := R8.out.lt
 have hnr : -1 ≤ n ∧ n ≤ 10 := by simp only [List.mem_cons, List.not_mem_nil, or_false] at hn; omega
 have f8 := B8.out.free 0
 have x8 := B8.out.cell (j := 0) rfl
 have bl8 := B8.out.lt
 clear hr8 hm8 hn RL
 try go_wp2_with fail
 refine hK.out _ _ (by exact g8) fun hh2 => ?_; clear hK K hHeld; have hHeld := hh2; clear hh2
 try simp only [Act.put, pu]
 refine rd1 20 rfl fun K hK => ?_
 go_simp
 refine hK.out _ _ (by exact ((co).trans g8)) fun hh2 => ?_; clear hK K hHeld; have hHeld := hh2; clear hh2
 try simp only [Act.put]
 refine ty 21 ?_
 refine ty 22 ?_
 refine ty 23 ?_
 refine dn ?_
 go_wp2
 have bx0 := Bx.set B8.out 0 (.slice Ag g.length cg)
 have s0 := bx0.cell (j := 0) rfl
 have hS : Mod (fun b => b = w.heap.size) w8 (World.setCell w8 ⟨w.heap.size, 0, none⟩ (.slice Ag g.length cg)) := Mod.set (F := fun b => b = w.heap.size) (Mod.rfl' _ _) (p := ⟨w.heap.size, 0, none⟩) (.inl rfl) _
 refine bodyPost_ret (v := .tuple #[.agg #[.slice Ag g.length cg], .slice Aa a.length ca, .slice Ab b.length cb, .int .i64 n]) (by simp [results, Try.results5, go_sem, s0]; try rfl) rfl ?_
 obtain ⟨y1, y2, y3⟩ := OK8.out _ (hS.mono (fun b _ e => .inl (by omega)))
 exact ⟨g, Ag, cg, a, Aa, ca, b, Ab, cb, n, rfl, hg2, hg10, hal, hbl, hnr.1, hnr.2, y1, y2, y3, Ext.md E8.out hS (fun b e => by omega)⟩
end Go.Proofs.Yteighpaljdlnaaa
