/- The reference's sessions with the eager machine: contracts. Conditions: bounds on lengths. -/
import Derived.Test.YtaklkcjlihdlkaaGreatTy
import Derived.Test.YtaklkcjlihdlkaaGreatSesE
import Derived.Test.YtaklkcjlihdlkaaGreatSesST
import Derived.Test.YtaklkcjlihdlkaaGreatSpecY
import Derived.Test.YtaklkcjlihdlkaaGreatSpecThree
namespace Go.Proofs.YtaklkcjlihdlkaaGreat
open Go.RowKit

/-- the cells among the first k nodes -/
def inTo (g : Sg.Graph) (k : Nat) : List Int := Sg.whichL (fun i => decide (Sg.kindAt g (i : Int) = 0)) k
theorem inTo_succ (g : Sg.Graph) (k : Nat) : inTo g (k + 1) = if Sg.kindAt g (k : Int) = 0 then inTo g k ++ [(k : Int)] else inTo g k := by
 unfold inTo
 rw [Sg.whichL_succ]
 by_cases h : Sg.kindAt g (k : Int) = 0 <;> simp [h]
theorem inTo_len (g : Sg.Graph) (k : Nat) : (inTo g k).length ≤ k := Sg.whichL_len _ k
set_option maxRecDepth 100000 in
set_option maxHeartbeats 4000000 in
theorem s_toWrite (A Ap : Option Addr) (c cp n : Nat) (g : Sg.Graph) (p : List Int) (w : World) (h : RdN w A g) (hp : Rd w 1 Ap n (ints p)) (hng : n = g.length) :
  Calls Tryz.prog 109 #[.agg #[.slice A g.length c], .slice Ap n cp] w fun e w' => ∃ A1 c1 A2 c2, e = .returned (.tuple #[.slice A1 (Sg.inputsL g).length c1, .slice A2 (Sg.inputsL g).length c2]) ∧
   Own w' w.heap.size 3 1 A1 (Sg.inputsL g).length c1 (ints (Sg.inputsL g)) ∧ Own w' w.heap.size 3 1 A2 (Sg.inputsL g).length c2 (ints (Sg.valuesL g p)) ∧ (∀ b, blk A1 = some b → blk A2 ≠ some b) ∧ Ext w w' := by
 have hgl := h.1
 have H := lh h
 have HP := lh hp
 have HNG := lh hng
 have e0 := (((Ext.rfl' w).al (.cells #[.slice A g.length c] 25)).al (.cells #[] 3)).al (.cells #[] 3)
 have b0 := ((Bx.new w #[.slice A g.length c] 25).al (.cells #[] 3)).al (.cells #[] 3)
 have o1 := (Own.new (World.alloc w (.cells #[.slice A g.length c] 25)) (B := w.heap.size) 3 1 #[] 0 (by simp) (by unfold maxLen; omega) rfl).al (.cells #[] 3)
 have o2 := Own.new (World.alloc (World.alloc w (.cells #[.slice A g.length c] 25)) (.cells #[] 3)) (B := w.heap.size) 3 1 #[] 0 (by simp; omega) (by unfold maxLen; omega) rfl
 simp only [World.size_alloc] at o1 o2
 have SS : Hid (Sep [Th.own w.heap.size 3 1 (some ⟨w.heap.size + 1, 0, none⟩) (inTo g 0).length 0 (ints (inTo g 0)), Th.own w.heap.size 3 1 (some ⟨w.heap.size + 1 + 1, 0, none⟩) (inTo g 0).length 0 (ints ((inTo g 0).map (Sg.rd p))), Th.box w.heap.size w.heap.size [.slice A g.length c]] _) := lh
  ⟨o1, fun s hs b hb => by
   simp only [List.mem_cons, List.not_mem_nil, or_false] at hs
   have h1 : w.heap.size + 1 = b := by have := hb; simpa [Th.own, blk] using this
   rcases hs with rfl | rfl
   ·intro e; have e2 : w.heap.size + 1 + 1 = b := by simpa [Th.own, blk] using e
    omega
   ·intro (e : b = w.heap.size); omega, o2, fun s hs b hb => by
   simp only [List.mem_cons, List.not_mem_nil, or_false] at hs
   have h1 : w.heap.size + 1 + 1 = b := by have := hb; simpa [Th.own, blk] using this
   subst hs
   intro (e : b = w.heap.size); omega, ⟨b0, Nat.le_refl _⟩, by simp, trivial⟩
 have EE := lh e0
 have HQ := lh (inTo_succ g)
 have HL := lh (inTo_len g)
 have HA := lh (show inTo g g.length = Sg.inputsL g from rfl)
 have HV := lh (show (inTo g g.length).map (Sg.rd p) = Sg.valuesL g p from rfl)
 have H0 := lh (show (inTo g 0).length = 0 from rfl)
 generalize inTo g = V at *
 clear h hp e0 b0 o1 o2 hng
 go_enter Tryz.func109, Tryz.ntmps109
 go_wp2_with fail
 go_loopw [6, 7, 8] (fun s6 s7 i wr => ∃ (k : Nat) (A1 : Option Addr) (c1 : Nat) (A2 : Option Addr) (c2 : Nat), k ≤ g.length ∧ i = .int .i64 k ∧ s6 = .slice A1 (V k).length c1 ∧ s7 = .slice A2 (V k).length c2 ∧ Hid (Ext w wr) ∧
  Hid (Sep [Th.own w.heap.size 3 1 A1 (V k).length c1 (ints (V k)), Th.own w.heap.size 3 1 A2 (V k).length c2 (ints ((V k).map (Sg.rd p))), Th.box w.heap.size w.heap.size [.slice A g.length c]] wr)) (fun _ _ i _ => g.length - (intOf i).toNat)
 case atStart => exact ⟨0, _, 0, _, 0, Nat.zero_le _, rfl, by rw [H0.out], by rw [H0.out], EE, SS⟩
 case round =>
  clear SS EE
  obtain ⟨k, A1, c1, A2, c2, hk, rfl, rfl, rfl, hX, hS⟩ := hrel
  have lg : wr.cell? ⟨w.heap.size, 0, none⟩ = some (.slice A g.length c) := ((Sep.get hS.out 2 rfl : Bx _ _ _ ∧ _).1).cell (j := 0) rfl
  have bg := blt lg
  have hl := HL.out k
  by_cases hlt : k < g.length
  ·obtain ⟨⟨nk, nf⟩, b, oo, Aq, cq, hn, rfl, hkc, hsc, hf, hfl⟩ := (H.out.ext hX.out).at_ hlt
   dsimp only at *
   have HK := lh (show Sg.kindAt g (k : Int) = nk by unfold Sg.kindAt; simp [hn])
   have bk := blt hkc
   have hkx : (k : Int) < (g.length : Int) := by omega
   clear hn hsc hf hfl
   have hs := HQ.out k
   rw [HK.out] at hs
   by_cases hz : nk = 0
   ·subst hz
    rw [if_pos rfl] at hs
    have Hs := lh hs
    have hkn : k < n := by have := HNG.out; omega
    have hkny : (k : Int) < (n : Int) := by omega
    obtain ⟨ba, oa, y, rfl, hy, hcy⟩ := HP.out.at1 hkn
    have hba := blt hcy
    have HY := lh (show Sg.rd p (k : Int) = y by unfold Sg.rd; simp [hy])
    have CY := lh hcy
    clear hs hy hcy
    have hO1 : Own wr w.heap.size 3 1 A1 (V k).length c1 (ints (V k)) := Sep.get hS.out 0 rfl
    go_upto_region 8 with (at_builtin; refine wpList_app1 rfl rfl eiInt rfl hO1 rfl rfl (one_int _ _) (by omega) (by omega) (by omega) ?_; intro A3 c3 w3 ho3 hg3 hat3; have S3 := lh (Sep.app hS.out 0 rfl ho3 hg3 hat3); have X3 := lh (hX.out.gr hg3 fun x hx => (hO1.lt hx).1); clear ho3 hg3 hat3)
    have cy3 := X3.out.cellE CY.out
    have by3 := blt cy3
    have sz3 := X3.out.size
    have hO2 : Own w3 w.heap.size 3 1 A2 (V k).length c2 (ints ((V k).map (Sg.rd p))) := Sep.get S3.out 1 rfl
    clear hO1 lg bg hkc bk hX hS
    go_wp2_with (at_builtin; refine wpList_app1 rfl rfl eiInt rfl hO2 rfl rfl (one_int _ _) (by omega) (by omega) (by omega) ?_; intro A4 c4 w4 ho4 hg4 hat4; have S4 := lh (Sep.app S3.out 1 rfl ho4 hg4 hat4); have X4 := lh (X3.out.gr hg4 fun x hx => (hO2.lt hx).1); clear ho4 hg4 hat4)
    have S5 := lh (show Sep [Th.own w.heap.size 3 1 A3 (V (k + 1)).length c3 (ints (V (k + 1))), Th.own w.heap.size 3 1 A4 (V (k + 1)).length c4 (ints ((V (k + 1)).map (Sg.rd p))), Th.box w.heap.size w.heap.size [.slice (some ⟨b, oo, none⟩) g.length c]] w4 from by
     have h9 := S4.out
     rw [Hs.out, List.map_append, List.map_singleton, HY.out]
     simpa [ints] using h9)
    have hl5 : (V (k + 1)).length = (V k).length + 1 := by rw [Hs.out]; simp
    have HL5 := lh hl5
    clear hl5 hO2 cy3 by3
    go_roundw
    case rel => exact ⟨k + 1, A3, c3, A4, c4, by omega, by go_num, by rw [HL5.out], by rw [HL5.out], X4, S5⟩
    case measure => simp [intOf]; omega
   ·rw [if_neg hz] at hs
    have Hs := lh hs
    have z1 : (nk == 0) = false := by simp [hz]
    clear hs hz
    go_wp2
    go_roundw
    case rel => exact ⟨k + 1, A1, c1, A2, c2, by omega, by go_num, by rw [Hs.out], by rw [Hs.out], hX, lh (by rw [Hs.out]; exact hS.out)⟩
    case measure => simp [intOf]; omega
  ·obtain rfl : k = g.length := by omega
   have h9 := hS.out
   rw [HV.out, HA.out] at h9
   have S9 := lh h9
   have HAL := lh (show (V g.length).length = (Sg.inputsL g).length by rw [HA.out])
   clear h9
   go_wp2
   go_ret2
   rw [HAL.out]
   exact ⟨A1, c1, A2, c2, rfl, Sep.get S9.out 0 rfl, Sep.get S9.out 1 rfl, fun b hb => S9.out.2.1 (Th.own w.heap.size 3 1 A2 (Sg.inputsL g).length c2 (ints (Sg.valuesL g p))) (by simp) b hb, hX.out⟩
theorem s_writeN (a : World) (A Av Ar An Aw : Option Addr) (c cv cr cn cw : Nat) (g : Sg.Graph) (x p : List Int) (hs : List (Option Addr × Nat)) (w : World) (ha : RdN a A g) (hE : Ext a w) (ts : List (Th a.heap.size))
  (hna : ∀ W, Ext a W → Sep ts W → Rd W 1 An (Sg.inputsL g).length (ints (Sg.inputsL g))) (hwa : ∀ W, Ext a W → Sep ts W → Rd W 1 Aw (Sg.inputsL g).length (ints (Sg.valuesL g p)))
  (hnb : 0 < (Sg.inputsL g).length → ∀ b, blk An = some b → b < a.heap.size ∨ ∃ t ∈ ts, t.fp b) (hwb : 0 < (Sg.inputsL g).length → ∀ b, blk Aw = some b → b < a.heap.size ∨ ∃ t ∈ ts, t.fp b)
  (hS : Sep (Th.own a.heap.size 3 1 Av g.length cv (ints (Sg.mean g x)) :: Th.ownL a.heap.size Ar cr (Sg.depsTo g (Sg.mean g x) g.length) hs :: ts) w) (hG : Sg.validG g = true) (hx : Sg.validC g x = true) (hp : Sg.validC g p = true) :
  Calls Tryz.prog 110 #[.agg #[.slice A g.length c], .agg #[.slice Av g.length cv, .slice Ar g.length cr], .slice An (Sg.inputsL g).length cn, .slice Aw (Sg.inputsL g).length cw] w fun e w' => ∃ Ad cd hs', e = .returned (.tuple #[.agg #[.slice Av g.length cv, .slice Ar g.length cr], .slice Ad (Sg.mustOr g x p).length cd]) ∧
   Sep (Th.own a.heap.size 3 1 Ad (Sg.mustOr g x p).length cd (ints (Sg.mustOr g x p)) :: Th.own a.heap.size 3 1 Av g.length cv (ints (Sg.mean g p)) :: Th.ownL a.heap.size Ar cr (Sg.depsTo g (Sg.mean g p) g.length) hs' :: ts) w' ∧ Ext a w' := by
 have hvl : (Sg.valuesL g p).length = (Sg.inputsL g).length := by simp [Sg.valuesL]
 have hm1 : (Sg.mean g x).length = g.length := Sg.length_mean g x
 have hm2 : (Sg.mean g p).length = g.length := Sg.length_mean g p
 have hd1 : (Sg.depsTo g (Sg.mean g x) g.length).length = g.length := Sg.length_depsTo _ _ _
 obtain ⟨e1, e2, e3⟩ := Sg.write_all hG hx hp
 have := s_writeG a.heap.size a A Av Ar An Aw c cv cr cn cw g (Sg.mean g x) (Sg.inputsL g) (Sg.valuesL g p) (Sg.depsTo g (Sg.mean g x) g.length) hs w ha hE (Nat.le_refl _) hE.size ts hna (by rw [hvl]; exact hwa) hnb (by rw [hvl]; exact hwb)
  (by rw [hm1]; exact hS) (Sg.start_validE hG hx) (Sg.inputs_differ g) hvl.symm (Sg.values_range hp)
 rw [e1, e2, e3, hm1, hm2, hd1, hvl] at this
 refine this.mono ?_
 rintro e w' ⟨Ad, cd, hs', he, h1, -, -, h2⟩
 exact ⟨Ad, cd, hs', he, h1, h2⟩


theorem Sep.add2 {B : Nat} {ts : List (Th B)} {W W' : World} (h : Sep ts W) (e : Ext W W') (t1 t2 : Th B) (h1 : t1.ok W') (h2 : t2.ok W') (n1 : ∀ b, t1.fp b → W.heap.size ≤ b) (n2 : ∀ b, t2.fp b → W.heap.size ≤ b) (hd : ∀ b, t1.fp b → ¬ t2.fp b) : Sep (t1 :: t2 :: ts) W' :=
 ⟨h1, fun s hs b hb => by
  rcases List.mem_cons.1 hs with rfl | hs
  ·exact hd b hb
  ·intro hb'
   have := n1 b hb
   have := (h.lt hs hb').2
   omega, Sep.add h e t2 h2 n2⟩
theorem perm_ge {α : Type _} (o b v r s1 s2 s3 g : α) : [o, b, v, r, s1, s2, s3, g].Perm [s1, s2, s3, v, r, b, o, g] := by
 have h1 : ([o, b, v, r] ++ s1 :: [s2, s3, g]).Perm (s1 :: ([o, b, v, r] ++ [s2, s3, g])) := List.perm_middle
 have h2 : ([o, b, v, r] ++ s2 :: [s3, g]).Perm (s2 :: ([o, b, v, r] ++ [s3, g])) := List.perm_middle
 have h3 : ([o, b, v, r] ++ s3 :: [g]).Perm (s3 :: ([o, b, v, r] ++ [g])) := List.perm_middle
 have h4 : ([o, b] ++ v :: [r, g]).Perm (v :: ([o, b] ++ [r, g])) := List.perm_middle
 have h5 : ([o, b] ++ r :: [g]).Perm (r :: ([o, b] ++ [g])) := List.perm_middle
 have h6 : ([o] ++ b :: [g]).Perm (b :: ([o] ++ [g])) := List.perm_middle
 exact h1.trans ((h2.trans ((h3.trans ((h4.trans ((h5.trans (h6.cons r)).cons v)).cons s3)).cons s2)).cons s1)
theorem perm_gw {α : Type _} (n1 n2 s1 s2 s3 v r : α) (l : List α) : (n1 :: n2 :: s1 :: s2 :: s3 :: v :: r :: l).Perm (v :: r :: n1 :: n2 :: s1 :: s2 :: s3 :: l) :=
 (List.perm_middle (l₁ := [n1, n2, s1, s2, s3]) (l₂ := r :: l) (a := v)).trans ((List.perm_middle (l₁ := [n1, n2, s1, s2, s3]) (l₂ := l) (a := r)).cons v)
theorem perm_gl {α : Type _} (d v r n1 n2 s1 s2 s3 : α) (l : List α) : (d :: v :: r :: n1 :: n2 :: s1 :: s2 :: s3 :: l).Perm (s1 :: s2 :: s3 :: d :: v :: r :: n1 :: n2 :: l) :=
 (List.perm_append_comm (l₁ := [d, v, r, n1, n2]) (l₂ := [s1, s2, s3])).append_right l
theorem Sep.pickG {B : Nat} {s1 s2 s3 d v r n1 n2 : Th B} {l : List (Th B)} {W : World} (h : Sep (s1 :: s2 :: s3 :: d :: v :: r :: n1 :: n2 :: l) W) : Sep (s1 :: s2 :: s3 :: v :: r :: l) W :=
 h.sub ((((((((List.Sublist.refl l).cons n2).cons n1).cons_cons r).cons_cons v).cons d).cons_cons s3 |>.cons_cons s2).cons_cons s1)
set_option maxRecDepth 100000 in
set_option maxHeartbeats 16000000 in
theorem s_eagerly (A Ac Al : Option Addr) (c cc cl : Nat) (g : Sg.Graph) (x : List Int) (l : List Sg.Act) (w : World) (h : RdN w A g) (hx : Rd w 1 Ac x.length (ints x)) (hl : Rd w 3 Al l.length (acts l)) (hfit : Sg.fitS g x l = true) :
  Calls Tryz.prog 70 #[.agg #[.slice A g.length c], .slice Ac x.length cc, .slice Al l.length cl] w fun e w' => ∃ A1 c1, e = .returned (.tuple #[.slice A1 (Sg.eagR g x l).2.2.1.length c1, .int .i64 (Sg.eagR g x l).2.2.2]) ∧ Own w' w.heap.size 61 2 A1 (Sg.eagR g x l).2.2.1.length c1 (shs (Sg.eagR g x l).2.2.1) ∧ Ext w w' := by
 have H := lh h
 have HX := lh hx
 have HL := lh hl
 have hgl := h.1
 have EB := lh ((Ext.rfl' w).al (.cells #[.slice A g.length c] 25))
 have b0 := Bx.new w #[.slice A g.length c] 25
 have SB := lh (Sep.iff.2 ⟨fun t ht => by rw [List.mem_singleton.1 ht]; exact ⟨b0, Nat.le_refl _⟩, by simp⟩ : Sep [Th.box w.heap.size w.heap.size [.slice A g.length c]] (World.alloc w (.cells #[.slice A g.length c] 25)))
 have qg := b0.cell (j := 0) rfl
 obtain ⟨hG, hC, hAc, hl30⟩ := Sg.fitS_parts hfit
 have hxl := Sg.length_validC hC
 have hg10 := validG_len hG
 have hx4 : x.length ≤ 1048576 := by omega
 have HC := lh hC
 have HXG := lh hxl
 have HL30 := lh hl30
 have HAC := lh hAc
 have HST := lh (fun w1 h1 h2 => s_startEager A Ac c cc g x w1 h1 h2 hG HC.out)
 have HIL := lh (Sg.inputs_len g)
 have HEF := lh (s_effects A c g)
 have HEL := lh (Sg.effs_len g (List.replicate g.length false))
 have HEM := lh (fun z (hz : z ∈ Sg.effs g (List.replicate g.length false)) => mem_effs_lt hz)
 have HIS := lh (inTo_succ g)
 have HLL := lh (inTo_len g)
 have HIA := lh (show inTo g g.length = Sg.inputsL g from rfl)
 have HI0 := lh (show (inTo g 0).length = 0 from rfl)
 clear h hx hl hxl hC hl30 hAc b0 hfit
 go_enter Tryz.func70, Tryz.ntmps70
 go_upto_region 1 with fail
 generalize World.alloc w (.cells #[.slice A g.length c] 25) = w0 at *
 have bqg := blt qg
 go_wp2_with fail
 refine (s_newSession w A Ac c cc g x _ (HX.out.ext EB.out) hgl hx4 EB.out _ SB.out).mono ?_
 rintro e w2 ⟨Bs, Ap, cp, As, rfl, hS2, he2⟩
 have q2 := he2.cellE qg
 have bq2 := blt q2
 have EX2 := lh (EB.out.tr he2)
 have S2 := lh hS2
 clear he2 hS2 qg bqg EB SB
 go_wp2_with fail
 refine (HST.out _ (H.out.ext EX2.out) (HX.out.ext EX2.out)).mono ?_
 rintro e w3 ⟨Av, cv, Ar, cr, hs, rfl, hv, hr, hd, he3⟩
 have S3 := lh (Sep.add2 S2.out he3 (Th.own w.heap.size 3 1 Av g.length cv (ints (Sg.mean g x))) (Th.ownL w.heap.size Ar cr (Sg.depsTo g (Sg.mean g x) g.length) hs) (hv.mono EX2.out.size) (OwnD.mono hr EX2.out.size) (fun b hb => (hv.lt hb).1) (fun b hb => (OwnD.lt hr hb).1) hd)
 have EX3 := lh (EX2.out.tr he3)
 have q3 := he3.cellE q2
 clear hv hr hd he3 S2 EX2 q2 bq2 HST
 go_upto_region 3 with fail
 have S4 := lh (Sep.add S3.out ((Ext.rfl' w3).al (.cells #[.slice Av g.length cv, .slice Ar g.length cr] 118)) (Th.box w.heap.size w3.heap.size [.slice Av g.length cv, .slice Ar g.length cr]) ⟨Bx.new w3 #[.slice Av g.length cv, .slice Ar g.length cr] 118, EX3.out.size⟩ (fun b e => by have e2 : b = w3.heap.size := e; omega))
 have EX4 := lh (EX3.out.al (.cells #[.slice Av g.length cv, .slice Ar g.length cr] 118))
 have q4 := ((Ext.rfl' w3).al (.cells #[.slice Av g.length cv, .slice Ar g.length cr] 118)).cellE q3
 clear S3 EX3 q3
 generalize World.alloc w3 (.cells #[.slice Av g.length cv, .slice Ar g.length cr] 118) = w4 at *
 generalize w3.heap.size = bs at *
 have bq4 := blt q4
 have p4 : w4.cell? ⟨bs, 0, none⟩ = some (.slice Av g.length cv) := ((Sep.get S4.out 0 rfl : Bx _ _ _ ∧ _).1).cell (j := 0) rfl
 have bp4 := blt p4
 have E0 := lh ((Ext.rfl' w4).dr)
 have SS := lh (Sep.ext S4.out E0.out)
 have RG := lh (H.out.ext EX4.out)
 have RV := lh ((Sep.get S4.out 1 rfl : Own _ _ _ _ _ _ _ _).rd)
 have HSL := lh (show (Sg.showL (Sg.effs g (List.replicate g.length false)) (Sg.mean g x)).length ≤ g.length * (0 + 1) from by rw [Sg.showL_len]; have := Sg.effs_len g (List.replicate g.length false); omega)
 have HE0 := lh (show Sg.eagR g x l = Sg.runS (Sg.eagFl g) (Sg.ses0 g x, (x, Sg.showL (Sg.effs g (List.replicate g.length false)) (Sg.mean g x), (g.length : Int) - ((Sg.inputsL g).length : Int))) l from rfl)
 obtain ⟨ef, hef⟩ : ∃ ef, ef = Sg.effs g (List.replicate g.length false) := ⟨_, rfl⟩
 rw [← hef] at HEL HEM HEF HSL HE0
 clear hef S4
 go_wp2_with fail
 refine zb 5 (fun W => W.cell? ⟨w.heap.size, 0, none⟩ = some (.slice A g.length c) ∧ W.cell? ⟨bs, 0, none⟩ = some (.slice Av g.length cv)) ?_ (fun hHeld => ?_)
 ·exact ⟨E0.out.cellE q4, E0.out.cellE p4⟩
 refine zy 0 ?_
 refine zy 2 ?_
 refine zy 3 ?_
 refine zr 1 rfl fun K hK => ?_
 go_simp
 refine (HEF.out _ (RG.out.ext E0.out)).mono ?_
 rintro e v1 ⟨A1, c1, rfl, hO1, he1⟩
 have O1 := lh hO1
 have E1 := lh (E0.out.tr he1)
 have SS := lh (Sep.ext SS.out he1)
 clear he1 hO1
 try go_wp2_with fail
 refine hK.out _ _ (fun _ => ⟨E1.out.cellE q4, E1.out.cellE p4⟩) (fun hh => ?_)
 have hHeld := hh (by decide)
 clear hK K hh
 try simp only [Act.put, pu]
 refine zr 4 rfl fun K hK => ?_
 go_simp
 refine (s_shows A1 Av c1 cv _ g.length ef (Sg.mean g x) _ rfl (by simp [Sg.mean]) O1.out.rd (RV.out.ext E1.out) HEM.out (Nat.le_trans HEL.out (by omega))).mono ?_
 rintro e v2 ⟨Ao, co, rfl, hO5, he2⟩
 have O1 := lh (O1.out.ext he2)
 have O5 := lh hO5
 have E2 := lh (E1.out.tr he2)
 have SS := lh (Sep.add SS.out he2 (Th.own w.heap.size 61 2 Ao (Sg.showL ef (Sg.mean g x)).length co (shs (Sg.showL ef (Sg.mean g x)))) (hO5.mono (by have := E1.out.size; have := EX4.out.size; (try simp only [World.size_drew] at *); omega)) (fun b e => (hO5.lt e).1))
 clear he2 hO5
 try go_wp2_with fail
 refine hK.out _ _ (fun _ => ⟨E2.out.cellE q4, E2.out.cellE p4⟩) (fun hh => ?_)
 have hHeld := hh (by decide)
 clear hK K hh
 try simp only [Act.put, pu]
 refine zr 5 rfl fun K hK => ?_
 go_simp
 refine hK.out _ _ (fun e => absurd rfl e) (fun hh => ?_)
 clear hK K hHeld hh
 try simp only [Act.put, pu]
 refine zn ?_
 have EX5 := lh (EX4.out.tr E2.out)
 clear q4 bq4 p4 bp4 E0 HEF RG RV EX4 E1 E2 O1 O5
 rename_i v3
 generalize Sg.showL ef (Sg.mean g x) = sh at *
 have S5 := lh (Sep.perm SS.out (perm_ge _ _ _ _ _ _ _ _))
 clear SS HEL HEM
 go_wp2_with fail
 go_loopw [11, 12] (fun s11 i wr => ∃ k : Nat, k ≤ g.length ∧ i = .int .i64 k ∧ s11 = .int .i64 ((k : Int) - ((inTo g k).length : Int)) ∧ Hid (Ext w wr) ∧ Hid (Sep (sesT Bs A c g (Sg.ses0 g x) x.length g.length Ap cp As g.length 0 ++ [Th.own w.heap.size 3 1 Av g.length cv (ints (Sg.mean g x)), Th.ownL w.heap.size Ar cr (Sg.depsTo g (Sg.mean g x) g.length) hs,
  Th.box w.heap.size bs [.slice Av g.length cv, .slice Ar g.length cr], Th.own w.heap.size 61 2 Ao sh.length co (shs sh), Th.box w.heap.size w.heap.size [.slice A g.length c]]) wr)) (fun _ i _ => g.length - (intOf i).toNat)
 case atStart => exact ⟨0, Nat.zero_le _, rfl, by rw [HI0.out]; rfl, EX5, S5⟩
 case round =>
  clear S5 EX5
  obtain ⟨k, hk, rfl, rfl, hX, hS⟩ := hrel
  have lg : wr.cell? ⟨w.heap.size, 0, none⟩ = some (.slice A g.length c) := ((Sep.get hS.out 7 rfl : Bx _ _ _ ∧ _).1).cell (j := 0) rfl
  have bg := blt lg
  have hll := HLL.out k
  by_cases hlt : k < g.length
  ·obtain ⟨⟨nk, nf⟩, b, oo, Aq, cq, hn, rfl, hkc, hsc, hf, hfl⟩ := (H.out.ext hX.out).at_ hlt
   dsimp only at *
   have HK := lh (show Sg.kindAt g (k : Int) = nk by unfold Sg.kindAt; simp [hn])
   have bk := blt hkc
   have hkx : (k : Int) < (g.length : Int) := by omega
   clear hn hsc hf hfl
   have hs9 := HIS.out k
   rw [HK.out] at hs9
   by_cases hz : nk = 0
   ·subst hz
    rw [if_pos rfl] at hs9
    have Hs := lh (show (inTo g (k + 1)).length = (inTo g k).length + 1 by rw [hs9]; simp)
    clear hs9
    go_wp2
    go_roundw
    case rel => exact ⟨k + 1, by omega, by go_num, by rw [Hs.out]; simp only [Value.int.injEq, true_and]; omega, hX, hS⟩
    case measure => simp [intOf]; omega
   ·rw [if_neg hz] at hs9
    have Hs := lh hs9
    have z1 : (nk != 0) = true := by simp [hz]
    have iw : IntKind.i64.wrap ((k : Int) - ((inTo g k).length : Int) + 1) = (k : Int) - ((inTo g k).length : Int) + 1 := IntWalk.i64_in _ (by omega)
    clear hs9 hz
    go_wp2
    go_roundw
    case rel => exact ⟨k + 1, by omega, by go_num, by rw [Hs.out]; simp only [Value.int.injEq, true_and]; omega, hX, hS⟩
    case measure => simp [intOf]; omega
  obtain rfl : k = g.length := by omega
  have S6 := lh hS.out
  have EX6 := lh hX.out
  rw [HIA.out]
  have hil := HIL.out
  clear hll hS hX HIS HLL HIA HI0
  obtain ⟨wz, rfl⟩ : ∃ wz : World, wz = wr := ⟨_, rfl⟩
  obtain ⟨Q, hQ⟩ : ∃ Q : Nat → Sg.Ses × List Int × List Sg.Show × Int, ∀ k, Q k = Sg.runS (Sg.eagFl g) (Sg.ses0 g x, (x, sh, (g.length : Int) - ((Sg.inputsL g).length : Int))) (l.take k) := ⟨_, fun _ => rfl⟩
  have hq : ∀ k y, l[k]? = some y → Q (k + 1) = Sg.stepR (Sg.eagFl g) (Q k) y := fun k y hy => by rw [hQ, hQ, take_snoc l k hy, Sg.runS_snoc]
  have hok : ∀ k, k ≤ l.length → Sg.SesOk g (Q k).1 k := fun k hk => by rw [hQ]; exact Sg.runS_ok _ (Sg.ses0_ok HC.out) l HAC.out k hk
  have hq0 : Q 0 = (Sg.ses0 g x, (x, sh, (g.length : Int) - ((Sg.inputsL g).length : Int))) := by rw [hQ]; rfl
  have hqe : Sg.eagR g x l = Q l.length := by rw [hQ, List.take_length, HE0.out]
  have HQ := lh hq
  have HOK := lh hok
  have HQ0 := lh hq0
  have HQE := lh hqe
  have HBL := HL.out.big
  clear hQ hq hok hq0 hqe HE0
  go_wp2_with fail
  clear lg bg
  go_loopw [10, 11, 13] (fun s10 s11 s13 wr => ∃ (k : Nat) (hs : List (Option Addr × Nat)) (Ao : Option Addr) (co fl : Nat), k ≤ l.length ∧ s13 = .int .i64 k ∧ s10 = .slice Ao (Q k).2.2.1.length co ∧ s11 = .int .i64 (Q k).2.2.2 ∧ fl ≤ k ∧ Hid ((Q k).2.2.1.length ≤ g.length * (k + 1) ∧ 0 ≤ (Q k).2.2.2 ∧ (Q k).2.2.2 ≤ ((g.length * (k + 1) : Nat) : Int)) ∧ Hid (Sg.validC g (Q k).2.1 = true) ∧ Hid (Ext w wr) ∧
   Hid (Sep (sesT Bs A c g (Q k).1 x.length g.length Ap cp As g.length fl ++ [Th.own w.heap.size 3 1 Av g.length cv (ints (Sg.mean g (Q k).2.1)), Th.ownL w.heap.size Ar cr (Sg.depsTo g (Sg.mean g (Q k).2.1) g.length) hs, Th.box w.heap.size bs [.slice Av g.length cv, .slice Ar g.length cr], Th.own w.heap.size 61 2 Ao (Q k).2.2.1.length co (shs (Q k).2.2.1), Th.box w.heap.size w.heap.size [.slice A g.length c]]) wr)) (fun _ _ i _ => l.length - (intOf i).toNat)
  case atStart => exact ⟨0, hs, Ao, co, 0, Nat.zero_le _, rfl, by rw [HQ0.out], by rw [HQ0.out], Nat.le_refl _, lh (by rw [HQ0.out]; exact ⟨HSL.out, by show 0 ≤ (g.length : Int) - _; omega, by show (g.length : Int) - _ ≤ _; omega⟩), lh (by rw [HQ0.out]; exact HC.out), EX6, lh (by rw [HQ0.out]; exact S6.out)⟩
  case round =>
   clear S6 EX6 HQ0 HSL
   obtain ⟨k, hs, Ao, co, fl, hk, rfl, rfl, rfl, hfl, hLQ, hVQ, hX, hSS⟩ := hrel
   have hko := HOK.out k hk
   have Hko := lh hko
   have HOK1 := lh (HOK.out (k + 1))
   clear hko
   have hfl30 : fl ≤ 30 := by have := HL30.out; omega
   by_cases hlt : k < l.length
   ·obtain ⟨bo, oo, ⟨ak, an, av⟩, rfl, ha, hc0, hc1, hc2⟩ := (HL.out.ext hX.out).atA hlt
    dsimp only at *
    have HQ1 := lh (HQ.out k _ ha)
    have HAO := lh (HAC.out _ (List.mem_of_getElem? ha))
    have HK1 := lh (HOK1.out hlt)
    have bc0 := blt hc0
    have bc1 := blt hc1
    have bc2 := blt hc2
    clear ha HOK1
    generalize Q k = q at *
    obtain ⟨⟨o, p, s⟩, y, out, runs⟩ := q
    dsimp only at *
    have hpn : p.length = x.length := (Sg.length_validC Hko.out.c).trans HXG.out.symm
    have hsn : s.length = g.length := Hko.out.s
    have ho30 : o ≤ 30 := by have h9 : o ≤ k := Hko.out.o; have := HL30.out; omega
    have HST := lh (s_stepOf w Bs A Ap As c cp g.length x.length g.length fl g o p s ak an av [Th.own w.heap.size 3 1 Av g.length cv (ints (Sg.mean g y)), Th.ownL w.heap.size Ar cr (Sg.depsTo g (Sg.mean g y) g.length) hs, Th.box w.heap.size bs [.slice Av g.length cv, .slice Ar g.length cr], Th.own w.heap.size 61 2 Ao out.length co (shs out), Th.box w.heap.size w.heap.size [.slice A g.length c]] wr hX.out hSS.out hpn hsn HXG.out rfl hgl ho30 hfl30 HAO.out)
    clear hpn hsn
    rcases hst : Sg.stepS ⟨o, p, s⟩ ⟨ak, an, av⟩ with ⟨⟨o', p', s'⟩, due⟩
    have HQ2 := HQ1.out
    unfold Sg.stepR at HQ2
    rw [hst] at HQ2 HST
    dsimp only at HQ2
    clear hst
    have gb := (((Sep.get hSS.out 7 rfl : Bx _ _ _ ∧ _).1).cell (j := 0) rfl : wr.cell? ⟨w.heap.size, 0, none⟩ = some (.slice A g.length c))
    have bgb := blt gb
    cases due
    ·have hq2 : Q (k + 1) = (⟨o', p', s'⟩, (y, out, runs)) := HQ2
     have HQ3 := lh hq2
     clear HQ2 hq2
     go_wp2_with fail
     refine HST.out.mono ?_
     rintro e w5 ⟨fl', hfl', rfl, hE5, hS5⟩
     have HE5 := lh hE5
     have HS5 := lh hS5
     clear hE5 hS5 HST hSS hX gb bgb
     have HL2 := lh (show (Q (k + 1)).2.2.1.length ≤ g.length * (k + 1 + 1) ∧ 0 ≤ (Q (k + 1)).2.2.2 ∧ (Q (k + 1)).2.2.2 ≤ ((g.length * (k + 1 + 1) : Nat) : Int) by
      rw [HQ3.out]
      obtain ⟨h1, h2, h3⟩ := hLQ.out
      show out.length ≤ _ ∧ 0 ≤ runs ∧ runs ≤ _
      rw [Nat.mul_add g.length (k + 1) 1]
      exact ⟨by omega, h2, by omega⟩)
     go_wp2
     go_roundw
     case rel => exact ⟨k + 1, hs, Ao, co, fl', by omega, by go_num, by rw [HQ3.out], by rw [HQ3.out], by omega, HL2, lh (by rw [HQ3.out]; exact hVQ.out), HE5, lh (by rw [HQ3.out]; exact HS5.out)⟩
     case measure => simp [intOf]; omega
    ·have hq2 : Q (k + 1) = (⟨o', p', s'⟩, Sg.eagFl g (y, out, runs) p' s') := HQ2
     have HQ3 := lh hq2
     have hk1 := HK1.out
     rw [hq2] at hk1
     have hp' : p'.length = x.length := (Sg.length_validC hk1.c).trans HXG.out.symm
     have hs' : s'.length = g.length := hk1.s
     have HPC := lh hk1.c
     have HSN := lh hs'
     have HEL := lh (Sg.effs_len g s')
     have HCM := lh (fun z (hz : z ∈ Sg.common (Sg.effs g s') (Sg.mustOr g y p')) => mem_common_lt hz)
     have HCL := lh (common_len (Sg.effs g s') (Sg.mustOr g y p'))
     have hb310 : g.length * (k + 1) ≤ 310 := Nat.le_trans (Nat.mul_le_mul hg10 (show k + 1 ≤ 31 by have := HL30.out; omega)) (by omega)
     have HOL := lh (show out.length ≤ 40000 by have := hLQ.out.1; omega)
     have hr0 : 0 ≤ runs := hLQ.out.2.1
     have hr31 : runs ≤ 310 := by have := hLQ.out.2.2; omega
     have hml := Sg.mustOr_len g y p'
     have HWN := lh (fun (An Aw : Option Addr) (cn cw : Nat) (W : World) (hE : Ext w W) ts h1 h2 h3 h4 h5 => s_writeN w A Av Ar An Aw c cv cr cn cw g y p' hs W H.out hE ts h1 h2 h3 h4 h5 hG hVQ.out HPC.out)
     clear HQ2 hq2 hk1 hp' hs' hb310
     go_wp2_with fail
     refine HST.out.mono ?_
     rintro e w5 ⟨fl', hfl', rfl, hE5, hS5⟩
     have HE5 := lh hE5
     have HS5 := lh hS5
     clear hE5 hS5 HST hSS hX gb bgb
     have E0 := lh ((Ext.rfl' w5).dr)
     have gb := (((Sep.get HS5.out 7 rfl : Bx _ _ _ ∧ _).1).cell (j := 0) rfl : w5.cell? ⟨w.heap.size, 0, none⟩ = some (.slice A g.length c))
     have pb := (((Sep.get HS5.out 0 rfl : Bx _ _ _ ∧ _).1).cell (j := 2) rfl : w5.cell? ⟨Bs, 2, none⟩ = some (.slice Ap x.length cp))
     have bgb := blt gb
     have bpb := blt pb
     have RG := lh (H.out.ext HE5.out)
     have RP := lh ((Sep.get HS5.out 1 rfl : Own _ _ _ _ _ _ _ _).rd)
     have HTW := lh (fun w1 h1 h2 => s_toWrite A Ap c cp x.length g p' w1 h1 h2 HXG.out)
     have SS := lh (Sep.ext HS5.out E0.out)
     go_wp2_with fail
     refine zb 10 (fun W => W.cell? ⟨w.heap.size, 0, none⟩ = some (.slice A g.length c) ∧ W.cell? ⟨Bs, 2, none⟩ = some (.slice Ap x.length cp)) ?_ (fun hHeld => ?_)
     ·exact ⟨E0.out.cellE gb, E0.out.cellE pb⟩
     refine zy 0 ?_
     refine zy 1 ?_
     refine zy 2 ?_
     refine zy 3 ?_
     refine zy 4 ?_
     refine zr 5 rfl fun K hK => ?_
     go_simp
     refine (HTW.out _ (RG.out.ext E0.out) (RP.out.ext E0.out)).mono ?_
     rintro e v1 ⟨An, cn, Aw, cw, rfl, hO1, hO2, hd12, he1⟩
     have SS := lh (Sep.add2 SS.out he1 (Th.own w.heap.size 3 1 An (Sg.inputsL g).length cn (ints (Sg.inputsL g))) (Th.own w.heap.size 3 1 Aw (Sg.inputsL g).length cw (ints (Sg.valuesL g p'))) (hO1.mono (by have := HE5.out.size; simpa using this)) (hO2.mono (by have := HE5.out.size; simpa using this)) (fun b hb => (hO1.lt hb).1) (fun b hb => (hO2.lt hb).1) hd12)
     have E1 := lh (E0.out.tr he1)
     clear hO1 hO2 hd12 he1
     try go_wp2_with fail
     refine hK.out _ _ (fun _ => ⟨E1.out.cellE gb, E1.out.cellE pb⟩) (fun hh => ?_)
     have hHeld := hh (by decide)
     clear hK K hh
     try simp only [Act.put, pu]
     refine zy 6 ?_
     refine zy 7 ?_
     refine zy 8 ?_
     refine zy 9 ?_
     refine zr 10 rfl fun K hK => ?_
     go_simp
     refine hK.out _ _ (fun e => absurd rfl e) (fun hh => ?_)
     clear hK K hHeld hh
     try simp only [Act.put, pu]
     refine zn ?_
     have EX8 := lh (HE5.out.tr E1.out)
     have S8 := lh (SS.out.perm (perm_gw _ _ _ _ _ _ _ _))
     have g8 := E1.out.cellE gb
     have bg8 := blt g8
     have b8 := (((Sep.get S8.out 7 rfl : Bx _ _ _ ∧ _).1).cell (j := 0) rfl : v1.cell? ⟨bs, 0, none⟩ = some (.slice Av g.length cv))
     have c8 := (((Sep.get S8.out 7 rfl : Bx _ _ _ ∧ _).1).cell (j := 1) rfl : v1.cell? ⟨bs, 1, none⟩ = some (.slice Ar g.length cr))
     have bb8 := blt b8
     have cb8 := blt c8
     clear SS HS5 gb pb bgb bpb E0 E1 RG RP HTW
     go_wp2_with fail
     refine (HWN.out An Aw cn cw v1 EX8.out _ (fun W _ hs => (Sep.get hs 0 rfl : Own _ _ _ _ _ _ _ _).rd) (fun W _ hs => (Sep.get hs 1 rfl : Own _ _ _ _ _ _ _ _).rd) (fun _ b hb => .inr ⟨_, List.mem_of_getElem? (i := 0) rfl, hb⟩) (fun _ b hb => .inr ⟨_, List.mem_of_getElem? (i := 1) rfl, hb⟩) S8.out).mono ?_
     rintro e w9 ⟨Ad, cd, hs9, rfl, hS9, hE9⟩
     have S9 := lh (hS9.perm (perm_gl _ _ _ _ _ _ _ _ _))
     have EX9 := lh hE9
     clear hS9 hE9 EX8 S8 g8 bg8 b8 c8 bb8 cb8
     have y9 : Bx w9 bs [.slice Av g.length cv, .slice Ar g.length cr] := (Sep.get S9.out 8 rfl : Bx _ _ _ ∧ _).1
     have hbs : w.heap.size ≤ bs := (Sep.get S9.out 8 rfl : Bx _ _ _ ∧ _).2
     have x90 := y9.cell (j := 0) rfl
     have x91 := y9.cell (j := 1) rfl
     have f90 := y9.free 0
     have f91 := y9.free 1
     have l9 := y9.lt
     have Y9 := lh y9
     have iw : IntKind.i64.wrap (runs + ((Sg.mustOr g y p').length : Int)) = runs + ((Sg.mustOr g y p').length : Int) := IntWalk.i64_in _ (by omega)
     clear y9
     go_upto_region 18 with fail
     have BX9 := lh (show Bx ((w9.setCell ⟨bs, 0, none⟩ (.slice Av g.length cv)).setCell ⟨bs, 1, none⟩ (.slice Ar g.length cr)) bs [.slice Av g.length cv, .slice Ar g.length cr] from (Y9.out.set 0 _).set 1 _)
     have S10 := lh (Sep.ext (Sep.st (Sep.st S9.out 8 rfl ⟨bs, 0, none⟩ (.slice Av g.length cv) rfl (Th.box w.heap.size bs [.slice Av g.length cv, .slice Ar g.length cr]) ⟨Y9.out.set 0 _, hbs⟩ (fun _ e => e)) 8 rfl ⟨bs, 1, none⟩ (.slice Ar g.length cr) rfl (Th.box w.heap.size bs [.slice Av g.length cv, .slice Ar g.length cr]) ⟨BX9.out, hbs⟩ (fun _ e => e)) ((Ext.rfl' _).al (.cells #[.slice Av g.length cv, .slice Ar g.length cr] 118)))
     have EX10 := lh (((EX9.out.set (p := ⟨bs, 0, none⟩) hbs (.slice Av g.length cv)).set (p := ⟨bs, 1, none⟩) hbs (.slice Ar g.length cr)).al (.cells #[.slice Av g.length cv, .slice Ar g.length cr] 118))
     clear BX9 Y9 x90 x91 f90 f91 l9 S9 EX9
     generalize World.alloc ((w9.setCell ⟨bs, 0, none⟩ (.slice Av g.length cv)).setCell ⟨bs, 1, none⟩ (.slice Ar g.length cr)) (.cells #[.slice Av g.length cv, .slice Ar g.length cr] 118) = w10 at *
     have b10 : w10.cell? ⟨bs, 0, none⟩ = some (.slice Av g.length cv) := ((Sep.get S10.out 8 rfl : Bx _ _ _ ∧ _).1).cell (j := 0) rfl
     have bb10 := blt b10
     have E0 := lh ((Ext.rfl' w10).dr)
     have SS := lh (Sep.ext S10.out E0.out)
     have RV := lh ((Sep.get S10.out 4 rfl : Own _ _ _ _ _ _ _ _).rd)
     have RD := lh ((Sep.get S10.out 3 rfl : Own _ _ _ _ _ _ _ _).rd)
     clear S10
     refine zb 9 (fun W => W.cell? ⟨bs, 0, none⟩ = some (.slice Av g.length cv)) ?_ (fun hHeld => ?_)
     ·exact E0.out.cellE b10
     refine zy 0 ?_
     refine zy 1 ?_
     refine zy 3 ?_
     refine zy 5 ?_
     refine zy 6 ?_
     refine zr 2 rfl fun K hK => ?_
     go_simp
     refine (s_live w Bs A Ap As c cp g.length x.length g.length fl' g o' p' s' _ _ H.out (EX10.out.tr E0.out) SS.out HSN.out rfl).mono ?_
     rintro e v1 ⟨A1, c1, rfl, hO1, he1⟩
     have O1 := lh hO1
     have E1 := lh (E0.out.tr he1)
     have SS := lh (Sep.ext SS.out he1)
     clear he1 hO1
     try go_wp2_with fail
     refine hK.out _ _ (fun _ => E1.out.cellE b10) (fun hh => ?_)
     have hHeld := hh (by decide)
     clear hK K hh
     try simp only [Act.put, pu]
     refine zr 4 rfl fun K hK => ?_
     go_simp
     refine (s_common A1 Ad c1 cd (Sg.mustOr g y p').length (Sg.effs g s') (Sg.mustOr g y p') _ O1.out.rd (RD.out.ext E1.out) (Nat.le_trans HEL.out (by omega))).mono ?_
     rintro e v2 ⟨A3, c3, rfl, hO3, he2⟩
     have O1 := lh (O1.out.ext he2)
     have O3 := lh hO3
     have E2 := lh (E1.out.tr he2)
     have SS := lh (Sep.ext SS.out he2)
     clear he2 hO3
     try go_wp2_with fail
     refine hK.out _ _ (fun _ => E2.out.cellE b10) (fun hh => ?_)
     have hHeld := hh (by decide)
     clear hK K hh
     try simp only [Act.put, pu]
     refine zr 7 rfl fun K hK => ?_
     go_simp
     refine (s_shows A3 Av c3 cv _ g.length (Sg.common (Sg.effs g s') (Sg.mustOr g y p')) (Sg.mean g p') _ rfl (by simp [Sg.mean]) O3.out.rd (RV.out.ext E2.out) HCM.out (Nat.le_trans HCL.out (Nat.le_trans HEL.out (by omega)))).mono ?_
     rintro e v3 ⟨A5, c5, rfl, hO5, he3⟩
     have O1 := lh (O1.out.ext he3)
     have O3 := lh (O3.out.ext he3)
     have O5 := lh hO5
     have E3 := lh (E2.out.tr he3)
     have SS := lh (Sep.ext SS.out he3)
     clear he3 hO5
     have L5 := lh (show (Sg.showL (Sg.common (Sg.effs g s') (Sg.mustOr g y p')) (Sg.mean g p')).length ≤ 1000 from by rw [Sg.showL_len]; exact Nat.le_trans HCL.out (Nat.le_trans HEL.out (by omega)))
     have HFL := lh (show Sg.eagFl g (y, out, runs) p' s' = (p', out ++ Sg.showL (Sg.common (Sg.effs g s') (Sg.mustOr g y p')) (Sg.mean g p'), runs + ((Sg.mustOr g y p').length : Int)) from rfl)
     generalize Sg.showL (Sg.common (Sg.effs g s') (Sg.mustOr g y p')) (Sg.mean g p') = sh5 at *
     try go_wp2_with fail
     refine hK.out _ _ (fun _ => E3.out.cellE b10) (fun hh => ?_)
     have hHeld := hh (by decide)
     clear hK K hh
     try simp only [Act.put, pu]
     refine zr 8 rfl fun K hK => ?_
     have HOW : Own v3 w.heap.size 61 2 Ao out.length co (shs out) := Sep.get SS.out 9 rfl
     refine held_appR rfl rfl eiShow rfl HOW rfl O5.out.rd (one_shs sh5) (by have := HOL.out; have := L5.out; unfold maxLen; omega) (by have := HOL.out; have := L5.out; omega) (by have := E3.out.size; have := EX10.out.size; (try simp only [World.size_drew] at *); omega) ?_
     intro A6 c6 v4 ho6 hg6 hat6
     have SS := lh (Sep.app SS.out 9 rfl (n' := out.length + sh5.length) (xs' := shs out ++ shs sh5) ho6 hg6 (hat6.imp id fun e => ⟨_, e, Nat.le_refl _⟩))
     have EX49 := lh ((EX10.out.tr E3.out).gr hg6 (fun z hz => (HOW.lt hz).1))
     have yb := (((Sep.get SS.out 8 rfl : Bx _ _ _ ∧ _).1).cell (j := 0) rfl : v4.cell? ⟨bs, 0, none⟩ = some (.slice Av g.length cv))
     clear ho6 hg6 hat6 HOW
     try simp only [pg]
     refine hK.out _ _ (fun _ => yb) (fun hh => ?_)
     have hHeld := hh (by decide)
     clear hK K hh
     try simp only [Act.put, pu]
     refine zr 9 rfl fun K hK => ?_
     go_simp
     refine hK.out _ _ (fun e => absurd rfl e) (fun hh => ?_)
     clear hK K hHeld hh
     try simp only [Act.put, pu]
     refine zn ?_
     rw [HFL.out] at HQ3
     have HL2 := lh (show (Q (k + 1)).2.2.1.length ≤ g.length * (k + 1 + 1) ∧ 0 ≤ (Q (k + 1)).2.2.2 ∧ (Q (k + 1)).2.2.2 ≤ ((g.length * (k + 1 + 1) : Nat) : Int) from by rw [HQ3.out, ← HFL.out]; exact Sg.eagFl_small (q := (y, out, runs)) hLQ.out.1 hLQ.out.2.1 hLQ.out.2.2 p' s')
     have S11 := lh (Sep.pickG SS.out)
     clear SS yb b10 bb10
     go_wp2
     go_roundw
     case rel => exact ⟨k + 1, hs9, A6, c6, fl', by omega, by go_num, by rw [HQ3.out]; simp, by rw [HQ3.out], by omega, HL2, lh (by rw [HQ3.out]; exact HPC.out), EX49, lh (by rw [HQ3.out]; show Sep (sesT Bs A c g ⟨o', p', s'⟩ x.length g.length Ap cp As g.length fl' ++ [Th.own w.heap.size 3 1 Av g.length cv (ints (Sg.mean g p')), Th.ownL w.heap.size Ar cr (Sg.depsTo g (Sg.mean g p') g.length) hs9, Th.box w.heap.size bs [.slice Av g.length cv, .slice Ar g.length cr], Th.own w.heap.size 61 2 A6 (out ++ sh5).length c6 (shs (out ++ sh5)), Th.box w.heap.size w.heap.size [.slice A g.length c]]) _; rw [List.length_append, ← shs_app]; exact S11.out)⟩
     case measure => simp [intOf]; omega
   ·obtain rfl : k = l.length := by omega
    go_wp2
    go_ret2
    rw [HQE.out]
    exact ⟨Ao, co, rfl, Sep.get hSS.out 6 rfl, hX.out⟩

set_option maxRecDepth 100000 in
set_option maxHeartbeats 4000000 in
theorem s_EagerSession (A Ac Al : Option Addr) (c cc cl : Nat) (g : Sg.Graph) (x : List Int) (l : List Sg.Act) (w : World) (h : RdN w A g) (hx : Rd w 1 Ac x.length (ints x)) (hl : Rd w 3 Al l.length (acts l)) :
  Calls Tryz.prog 20 #[.agg #[.slice A g.length c], .slice Ac x.length cc, .slice Al l.length cl] w fun e w' => ∃ A1 c1, e = .returned (.slice A1 (Sg.eagerS g x l).length c1) ∧ Own w' w.heap.size 61 2 A1 (Sg.eagerS g x l).length c1 (shs (Sg.eagerS g x l)) ∧ Ext w w' := by
 have H := lh h
 have HX := lh hx
 have HL := lh hl
 have q0 : World.cell? (World.alloc w (.cells #[.slice A g.length c] 25)) ⟨w.heap.size, 0, none⟩ = some (.slice A g.length c) := by simp [go_sem]
 have Q0 := lh q0
 have EB := lh ((Ext.rfl' w).al (.cells #[.slice A g.length c] 25))
 have HF := lh (s_validSession A Ac Al c cc cl g x l)
 clear h hx hl q0
 go_enter Tryz.func20, Tryz.ntmps20
 cases hfit : Sg.fitS g x l
 ·have HFT := lh hfit
  have HE : Hid (Sg.eagerS g x l = []) := lh (by unfold Sg.eagerS; rw [hfit]; rfl)
  clear hfit
  rw [HE.out]
  go_wp2_with fail
  refine (HF.out _ (H.out.ext EB.out) (HX.out.ext EB.out) (HL.out.ext EB.out)).mono ?_
  rintro e w1 ⟨rfl, he1⟩
  rw [HFT.out]
  go_wp2
  go_ret
  exact ⟨none, 0, rfl, Own.nil _ _ _ _, EB.out.tr he1⟩
 have HFT := lh hfit
 have HE := lh (Sg.eag_shows hfit)
 rw [← HE.out]
 clear hfit
 go_wp2_with fail
 refine (HF.out _ (H.out.ext EB.out) (HX.out.ext EB.out) (HL.out.ext EB.out)).mono ?_
 rintro e w1 ⟨rfl, he1⟩
 rw [HFT.out]
 have q1 := he1.cellE Q0.out
 have EX1 := lh (EB.out.tr he1)
 have bq1 := blt q1
 clear he1 Q0
 go_wp2_with fail
 refine (s_eagerly A Ac Al c cc cl g x l _ (H.out.ext EX1.out) (HX.out.ext EX1.out) (HL.out.ext EX1.out) HFT.out).mono ?_
 rintro e w2 ⟨A1, c1, rfl, hO, he2⟩
 have O := lh (hO.mono (EX1.out.size))
 have E2 := lh (EX1.out.tr he2)
 clear hO he2
 go_wp2
 go_ret
 exact ⟨A1, c1, rfl, O.out, E2.out⟩
end Go.Proofs.YtaklkcjlihdlkaaGreat
