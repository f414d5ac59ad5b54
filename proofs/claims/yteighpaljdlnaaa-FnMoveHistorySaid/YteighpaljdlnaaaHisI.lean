/- The program's histories: validity, moves: contracts. Conditions: none. -/
import Derived.Test.YteighpaljdlnaaaTy
import Derived.Test.YteighpaljdlnaaaHisP
import Derived.Test.YteighpaljdlnaaaCopyA
import Derived.Test.YteighpaljdlnaaaImplPX
import Derived.Test.YteighpaljdlnaaaMeanAll
import Derived.IntWalk
namespace Go.Proofs.Yteighpaljdlnaaa
open Go.RowKit

/-- a function value that answers of a list of numbers, and turns nothing; inv: what it leans on -/
structure PrdL (P : Program) (fid : Nat) (caps : List Value) (inv : World → Prop) (p : List Int → Bool) : Prop where
 ent : ∀ (args : Array Value) (w : World), (callFunc fid args).run P w = .ok (.enter fid args) w
 call : ∀ (w : World) (Al : Option Addr) (l : List Int) (cl : Nat), inv w → Rd w 1 Al l.length (ints l) → Calls P fid ((.slice Al l.length cl :: caps).toArray) w fun e w' => e = .returned (.bool (p l)) ∧ Ext w w'
 ext : ∀ (w w' : World), inv w → Ext w w' → inv w'
def findFromL (p : List Int → Bool) : Nat → List (List Int) → Int
 | _, [] => -1
 | k, x :: l => if p x then k else findFromL p (k + 1) l
theorem findFromL_neg (p : List Int → Bool) (l : List (List Int)) (k : Nat) : (0 ≤ findFromL p k l) ↔ l.any p = true := by
 induction l generalizing k with
 | nil => simp [findFromL]
 | cons x l ih =>
  simp only [findFromL, List.any_cons]
  by_cases h : p x = true
  ·rw [if_pos h, h]; simp
  ·rw [if_neg h, ih]; simp [h]

set_option maxHeartbeats 1000000 in
theorem i_IndexFuncL {fid : Nat} {caps : List Value} {inv : World → Prop} {p : List Int → Bool} (C : PrdL Try.prog fid caps inv p) (A : Option Addr) (c : Nat) (r : List (List Int)) (w : World) (h : RdL w A r) (hi : inv w) :
  Calls Try.prog 87 #[.slice A r.length c, .func (.func fid) #[] caps.toArray] w fun e w' => e = .returned (.int .i64 (findFromL p 0 r)) ∧ Ext w w' := by
 have hm := h.1
 have hent := C.ent
 have HC := lh C
 have HI := lh hi
 clear C hi
 go_enter Try.func87, Try.ntmps87
 go_wp2
 go_loopw [8] (fun i wr => ∃ k : Nat, k ≤ r.length ∧ i = .int .i64 k ∧ Ext w wr ∧ findFromL p k (r.drop k) = findFromL p 0 r) (fun i _ => r.length - (intOf i).toNat)
 case atStart => exact ⟨0, Nat.zero_le _, rfl, Ext.rfl' _, rfl⟩
 case round =>
  obtain ⟨k, hk, rfl, he, hpl⟩ := hrel
  by_cases hlt : k < r.length
  ·obtain ⟨l, b, o, Al, cl, hl, rfl, hc, hr, hll⟩ := (h.ext he).at_ hlt
   rw [drop_cons r k hl, findFromL] at hpl
   have H := lh hpl
   have Hr := lh hr
   have hbc := blt hc
   clear hpl hl hr
   cases hp : p l
   ·have Hp := lh hp
    clear hp
    go_wp2_with fail
    refine (HC.out.call _ Al l cl (HC.out.ext _ _ HI.out he) Hr.out).mono ?_
    rw [Hp.out]
    rintro e w1 ⟨rfl, he1⟩
    go_wp2
    go_roundw
    case rel => exact ⟨k + 1, by omega, by go_num, he.tr he1, by rw [← H.out, if_neg (by rw [Hp.out]; simp)]⟩
    case measure => simp [intOf]; omega
   ·have Hp := lh hp
    clear hp
    go_wp2_with fail
    refine (HC.out.call _ Al l cl (HC.out.ext _ _ HI.out he) Hr.out).mono ?_
    rw [Hp.out]
    rintro e w1 ⟨rfl, he1⟩
    go_wp2
    go_ret
    exact ⟨ret_int (by rw [← H.out, if_pos Hp.out]), he.tr he1⟩
  ·have H := lh hpl
   clear hpl
   go_wp2
   go_ret
   exact ⟨ret_int (by rw [← H.out, List.drop_eq_nil_of_le (by omega)]; rfl), he⟩

theorem i_ContainsFuncL {fid : Nat} {caps : List Value} {inv : World → Prop} {p : List Int → Bool} (C : PrdL Try.prog fid caps inv p) (A : Option Addr) (c : Nat) (r : List (List Int)) (w : World) (h : RdL w A r) (hi : inv w) :
  Calls Try.prog 68 #[.slice A r.length c, .func (.func fid) #[] caps.toArray] w fun e w' => e = .returned (.bool (r.any p)) ∧ Ext w w' := by
 have Hc := lh (i_IndexFuncL C A c r w h hi)
 have Hn := lh (findFromL_neg p r 0)
 clear C hi
 go_enter Try.func68, Try.ntmps68
 go_wp2_with (go_at_call 87; refine Hc.out.mono ?_; rintro e w1 ⟨rfl, he1⟩)
 go_ret
 refine ⟨ret_bool ?_, he1⟩
 rw [Bool.eq_iff_iff, ← Hn.out]
 simp

theorem prd_validHistory1 (B : Nat) (A : Option Addr) (c : Nat) (g : Sg.Graph) : PrdL Try.prog 69 [.pointer (some ⟨B, 0, none⟩)] (fun w => w.cell? ⟨B, 0, none⟩ = some (.slice A g.length c) ∧ RdN w A g) (fun l => !(Sg.validG g && Sg.validC g l)) where
 ent := ent_of Try.func69 rfl (by kernel_rfl)
 call := fun w Al l cl h hl => by
  obtain ⟨h1, h2⟩ := h
  have HV := lh (i_ValidCells A Al c cl g l w h2 hl)
  clear h2 hl
  go_enter Try.func69, Try.ntmps69
  go_wp2_with (go_at_call 9; refine HV.out.mono ?_; rintro e w1 ⟨rfl, he1⟩)
  go_ret
  exact ⟨ret_bool (by rw [Bool.not_and]), he1⟩
 ext := fun _ _ h e => ⟨e.cellE h.1, h.2.ext e⟩


set_option maxRecDepth 100000 in
set_option maxHeartbeats 4000000 in
theorem i_ValidHistory (A Ah : Option Addr) (c ch : Nat) (g : Sg.Graph) (r : List (List Int)) (p : Int) (w : World) (h : RdN w A g) (hr : RdL w Ah r) :
  Calls Try.prog 45 #[.agg #[.slice A g.length c], .agg #[.slice Ah r.length ch, .int .i64 p]] w fun e w' => e = .returned (.bool (Sg.validH g ⟨r, p⟩)) ∧ Ext w w' := by
 have E0 := lh ((((Ext.rfl' w).al (.cells #[.slice A g.length c] 25)).al (.cells #[.slice Ah r.length ch, .int .i64 p] 44)) : Ext w (World.alloc (World.alloc w (.cells #[.slice A g.length c] 25)) (.cells #[.slice Ah r.length ch, .int .i64 p] 44)))
 have qlg : World.cell? (World.alloc (World.alloc w (.cells #[.slice A g.length c] 25)) (.cells #[.slice Ah r.length ch, .int .i64 p] 44)) ⟨w.heap.size, 0, none⟩ = some (.slice A g.length c) := by simp [go_sem]
 have Qlg := lh qlg
 clear qlg
 have qh0 : World.cell? (World.alloc (World.alloc w (.cells #[.slice A g.length c] 25)) (.cells #[.slice Ah r.length ch, .int .i64 p] 44)) ⟨w.heap.size + 1, 0, none⟩ = some (.slice Ah r.length ch) := by simp [go_sem]
 have Qh0 := lh qh0
 clear qh0
 have qh1 : World.cell? (World.alloc (World.alloc w (.cells #[.slice A g.length c] 25)) (.cells #[.slice Ah r.length ch, .int .i64 p] 44)) ⟨w.heap.size + 1, 1, none⟩ = some (.int .i64 p) := by simp [go_sem]
 have Qh1 := lh qh1
 clear qh1
 have hgl := h.1
 have hbl := hr.1
 have H := lh h
 have HR := lh hr
 clear h hr
 have iw : IntKind.i64.wrap ((r.length : Int) - 1) = (r.length : Int) - 1 := IntWalk.i64_in _ (by omega)
 have HVG := lh (i_ValidGraph A c g)
 have hvh : Sg.validH g ⟨r, p⟩ = (Sg.validG g && (Sg.inR r.length 1 10 && (Sg.inR p 0 ((r.length : Int) - 1) && !(r.any fun l => !(Sg.validG g && Sg.validC g l))))) := by
  unfold Sg.validH
  cases hG : Sg.validG g
  ·simp
  ·simp only [Bool.true_and, Bool.and_true]
   have : (!(r.any fun l => !Sg.validC g l)) = r.all (Sg.validC g) := by rw [Bool.eq_iff_iff]; simp
   rw [this]
   cases r.all (Sg.validC g) <;> cases Sg.inR r.length 1 10 <;> cases Sg.inR p 0 ((r.length : Int) - 1) <;> rfl
 have HVH := lh hvh
 clear hvh
 go_enter Try.func45, Try.ntmps45
 cases hG : Sg.validG g
 ·skip
  have HG := lh hG
  clear hG
  go_wp2_with fail
  refine (HVG.out _ (H.out.ext E0.out)).mono ?_
  rintro e w1 ⟨rfl, he1⟩
  rw [HG.out]
  have U1 := lh ((Ext.rfl' (World.alloc (World.alloc w (.cells #[.slice A g.length c] 25)) (.cells #[.slice Ah r.length ch, .int .i64 p] 44))).tr he1)
  have E1 := lh (E0.out.tr U1.out)
  have lg_1 := U1.out.cellE Qlg.out
  have h0_1 := U1.out.cellE Qh0.out
  have h1_1 := U1.out.cellE Qh1.out
  clear he1 
  have blg_1 := blt lg_1
  have bh0_1 := blt h0_1
  have bh1_1 := blt h1_1
  have sz1 := U1.out.size
  go_wp2
  go_ret
  exact ⟨ret_bool (by rw [HVH.out, HG.out]; rfl), E1.out⟩
 have HG := lh hG
 clear hG
 cases h1 : Sg.inR (r.length : Int) 1 10
 ·skip
  have H1 := lh h1
  clear h1
  go_wp2_with fail
  refine (HVG.out _ (H.out.ext E0.out)).mono ?_
  rintro e w1 ⟨rfl, he1⟩
  rw [HG.out]
  have U1 := lh ((Ext.rfl' (World.alloc (World.alloc w (.cells #[.slice A g.length c] 25)) (.cells #[.slice Ah r.length ch, .int .i64 p] 44))).tr he1)
  have E1 := lh (E0.out.tr U1.out)
  have lg_1 := U1.out.cellE Qlg.out
  have h0_1 := U1.out.cellE Qh0.out
  have h1_1 := U1.out.cellE Qh1.out
  clear he1 
  have blg_1 := blt lg_1
  have bh0_1 := blt h0_1
  have bh1_1 := blt h1_1
  have sz1 := U1.out.size
  go_wp2_with fail
  refine (i_in _ _ _ _).mono ?_
  rintro e w' ⟨rfl, rfl⟩
  rw [H1.out]
  go_wp2
  go_ret
  exact ⟨ret_bool (by rw [HVH.out, HG.out, H1.out]; rfl), E1.out⟩
 have H1 := lh h1
 clear h1
 cases h2 : Sg.inR p 0 ((r.length : Int) - 1)
 ·skip
  have H2 := lh h2
  clear h2
  go_wp2_with fail
  refine (HVG.out _ (H.out.ext E0.out)).mono ?_
  rintro e w1 ⟨rfl, he1⟩
  rw [HG.out]
  have U1 := lh ((Ext.rfl' (World.alloc (World.alloc w (.cells #[.slice A g.length c] 25)) (.cells #[.slice Ah r.length ch, .int .i64 p] 44))).tr he1)
  have E1 := lh (E0.out.tr U1.out)
  have lg_1 := U1.out.cellE Qlg.out
  have h0_1 := U1.out.cellE Qh0.out
  have h1_1 := U1.out.cellE Qh1.out
  clear he1 
  have blg_1 := blt lg_1
  have bh0_1 := blt h0_1
  have bh1_1 := blt h1_1
  have sz1 := U1.out.size
  go_wp2_with fail
  refine (i_in _ _ _ _).mono ?_
  rintro e w' ⟨rfl, rfl⟩
  rw [H1.out]
  go_wp2_with fail
  refine (i_in _ _ _ _).mono ?_
  rintro e w' ⟨rfl, rfl⟩
  rw [H2.out]
  go_wp2
  go_ret
  exact ⟨ret_bool (by rw [HVH.out, HG.out, H1.out, H2.out]; rfl), E1.out⟩
 have H2 := lh h2
 clear h2
 go_wp2_with fail
 refine (HVG.out _ (H.out.ext E0.out)).mono ?_
 rintro e w1 ⟨rfl, he1⟩
 rw [HG.out]
 have U1 := lh ((Ext.rfl' (World.alloc (World.alloc w (.cells #[.slice A g.length c] 25)) (.cells #[.slice Ah r.length ch, .int .i64 p] 44))).tr he1)
 have E1 := lh (E0.out.tr U1.out)
 have lg_1 := U1.out.cellE Qlg.out
 have h0_1 := U1.out.cellE Qh0.out
 have h1_1 := U1.out.cellE Qh1.out
 clear he1 
 have blg_1 := blt lg_1
 have bh0_1 := blt h0_1
 have bh1_1 := blt h1_1
 have sz1 := U1.out.size
 go_wp2_with fail
 refine (i_in _ _ _ _).mono ?_
 rintro e w' ⟨rfl, rfl⟩
 rw [H1.out]
 go_wp2_with fail
 refine (i_in _ _ _ _).mono ?_
 rintro e w' ⟨rfl, rfl⟩
 rw [H2.out]
 go_wp2_with fail
 refine (i_ContainsFuncL (prd_validHistory1 w.heap.size A c g) Ah ch r _ (HR.out.ext E1.out) ⟨lg_1, H.out.ext E1.out⟩).mono ?_
 rintro e w2 ⟨rfl, he2⟩
 have U2 := lh ((Ext.rfl' w1).tr he2)
 have E2 := lh (E1.out.tr U2.out)
 have lg_2 := U2.out.cellE lg_1
 have h0_2 := U2.out.cellE h0_1
 have h1_2 := U2.out.cellE h1_1
 clear he2 lg_1 h0_1 h1_1 blg_1 bh0_1 bh1_1
 have blg_2 := blt lg_2
 have bh0_2 := blt h0_2
 have bh1_2 := blt h1_2
 have sz2 := U2.out.size
 go_wp2
 go_ret
 exact ⟨ret_bool (by rw [HVH.out, HG.out, H1.out, H2.out]; rfl), E2.out⟩

set_option maxRecDepth 100000 in
set_option maxHeartbeats 4000000 in
theorem i_MoveHistory (A Ah : Option Addr) (c ch : Nat) (g : Sg.Graph) (r : List (List Int)) (p : Int) (n : Int) (w : World) (h : RdN w A g) (hr : RdL w Ah r) :
  Calls Try.prog 16 #[.agg #[.slice A g.length c], .agg #[.slice Ah r.length ch, .int .i64 p], .int .i64 n] w fun e w' => ∃ A0 c0 hs A1 c1, e = .returned (.tuple #[.agg #[.slice A0 (Sg.moveH g ⟨r, p⟩ n).sts.length c0, .int .i64 (Sg.moveH g ⟨r, p⟩ n).pos], .slice A1 (moveC g ⟨r, p⟩ n).length c1, .bool (Sg.moveOk g ⟨r, p⟩ n)]) ∧
   OwnL w' w.heap.size A0 c0 (Sg.moveH g ⟨r, p⟩ n).sts hs ∧ Own w' w.heap.size 3 1 A1 (moveC g ⟨r, p⟩ n).length c1 (ints (moveC g ⟨r, p⟩ n)) ∧ (∀ b, fpD A0 hs b → ¬ (blk A1 = some b)) ∧ Ext w w' := by
 have E0 := lh (((((Ext.rfl' w).al (.cells #[.slice A g.length c] 25)).al (.cells #[.slice Ah r.length ch, .int .i64 p] 44)).al (.cells #[.slice none 0 0, .int .i64 0] 44)) : Ext w (World.alloc (World.alloc (World.alloc w (.cells #[.slice A g.length c] 25)) (.cells #[.slice Ah r.length ch, .int .i64 p] 44)) (.cells #[.slice none 0 0, .int .i64 0] 44)))
 have qlg : World.cell? (World.alloc (World.alloc (World.alloc w (.cells #[.slice A g.length c] 25)) (.cells #[.slice Ah r.length ch, .int .i64 p] 44)) (.cells #[.slice none 0 0, .int .i64 0] 44)) ⟨w.heap.size, 0, none⟩ = some (.slice A g.length c) := by simp [go_sem]
 have Qlg := lh qlg
 clear qlg
 have qh0 : World.cell? (World.alloc (World.alloc (World.alloc w (.cells #[.slice A g.length c] 25)) (.cells #[.slice Ah r.length ch, .int .i64 p] 44)) (.cells #[.slice none 0 0, .int .i64 0] 44)) ⟨w.heap.size + 1, 0, none⟩ = some (.slice Ah r.length ch) := by simp [go_sem]
 have Qh0 := lh qh0
 clear qh0
 have qh1 : World.cell? (World.alloc (World.alloc (World.alloc w (.cells #[.slice A g.length c] 25)) (.cells #[.slice Ah r.length ch, .int .i64 p] 44)) (.cells #[.slice none 0 0, .int .i64 0] 44)) ⟨w.heap.size + 1, 1, none⟩ = some (.int .i64 p) := by simp [go_sem]
 have Qh1 := lh qh1
 clear qh1
 have hgl := h.1
 have hbl := hr.1
 have H := lh h
 have HR := lh hr
 clear h hr
 have b0 := Bx.new (World.alloc (World.alloc w (.cells #[.slice A g.length c] 25)) (.cells #[.slice Ah r.length ch, .int .i64 p] 44)) #[.slice none 0 0, .int .i64 0] 44
 simp only [World.size_alloc] at b0
 have B0 := lh b0
 clear b0
 have HV := lh (i_ValidHistory A Ah c ch g r p)
 have HC := lh (i_copyReads Ah ch r)
 go_enter Try.func16, Try.ntmps16
 cases hv : Sg.validH g ⟨r, p⟩
 ·skip
  have HVV := lh hv
  clear hv
  have HO := lh (show Sg.moveOk g ⟨r, p⟩ n = false from by unfold Sg.moveOk; rw [HVV.out]; rfl)
  have HM := lh (show Sg.moveH g ⟨r, p⟩ n = ⟨[], 0⟩ by unfold Sg.moveH; rw [HO.out]; rfl)
  have HE := lh (show moveC g ⟨r, p⟩ n = [] by unfold moveC; rw [HO.out]; rfl)
  rw [HM.out, HE.out, HO.out]
  go_wp2_with fail
  refine (HV.out _ (H.out.ext E0.out) (HR.out.ext E0.out)).mono ?_
  rintro e w1 ⟨rfl, he1⟩
  rw [HVV.out]
  have U1 := lh ((Ext.rfl' (World.alloc (World.alloc (World.alloc w (.cells #[.slice A g.length c] 25)) (.cells #[.slice Ah r.length ch, .int .i64 p] 44)) (.cells #[.slice none 0 0, .int .i64 0] 44))).tr he1)
  have E1 := lh (E0.out.tr U1.out)
  have lg_1 := U1.out.cellE Qlg.out
  have h0_1 := U1.out.cellE Qh0.out
  have h1_1 := U1.out.cellE Qh1.out
  clear he1 
  have blg_1 := blt lg_1
  have bh0_1 := blt h0_1
  have bh1_1 := blt h1_1
  have sz1 := U1.out.size
  have BR := lh (B0.out.ext ((Ext.rfl' (World.alloc (World.alloc (World.alloc w (.cells #[.slice A g.length c] 25)) (.cells #[.slice Ah r.length ch, .int .i64 p] 44)) (.cells #[.slice none 0 0, .int .i64 0] 44))).tr U1.out))
  have f0 := BR.out.free 0
  have f1 := BR.out.free 1
  have x0 := BR.out.cell (j := 0) rfl
  have x1 := BR.out.cell (j := 1) rfl
  have bl := BR.out.lt
  go_wp2
  have hz : w.heap.size ≤ w.heap.size + 2 := by omega
  have hS := Mod.set (F := fun b => b = w.heap.size + 2) (Mod.set (F := fun b => b = w.heap.size + 2) (Mod.rfl' (fun b => b = w.heap.size + 2) w1) (p := ⟨w.heap.size + 2, 0, none⟩) (.inl rfl) (.slice none 0 0)) (p := ⟨w.heap.size + 2, 1, none⟩) (.inl rfl) (.int .i64 0)
  have s0 : ∀ u0 u1 : Value, World.cell? (World.setCell (World.setCell w1 ⟨w.heap.size + 2, 0, none⟩ u0) ⟨w.heap.size + 2, 1, none⟩ u1) ⟨w.heap.size + 2, 0, none⟩ = some u0 := fun u0 u1 => ((BR.out.set 0 u0).set 1 u1).cell (j := 0) rfl
  have s1 : ∀ u0 u1 : Value, World.cell? (World.setCell (World.setCell w1 ⟨w.heap.size + 2, 0, none⟩ u0) ⟨w.heap.size + 2, 1, none⟩ u1) ⟨w.heap.size + 2, 1, none⟩ = some u1 := fun u0 u1 => ((BR.out.set 0 u0).set 1 u1).cell (j := 1) rfl
  refine bodyPost_ret (v := .tuple #[.agg #[.slice none 0 0, .int .i64 0], .slice none 0 0, .bool false]) (by simp [results, Try.results16, go_sem, s0, s1]; try rfl) rfl ?_
  exact ⟨none, 0, [], none, 0, rfl, OwnD.nil _ _ _ _ _ _, Own.nil _ _ _ _, (by intro b _ e; simp [blk] at e), (E1.out.set (p := ⟨w.heap.size + 2, 0, none⟩) hz _).set (p := ⟨w.heap.size + 2, 1, none⟩) hz _⟩
 obtain ⟨-, hG, hr1, hr10, hp0, hp1⟩ := Sg.validH_parts hv
 have HVV := lh hv
 simp only at hr1 hr10 hp0 hp1
 clear hv hG
 obtain ⟨i, rfl⟩ := Int.eq_ofNat_of_zero_le hp0
 have hi : i < r.length := by omega
 clear hp0 hp1
 have HMO := lh (show Sg.moveOk g ⟨r, i⟩ n = Sg.inR ((i : Int) + n) 0 ((r.length : Int) - 1) by unfold Sg.moveOk; rw [HVV.out]; rfl)
 have HIN := lh (show Sg.inR n (-(i : Int)) ((r.length : Int) - 1 - (i : Int)) = Sg.inR ((i : Int) + n) 0 ((r.length : Int) - 1) by unfold Sg.inR; rw [Bool.eq_iff_iff]; simp only [Bool.and_eq_true, decide_eq_true_eq]; omega)
 have iw2 : IntKind.i64.wrap (-(i : Int)) = -(i : Int) := IntWalk.i64_in _ (by omega)
 have iw3 : IntKind.i64.wrap ((r.length : Int) - 1 - (i : Int)) = (r.length : Int) - 1 - (i : Int) := IntWalk.i64_in _ (by omega)
 cases h2 : Sg.inR ((i : Int) + n) 0 ((r.length : Int) - 1)
 ·skip
  have H2 := lh h2
  have HO := lh (show Sg.moveOk g ⟨r, i⟩ n = false from by rw [HMO.out]; exact h2)
  have HM := lh (show Sg.moveH g ⟨r, i⟩ n = ⟨[], 0⟩ by unfold Sg.moveH; rw [HO.out]; rfl)
  have HE := lh (show moveC g ⟨r, i⟩ n = [] by unfold moveC; rw [HO.out]; rfl)
  rw [HM.out, HE.out, HO.out]
  clear h2
  go_wp2_with fail
  refine (HV.out _ (H.out.ext E0.out) (HR.out.ext E0.out)).mono ?_
  rintro e w1 ⟨rfl, he1⟩
  rw [HVV.out]
  have U1 := lh ((Ext.rfl' _).tr he1)
  have E1 := lh (E0.out.tr U1.out)
  have lg_1 := U1.out.cellE Qlg.out
  have h0_1 := U1.out.cellE Qh0.out
  have h1_1 := U1.out.cellE Qh1.out
  clear he1 
  have blg_1 := blt lg_1
  have bh0_1 := blt h0_1
  have bh1_1 := blt h1_1
  have sz1 := U1.out.size
  go_wp2_with fail
  refine (i_in _ _ _ _).mono ?_
  rintro e w' ⟨rfl, rfl⟩
  rw [HIN.out, H2.out]
  have BR := lh (B0.out.ext ((Ext.rfl' _).tr U1.out))
  have f0 := BR.out.free 0
  have f1 := BR.out.free 1
  have x0 := BR.out.cell (j := 0) rfl
  have x1 := BR.out.cell (j := 1) rfl
  have bl := BR.out.lt
  go_wp2
  have hz : w.heap.size ≤ w.heap.size + 2 := by omega
  have hS := Mod.set (F := fun b => b = w.heap.size + 2) (Mod.set (F := fun b => b = w.heap.size + 2) (Mod.rfl' (fun b => b = w.heap.size + 2) w1) (p := ⟨w.heap.size + 2, 0, none⟩) (.inl rfl) (.slice none 0 0)) (p := ⟨w.heap.size + 2, 1, none⟩) (.inl rfl) (.int .i64 0)
  have s0 : ∀ u0 u1 : Value, World.cell? (World.setCell (World.setCell w1 ⟨w.heap.size + 2, 0, none⟩ u0) ⟨w.heap.size + 2, 1, none⟩ u1) ⟨w.heap.size + 2, 0, none⟩ = some u0 := fun u0 u1 => ((BR.out.set 0 u0).set 1 u1).cell (j := 0) rfl
  have s1 : ∀ u0 u1 : Value, World.cell? (World.setCell (World.setCell w1 ⟨w.heap.size + 2, 0, none⟩ u0) ⟨w.heap.size + 2, 1, none⟩ u1) ⟨w.heap.size + 2, 1, none⟩ = some u1 := fun u0 u1 => ((BR.out.set 0 u0).set 1 u1).cell (j := 1) rfl
  refine bodyPost_ret (v := .tuple #[.agg #[.slice none 0 0, .int .i64 0], .slice none 0 0, .bool false]) (by simp [results, Try.results16, go_sem, s0, s1]; try rfl) rfl ?_
  exact ⟨none, 0, [], none, 0, rfl, OwnD.nil _ _ _ _ _ _, Own.nil _ _ _ _, (by intro b _ e; simp [blk] at e), (E1.out.set (p := ⟨w.heap.size + 2, 0, none⟩) hz _).set (p := ⟨w.heap.size + 2, 1, none⟩) hz _⟩
 have H2 := lh h2
 obtain ⟨hq1, hq2⟩ : 0 ≤ (i : Int) + n ∧ (i : Int) + n ≤ (r.length : Int) - 1 := by simpa [Sg.inR] using h2
 clear h2
 obtain ⟨j, hj⟩ := Int.eq_ofNat_of_zero_le hq1
 obtain rfl : n = (j : Int) - (i : Int) := by omega
 clear hj
 have hjr : j < r.length := by omega
 have hij : (i : Int) + ((j : Int) - (i : Int)) = (j : Int) := by omega
 have iw4 : IntKind.i64.wrap ((i : Int) + ((j : Int) - (i : Int))) = (j : Int) := by rw [hij]; exact IntWalk.i64_in _ (by omega)
 rw [hij] at H2 HMO HIN
 have HO := lh (show Sg.moveOk g ⟨r, i⟩ ((j : Int) - (i : Int)) = true by rw [HMO.out]; exact H2.out)
 have HM := lh (show Sg.moveH g ⟨r, i⟩ ((j : Int) - (i : Int)) = ⟨r, j⟩ by unfold Sg.moveH; rw [HO.out, hij]; rfl)
 have HE := lh (show moveC g ⟨r, i⟩ ((j : Int) - (i : Int)) = changedOr g (r.getD i []) (r.getD j []) by unfold moveC; rw [HO.out, hij]; rfl)
 obtain ⟨l1, b1, o1, Al, cl, hl1, rfl, hc1, hR1, -⟩ := HR.out.at_ hi
 obtain ⟨l2, b2, o2, Am, cm, hl2, hA2, hc2, hR2, -⟩ := HR.out.at_ hjr
 obtain ⟨rfl, rfl⟩ : b1 = b2 ∧ o1 = o2 := by simpa using hA2
 have HL1 := lh (show r.getD i [] = l1 by rw [List.getD_eq_getElem?_getD, hl1]; rfl)
 have HL2 := lh (show r.getD j [] = l2 by rw [List.getD_eq_getElem?_getD, hl2]; rfl)
 rw [HM.out, HE.out, HO.out, HL1.out, HL2.out]
 have HR1 := lh hR1
 have HR2 := lh hR2
 have bc1 := blt hc1
 have bc2 := blt hc2
 clear hl1 hl2 hA2 hR1 hR2 HM HE HO HL1 HL2 HMO
 have HCH := lh (i_ChangedBy A Al Am c cl cm g l1 l2)
 have Qe1 := lh (E0.out.cellE hc1)
 have Qe2 := lh (E0.out.cellE hc2)
 clear hc1 hc2
 go_wp2_with fail
 refine (HV.out _ (H.out.ext E0.out) (HR.out.ext E0.out)).mono ?_
 rintro e w1 ⟨rfl, he1⟩
 rw [HVV.out]
 have U1 := lh ((Ext.rfl' _).tr he1)
 have E1 := lh (E0.out.tr U1.out)
 have lg_1 := U1.out.cellE Qlg.out
 have h0_1 := U1.out.cellE Qh0.out
 have h1_1 := U1.out.cellE Qh1.out
 have e1_1 := U1.out.cellE Qe1.out
 have e2_1 := U1.out.cellE Qe2.out
 clear he1 
 have blg_1 := blt lg_1
 have bh0_1 := blt h0_1
 have bh1_1 := blt h1_1
 have be1_1 := blt e1_1
 have be2_1 := blt e2_1
 have sz1 := U1.out.size
 simp only [World.size_alloc] at sz1
 go_wp2_with fail
 refine (i_in _ _ _ _).mono ?_
 rintro e w' ⟨rfl, rfl⟩
 rw [HIN.out, H2.out]
 go_wp2_with fail
 refine wp_region_held_drew (S := (fun W => W.cell? ⟨w.heap.size, 0, none⟩ = some (.slice A g.length c) ∧ W.cell? ⟨w.heap.size + 1, 0, none⟩ = some (.slice (some ⟨b1, o1, none⟩) r.length ch) ∧ W.cell? ⟨w.heap.size + 1, 1, none⟩ = some (.int .i64 (i : Int)) ∧ W.cell? ⟨b1, o1 + i, none⟩ = some (.slice Al l1.length cl) ∧ W.cell? ⟨b1, o1 + j, none⟩ = some (.slice Am l2.length cm))) (by kernel_rfl) ?_ (fun hHeld => ?_)
 ·exact ⟨((Ext.rfl' _).dr).cellE lg_1, ((Ext.rfl' _).dr).cellE h0_1, ((Ext.rfl' _).dr).cellE h1_1, ((Ext.rfl' _).dr).cellE e1_1, ((Ext.rfl' _).dr).cellE e2_1⟩
 refine ty 0 ?_
 refine ty 1 ?_
 refine ty 3 ?_
 refine ty 5 ?_
 refine ty 6 ?_
 refine ty 7 ?_
 refine ty 8 ?_
 refine ty 9 ?_
 refine ty 10 ?_
 refine ty 11 ?_
 refine ty 12 ?_
 refine ty 13 ?_
 refine ty 14 ?_
 refine ty 15 ?_
 refine ty 16 ?_
 refine rd1 2 rfl fun K hK => ?_
 go_simp
 refine (HC.out _ (HR.out.ext (E1.out.dr))).mono ?_
 rintro e w2 ⟨A2, hs, rfl, ho2, he2⟩
 have O2 := lh (OwnD.mono ho2 (B' := w.heap.size + 3) (by (try simp only [World.size_drew] at *); omega))
 clear ho2
 have U2 := lh (((Ext.rfl' w1).dr).tr he2)
 have E2 := lh (E1.out.tr U2.out)
 have lg_2 := U2.out.cellE lg_1
 have h0_2 := U2.out.cellE h0_1
 have h1_2 := U2.out.cellE h1_1
 have e1_2 := U2.out.cellE e1_1
 have e2_2 := U2.out.cellE e2_1
 clear he2 lg_1 h0_1 h1_1 e1_1 e2_1 blg_1 bh0_1 bh1_1 be1_1 be2_1
 have blg_2 := blt lg_2
 have bh0_2 := blt h0_2
 have bh1_2 := blt h1_2
 have be1_2 := blt e1_2
 have be2_2 := blt e2_2
 have sz2 := U2.out.size
 try go_wp2_with fail
 refine hK.out _ _ (by exact ⟨lg_2, h0_2, h1_2, e1_2, e2_2⟩) fun hh2 => ?_; clear hK K hHeld; have hHeld := hh2; clear hh2
 try simp only [Act.put, pu]
 refine ty 4 ?_
 refine rd1 17 rfl fun K hK => ?_
 go_simp
 refine (HCH.out _ (H.out.ext E2.out) (HR1.out.ext E2.out) (HR2.out.ext E2.out)).mono ?_
 rintro e w3 ⟨A3, rfl, ho3, he3⟩
 have O3 := lh (Own.mono ho3 (B' := w.heap.size + 3) (by (try simp only [World.size_drew] at *); omega))
 have D3 := lh (show ∀ b, fpD A2 hs b → ¬ (blk A3 = some b) from fun b hb e => by have h1 := (OwnD.lt O2.out hb).2; have h2 := (ho3.lt e).1; (try simp only [World.size_drew] at h2); omega)
 clear ho3
 have U3 := lh ((Ext.rfl' w2).tr he3)
 have E3 := lh (E2.out.tr U3.out)
 have lg_3 := U3.out.cellE lg_2
 have h0_3 := U3.out.cellE h0_2
 have h1_3 := U3.out.cellE h1_2
 have e1_3 := U3.out.cellE e1_2
 have e2_3 := U3.out.cellE e2_2
 clear he3 lg_2 h0_2 h1_2 e1_2 e2_2 blg_2 bh0_2 bh1_2 be1_2 be2_2
 have blg_3 := blt lg_3
 have bh0_3 := blt h0_3
 have bh1_3 := blt h1_3
 have be1_3 := blt e1_3
 have be2_3 := blt e2_3
 have sz3 := U3.out.size
 try go_wp2_with fail
 refine hK.out _ _ (by exact ⟨lg_3, h0_3, h1_3, e1_3, e2_3⟩) fun hh2 => ?_; clear hK K hHeld; have hHeld := hh2; clear hh2
 try simp only [Act.put, pu]
 have BR := lh (B0.out.ext ((((Ext.rfl' _).tr U1.out).tr U2.out).tr U3.out))
 have f0 := BR.out.free 0
 have f1 := BR.out.free 1
 have x0 := BR.out.cell (j := 0) rfl
 have x1 := BR.out.cell (j := 1) rfl
 have bl := BR.out.lt
 refine rd1 18 rfl fun K hK => ?_
 go_simp
 refine hK.out _ _ (by exact ⟨(co).trans ((co).trans lg_3), (co).trans ((co).trans h0_3), (co).trans ((co).trans h1_3), (co).trans ((co).trans e1_3), (co).trans ((co).trans e2_3)⟩) fun hh2 => ?_; clear hK K hHeld; have hHeld := hh2; clear hh2
 try simp only [Act.put, pu]
 refine ty 19 ?_
 refine ty 20 ?_
 refine dn ?_
 go_wp2
 have hz : w.heap.size ≤ w.heap.size + 2 := by omega
 have hS := Mod.set (F := fun b => b = w.heap.size + 2) (Mod.set (F := fun b => b = w.heap.size + 2) (Mod.rfl' (fun b => b = w.heap.size + 2) w3) (p := ⟨w.heap.size + 2, 0, none⟩) (.inl rfl) (.slice A2 r.length r.length)) (p := ⟨w.heap.size + 2, 1, none⟩) (.inl rfl) (.int .i64 (j : Int))
 have s0 : ∀ u0 u1 : Value, World.cell? (World.setCell (World.setCell w3 ⟨w.heap.size + 2, 0, none⟩ u0) ⟨w.heap.size + 2, 1, none⟩ u1) ⟨w.heap.size + 2, 0, none⟩ = some u0 := fun u0 u1 => ((BR.out.set 0 u0).set 1 u1).cell (j := 0) rfl
 have s1 : ∀ u0 u1 : Value, World.cell? (World.setCell (World.setCell w3 ⟨w.heap.size + 2, 0, none⟩ u0) ⟨w.heap.size + 2, 1, none⟩ u1) ⟨w.heap.size + 2, 1, none⟩ = some u1 := fun u0 u1 => ((BR.out.set 0 u0).set 1 u1).cell (j := 1) rfl
 refine bodyPost_ret (v := .tuple #[.agg #[.slice A2 r.length r.length, .int .i64 (j : Int)], .slice A3 (changedOr g l1 l2).length (changedOr g l1 l2).length, .bool true]) (by simp [results, Try.results16, go_sem, s0, s1]; try rfl) rfl ?_
 exact ⟨A2, r.length, hs, A3, (changedOr g l1 l2).length, rfl, OwnD.mono (OwnD.mod (OwnD.ext O2.out U3.out) hS (fun b hb e => by have := (OwnD.lt O2.out hb).1; omega)) (by omega), (O3.out.mod hS (fun b hb e => by have := (O3.out.lt hb).1; omega)).mono (by omega), D3.out, (E3.out.set (p := ⟨w.heap.size + 2, 0, none⟩) hz _).set (p := ⟨w.heap.size + 2, 1, none⟩) hz _⟩
end Go.Proofs.Yteighpaljdlnaaa
