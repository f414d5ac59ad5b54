/- The program's eagerSession: its closure and its contract. Conditions: bounds on lengths. -/
import Derived.Test.YtaklkcjlihdlkaaGreatTy
import Derived.Test.YtaklkcjlihdlkaaGreatSesE
import Derived.Deep.DeepCutAuto
namespace Go.Proofs.YtaklkcjlihdlkaaGreat
open Go.RowKit

def EThings {B : Nat} (A : Option Addr) (c : Nat) (g : Sg.Graph) (bi bs bg br bo : Nat) (Av : Option Addr) (cv : Nat) (Ar : Option Addr) (cr : Nat) (hs : List (Option Addr × Nat)) (Ai : Option Addr) (ci : Nat) (Ao : Option Addr) (co : Nat) (s : List Int × List Sg.Show × Int) : List (Th B) :=
  [Th.own B 3 1 Av g.length cv (ints (Sg.mean g s.1)), Th.ownL B Ar cr (Sg.depsTo g (Sg.mean g s.1) g.length) hs, Th.box B bs [.slice Av g.length cv, .slice Ar g.length cr], Th.box B bi [.slice Ai (Sg.inputsL g).length ci], Th.own B 3 1 Ai (Sg.inputsL g).length ci (ints (Sg.inputsL g)),
   Th.box B bg [.slice A g.length c], Th.box B br [.int .i64 s.2.2], Th.box B bo [.slice Ao s.2.1.length co], Th.own B 61 2 Ao s.2.1.length co (shs s.2.1)]
def EInv {B : Nat} (A : Option Addr) (c : Nat) (g : Sg.Graph) (bi bs bg br bo : Nat) (k : Nat) (s : List Int × List Sg.Show × Int) (ts : List (Th B)) : Prop :=
  ∃ Av cv Ar cr hs Ai ci Ao co, ts = EThings A c g bi bs bg br bo Av cv Ar cr hs Ai ci Ao co s ∧ Sg.validC g s.1 = true ∧ s.2.1.length ≤ g.length * (k + 1) ∧ 0 ≤ s.2.2 ∧ s.2.2 ≤ ((g.length * (k + 1) : Nat) : Int)
theorem perm3 {α : Type _} (x y z v r : α) (l : List α) : (x :: y :: z :: v :: r :: l).Perm (v :: r :: x :: y :: z :: l) :=
  (List.perm_middle (l₁ := [x, y, z]) (l₂ := r :: l) (a := v)).trans ((List.perm_middle (l₁ := [x, y, z]) (l₂ := l) (a := r)).cons v)
theorem Sep.pickE {B : Nat} {d v r x p q : Th B} {l : List (Th B)} {W : World} (h : Sep (d :: v :: r :: x :: p :: q :: l) W) : Sep (v :: r :: l) W :=
  h.sub (((((((List.Sublist.refl l).cons q).cons p).cons x).cons_cons r).cons_cons v).cons d)
theorem madeI (n : Nat) : (madeCells (Value.int .i64 0).cells (n * 1)).toList = ints (List.replicate n 0) := by rw [made_one _ _ rfl]; simp [ints]
/-- the values of the first k cells -/
def valsTo (g : Sg.Graph) (p : List Int) (k : Nat) : List Int := ((Sg.inputsL g).take k).map (Sg.rd p) ++ List.replicate ((Sg.inputsL g).length - k) 0
theorem valsTo_len (g : Sg.Graph) (p : List Int) {k : Nat} (h : k ≤ (Sg.inputsL g).length) : (valsTo g p k).length = (Sg.inputsL g).length := by
  unfold valsTo
  simp
  omega
theorem valsTo_all (g : Sg.Graph) (p : List Int) : valsTo g p (Sg.inputsL g).length = Sg.valuesL g p := by unfold valsTo Sg.valuesL; simp
theorem valsTo_put (g : Sg.Graph) (p : List Int) {k : Nat} {j : Nat} (h : (Sg.inputsL g)[k]? = some (j : Int)) : (valsTo g p k).set k (Sg.rd p (j : Int)) = valsTo g p (k + 1) := by
  have hk := (List.getElem?_eq_some_iff.1 h).1
  unfold valsTo
  rw [take_snoc _ k h, List.map_append, List.set_append_right _ _ (by simp; omega)]
  rw [show k - (((Sg.inputsL g).take k).map (Sg.rd p)).length = 0 by simp; omega, show (Sg.inputsL g).length - k = ((Sg.inputsL g).length - (k + 1)) + 1 by omega, List.replicate_succ, List.set_cons_zero]
  simp
set_option maxRecDepth 100000 in
set_option maxHeartbeats 16000000 in
theorem flu_eager (A : Option Addr) (c : Nat) (g : Sg.Graph) (a : World) (bi bs bg br bo : Nat) (hA : RdN a A g) (hG : Sg.validG g = true) (hg : g.length ≤ 1000) :
    Flu Tryz.prog 106 [.pointer (some ⟨bi, 0, none⟩), .pointer (some ⟨bs, 0, none⟩), .pointer (some ⟨bg, 0, none⟩), .pointer (some ⟨br, 0, none⟩), .pointer (some ⟨bo, 0, none⟩)] g a (EInv A c g bi bs bg br bo) (Sg.eagFl g) where
  ent := ent_of Tryz.func106 rfl (by kernel_rfl)
  up := fun k s ts h => by
    obtain ⟨Av, cv, Ar, cr, hs, Ai, ci, Ao, co, e, hv, hl, h0, h1⟩ := h
    exact ⟨Av, cv, Ar, cr, hs, Ai, ci, Ao, co, e, hv, by rw [Nat.mul_add g.length (k + 1) 1]; omega, h0, by rw [Nat.mul_add g.length (k + 1) 1]; omega⟩
  call := fun k s ts rs w Ap As cp cs n m p st hI hk hp hpn hsm hm hE hS => by
    obtain ⟨Av, cv, Ar, cr, hs, Ai, ci, Ao, co, rfl, hv, hl, h0, h1⟩ := hI
    obtain ⟨x, q, runs⟩ := s
    subst hpn hsm
    dsimp only at *
    have hpl := Sg.length_validC hp
    have HPL := lh hpl
    have HSM := lh hm
    have HV := lh hv
    have HP := lh hp
    have hb31 : g.length * (k + 1) ≤ 31000 := Nat.le_trans (Nat.mul_le_mul hg (show k + 1 ≤ 31 by omega)) (by omega)
    have HQL := lh (show q.length ≤ 40000 by omega)
    have HL := lh hl
    have H0 := lh h0
    have H1 := lh h1
    have hr31 : runs ≤ 31000 := by omega
    have hil := Sg.inputs_len g
    have HIN := lh (fun z (hz : z ∈ Sg.inputsL g) => Sg.mem_inputsL.1 hz)
    have HVL := lh (fun k (h : k ≤ (Sg.inputsL g).length) => valsTo_len g p h)
    have HVA := lh (valsTo_all g p)
    have HVP := lh (fun k j h => valsTo_put g p (k := k) (j := j) h)
    have HV0 := lh (show List.replicate (Sg.inputsL g).length 0 = valsTo g p 0 by unfold valsTo; simp)
    clear hpl hm hv hp hl h0 h1 hb31
    unfold EThings at hS
    have HE := lh hE
    have HS := lh hS
    have hsz := hE.size
    have x0 : w.cell? ⟨bi, 0, none⟩ = some (.slice Ai (Sg.inputsL g).length ci) := ((Sep.get hS 5 rfl : Bx _ _ _ ∧ _).1).cell (j := 0) rfl
    have b0 := blt x0
    clear hS hE
    have HWN := lh (fun (Aw : Option Addr) (cw : Nat) (W : World) (hE : Ext a W) ts h1 h2 h3 h4 h5 => i_writeN a A Av Ar Ai Aw c cv cr ci cw g x p hs W hA hE ts h1 h2 h3 h4 h5 hG HV.out HP.out)
    have hin : (Sg.inputsL g).length ≤ 1048576 := by omega
    obtain ⟨il, hil2⟩ : ∃ il, il = Sg.inputsL g := ⟨_, rfl⟩
    have HILE := lh hil2
    rw [← hil2] at HIN HVL HVA HVP HV0 hil hin x0 HWN HS
    clear hil2
    go_enter Tryz.func106, Tryz.ntmps106
    go_upto_region 1 with (at_make; refine wpList_mk rfl rfl eiInt (B := w.heap.size) rfl rfl (by omega) (by omega) (Nat.le_refl _) ?_; intro w1 hown hext; rw [madeI, HV0.out] at hown; have O1 := lh hown; have E1 := lh hext; clear hown hext)
    have S1 := lh (Sep.add HS.out E1.out (Th.own a.heap.size 3 1 (some ⟨w.heap.size, 0, none⟩) il.length il.length (ints (valsTo g p 0))) (O1.out.mono hsz) (fun b hb => (O1.out.lt hb).1))
    have EX1 := lh (HE.out.tr E1.out)
    have x1 := E1.out.cellE x0
    have b1 := blt x1
    clear O1 E1 HE HS HV0 x0 b0
    generalize w.heap.size = bv at *
    go_wp2_with fail
    go_loopw [18] (fun i wr => ∃ k : Nat, k ≤ il.length ∧ i = .int .i64 k ∧ Hid (Ext a wr) ∧ Hid (Sep (Th.own a.heap.size 3 1 (some ⟨bv, 0, none⟩) il.length il.length (ints (valsTo g p k)) :: Th.own a.heap.size 3 1 Ap p.length cp (ints p) :: Th.own a.heap.size 4 1 As st.length cs (bools st) ::
      (EThings A c g bi bs bg br bo Av cv Ar cr hs Ai ci Ao co (x, q, runs) ++ rs)) wr)) (fun i _ => il.length - (intOf i).toNat)
    case atStart => exact ⟨0, Nat.zero_le _, rfl, EX1, lh (by unfold EThings; rw [← HILE.out]; exact S1.out)⟩
    case round =>
      clear S1 EX1 x1 b1
      obtain ⟨n, hn, rfl, hX, hSS⟩ := hrel
      by_cases hlt : n < il.length
      · have hAi : Own wr a.heap.size 3 1 Ai (Sg.inputsL g).length ci (ints (Sg.inputsL g)) := Sep.get hSS.out 7 rfl
        rw [← HILE.out] at hAi
        obtain ⟨ba, oa, z, rfl, hz, hcz⟩ := hAi.rd.at1 hlt
        obtain ⟨j, rfl, hj, -⟩ := HIN.out z (List.mem_of_getElem? hz)
        have hjp : j < p.length := by have := HPL.out; omega
        have hjx : (j : Int) < (p.length : Int) := by omega
        have hAp : Own wr a.heap.size 3 1 Ap p.length cp (ints p) := Sep.get hSS.out 1 rfl
        obtain ⟨bb, ob, y, rfl, hy, hcy⟩ := hAp.rd.at1 hjp
        have HY := lh (show Sg.rd p (j : Int) = y by unfold Sg.rd; simp [hy])
        have hN : Own wr a.heap.size 3 1 (some ⟨bv, 0, none⟩) il.length il.length (ints (valsTo g p n)) := Sep.get hSS.out 0 rfl
        obtain ⟨u, hu⟩ : ∃ u, (ints (valsTo g p n))[n]? = some u := ⟨_, List.getElem?_eq_getElem (by rw [hN.1]; omega)⟩
        have r0 := hN.cell hu
        have f0 := hN.free n
        have ltn := hN.lt (g := bv) rfl
        have HVN := lh (HVP.out n j hz)
        have S2 := lh (Sep.st hSS.out 0 rfl ⟨bv, n, none⟩ (.int .i64 y) rfl (Th.own a.heap.size 3 1 (some ⟨bv, 0, none⟩) il.length il.length (ints (valsTo g p (n + 1)))) (by have h9 := hN.st n (.int .i64 y); rw [show (ints (valsTo g p n)).set n (.int .i64 y) = ints (valsTo g p (n + 1)) by rw [← HVN.out, HY.out]; simp [ints, List.map_set]] at h9; exact h9) (fun b hb => hb))
        have E2 := lh (hX.out.set (p := ⟨bv, n, none⟩) ltn.1 (.int .i64 y))
        have bz := blt hcz
        have bY := blt hcy
        have hnx : (n : Int) < (il.length : Int) := by omega
        clear hAi hAp hz hy hu hN hSS hX HVN
        go_wp2
        go_roundw
        case rel => exact ⟨n + 1, by omega, by go_num, E2, S2⟩
        case measure => simp [intOf]; omega
      · obtain rfl : n = il.length := by omega
        have hsx := hSS.out
        rw [HVA.out] at hsx
        have S2 := lh (hsx.perm (perm3 _ _ _ _ _ _))
        have x0 : wr.cell? ⟨bi, 0, none⟩ = some (.slice Ai il.length ci) := by have := ((Sep.get hsx 6 rfl : Bx _ _ _ ∧ _).1).cell (j := 0) rfl; rw [← HILE.out] at this; exact this
        have x1 : wr.cell? ⟨bs, 0, none⟩ = some (.slice Av g.length cv) := ((Sep.get hsx 5 rfl : Bx _ _ _ ∧ _).1).cell (j := 0) rfl
        have x2 : wr.cell? ⟨bs, 1, none⟩ = some (.slice Ar g.length cr) := ((Sep.get hsx 5 rfl : Bx _ _ _ ∧ _).1).cell (j := 1) rfl
        have x3 : wr.cell? ⟨bg, 0, none⟩ = some (.slice A g.length c) := ((Sep.get hsx 8 rfl : Bx _ _ _ ∧ _).1).cell (j := 0) rfl
        have b0 := blt x0
        have b1 := blt x1
        have b2 := blt x2
        have b3 := blt x3
        clear hsx hSS
        go_wp2_with fail
        refine (HWN.out (some ⟨bv, 0, none⟩) il.length wr hX.out _ (fun W _ hs => by rw [HILE.out]; exact (Sep.get hs 5 rfl : Own _ _ _ _ _ _ _ _).rd) (fun W _ hs => (Sep.get hs 0 rfl : Own _ _ _ _ _ _ _ _).rd) (fun _ b hb => .inr ⟨_, List.mem_of_getElem? (i := 5) rfl, hb⟩) (fun _ b hb => .inr ⟨_, List.mem_of_getElem? (i := 0) rfl, hb⟩) S2.out).mono ?_
        rintro e w3 ⟨Ad, hs', rfl, hS3, hE3⟩
        have S3 := lh hS3
        have E3 := lh hE3
        have hml := Sg.mustOr_len g x p
        clear hS3 hE3 S2 hX x0 x1 x2 x3 b0 b1 b2 b3
        have yr : Bx w3 br [.int .i64 runs] := (Sep.get S3.out 10 rfl : Bx _ _ _ ∧ _).1
        have hbr : a.heap.size ≤ br := (Sep.get S3.out 10 rfl : Bx _ _ _ ∧ _).2
        have x5 := yr.cell (j := 0) rfl
        have f5 := yr.free 0
        have b5 := yr.lt
        have YR := lh yr
        have iw : IntKind.i64.wrap (runs + ((Sg.mustOr g x p).length : Int)) = runs + ((Sg.mustOr g x p).length : Int) := IntWalk.i64_in _ (by have := H0.out; omega)
        clear yr
        go_upto_region 8 with fail
        have S4 := lh (Sep.st S3.out 10 rfl ⟨br, 0, none⟩ (.int .i64 (runs + ((Sg.mustOr g x p).length : Int))) rfl (Th.box a.heap.size br [.int .i64 (runs + ((Sg.mustOr g x p).length : Int))]) ⟨YR.out.set 0 _, hbr⟩ (fun _ e => e))
        have E4 := lh (E3.out.set (p := ⟨br, 0, none⟩) hbr (.int .i64 (runs + ((Sg.mustOr g x p).length : Int))))
        clear x5 f5 b5 YR S3 E3
        generalize World.setCell w3 ⟨br, 0, none⟩ (.int .i64 (runs + ((Sg.mustOr g x p).length : Int))) = w4 at *
        have xo : w4.cell? ⟨bo, 0, none⟩ = some (.slice Ao q.length co) := ((Sep.get S4.out 11 rfl : Bx _ _ _ ∧ _).1).cell (j := 0) rfl
        have xg : w4.cell? ⟨bg, 0, none⟩ = some (.slice A g.length c) := ((Sep.get S4.out 9 rfl : Bx _ _ _ ∧ _).1).cell (j := 0) rfl
        have xs : w4.cell? ⟨bs, 0, none⟩ = some (.slice Av g.length cv) := ((Sep.get S4.out 6 rfl : Bx _ _ _ ∧ _).1).cell (j := 0) rfl
        have XO := lh xo
        have XG := lh xg
        have XS := lh xs
        have bo0 := blt xo
        have bg0 := blt xg
        have bs0 := blt xs
        have RG := lh (hA.ext E4.out)
        have RS := lh ((Sep.get S4.out 5 rfl : Own _ _ _ _ _ _ _ _).rd)
        have RV := lh ((Sep.get S4.out 1 rfl : Own _ _ _ _ _ _ _ _).rd)
        have RD := lh ((Sep.get S4.out 0 rfl : Own _ _ _ _ _ _ _ _).rd)
        have E0 := lh ((Ext.rfl' w4).dr)
        have HEF := lh (fun w1 h1 h2 => i_effects A As c cs g st w1 h1 h2 HSM.out)
        have E4w := lh E4.out.size
        go_wp2_with fail
        refine zb 10 (fun W => W.cell? ⟨bo, 0, none⟩ = some (.slice Ao q.length co) ∧ W.cell? ⟨bg, 0, none⟩ = some (.slice A g.length c) ∧ W.cell? ⟨bs, 0, none⟩ = some (.slice Av g.length cv)) ?_ (fun hHeld => ?_)
        · exact ⟨E0.out.cellE XO.out, E0.out.cellE XG.out, E0.out.cellE XS.out⟩
        refine zy 0 ?_
        refine zy 1 ?_
        refine zy 2 ?_
        refine zy 4 ?_
        refine zy 6 ?_
        refine zy 7 ?_
        refine zr 3 rfl fun K hK => ?_
        go_simp
        refine (HEF.out _ (RG.out.ext E0.out) (RS.out.ext E0.out)).mono ?_
        rintro e v1 ⟨A1, rfl, hO1, he1⟩
        have E1 := lh (E0.out.tr he1)
        have O1 := lh hO1
        clear he1 hO1
        try go_wp2_with fail
        refine hK.out _ _ (fun _ => ⟨E1.out.cellE XO.out, E1.out.cellE XG.out, E1.out.cellE XS.out⟩) (fun hh => ?_)
        have hHeld := hh (by decide)
        clear hK K hh
        try simp only [Act.put, pu]
        refine zr 5 rfl fun K hK => ?_
        go_simp
        refine (i_common A1 Ad (Sg.effs g st).length (Sg.mustOr g x p).length (Sg.effs g st) (Sg.mustOr g x p) _ O1.out.rd (RD.out.ext E1.out) (Nat.le_trans (Sg.effs_len g st) (by omega))).mono ?_
        rintro e v2 ⟨A3, c3, rfl, hO3, he2⟩
        have E2 := lh (E1.out.tr he2)
        have O3 := lh hO3
        clear he2 hO3
        try go_wp2_with fail
        refine hK.out _ _ (fun _ => ⟨E2.out.cellE XO.out, E2.out.cellE XG.out, E2.out.cellE XS.out⟩) (fun hh => ?_)
        have hHeld := hh (by decide)
        clear hK K hh
        try simp only [Act.put, pu]
        refine zr 8 rfl fun K hK => ?_
        go_simp
        refine (i_showsN A3 Av c3 cv _ g.length (Sg.common (Sg.effs g st) (Sg.mustOr g x p)) (Sg.mean g p) _ rfl (by simp [Sg.mean]) O3.out.rd (RV.out.ext E2.out) (fun z hz => mem_common_lt hz) (Nat.le_trans (common_len _ _) (Nat.le_trans (Sg.effs_len g st) (by omega)))).mono ?_
        rintro e v3 ⟨A5, c5, rfl, hO5, he3⟩
        have E3 := lh (E2.out.tr he3)
        have O5 := lh hO5
        clear he3 hO5
        have S5 := lh (Sep.ext S4.out E3.out)
        have L5 := lh (show (Sg.showL (Sg.common (Sg.effs g st) (Sg.mustOr g x p)) (Sg.mean g p)).length ≤ 1000 from by rw [Sg.showL_len]; exact Nat.le_trans (common_len _ _) (Nat.le_trans (Sg.effs_len g st) hg))
        have HFL := lh (show Sg.eagFl g (x, q, runs) p st = (p, q ++ Sg.showL (Sg.common (Sg.effs g st) (Sg.mustOr g x p)) (Sg.mean g p), runs + ((Sg.mustOr g x p).length : Int)) from rfl)
        generalize Sg.showL (Sg.common (Sg.effs g st) (Sg.mustOr g x p)) (Sg.mean g p) = sh at *
        try go_wp2_with fail
        refine hK.out _ _ (fun _ => ⟨E3.out.cellE XO.out, E3.out.cellE XG.out, E3.out.cellE XS.out⟩) (fun hh => ?_)
        have hHeld := hh (by decide)
        clear hK K hh
        try simp only [Act.put, pu]
        refine zr 9 rfl fun K hK => ?_
        have HOW : Own v3 a.heap.size 61 2 Ao q.length co (shs q) := Sep.get S5.out 12 rfl
        refine held_appR rfl rfl eiShow rfl HOW rfl O5.out.rd (one_shs sh) (by have := HQL.out; have := L5.out; unfold maxLen; omega) (by have := HQL.out; have := L5.out; omega) (by have := E3.out.size; have := E4w.out; omega) ?_
        intro A6 c6 v6 ho6 hg6 hat6
        have S6 := lh (Sep.app S5.out 12 rfl (n' := q.length + sh.length) (xs' := shs q ++ shs sh) ho6 hg6 (hat6.imp id fun e => ⟨_, e, Nat.le_refl _⟩))
        have E6 := lh ((E4.out.tr E3.out).gr hg6 (fun z hz => (HOW.lt hz).1))
        have y6 : Bx v6 bo [.slice Ao q.length co] := ((Sep.get S6.out 11 rfl : Bx _ _ _ ∧ _).1)
        have YG := lh (((Sep.get S6.out 9 rfl : Bx _ _ _ ∧ _).1).cell (j := 0) rfl : v6.cell? ⟨bg, 0, none⟩ = some (.slice A g.length c))
        have YS := lh (((Sep.get S6.out 6 rfl : Bx _ _ _ ∧ _).1).cell (j := 0) rfl : v6.cell? ⟨bs, 0, none⟩ = some (.slice Av g.length cv))
        have r6 := y6.cell (j := 0) rfl
        have f6 := y6.free 0
        have R6 := lh r6
        have Y6 := lh y6
        clear ho6 hg6 hat6 HOW y6
        try simp only [pg]
        refine hK.out _ _ (fun _ => ⟨R6.out, YG.out, YS.out⟩) (fun hh => ?_)
        have hHeld := hh (by decide)
        clear hK K hh
        try simp only [Act.put, pu]
        refine zr 10 rfl fun K hK => ?_
        have l6 := Y6.out.lt
        go_simp
        have S7 := lh (Sep.st S6.out 11 rfl ⟨bo, 0, none⟩ (.slice A6 (q.length + sh.length) c6) rfl (Th.box a.heap.size bo [.slice A6 (q.length + sh.length) c6]) ⟨Y6.out.set 0 _, (Sep.get S6.out 11 rfl : Bx _ _ _ ∧ _).2⟩ (fun _ e => e))
        have E7 := lh (E6.out.set (p := ⟨bo, 0, none⟩) (Sep.get S6.out 11 rfl : Bx _ _ _ ∧ _).2 (.slice A6 (q.length + sh.length) c6))
        refine hK.out _ _ (fun e => absurd rfl e) (fun hh => ?_)
        clear hK K hHeld hh
        try simp only [Act.put]
        refine zn ?_
        go_wp2
        go_end0
        refine ⟨rfl, E7.out, _, ⟨Av, cv, Ar, cr, hs', Ai, ci, A6, c6, rfl, HP.out, ?_⟩, ?_⟩
        · exact Sg.eagFl_small (q := (x, q, runs)) HL.out H0.out H1.out p st
        · rw [HFL.out]
          unfold EThings
          dsimp only
          rw [List.length_append, ← shs_app]
          have h9 := S7.out
          exact Sep.pickE h9

theorem held_alI {ops : Array Oper} {o : Oper} {a : Act} {w : World} {K : Act → World → Prop} {Q : Exit → Act → World → Prop} {E0 : Prop} (hgd : o.guard = none) (ho : o.op = Op.alloc 3)
    (h : ∀ b w', b = w.heap.size → Bx w' b [.int .i64 0] → Ext w w' → K (a.put o.dst (.pointer (some ⟨b, 0, none⟩))) w') : if Region.wanted o (yielded ops a.tmps) = true then Oper.wp Tryz.prog o a w K Q else E0 := by
  have hw : Region.wanted o (yielded ops a.tmps) = true := by simp [Region.wanted, hgd]
  rw [if_pos hw]
  obtain ⟨dst, op, ty, pos, aft, gd⟩ := o
  simp only at hgd ho
  subst ho
  go_simp
  exact h _ _ rfl (by simpa using Bx.new w #[.int .i64 0] 3) ((Ext.rfl' w).al _)
theorem perm_es {α : Type _} (br bo oo bi oi bs v r bg : α) : [br, bo, oo, bi, oi, bs, v, r, bg].Perm [v, r, bs, bi, oi, bg, br, bo, oo] := by
  have h1 : ([br, bo, oo, bi, oi, bs] ++ v :: [r, bg]).Perm (v :: ([br, bo, oo, bi, oi, bs] ++ [r, bg])) := List.perm_middle
  have h2 : ([br, bo, oo, bi, oi, bs] ++ r :: [bg]).Perm (r :: ([br, bo, oo, bi, oi, bs] ++ [bg])) := List.perm_middle
  have h3 : ([br, bo, oo, bi, oi] ++ bs :: [bg]).Perm (bs :: ([br, bo, oo, bi, oi] ++ [bg])) := List.perm_middle
  have h4 : ([br, bo, oo] ++ bi :: [oi, bg]).Perm (bi :: ([br, bo, oo] ++ [oi, bg])) := List.perm_middle
  have h5 : ([br, bo, oo] ++ oi :: [bg]).Perm (oi :: ([br, bo, oo] ++ [bg])) := List.perm_middle
  have h6 : ([br, bo, oo] ++ bg :: []).Perm (bg :: ([br, bo, oo] ++ [])) := List.perm_middle
  exact h1.trans ((h2.trans ((h3.trans ((h4.trans ((h5.trans (h6.cons oi)).cons bi)).cons bs)).cons r)).cons v)
set_option maxRecDepth 100000 in
set_option maxHeartbeats 16000000 in
theorem i_eagerSession (A Ac Al : Option Addr) (c cc cl : Nat) (g : Sg.Graph) (x : List Int) (l : List Sg.Act) (w : World) (h : RdN w A g) (hx : Rd w 1 Ac x.length (ints x)) (hl : Rd w 3 Al l.length (acts l)) (hfit : Sg.fitS g x l = true) :
    Calls Tryz.prog 69 #[.agg #[.slice A g.length c], .slice Ac x.length cc, .slice Al l.length cl] w fun e w' => ∃ A1 c1, e = .returned (.tuple #[.slice A1 (Sg.eagR g x l).2.2.1.length c1, .int .i64 (Sg.eagR g x l).2.2.2]) ∧ Own w' w.heap.size 61 2 A1 (Sg.eagR g x l).2.2.1.length c1 (shs (Sg.eagR g x l).2.2.1) ∧ Ext w w' := by
  have H := lh h
  have HX := lh hx
  have HL := lh hl
  have hgl := h.1
  have EB := lh ((Ext.rfl' w).al (.cells #[.slice A g.length c] 25))
  have b0 := Bx.new w #[.slice A g.length c] 25
  have SB := lh (Sep.iff.2 ⟨fun t ht => by rw [List.mem_singleton.1 ht]; exact ⟨b0, Nat.le_refl _⟩, by simp⟩ : Sep [Th.box w.heap.size w.heap.size [.slice A g.length c]] (World.alloc w (.cells #[.slice A g.length c] 25)))
  have qg := b0.cell (j := 0) rfl
  obtain ⟨hG, hC, hAc, hl30⟩ := Sg.fitS_parts hfit
  have hxl := Sg.length_validC hC
  have hg10 := validG_len hG
  have hx4 : x.length ≤ 1048576 := by omega
  have HC := lh hC
  have HXG := lh hxl
  have HL30 := lh hl30
  have HAC := lh hAc
  have HST := lh (fun w1 h1 h2 => i_StartN A Ac c cc g x w1 h1 h2 hG HC.out)
  have HIL := lh (Sg.inputs_len g)
  have hent0 := ent_of Tryz.func67 rfl (by kernel_rfl)
  clear h hx hl hxl hC hl30 hAc b0 hfit
  go_enter Tryz.func69, Tryz.ntmps69
  go_upto_region 1 with fail
  generalize World.alloc w (.cells #[.slice A g.length c] 25) = w0 at *
  have bqg := blt qg
  go_wp2_with fail
  refine (HST.out _ (H.out.ext EB.out) (HX.out.ext EB.out)).mono ?_
  rintro e w1 ⟨Av, Ar, hs, rfl, hv, hr, hd, he1⟩
  have sz0 := EB.out.size
  have S1 := lh (show Sep [Th.own w.heap.size 3 1 Av g.length g.length (ints (Sg.mean g x)), Th.ownL w.heap.size Ar g.length (Sg.depsTo g (Sg.mean g x) g.length) hs, Th.box w.heap.size w.heap.size [.slice A g.length c]] w1 from
    ⟨hv.mono sz0, fun s hs9 b hb => by
      simp only [List.mem_cons, List.not_mem_nil, or_false] at hs9
      rcases hs9 with rfl | rfl
      · exact hd b hb
      · have := (hv.lt hb).1
        have := (Sep.lt SB.out (t := Th.box w.heap.size w.heap.size [.slice A g.length c]) (by simp) (b := w.heap.size) rfl).2
        intro (e9 : b = w.heap.size)
        omega, OwnD.mono hr sz0, fun s hs9 b hb => by
      simp only [List.mem_cons, List.not_mem_nil, or_false] at hs9
      subst hs9
      have := (OwnD.lt hr hb).1
      have := (Sep.lt SB.out (t := Th.box w.heap.size w.heap.size [.slice A g.length c]) (by simp) (b := w.heap.size) rfl).2
      intro (e9 : b = w.heap.size)
      omega, Sep.ext SB.out he1⟩)
  have E1 := lh (EB.out.tr he1)
  have q1 := he1.cellE qg
  clear hv hr hd he1 SB EB qg bqg HST
  go_upto_region 2 with fail
  have S2 := lh (Sep.add S1.out ((Ext.rfl' w1).al (.cells #[.slice Av g.length g.length, .slice Ar g.length g.length] 118)) (Th.box w.heap.size w1.heap.size [.slice Av g.length g.length, .slice Ar g.length g.length]) ⟨Bx.new w1 #[.slice Av g.length g.length, .slice Ar g.length g.length] 118, E1.out.size⟩ (fun b e => by have e2 : b = w1.heap.size := e; omega))
  have E2 := lh (E1.out.al (.cells #[.slice Av g.length g.length, .slice Ar g.length g.length] 118))
  have q2 := ((Ext.rfl' w1).al (.cells #[.slice Av g.length g.length, .slice Ar g.length g.length] 118)).cellE q1
  clear S1 E1 q1
  generalize World.alloc w1 (.cells #[.slice Av g.length g.length, .slice Ar g.length g.length] 118) = w2 at *
  generalize w1.heap.size = bs at *
  have bq2 := blt q2
  go_wp2_with fail
  refine (i_whichCell A c g _ (H.out.ext E2.out)).mono ?_
  rintro e w3 ⟨Ai, rfl, hO, he3⟩
  have S3 := lh (Sep.add S2.out he3 (Th.own w.heap.size 3 1 Ai (Sg.inputsL g).length (Sg.inputsL g).length (ints (Sg.inputsL g))) (hO.mono E2.out.size) (fun b hb => (hO.lt hb).1))
  have E3 := lh (E2.out.tr he3)
  clear hO he3 S2 E2 q2 bq2
  go_upto_region 3 with fail
  have S4 := lh (Sep.add S3.out ((Ext.rfl' w3).al (.cells #[.slice Ai (Sg.inputsL g).length (Sg.inputsL g).length] 26)) (Th.box w.heap.size w3.heap.size [.slice Ai (Sg.inputsL g).length (Sg.inputsL g).length]) ⟨Bx.new w3 #[.slice Ai (Sg.inputsL g).length (Sg.inputsL g).length] 26, E3.out.size⟩ (fun b e => by have e2 : b = w3.heap.size := e; omega))
  have HB := lh (E3.out.al (.cells #[.slice Ai (Sg.inputsL g).length (Sg.inputsL g).length] 26))
  clear S3 E3
  generalize World.alloc w3 (.cells #[.slice Ai (Sg.inputsL g).length (Sg.inputsL g).length] 26) = w4 at *
  generalize w3.heap.size = bi at *
  have qg : w4.cell? ⟨w.heap.size, 0, none⟩ = some (.slice A g.length c) := ((Sep.get S4.out 5 rfl : Bx _ _ _ ∧ _).1).cell (j := 0) rfl
  have qs : w4.cell? ⟨bs, 0, none⟩ = some (.slice Av g.length g.length) := ((Sep.get S4.out 2 rfl : Bx _ _ _ ∧ _).1).cell (j := 0) rfl
  have QG := lh qg
  have QS := lh qs
  have bqg := blt qg
  have bqs := blt qs
  go_cut [10] (fun s10 wx => ∃ (bo : Nat) (Ao : Option Addr) (co : Nat), s10 = .pointer (some ⟨bo, 0, none⟩) ∧ Hid (Sep [Th.box w.heap.size bo [.slice Ao (Sg.showL (Sg.effs g (List.replicate g.length false)) (Sg.mean g x)).length co], Th.own w.heap.size 61 2 Ao (Sg.showL (Sg.effs g (List.replicate g.length false)) (Sg.mean g x)).length co (shs (Sg.showL (Sg.effs g (List.replicate g.length false)) (Sg.mean g x))),
    Th.box w.heap.size bi [.slice Ai (Sg.inputsL g).length (Sg.inputsL g).length], Th.own w.heap.size 3 1 Ai (Sg.inputsL g).length (Sg.inputsL g).length (ints (Sg.inputsL g)), Th.box w.heap.size bs [.slice Av g.length g.length, .slice Ar g.length g.length], Th.own w.heap.size 3 1 Av g.length g.length (ints (Sg.mean g x)), Th.ownL w.heap.size Ar g.length (Sg.depsTo g (Sg.mean g x) g.length) hs, Th.box w.heap.size w.heap.size [.slice A g.length c]] wx) ∧ Hid (Ext w wx))
  case first =>
    have E0 := lh ((Ext.rfl' w4).dr)
    have SS := lh (Sep.ext S4.out E0.out)
    have RG := lh (H.out.ext HB.out)
    have RV := lh ((Sep.get S4.out 3 rfl : Own _ _ _ _ _ _ _ _).rd)
    clear S4
    have HLR := lh (List.length_replicate (n := g.length) (a := false))
    have HEF := lh (fun w1 h1 (A1 : Option Addr) (c1 : Nat) h2 => (by have := i_effects A A1 c c1 g (List.replicate g.length false) w1 h1 h2 HLR.out; rw [HLR.out] at this; exact this : Calls Tryz.prog 48 #[.agg #[.slice A g.length c], .slice A1 g.length c1] w1 fun e w' => ∃ A1, e = .returned (.slice A1 (Sg.effs g (List.replicate g.length false)).length (Sg.effs g (List.replicate g.length false)).length) ∧ Own w' w1.heap.size 3 1 A1 (Sg.effs g (List.replicate g.length false)).length (Sg.effs g (List.replicate g.length false)).length (ints (Sg.effs g (List.replicate g.length false))) ∧ Ext w1 w'))
    have HEL := lh (Sg.effs_len g (List.replicate g.length false))
    have HEM := lh (fun z (hz : z ∈ Sg.effs g (List.replicate g.length false)) => mem_effs_lt hz)
    generalize Sg.effs g (List.replicate g.length false) = ef at *
    refine zb 9 (fun W => W.cell? ⟨w.heap.size, 0, none⟩ = some (.slice A g.length c) ∧ W.cell? ⟨bs, 0, none⟩ = some (.slice Av g.length g.length)) ?_ (fun hHeld => ?_)
    · exact ⟨E0.out.cellE QG.out, E0.out.cellE QS.out⟩
    refine zy 0 ?_
    refine zy 1 ?_
    refine zy 5 ?_
    refine zy 6 ?_
    refine zr2 2 8 rfl rfl (fun K hK => ?_) (fun K hK => ?_)
    · go_simp
      refine (i_size A g.length c _).mono ?_
      rintro e v1 ⟨rfl, he1⟩
      have E1 := lh (E0.out.tr he1)
      have SS := lh (Sep.ext SS.out he1)
      clear he1
      try go_wp2_with fail
      refine hK.out _ _ (fun _ => ⟨E1.out.cellE QG.out, E1.out.cellE QS.out⟩) (fun hh => ?_)
      have hHeld := hh (by decide)
      clear hK K hh
      try simp only [Act.put, pu]
      refine zr2 3 8 rfl rfl (fun K hK => ?_) (fun K hK => ?_)
      · refine held_mk rfl rfl eiBool rfl rfl (by omega) (by omega) (Nat.le_refl _) ?_
        intro v2 hO1 he2
        rw [boolsR] at hO1
        have O1 := lh hO1
        have E2 := lh (E1.out.tr he2)
        have SS := lh (Sep.ext SS.out he2)
        clear he2 hO1
        try simp only [pg]
        refine hK.out _ _ (fun _ => ⟨E2.out.cellE QG.out, E2.out.cellE QS.out⟩) (fun hh => ?_)
        have hHeld := hh (by decide)
        clear hK K hh
        try simp only [Act.put, pu]
        refine zr2 4 8 rfl rfl (fun K hK => ?_) (fun K hK => ?_)
        · go_simp
          refine (HEF.out _ (RG.out.ext E2.out) _ _ (by have := O1.out.rd; simpa using this)).mono ?_
          rintro e v3 ⟨A2, rfl, hO2, he3⟩
          have O1 := lh (O1.out.ext he3)
          have O2 := lh hO2
          have E3 := lh (E2.out.tr he3)
          have SS := lh (Sep.ext SS.out he3)
          clear he3 hO2
          try go_wp2_with fail
          refine hK.out _ _ (fun _ => ⟨E3.out.cellE QG.out, E3.out.cellE QS.out⟩) (fun hh => ?_)
          have hHeld := hh (by decide)
          clear hK K hh
          try simp only [Act.put, pu]
          refine zr2 7 8 rfl rfl (fun K hK => ?_) (fun K hK => ?_)
          · go_simp
            refine (i_showsN A2 Av _ g.length _ g.length ef (Sg.mean g x) _ rfl (by simp [Sg.mean]) O2.out.rd (RV.out.ext E3.out) HEM.out (Nat.le_trans HEL.out (by omega))).mono ?_
            rintro e v4 ⟨A5, c5, rfl, hO5, he4⟩
            have O1 := lh (O1.out.ext he4)
            have O2 := lh (O2.out.ext he4)
            have O5 := lh hO5
            have E4 := lh (E3.out.tr he4)
            have SS := lh (Sep.add SS.out he4 (Th.own w.heap.size 61 2 A5 (Sg.showL ef (Sg.mean g x)).length c5 (shs (Sg.showL ef (Sg.mean g x)))) (hO5.mono (by have := E3.out.size; have := HB.out.size; (try simp only [World.size_drew] at *); omega)) (fun b e => (hO5.lt e).1))
            clear he4 hO5
            try go_wp2_with fail
            refine hK.out _ _ (fun _ => ⟨E4.out.cellE QG.out, E4.out.cellE QS.out⟩) (fun hh => ?_)
            have hHeld := hh (by decide)
            clear hK K hh
            try simp only [Act.put, pu]
            refine zr 8 rfl fun K hK => ?_
            refine held_alSh rfl rfl ?_
            intro bt v5 hbt hbx he5
            have O1 := lh (O1.out.ext he5)
            have O2 := lh (O2.out.ext he5)
            have O5 := lh (O5.out.ext he5)
            have LBT : w.heap.size ≤ bt := by have := E4.out.size; have := HB.out.size; (try simp only [World.size_drew] at *); omega
            have SS := lh (Sep.add SS.out he5 (Th.box (w.heap.size) bt [.slice none 0 0]) ⟨hbx, LBT⟩ (fun b e => by have e2 : b = bt := e; omega))
            have E5 := lh (E4.out.tr he5)
            clear he5 hbt hbx
            try simp only [pg]
            refine hK.out _ _ (fun _ => ⟨E5.out.cellE QG.out, E5.out.cellE QS.out⟩) (fun hh => ?_)
            have hHeld := hh (by decide)
            clear hK K hh
            try simp only [Act.put, pu]
            refine zr 9 rfl fun K hK => ?_
            have y9 : Bx v5 bt [.slice none 0 0] := (Sep.get SS.out 0 rfl : Bx _ _ _ ∧ _).1
            have r9 := y9.cell (j := 0) rfl
            have f9 := y9.free 0
            have l9 := y9.lt
            have Y9 := lh y9
            clear y9
            go_simp
            have SS := lh (Sep.st SS.out 0 rfl ⟨bt, 0, none⟩ (.slice A5 (Sg.showL ef (Sg.mean g x)).length c5) rfl (Th.box (w.heap.size) bt [.slice A5 (Sg.showL ef (Sg.mean g x)).length c5]) ⟨Y9.out.set 0 _, LBT⟩ (fun _ e => e))
            have E9 := lh ((HB.out.tr E5.out).set (p := ⟨bt, 0, none⟩) LBT (.slice A5 (Sg.showL ef (Sg.mean g x)).length c5))
            refine hK.out _ _ (fun e => absurd rfl e) (fun hh => ?_)
            clear hK K hHeld hh
            try simp only [Act.put]
            refine zn ?_
            go_wp2_with fail
            go_meet
            exact ⟨bt, A5, c5, rfl, lh (SS.out), E9⟩
          · refine held_alSh rfl rfl ?_
            intro bt v4 hbt hbx he4
            have O1 := lh (O1.out.ext he4)
            have O2 := lh (O2.out.ext he4)
            have LBT : w.heap.size ≤ bt := by have := E3.out.size; have := HB.out.size; (try simp only [World.size_drew] at *); omega
            have SS := lh (Sep.add SS.out he4 (Th.box (w.heap.size) bt [.slice none 0 0]) ⟨hbx, LBT⟩ (fun b e => by have e2 : b = bt := e; omega))
            have E4 := lh (E3.out.tr he4)
            clear he4 hbt hbx
            try simp only [pg]
            refine hK.out _ _ (fun _ => ⟨E4.out.cellE QG.out, E4.out.cellE QS.out⟩) (fun hh => ?_)
            have hHeld := hh (by decide)
            clear hK K hh
            try simp only [Act.put, pu]
            refine zr 7 rfl fun K hK => ?_
            go_simp
            refine (i_showsN A2 Av _ g.length _ g.length ef (Sg.mean g x) _ rfl (by simp [Sg.mean]) O2.out.rd (RV.out.ext E4.out) HEM.out (Nat.le_trans HEL.out (by omega))).mono ?_
            rintro e v5 ⟨A5, c5, rfl, hO5, he5⟩
            have O1 := lh (O1.out.ext he5)
            have O2 := lh (O2.out.ext he5)
            have O5 := lh hO5
            have E5 := lh (E4.out.tr he5)
            have SS := lh (Sep.add SS.out he5 (Th.own w.heap.size 61 2 A5 (Sg.showL ef (Sg.mean g x)).length c5 (shs (Sg.showL ef (Sg.mean g x)))) (hO5.mono (by have := E4.out.size; have := HB.out.size; (try simp only [World.size_drew] at *); omega)) (fun b e => (hO5.lt e).1))
            clear he5 hO5
            try go_wp2_with fail
            refine hK.out _ _ (fun _ => ⟨E5.out.cellE QG.out, E5.out.cellE QS.out⟩) (fun hh => ?_)
            have hHeld := hh (by decide)
            clear hK K hh
            try simp only [Act.put, pu]
            refine zr 9 rfl fun K hK => ?_
            have y9 : Bx v5 bt [.slice none 0 0] := (Sep.get SS.out 1 rfl : Bx _ _ _ ∧ _).1
            have r9 := y9.cell (j := 0) rfl
            have f9 := y9.free 0
            have l9 := y9.lt
            have Y9 := lh y9
            clear y9
            go_simp
            have SS := lh (Sep.st SS.out 1 rfl ⟨bt, 0, none⟩ (.slice A5 (Sg.showL ef (Sg.mean g x)).length c5) rfl (Th.box (w.heap.size) bt [.slice A5 (Sg.showL ef (Sg.mean g x)).length c5]) ⟨Y9.out.set 0 _, LBT⟩ (fun _ e => e))
            have E9 := lh ((HB.out.tr E5.out).set (p := ⟨bt, 0, none⟩) LBT (.slice A5 (Sg.showL ef (Sg.mean g x)).length c5))
            refine hK.out _ _ (fun e => absurd rfl e) (fun hh => ?_)
            clear hK K hHeld hh
            try simp only [Act.put]
            refine zn ?_
            go_wp2_with fail
            go_meet
            exact ⟨bt, A5, c5, rfl, lh (Sep.swap SS.out), E9⟩
        · refine held_alSh rfl rfl ?_
          intro bt v3 hbt hbx he3
          have O1 := lh (O1.out.ext he3)
          have LBT : w.heap.size ≤ bt := by have := E2.out.size; have := HB.out.size; (try simp only [World.size_drew] at *); omega
          have SS := lh (Sep.add SS.out he3 (Th.box (w.heap.size) bt [.slice none 0 0]) ⟨hbx, LBT⟩ (fun b e => by have e2 : b = bt := e; omega))
          have E3 := lh (E2.out.tr he3)
          clear he3 hbt hbx
          try simp only [pg]
          refine hK.out _ _ (fun _ => ⟨E3.out.cellE QG.out, E3.out.cellE QS.out⟩) (fun hh => ?_)
          have hHeld := hh (by decide)
          clear hK K hh
          try simp only [Act.put, pu]
          refine zr 4 rfl fun K hK => ?_
          go_simp
          refine (HEF.out _ (RG.out.ext E3.out) _ _ (by have := O1.out.rd; simpa using this)).mono ?_
          rintro e v4 ⟨A2, rfl, hO2, he4⟩
          have O1 := lh (O1.out.ext he4)
          have O2 := lh hO2
          have E4 := lh (E3.out.tr he4)
          have SS := lh (Sep.ext SS.out he4)
          clear he4 hO2
          try go_wp2_with fail
          refine hK.out _ _ (fun _ => ⟨E4.out.cellE QG.out, E4.out.cellE QS.out⟩) (fun hh => ?_)
          have hHeld := hh (by decide)
          clear hK K hh
          try simp only [Act.put, pu]
          refine zr 7 rfl fun K hK => ?_
          go_simp
          refine (i_showsN A2 Av _ g.length _ g.length ef (Sg.mean g x) _ rfl (by simp [Sg.mean]) O2.out.rd (RV.out.ext E4.out) HEM.out (Nat.le_trans HEL.out (by omega))).mono ?_
          rintro e v5 ⟨A5, c5, rfl, hO5, he5⟩
          have O1 := lh (O1.out.ext he5)
          have O2 := lh (O2.out.ext he5)
          have O5 := lh hO5
          have E5 := lh (E4.out.tr he5)
          have SS := lh (Sep.add SS.out he5 (Th.own w.heap.size 61 2 A5 (Sg.showL ef (Sg.mean g x)).length c5 (shs (Sg.showL ef (Sg.mean g x)))) (hO5.mono (by have := E4.out.size; have := HB.out.size; (try simp only [World.size_drew] at *); omega)) (fun b e => (hO5.lt e).1))
          clear he5 hO5
          try go_wp2_with fail
          refine hK.out _ _ (fun _ => ⟨E5.out.cellE QG.out, E5.out.cellE QS.out⟩) (fun hh => ?_)
          have hHeld := hh (by decide)
          clear hK K hh
          try simp only [Act.put, pu]
          refine zr 9 rfl fun K hK => ?_
          have y9 : Bx v5 bt [.slice none 0 0] := (Sep.get SS.out 1 rfl : Bx _ _ _ ∧ _).1
          have r9 := y9.cell (j := 0) rfl
          have f9 := y9.free 0
          have l9 := y9.lt
          have Y9 := lh y9
          clear y9
          go_simp
          have SS := lh (Sep.st SS.out 1 rfl ⟨bt, 0, none⟩ (.slice A5 (Sg.showL ef (Sg.mean g x)).length c5) rfl (Th.box (w.heap.size) bt [.slice A5 (Sg.showL ef (Sg.mean g x)).length c5]) ⟨Y9.out.set 0 _, LBT⟩ (fun _ e => e))
          have E9 := lh ((HB.out.tr E5.out).set (p := ⟨bt, 0, none⟩) LBT (.slice A5 (Sg.showL ef (Sg.mean g x)).length c5))
          refine hK.out _ _ (fun e => absurd rfl e) (fun hh => ?_)
          clear hK K hHeld hh
          try simp only [Act.put]
          refine zn ?_
          go_wp2_with fail
          go_meet
          exact ⟨bt, A5, c5, rfl, lh (Sep.swap SS.out), E9⟩
      · refine held_alSh rfl rfl ?_
        intro bt v2 hbt hbx he2
        have LBT : w.heap.size ≤ bt := by have := E1.out.size; have := HB.out.size; (try simp only [World.size_drew] at *); omega
        have SS := lh (Sep.add SS.out he2 (Th.box (w.heap.size) bt [.slice none 0 0]) ⟨hbx, LBT⟩ (fun b e => by have e2 : b = bt := e; omega))
        have E2 := lh (E1.out.tr he2)
        clear he2 hbt hbx
        try simp only [pg]
        refine hK.out _ _ (fun _ => ⟨E2.out.cellE QG.out, E2.out.cellE QS.out⟩) (fun hh => ?_)
        have hHeld := hh (by decide)
        clear hK K hh
        try simp only [Act.put, pu]
        refine zr 3 rfl fun K hK => ?_
        refine held_mk rfl rfl eiBool rfl rfl (by omega) (by omega) (Nat.le_refl _) ?_
        intro v3 hO1 he3
        rw [boolsR] at hO1
        have O1 := lh hO1
        have E3 := lh (E2.out.tr he3)
        have SS := lh (Sep.ext SS.out he3)
        clear he3 hO1
        try simp only [pg]
        refine hK.out _ _ (fun _ => ⟨E3.out.cellE QG.out, E3.out.cellE QS.out⟩) (fun hh => ?_)
        have hHeld := hh (by decide)
        clear hK K hh
        try simp only [Act.put, pu]
        refine zr 4 rfl fun K hK => ?_
        go_simp
        refine (HEF.out _ (RG.out.ext E3.out) _ _ (by have := O1.out.rd; simpa using this)).mono ?_
        rintro e v4 ⟨A2, rfl, hO2, he4⟩
        have O1 := lh (O1.out.ext he4)
        have O2 := lh hO2
        have E4 := lh (E3.out.tr he4)
        have SS := lh (Sep.ext SS.out he4)
        clear he4 hO2
        try go_wp2_with fail
        refine hK.out _ _ (fun _ => ⟨E4.out.cellE QG.out, E4.out.cellE QS.out⟩) (fun hh => ?_)
        have hHeld := hh (by decide)
        clear hK K hh
        try simp only [Act.put, pu]
        refine zr 7 rfl fun K hK => ?_
        go_simp
        refine (i_showsN A2 Av _ g.length _ g.length ef (Sg.mean g x) _ rfl (by simp [Sg.mean]) O2.out.rd (RV.out.ext E4.out) HEM.out (Nat.le_trans HEL.out (by omega))).mono ?_
        rintro e v5 ⟨A5, c5, rfl, hO5, he5⟩
        have O1 := lh (O1.out.ext he5)
        have O2 := lh (O2.out.ext he5)
        have O5 := lh hO5
        have E5 := lh (E4.out.tr he5)
        have SS := lh (Sep.add SS.out he5 (Th.own w.heap.size 61 2 A5 (Sg.showL ef (Sg.mean g x)).length c5 (shs (Sg.showL ef (Sg.mean g x)))) (hO5.mono (by have := E4.out.size; have := HB.out.size; (try simp only [World.size_drew] at *); omega)) (fun b e => (hO5.lt e).1))
        clear he5 hO5
        try go_wp2_with fail
        refine hK.out _ _ (fun _ => ⟨E5.out.cellE QG.out, E5.out.cellE QS.out⟩) (fun hh => ?_)
        have hHeld := hh (by decide)
        clear hK K hh
        try simp only [Act.put, pu]
        refine zr 9 rfl fun K hK => ?_
        have y9 : Bx v5 bt [.slice none 0 0] := (Sep.get SS.out 1 rfl : Bx _ _ _ ∧ _).1
        have r9 := y9.cell (j := 0) rfl
        have f9 := y9.free 0
        have l9 := y9.lt
        have Y9 := lh y9
        clear y9
        go_simp
        have SS := lh (Sep.st SS.out 1 rfl ⟨bt, 0, none⟩ (.slice A5 (Sg.showL ef (Sg.mean g x)).length c5) rfl (Th.box (w.heap.size) bt [.slice A5 (Sg.showL ef (Sg.mean g x)).length c5]) ⟨Y9.out.set 0 _, LBT⟩ (fun _ e => e))
        have E9 := lh ((HB.out.tr E5.out).set (p := ⟨bt, 0, none⟩) LBT (.slice A5 (Sg.showL ef (Sg.mean g x)).length c5))
        refine hK.out _ _ (fun e => absurd rfl e) (fun hh => ?_)
        clear hK K hHeld hh
        try simp only [Act.put]
        refine zn ?_
        go_wp2_with fail
        go_meet
        exact ⟨bt, A5, c5, rfl, lh (Sep.swap SS.out), E9⟩
    · refine held_alSh rfl rfl ?_
      intro bt v1 hbt hbx he1
      have LBT : w.heap.size ≤ bt := by have := E0.out.size; have := HB.out.size; (try simp only [World.size_drew] at *); omega
      have SS := lh (Sep.add SS.out he1 (Th.box (w.heap.size) bt [.slice none 0 0]) ⟨hbx, LBT⟩ (fun b e => by have e2 : b = bt := e; omega))
      have E1 := lh (E0.out.tr he1)
      clear he1 hbt hbx
      try simp only [pg]
      refine hK.out _ _ (fun _ => ⟨E1.out.cellE QG.out, E1.out.cellE QS.out⟩) (fun hh => ?_)
      have hHeld := hh (by decide)
      clear hK K hh
      try simp only [Act.put, pu]
      refine zr 2 rfl fun K hK => ?_
      go_simp
      refine (i_size A g.length c _).mono ?_
      rintro e v2 ⟨rfl, he2⟩
      have E2 := lh (E1.out.tr he2)
      have SS := lh (Sep.ext SS.out he2)
      clear he2
      try go_wp2_with fail
      refine hK.out _ _ (fun _ => ⟨E2.out.cellE QG.out, E2.out.cellE QS.out⟩) (fun hh => ?_)
      have hHeld := hh (by decide)
      clear hK K hh
      try simp only [Act.put, pu]
      refine zr 3 rfl fun K hK => ?_
      refine held_mk rfl rfl eiBool rfl rfl (by omega) (by omega) (Nat.le_refl _) ?_
      intro v3 hO1 he3
      rw [boolsR] at hO1
      have O1 := lh hO1
      have E3 := lh (E2.out.tr he3)
      have SS := lh (Sep.ext SS.out he3)
      clear he3 hO1
      try simp only [pg]
      refine hK.out _ _ (fun _ => ⟨E3.out.cellE QG.out, E3.out.cellE QS.out⟩) (fun hh => ?_)
      have hHeld := hh (by decide)
      clear hK K hh
      try simp only [Act.put, pu]
      refine zr 4 rfl fun K hK => ?_
      go_simp
      refine (HEF.out _ (RG.out.ext E3.out) _ _ (by have := O1.out.rd; simpa using this)).mono ?_
      rintro e v4 ⟨A2, rfl, hO2, he4⟩
      have O1 := lh (O1.out.ext he4)
      have O2 := lh hO2
      have E4 := lh (E3.out.tr he4)
      have SS := lh (Sep.ext SS.out he4)
      clear he4 hO2
      try go_wp2_with fail
      refine hK.out _ _ (fun _ => ⟨E4.out.cellE QG.out, E4.out.cellE QS.out⟩) (fun hh => ?_)
      have hHeld := hh (by decide)
      clear hK K hh
      try simp only [Act.put, pu]
      refine zr 7 rfl fun K hK => ?_
      go_simp
      refine (i_showsN A2 Av _ g.length _ g.length ef (Sg.mean g x) _ rfl (by simp [Sg.mean]) O2.out.rd (RV.out.ext E4.out) HEM.out (Nat.le_trans HEL.out (by omega))).mono ?_
      rintro e v5 ⟨A5, c5, rfl, hO5, he5⟩
      have O1 := lh (O1.out.ext he5)
      have O2 := lh (O2.out.ext he5)
      have O5 := lh hO5
      have E5 := lh (E4.out.tr he5)
      have SS := lh (Sep.add SS.out he5 (Th.own w.heap.size 61 2 A5 (Sg.showL ef (Sg.mean g x)).length c5 (shs (Sg.showL ef (Sg.mean g x)))) (hO5.mono (by have := E4.out.size; have := HB.out.size; (try simp only [World.size_drew] at *); omega)) (fun b e => (hO5.lt e).1))
      clear he5 hO5
      try go_wp2_with fail
      refine hK.out _ _ (fun _ => ⟨E5.out.cellE QG.out, E5.out.cellE QS.out⟩) (fun hh => ?_)
      have hHeld := hh (by decide)
      clear hK K hh
      try simp only [Act.put, pu]
      refine zr 9 rfl fun K hK => ?_
      have y9 : Bx v5 bt [.slice none 0 0] := (Sep.get SS.out 1 rfl : Bx _ _ _ ∧ _).1
      have r9 := y9.cell (j := 0) rfl
      have f9 := y9.free 0
      have l9 := y9.lt
      have Y9 := lh y9
      clear y9
      go_simp
      have SS := lh (Sep.st SS.out 1 rfl ⟨bt, 0, none⟩ (.slice A5 (Sg.showL ef (Sg.mean g x)).length c5) rfl (Th.box (w.heap.size) bt [.slice A5 (Sg.showL ef (Sg.mean g x)).length c5]) ⟨Y9.out.set 0 _, LBT⟩ (fun _ e => e))
      have E9 := lh ((HB.out.tr E5.out).set (p := ⟨bt, 0, none⟩) LBT (.slice A5 (Sg.showL ef (Sg.mean g x)).length c5))
      refine hK.out _ _ (fun e => absurd rfl e) (fun hh => ?_)
      clear hK K hHeld hh
      try simp only [Act.put]
      refine zn ?_
      go_wp2_with fail
      go_meet
      exact ⟨bt, A5, c5, rfl, lh (Sep.swap SS.out), E9⟩
  case rest =>
    obtain ⟨bo, Ao, co, rfl, hS, hE⟩ := hcut
    obtain ⟨w5, rfl⟩ : ∃ W : World, W = wc := ⟨_, rfl⟩
    clear S4 QG QS qg qs bqg bqs HB
    have HB := lh hE.out
    have qg : w5.cell? ⟨w.heap.size, 0, none⟩ = some (.slice A g.length c) := ((Sep.get hS.out 7 rfl : Bx _ _ _ ∧ _).1).cell (j := 0) rfl
    have qi : w5.cell? ⟨bi, 0, none⟩ = some (.slice Ai (Sg.inputsL g).length (Sg.inputsL g).length) := ((Sep.get hS.out 2 rfl : Bx _ _ _ ∧ _).1).cell (j := 0) rfl
    have QG := lh qg
    have QI := lh qi
    have bqg := blt qg
    have bqi := blt qi
    have hil := HIL.out
    have iw : IntKind.i64.wrap ((g.length : Int) - ((Sg.inputsL g).length : Int)) = (g.length : Int) - ((Sg.inputsL g).length : Int) := IntWalk.i64_in _ (by omega)
    have HSH := lh (show (Sg.showL (Sg.effs g (List.replicate g.length false)) (Sg.mean g x)).length ≤ g.length * (0 + 1) from by rw [Sg.showL_len]; have := Sg.effs_len g (List.replicate g.length false); omega)
    have HE0 := lh (show Sg.eagR g x l = Sg.runS (Sg.eagFl g) (Sg.ses0 g x, (x, Sg.showL (Sg.effs g (List.replicate g.length false)) (Sg.mean g x), (g.length : Int) - ((Sg.inputsL g).length : Int))) l from rfl)
    generalize Sg.showL (Sg.effs g (List.replicate g.length false)) (Sg.mean g x) = sh at *
    go_upto_region 4 with fail
    go_cut [11] (fun s11 wx => ∃ (br : Nat), s11 = .pointer (some ⟨br, 0, none⟩) ∧ Hid (Sep [Th.box w.heap.size br [.int .i64 ((g.length : Int) - ((Sg.inputsL g).length : Int))], Th.box w.heap.size bo [.slice Ao sh.length co], Th.own w.heap.size 61 2 Ao sh.length co (shs sh), Th.box w.heap.size bi [.slice Ai (Sg.inputsL g).length (Sg.inputsL g).length], Th.own w.heap.size 3 1 Ai (Sg.inputsL g).length (Sg.inputsL g).length (ints (Sg.inputsL g)), Th.box w.heap.size bs [.slice Av g.length g.length, .slice Ar g.length g.length], Th.own w.heap.size 3 1 Av g.length g.length (ints (Sg.mean g x)), Th.ownL w.heap.size Ar g.length (Sg.depsTo g (Sg.mean g x) g.length) hs, Th.box w.heap.size w.heap.size [.slice A g.length c]] wx) ∧ Hid (Ext w wx))
    case first =>
      have E0 := lh ((Ext.rfl' w5).dr)
      have SS := lh (Sep.ext hS.out E0.out)
      clear hS hE
      refine zb 6 (fun W => W.cell? ⟨w.heap.size, 0, none⟩ = some (.slice A g.length c) ∧ W.cell? ⟨bi, 0, none⟩ = some (.slice Ai (Sg.inputsL g).length (Sg.inputsL g).length)) ?_ (fun hHeld => ?_)
      · exact ⟨E0.out.cellE QG.out, E0.out.cellE QI.out⟩
      refine zy 0 ?_
      refine zy 2 ?_
      refine zy 3 ?_
      refine zr2 1 5 rfl rfl (fun K hK => ?_) (fun K hK => ?_)
      · go_simp
        refine (i_size A g.length c _).mono ?_
        rintro e v1 ⟨rfl, he1⟩
        have E1 := lh (E0.out.tr he1)
        have SS := lh (Sep.ext SS.out he1)
        clear he1
        try go_wp2_with fail
        refine hK.out _ _ (fun _ => ⟨E1.out.cellE QG.out, E1.out.cellE QI.out⟩) (fun hh => ?_)
        have hHeld := hh (by decide)
        clear hK K hh
        try simp only [Act.put, pu]
        refine zy 4 ?_
        refine zr 5 rfl fun K hK => ?_
        refine held_alI rfl rfl ?_
        intro bt v2 hbt hbx he2
        have LBT : w.heap.size ≤ bt := by have := E1.out.size; have := HB.out.size; (try simp only [World.size_drew] at *); omega
        have SS := lh (Sep.add SS.out he2 (Th.box (w.heap.size) bt [.int .i64 0]) ⟨hbx, LBT⟩ (fun b e => by have e2 : b = bt := e; omega))
        have E2 := lh (E1.out.tr he2)
        clear he2 hbt hbx
        try simp only [pg]
        refine hK.out _ _ (fun _ => ⟨E2.out.cellE QG.out, E2.out.cellE QI.out⟩) (fun hh => ?_)
        have hHeld := hh (by decide)
        clear hK K hh
        try simp only [Act.put, pu]
        refine zr 6 rfl fun K hK => ?_
        have y9 : Bx v2 bt [.int .i64 0] := (Sep.get SS.out 0 rfl : Bx _ _ _ ∧ _).1
        have r9 := y9.cell (j := 0) rfl
        have f9 := y9.free 0
        have l9 := y9.lt
        have Y9 := lh y9
        clear y9
        go_simp
        have SS := lh (Sep.st SS.out 0 rfl ⟨bt, 0, none⟩ (.int .i64 ((g.length : Int) - ((Sg.inputsL g).length : Int))) rfl (Th.box (w.heap.size) bt [.int .i64 ((g.length : Int) - ((Sg.inputsL g).length : Int))]) ⟨Y9.out.set 0 _, LBT⟩ (fun _ e => e))
        have E9 := lh ((HB.out.tr E2.out).set (p := ⟨bt, 0, none⟩) LBT (.int .i64 ((g.length : Int) - ((Sg.inputsL g).length : Int))))
        refine hK.out _ _ (fun e => absurd rfl e) (fun hh => ?_)
        clear hK K hHeld hh
        try simp only [Act.put]
        refine zn ?_
        go_wp2_with fail
        go_meet
        exact ⟨bt, rfl, SS, E9⟩
      · refine held_alI rfl rfl ?_
        intro bt v1 hbt hbx he1
        have LBT : w.heap.size ≤ bt := by have := E0.out.size; have := HB.out.size; (try simp only [World.size_drew] at *); omega
        have SS := lh (Sep.add SS.out he1 (Th.box (w.heap.size) bt [.int .i64 0]) ⟨hbx, LBT⟩ (fun b e => by have e2 : b = bt := e; omega))
        have E1 := lh (E0.out.tr he1)
        clear he1 hbt hbx
        try simp only [pg]
        refine hK.out _ _ (fun _ => ⟨E1.out.cellE QG.out, E1.out.cellE QI.out⟩) (fun hh => ?_)
        have hHeld := hh (by decide)
        clear hK K hh
        try simp only [Act.put, pu]
        refine zr 1 rfl fun K hK => ?_
        go_simp
        refine (i_size A g.length c _).mono ?_
        rintro e v2 ⟨rfl, he2⟩
        have E2 := lh (E1.out.tr he2)
        have SS := lh (Sep.ext SS.out he2)
        clear he2
        try go_wp2_with fail
        refine hK.out _ _ (fun _ => ⟨E2.out.cellE QG.out, E2.out.cellE QI.out⟩) (fun hh => ?_)
        have hHeld := hh (by decide)
        clear hK K hh
        try simp only [Act.put, pu]
        refine zy 4 ?_
        refine zr 6 rfl fun K hK => ?_
        have y9 : Bx v2 bt [.int .i64 0] := (Sep.get SS.out 0 rfl : Bx _ _ _ ∧ _).1
        have r9 := y9.cell (j := 0) rfl
        have f9 := y9.free 0
        have l9 := y9.lt
        have Y9 := lh y9
        clear y9
        go_simp
        have SS := lh (Sep.st SS.out 0 rfl ⟨bt, 0, none⟩ (.int .i64 ((g.length : Int) - ((Sg.inputsL g).length : Int))) rfl (Th.box (w.heap.size) bt [.int .i64 ((g.length : Int) - ((Sg.inputsL g).length : Int))]) ⟨Y9.out.set 0 _, LBT⟩ (fun _ e => e))
        have E9 := lh ((HB.out.tr E2.out).set (p := ⟨bt, 0, none⟩) LBT (.int .i64 ((g.length : Int) - ((Sg.inputsL g).length : Int))))
        refine hK.out _ _ (fun e => absurd rfl e) (fun hh => ?_)
        clear hK K hHeld hh
        try simp only [Act.put]
        refine zn ?_
        go_wp2_with fail
        go_meet
        exact ⟨bt, rfl, SS, E9⟩
    case rest =>
      obtain ⟨br, rfl, hS6, hE6⟩ := hcut
      obtain ⟨w6, rfl⟩ : ∃ W : World, W = wc := ⟨_, rfl⟩
      clear hS hE HB QG QI qg qi bqg bqi
      have qg : w6.cell? ⟨w.heap.size, 0, none⟩ = some (.slice A g.length c) := ((Sep.get hS6.out 8 rfl : Bx _ _ _ ∧ _).1).cell (j := 0) rfl
      have bqg := blt qg
      have FL := lh (flu_eager A c g w bi bs w.heap.size br bo H.out hG (by omega))
      have hent := FL.out.ent
      go_wp2_with fail
      refine (i_session FL.out A Ac Al c cc cl x l w6 HX.out HL.out (x, sh, (g.length : Int) - ((Sg.inputsL g).length : Int)) (EThings A c g bi bs w.heap.size br bo Av g.length Ar g.length hs Ai (Sg.inputsL g).length Ao co (x, sh, (g.length : Int) - ((Sg.inputsL g).length : Int))) [] hE6.out (Sep.perm hS6.out (by rw [List.append_nil]; exact perm_es _ _ _ _ _ _ _ _ _)) ⟨Av, g.length, Ar, g.length, hs, Ai, (Sg.inputsL g).length, Ao, co, rfl, HC.out, HSH.out, by show 0 ≤ (g.length : Int) - _; omega, by show (g.length : Int) - _ ≤ _; omega⟩ HC.out HAC.out HL30.out (by omega)).mono ?_
      rintro e w7 ⟨rfl, hE7, ts', ⟨Av7, cv7, Ar7, cr7, hs7, Ai7, ci7, A7, c7, rfl, hv7, hlen7, -, -⟩, hS7⟩
      rw [List.append_nil] at hS7
      unfold EThings at hS7
      have q7 := (((Sep.get hS7 7 rfl : Bx _ _ _ ∧ _).1).cell (j := 0) rfl)
      have b7 := blt q7
      have q8 := (((Sep.get hS7 6 rfl : Bx _ _ _ ∧ _).1).cell (j := 0) rfl)
      have b8 := blt q8
      have O7 := (Sep.get hS7 8 rfl : Own _ _ _ _ _ _ _ _)
      have h71 := O7.2.1
      have h72 := O7.2.2.1
      have O7' := lh O7
      have E7 := lh hE7
      clear hS7 hE7 O7 hS6 hE6 qg bqg hv7 hlen7
      generalize Sg.runS (Sg.eagFl g) (Sg.ses0 g x, (x, sh, (g.length : Int) - ((Sg.inputsL g).length : Int))) l = R at *
      obtain ⟨rx, ry, out, runs⟩ := R
      dsimp only at *
      have E0 := lh ((Ext.rfl' w7).dr)
      go_wp2_with fail
      refine zb 4 (fun W => W.cell? ⟨bo, 0, none⟩ = some (.slice A7 out.length c7) ∧ W.cell? ⟨br, 0, none⟩ = some (.int .i64 runs)) ?_ (fun hHeld => ?_)
      · exact ⟨E0.out.cellE q7, E0.out.cellE q8⟩
      refine zy 0 ?_
      refine zy 2 ?_
      refine zr 1 rfl fun K hK => ?_
      go_simp
      refine (i_ClipS _ _ _ _ h71 h72).mono ?_
      rintro e w' ⟨rfl, rfl⟩
      try go_wp2_with fail
      refine hK.out _ _ (fun _ => ⟨E0.out.cellE q7, E0.out.cellE q8⟩) (fun hh => ?_)
      have hHeld := hh (by decide)
      clear hK K hh
      try simp only [Act.put, pu]
      refine zy 3 ?_
      refine zr 4 rfl fun K hK => ?_
      go_simp
      refine hK.out _ _ (fun e => absurd rfl e) (fun hh => ?_)
      clear hK K hHeld hh
      try simp only [Act.put, pu]
      refine zn ?_
      skip
      go_wp2
      go_ret2
      rw [HE0.out]
      exact ⟨A7, out.length, rfl, O7'.out.clip.dr, E7.out.dr⟩

set_option maxRecDepth 100000 in
set_option maxHeartbeats 4000000 in
theorem i_EagerSession (A Ac Al : Option Addr) (c cc cl : Nat) (g : Sg.Graph) (x : List Int) (l : List Sg.Act) (w : World) (h : RdN w A g) (hx : Rd w 1 Ac x.length (ints x)) (hl : Rd w 3 Al l.length (acts l)) :
    Calls Tryz.prog 19 #[.agg #[.slice A g.length c], .slice Ac x.length cc, .slice Al l.length cl] w fun e w' => ∃ A1 c1, e = .returned (.slice A1 (Sg.eagerS g x l).length c1) ∧ Own w' w.heap.size 61 2 A1 (Sg.eagerS g x l).length c1 (shs (Sg.eagerS g x l)) ∧ Ext w w' := by
  have H := lh h
  have HX := lh hx
  have HL := lh hl
  have q0 : World.cell? (World.alloc w (.cells #[.slice A g.length c] 25)) ⟨w.heap.size, 0, none⟩ = some (.slice A g.length c) := by simp [go_sem]
  have Q0 := lh q0
  have EB := lh ((Ext.rfl' w).al (.cells #[.slice A g.length c] 25))
  have HF := lh (i_sessionFits A Ac Al c cc cl g x l)
  clear h hx hl q0
  go_enter Tryz.func19, Tryz.ntmps19
  cases hfit : Sg.fitS g x l
  · have HFT := lh hfit
    have HE : Hid (Sg.eagerS g x l = []) := lh (by unfold Sg.eagerS; rw [hfit]; rfl)
    clear hfit
    rw [HE.out]
    go_wp2_with fail
    refine (HF.out _ (H.out.ext EB.out) (HX.out.ext EB.out) (HL.out.ext EB.out)).mono ?_
    rintro e w1 ⟨rfl, he1⟩
    rw [HFT.out]
    go_wp2
    go_ret
    exact ⟨none, 0, rfl, Own.nil _ _ _ _, EB.out.tr he1⟩
  have HFT := lh hfit
  have HE := lh (Sg.eag_shows hfit)
  rw [← HE.out]
  clear hfit
  go_wp2_with fail
  refine (HF.out _ (H.out.ext EB.out) (HX.out.ext EB.out) (HL.out.ext EB.out)).mono ?_
  rintro e w1 ⟨rfl, he1⟩
  rw [HFT.out]
  have q1 := he1.cellE Q0.out
  have EX1 := lh (EB.out.tr he1)
  have bq1 := blt q1
  clear he1 Q0
  go_wp2_with fail
  refine (i_eagerSession A Ac Al c cc cl g x l _ (H.out.ext EX1.out) (HX.out.ext EX1.out) (HL.out.ext EX1.out) HFT.out).mono ?_
  rintro e w2 ⟨A1, c1, rfl, hO, he2⟩
  have O := lh (hO.mono (EX1.out.size))
  have E2 := lh (EX1.out.tr he2)
  clear hO he2
  go_wp2
  go_ret
  exact ⟨A1, c1, rfl, O.out, E2.out⟩

end Go.Proofs.YtaklkcjlihdlkaaGreat
