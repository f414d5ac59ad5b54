/- Parts put in order, in memory: the reference's post and the program's put: contracts. Conditions: good parts; few of them. -/
import Derived.Test.YtdnlpklmihoapaaDoorTy
import Derived.Test.YtdnlpklmihoapaaDoorTxB
import Derived.Test.YtdnlpklmihoapaaDoorPlK
import Derived.Test.YtdnlpklmihoapaaDoorSpecOne
import Derived.Test.YtdnlpklmihoapaaDoorImplOne
namespace Go.Proofs.YtdnlpklmihoapaaDoor
open Go.RowKit
theorem at1_sm {w : World} {b o n k : Nat} {l : List Int} {y : Int} (h : Rd w 1 (some ⟨b, o, none⟩) n (ints l)) (hk : k < n) (hy : l[k]? = some y) : w.cell? ⟨b, o + k, none⟩ = some (.int .i64 y) := by
 obtain ⟨b', o', x, hA, hx, hc⟩ := h.at1 hk
 simp only [Option.some.injEq, Addr.mk.injEq, and_true] at hA
 obtain ⟨rfl, rfl⟩ := hA
 rw [hy] at hx
 injection hx with hx
 subst hx
 exact hc
theorem atP_sm {w : World} {b o n k : Nat} {l : List Sg.Part} {p : Sg.Part} (h : Rd w 5 (some ⟨b, o, none⟩) n (parts l)) (hk : k < n) (hp : l[k]? = some p) :
  w.cell? ⟨b, o + k * 5, none⟩ = some (.int .i64 p.kind) ∧ w.cell? ⟨b, o + k * 5 + 1, none⟩ = some (.int .i64 p.a) ∧ w.cell? ⟨b, o + k * 5 + 2, none⟩ = some (.int .i64 p.b) ∧ w.cell? ⟨b, o + k * 5 + 3, none⟩ = some (.int .i64 p.c) ∧ w.cell? ⟨b, o + k * 5 + 4, none⟩ = some (.int .i64 p.n) := by
 obtain ⟨b', o', x, hA, hx, hc⟩ := h.atP hk
 simp only [Option.some.injEq, Addr.mk.injEq, and_true] at hA
 obtain ⟨rfl, rfl⟩ := hA
 rw [hp] at hx
 injection hx with hx
 subst hx
 exact hc
theorem pcs_some (p : Sg.Part) {j : Nat} (hj : j < 3) : (pcs p)[j + 1]? = some ((pcs p).getD (j + 1) undef) := by
 have : j = 0 ∨ j = 1 ∨ j = 2 := by omega
 rcases this with rfl | rfl | rfl <;> rfl
theorem ptr_some (bp : Nat) {j : Nat} (hj : j < 3) : ([.pointer (some ⟨bp, 1, none⟩), .pointer (some ⟨bp, 2, none⟩), .pointer (some ⟨bp, 3, none⟩)] : List Value)[j]? = some (.pointer (some ⟨bp, j + 1, none⟩)) := by
 have : j = 0 ∨ j = 1 ∨ j = 2 := by omega
 rcases this with rfl | rfl | rfl <;> rfl
theorem one_pcsT (p : Sg.Part) : ∀ u ∈ pcs p, u.oneCell' = true := by
 intro u hu; simp [pcs] at hu; rcases hu with rfl | rfl | rfl | rfl | rfl <;> rfl
theorem SepT.iff {B : Nat} {ts : List (Th B)} {W : World} : Sep ts W ↔ (∀ t ∈ ts, t.ok W) ∧ ts.Pairwise (fun t s => ∀ b, t.fp b → ¬ s.fp b) := by
 induction ts with
 | nil => simp [Sep]
 | cons t ts ih =>
  rw [List.pairwise_cons]
  constructor
  ·rintro ⟨h1, h2, h3⟩
   obtain ⟨a, b⟩ := ih.1 h3
   exact ⟨fun x hx => by rcases List.mem_cons.1 hx with rfl | hx; exact h1; exact a x hx, h2, b⟩
  ·rintro ⟨h1, h2, h3⟩
   exact ⟨h1 t (by simp), h2, ih.2 ⟨fun x hx => h1 x (by simp [hx]), h3⟩⟩
theorem SepT.perm {B : Nat} {ts us : List (Th B)} {W : World} (h : Sep ts W) (p : ts.Perm us) : Sep us W := by
 rw [SepT.iff] at h ⊢
 exact ⟨fun t ht => h.1 t (p.mem_iff.2 ht), (p.pairwise_iff (fun {x y} hxy b hy hx => hxy b hx hy)).1 h.2⟩
theorem SepT.sub {B : Nat} {ts us : List (Th B)} {W : World} (h : Sep ts W) (p : us.Sublist ts) : Sep us W := by
 rw [SepT.iff] at h ⊢
 exact ⟨fun t ht => h.1 t (p.mem ht), h.2.sublist p⟩


set_option maxRecDepth 100000 in
set_option maxHeartbeats 4000000 in
theorem s_post (a : World) (A : Option Addr) (c : Nat) (f : List Sg.Part) (hf : Sg.Goods f) (hA : Rd a 5 A f.length (parts f)) (k : Nat) : ∀ (i : Nat) (out : List Sg.Part) (Ao : Option Addr) (co : Nat) (rs : List (Th a.heap.size)) (w : World),
  i < f.length → i < k → out.length + (Sg.treeOf f k (i : Int)).size ≤ 1000 → Ext a w → Sep (Th.own a.heap.size 73 5 Ao out.length co (parts out) :: rs) w →
  Calls Tryd.prog 89 #[.agg #[.slice A f.length c], .int .i64 (i : Int), .slice Ao out.length co] w fun e w' => ∃ A1 c1, e = .returned (.slice A1 (Sg.postF f k (i : Int) out).length c1) ∧ Ext a w' ∧
   Sep (Th.own a.heap.size 73 5 A1 (Sg.postF f k (i : Int) out).length c1 (parts (Sg.postF f k (i : Int) out)) :: rs) w' := by
 induction k with
 | zero => intro i out Ao co rs w hi hk; omega
 | succ k ih =>
  intro i out Ao co rs w hi hk hN hE hS
  have IH := lh ih
  obtain ⟨b, o, p, hAe, hp, h0, h1, h2, h3, h4⟩ := (hA.ext hE).atP hi
  have hd : f.getD ((i : Nat) : Int).toNat default = p := by simp [hp]
  have HPK := lh (Sg.postF_kids (k := k) hd out)
  have HLE := lh (Sg.kids_len hf hp hk out)
  have HKR := lh (Sg.goodPart_below (hf i p hp))
  have HGD := lh hf
  have HA := lh hA
  have HPE := lh hp
  have hm3 := Sg.below_len p
  have hfl := hA.big
  obtain ⟨O, hO⟩ : ∃ O : Nat → List Sg.Part, ∀ j, O j = Sg.kidsTo f k ((Sg.below p).take j) out := ⟨_, fun _ => rfl⟩
  obtain ⟨P, hP⟩ : ∃ P : Nat → Sg.Part, ∀ j, P j = Sg.partJ f k p out j := ⟨_, fun _ => rfl⟩
  have O0 := lh (show O 0 = out by rw [hO]; rfl)
  have OS := lh (show ∀ j x, (Sg.below p)[j]? = some x → O (j + 1) = Sg.postF f k x (O j) from fun j x h => by rw [hO, hO]; exact Sg.kidsTo_succ h out)
  have OM := lh (show Sg.postF f (k + 1) (i : Int) out = O (Sg.below p).length ++ [P (Sg.below p).length] by rw [HPK.out, hO, hP, List.take_length])
  have P0 := lh (show P 0 = p by rw [hP]; exact Sg.partJ_zero f k p out)
  have PS := lh (show ∀ j, j < 3 → pcs (P (j + 1)) = (pcs (P j)).set (j + 1) (.int .i64 (((O (j + 1)).length : Int) - 1)) from fun j hj => by
   have : j = 0 ∨ j = 1 ∨ j = 2 := by omega
   rcases this with rfl | rfl | rfl <;> (rw [hP, hP, hO]; rfl))
  have OL := lh (show (O (Sg.below p).length).length + 1 ≤ 1000 by have := HLE.out.1; rw [hO, List.take_length]; omega)
  have OX := lh (show ∀ j x, (Sg.below p)[j]? = some x → (O j).length + (Sg.treeOf f k x).size + 1 ≤ 1000 from fun j x h => by have := HLE.out.2 j x h; rw [hO]; omega)
  clear hO hP HPK HLE
  have HE := lh hE
  have HS := lh hS
  have hsz := hE.size
  subst hAe
  have bh0 := blt h0
  have bh1 := blt h1
  have bh2 := blt h2
  have bh3 := blt h3
  have bh4 := blt h4
  have hix : (i : Int) < (f.length : Int) := by omega
  generalize hpl : (Sg.below p).length = m at *
  have HPL := lh hpl
  clear hE hS hd hp hpl ih hf hA
  obtain ⟨pk, pa, pb, pc, pn⟩ := p
  dsimp only at *
  have Q0 := lh (show World.cell? (World.alloc w (.cells #[.slice (some ⟨b, o, none⟩) f.length c] 39)) ⟨w.heap.size, 0, none⟩ = some (.slice (some ⟨b, o, none⟩) f.length c) by simp [go_sem])
  have q0 := Q0.out
  go_enter Tryd.func89, Tryd.ntmps89

  go_upto_region 2 with fail
  have S1 := Sep.add HS.out ((Ext.rfl' w).al (.cells #[.slice (some ⟨b, o, none⟩) f.length c] 39)) (Th.box a.heap.size w.heap.size [.slice (some ⟨b, o, none⟩) f.length c]) ⟨Bx.new w #[.slice (some ⟨b, o, none⟩) f.length c] 39, hsz⟩ (fun b e => by have e2 : b = w.heap.size := e; omega)
  have S2 := Sep.add S1 ((Ext.rfl' (World.alloc w (.cells #[.slice (some ⟨b, o, none⟩) f.length c] 39))).al (.cells #[.int .i64 pk, .int .i64 pa, .int .i64 pb, .int .i64 pc, .int .i64 pn] 73)) (Th.box a.heap.size (w.heap.size + 1) (pcs ⟨pk, pa, pb, pc, pn⟩)) ⟨by have := Bx.new (World.alloc w (.cells #[.slice (some ⟨b, o, none⟩) f.length c] 39)) #[.int .i64 pk, .int .i64 pa, .int .i64 pb, .int .i64 pc, .int .i64 pn] 73; simpa [pcs] using this, by omega⟩ (fun b e => by have e2 : b = w.heap.size + 1 := e; simp; omega)
  have E2 := lh ((HE.out.al (.cells #[.slice (some ⟨b, o, none⟩) f.length c] 39)).al (.cells #[.int .i64 pk, .int .i64 pa, .int .i64 pb, .int .i64 pc, .int .i64 pn] 73))
  have SS := lh S2
  clear S1 S2 HS HE q0 Q0 h0 h1 h2 h3 h4 bh0 bh1 bh2 bh3 bh4
  generalize (World.alloc (World.alloc w (.cells #[.slice (some ⟨b, o, none⟩) f.length c] 39)) (.cells #[.int .i64 pk, .int .i64 pa, .int .i64 pb, .int .i64 pc, .int .i64 pn] 73)) = w2 at *
  generalize hbp : w.heap.size + 1 = bp at *
  generalize hbf : w.heap.size = bf at *
  clear hbp hbf hsz
  have yz : Bx w2 bp (pcs ⟨pk, pa, pb, pc, pn⟩) := (Sep.get SS.out 0 rfl : Bx _ _ _ ∧ _).1
  have z0 := yz.cell (j := 0) rfl
  have z1 := yz.cell (j := 1) rfl
  have z2 := yz.cell (j := 2) rfl
  have z3 := yz.cell (j := 3) rfl
  have z4 := yz.cell (j := 4) rfl
  have lz := yz.lt
  go_wp2_with fail
  refine (s_below ⟨pk, pa, pb, pc, pn⟩ _).mono ?_
  rintro e w4 ⟨Ak, ck, rfl, hO4, he4⟩
  rw [HPL.out] at hO4 ⊢
  have SS := lh (Sep.add SS.out he4 (Th.own a.heap.size 3 1 Ak m ck (ints (Sg.below ⟨pk, pa, pb, pc, pn⟩))) (hO4.mono E2.out.size) (fun b e => (hO4.lt e).1))
  have E4 := lh (E2.out.tr he4)
  clear hO4 he4 z0 z1 z2 z3 z4 lz yz E2
  have SS := lh (SepT.perm SS.out (List.perm_middle (l₁ := [_, _, _]) (l₂ := rs)))
  go_wp2_with fail
  go_loopw [2, 9] (fun s2 s9 wr => ∃ (j : Nat) (A1 : Option Addr) (c1 : Nat), j ≤ m ∧ s9 = .int .i64 j ∧ s2 = .slice A1 (O j).length c1 ∧ Hid (Ext a wr) ∧ Hid (Sep (Th.own a.heap.size 73 5 A1 (O j).length c1 (parts (O j)) :: Th.own a.heap.size 3 1 Ak m ck (ints (Sg.below ⟨pk, pa, pb, pc, pn⟩)) :: Th.box a.heap.size bp (pcs (P j)) :: Th.box a.heap.size bf [.slice (some ⟨b, o, none⟩) f.length c] :: rs) wr)) (fun _ s9 _ => m - (intOf s9).toNat)
  case atStart => exact ⟨0, Ao, co, Nat.zero_le _, rfl, by rw [O0.out], E4, by rw [O0.out, P0.out]; exact SS⟩
  case round =>
   clear SS E4 O0 P0
   obtain ⟨j, A1, c1, hj, rfl, rfl, hX, hSR⟩ := hrel
   by_cases hlt : j < m
   ·have hj3 : j < 3 := by omega
    obtain ⟨bk, ok, x, hAk, hx, ck0⟩ := (Sep.get hSR.out 1 rfl : Own _ _ _ _ _ _ _ _).rd.at1 hlt
    subst hAk
    have hxr := HKR.out x (List.mem_of_getElem? hx)
    obtain ⟨y, rfl⟩ := Int.eq_ofNat_of_zero_le hxr.1
    have hyi : y < i := by omega
    have HX := lh hx
    have hO := OS.out j _ hx
    have hL := OX.out j _ hx
    have HO := lh hO
    have HL := lh hL
    have CK := lh ck0
    have bck := blt ck0
    have hjx : (j : Int) < (m : Int) := by omega
    have qf : wr.cell? ⟨bf, 0, none⟩ = some (.slice (some ⟨b, o, none⟩) f.length c) := ((Sep.get hSR.out 3 rfl : Bx _ _ _ ∧ _).1).cell (j := 0) rfl
    have bqf := blt qf
    have QF := lh qf
    clear hx hxr hO hL
    have E0 := lh ((Ext.rfl' wr).dr)
    go_wp2_with fail
    refine zb 7 (fun W => W.cell? ⟨bf, 0, none⟩ = some (.slice (some ⟨b, o, none⟩) f.length c) ∧ W.cell? ⟨bk, ok + j, none⟩ = some (.int .i64 (y : Int))) ?_ (fun hHeld => ?_)
    ·exact ⟨E0.out.cellE QF.out, E0.out.cellE CK.out⟩
    refine zy 0 ?_
    refine zy 1 ?_
    refine zy 2 ?_
    refine zy 3 ?_
    refine zy 4 ?_
    refine zy 5 ?_
    refine zr 6 rfl fun K hK => ?_
    go_simp
    refine (IH.out y (O j) A1 c1 (_) _ (by omega) (by omega) (by have := HL.out; omega) (hX.out.tr E0.out) (Sep.ext hSR.out E0.out)).mono ?_
    rintro e v1 ⟨A2, c2, rfl, hE1, hS1⟩
    rw [← HO.out] at hS1 ⊢
    have E1 := lh hE1
    have S1 := lh hS1
    have kf : v1.cell? ⟨bf, 0, none⟩ = some (.slice (some ⟨b, o, none⟩) f.length c) := ((Sep.get hS1 3 rfl : Bx _ _ _ ∧ _).1).cell (j := 0) rfl
    have kk := at1_sm (Sep.get hS1 1 rfl : Own _ _ _ _ _ _ _ _).rd hlt HX.out
    clear hE1 hS1
    try go_wp2_with fail
    refine hK.out _ _ (fun _ => ⟨kf, kk⟩) (fun hh => ?_)
    have hHeld := hh (by decide)
    clear hK K hh
    try simp only [Act.put, pu]
    refine zr 7 rfl fun K hK => ?_
    go_simp
    refine hK.out _ _ (fun e => absurd rfl e) (fun hh => ?_)
    clear hK K hHeld hh
    try simp only [Act.put, pu]
    refine zn ?_
    skip
    clear kf kk E0 CK QF ck0 bck qf bqf
    have hL1 : (O (j + 1)).length ≤ 1000 := by rw [HO.out]; have := HL.out; have := Sg.postF_len HGD.out (k := k) (i := (y : Int)) (by omega) (by omega) (by omega) (O j); omega
    have iw : IntKind.i64.wrap (((O (j + 1)).length : Int) - 1) = ((O (j + 1)).length : Int) - 1 := IntWalk.i64_in _ (by omega)
    have yb : Bx v1 bp (pcs (P j)) ∧ a.heap.size ≤ bp := Sep.get S1.out 2 rfl
    have YB := lh yb
    have u0 := yb.1.cell (pcs_some (P j) hj3)
    have uf := yb.1.free (j + 1)
    have ul := yb.1.lt
    generalize (pcs (P j)).getD (j + 1) undef = uv at *
    clear yb
    have SN := lh (Sep.st S1.out 2 rfl ⟨bp, j + 1, none⟩ (.int .i64 (((O (j + 1)).length : Int) - 1)) rfl (Th.box a.heap.size bp (pcs (P (j + 1)))) ⟨by rw [PS.out j hj3]; exact YB.out.1.set (j + 1) _, YB.out.2⟩ (fun _ e => e))
    have EN := lh (E1.out.set (p := ⟨bp, j + 1, none⟩) YB.out.2 (.int .i64 (((O (j + 1)).length : Int) - 1)))
    clear S1 YB
    have : j = 0 ∨ j = 1 ∨ j = 2 := by omega
    rcases this with rfl | rfl | rfl
    ·go_wp2
     go_roundw
     case rel => exact ⟨_, A2, c2, by omega, by go_num, rfl, EN, SN⟩
     case measure => simp [intOf]; omega
    ·go_wp2
     go_roundw
     case rel => exact ⟨_, A2, c2, by omega, by go_num, rfl, EN, SN⟩
     case measure => simp [intOf]; omega
    ·go_wp2
     go_roundw
     case rel => exact ⟨_, A2, c2, by omega, by go_num, rfl, EN, SN⟩
     case measure => simp [intOf]; omega
   ·obtain rfl : j = m := by omega
    have hO1 := (Sep.get hSR.out 0 rfl : Own _ _ _ _ _ _ _ _)
    have HO1 := lh hO1
    have yb : Bx wr bp (pcs (P j)) := (Sep.get hSR.out 2 rfl : Bx _ _ _ ∧ _).1
    have z0 := yb.cell (j := 0) rfl
    have z1 := yb.cell (j := 1) rfl
    have z2 := yb.cell (j := 2) rfl
    have z3 := yb.cell (j := 3) rfl
    have z4 := yb.cell (j := 4) rfl
    have lz := yb.lt
    have hol := OL.out
    have hws := hX.out.size
    clear yb hO1
    generalize hpq : P j = q at *
    have HPQ := lh hpq
    clear hpq
    obtain ⟨qk, qa, qb, qc, qn⟩ := q
    dsimp only at *
    go_wp2_with (at_builtin; refine wpList_app1 (cs := pcs ⟨qk, qa, qb, qc, qn⟩) rfl rfl eiPart rfl HO1.out rfl rfl (one_pcsT _) (by omega) (by omega) (by omega) ?_; intro A2 c2 w9 hown2 hg2 hat2)
    go_ret
    have hS9 := Sep.app hSR.out 0 rfl hown2 hg2 hat2
    have e9 : O j ++ [⟨qk, qa, qb, qc, qn⟩] = Sg.postF f (k + 1) (i : Int) out := by rw [OM.out]
    have e5 : parts (O j) ++ pcs ⟨qk, qa, qb, qc, qn⟩ = parts (Sg.postF f (k + 1) (i : Int) out) := by rw [← e9]; simp [parts]
    have e6 : (O j).length + 1 = (Sg.postF f (k + 1) (i : Int) out).length := by rw [← e9]; simp
    rw [e5, e6] at hS9
    refine ⟨A2, c2, by simp [e6], hX.out.gr hg2 fun x hx => (HO1.out.lt hx).1, SepT.sub hS9 ?_⟩
    exact List.Sublist.cons_cons _ ((((List.Sublist.refl rs).cons _).cons _).cons _)

set_option maxRecDepth 100000 in
set_option maxHeartbeats 4000000 in
theorem i_put (a : World) (A : Option Addr) (c : Nat) (f : List Sg.Part) (hf : Sg.Goods f) (hA : Rd a 5 A f.length (parts f)) (k : Nat) : ∀ (i : Nat) (out : List Sg.Part) (Ao : Option Addr) (co : Nat) (rs : List (Th a.heap.size)) (w : World),
  i < f.length → i < k → out.length + (Sg.treeOf f k (i : Int)).size ≤ 1000 → Ext a w → Sep (Th.own a.heap.size 73 5 Ao out.length co (parts out) :: rs) w →
  Calls Tryd.prog 50 #[.agg #[.slice A f.length c], .int .i64 (i : Int), .slice Ao out.length co] w fun e w' => ∃ A1 c1, e = .returned (.slice A1 (Sg.postF f k (i : Int) out).length c1) ∧ Ext a w' ∧
   Sep (Th.own a.heap.size 73 5 A1 (Sg.postF f k (i : Int) out).length c1 (parts (Sg.postF f k (i : Int) out)) :: rs) w' := by
 induction k with
 | zero => intro i out Ao co rs w hi hk; omega
 | succ k ih =>
  intro i out Ao co rs w hi hk hN hE hS
  have IH := lh ih
  obtain ⟨b, o, p, hAe, hp, h0, h1, h2, h3, h4⟩ := (hA.ext hE).atP hi
  have hd : f.getD ((i : Nat) : Int).toNat default = p := by simp [hp]
  have HPK := lh (Sg.postF_kids (k := k) hd out)
  have HLE := lh (Sg.kids_len hf hp hk out)
  have HKR := lh (Sg.goodPart_below (hf i p hp))
  have HGD := lh hf
  have HA := lh hA
  have HPE := lh hp
  have hm3 := Sg.below_len p
  have hfl := hA.big
  obtain ⟨O, hO⟩ : ∃ O : Nat → List Sg.Part, ∀ j, O j = Sg.kidsTo f k ((Sg.below p).take j) out := ⟨_, fun _ => rfl⟩
  obtain ⟨P, hP⟩ : ∃ P : Nat → Sg.Part, ∀ j, P j = Sg.partJ f k p out j := ⟨_, fun _ => rfl⟩
  have O0 := lh (show O 0 = out by rw [hO]; rfl)
  have OS := lh (show ∀ j x, (Sg.below p)[j]? = some x → O (j + 1) = Sg.postF f k x (O j) from fun j x h => by rw [hO, hO]; exact Sg.kidsTo_succ h out)
  have OM := lh (show Sg.postF f (k + 1) (i : Int) out = O (Sg.below p).length ++ [P (Sg.below p).length] by rw [HPK.out, hO, hP, List.take_length])
  have P0 := lh (show P 0 = p by rw [hP]; exact Sg.partJ_zero f k p out)
  have PS := lh (show ∀ j, j < 3 → pcs (P (j + 1)) = (pcs (P j)).set (j + 1) (.int .i64 (((O (j + 1)).length : Int) - 1)) from fun j hj => by
   have : j = 0 ∨ j = 1 ∨ j = 2 := by omega
   rcases this with rfl | rfl | rfl <;> (rw [hP, hP, hO]; rfl))
  have OL := lh (show (O (Sg.below p).length).length + 1 ≤ 1000 by have := HLE.out.1; rw [hO, List.take_length]; omega)
  have OX := lh (show ∀ j x, (Sg.below p)[j]? = some x → (O j).length + (Sg.treeOf f k x).size + 1 ≤ 1000 from fun j x h => by have := HLE.out.2 j x h; rw [hO]; omega)
  clear hO hP HPK HLE
  have HE := lh hE
  have HS := lh hS
  have hsz := hE.size
  subst hAe
  have bh0 := blt h0
  have bh1 := blt h1
  have bh2 := blt h2
  have bh3 := blt h3
  have bh4 := blt h4
  have hix : (i : Int) < (f.length : Int) := by omega
  generalize hpl : (Sg.below p).length = m at *
  have HPL := lh hpl
  clear hE hS hd hp hpl ih hf hA
  obtain ⟨pk, pa, pb, pc, pn⟩ := p
  dsimp only at *
  have Q0 := lh (show World.cell? (World.alloc w (.cells #[.slice (some ⟨b, o, none⟩) f.length c] 39)) ⟨w.heap.size, 0, none⟩ = some (.slice (some ⟨b, o, none⟩) f.length c) by simp [go_sem])
  have q0 := Q0.out
  go_enter Tryd.func50, Tryd.ntmps50

  go_upto_region 2 with fail
  have S1 := Sep.add HS.out ((Ext.rfl' w).al (.cells #[.slice (some ⟨b, o, none⟩) f.length c] 39)) (Th.box a.heap.size w.heap.size [.slice (some ⟨b, o, none⟩) f.length c]) ⟨Bx.new w #[.slice (some ⟨b, o, none⟩) f.length c] 39, hsz⟩ (fun b e => by have e2 : b = w.heap.size := e; omega)
  have S2 := Sep.add S1 ((Ext.rfl' (World.alloc w (.cells #[.slice (some ⟨b, o, none⟩) f.length c] 39))).al (.cells #[.int .i64 pk, .int .i64 pa, .int .i64 pb, .int .i64 pc, .int .i64 pn] 73)) (Th.box a.heap.size (w.heap.size + 1) (pcs ⟨pk, pa, pb, pc, pn⟩)) ⟨by have := Bx.new (World.alloc w (.cells #[.slice (some ⟨b, o, none⟩) f.length c] 39)) #[.int .i64 pk, .int .i64 pa, .int .i64 pb, .int .i64 pc, .int .i64 pn] 73; simpa [pcs] using this, by omega⟩ (fun b e => by have e2 : b = w.heap.size + 1 := e; simp; omega)
  have E2 := lh ((HE.out.al (.cells #[.slice (some ⟨b, o, none⟩) f.length c] 39)).al (.cells #[.int .i64 pk, .int .i64 pa, .int .i64 pb, .int .i64 pc, .int .i64 pn] 73))
  have SS := lh S2
  clear S1 S2 HS HE q0 Q0 h0 h1 h2 h3 h4 bh0 bh1 bh2 bh3 bh4
  generalize (World.alloc (World.alloc w (.cells #[.slice (some ⟨b, o, none⟩) f.length c] 39)) (.cells #[.int .i64 pk, .int .i64 pa, .int .i64 pb, .int .i64 pc, .int .i64 pn] 73)) = w2 at *
  generalize hbp : w.heap.size + 1 = bp at *
  generalize hbf : w.heap.size = bf at *
  clear hbp hbf hsz
  go_upto_region 3 with fail
  have S3 := Sep.add SS.out ((Ext.rfl' w2).al (.cells #[.pointer (some ⟨bp, 1, none⟩), .pointer (some ⟨bp, 2, none⟩), .pointer (some ⟨bp, 3, none⟩)] 84)) (Th.box a.heap.size w2.heap.size [.pointer (some ⟨bp, 1, none⟩), .pointer (some ⟨bp, 2, none⟩), .pointer (some ⟨bp, 3, none⟩)]) ⟨Bx.new w2 _ _, E2.out.size⟩ (fun b e => by have e2 : b = w2.heap.size := e; omega)
  have E3 := lh (E2.out.al (.cells #[.pointer (some ⟨bp, 1, none⟩), .pointer (some ⟨bp, 2, none⟩), .pointer (some ⟨bp, 3, none⟩)] 84))
  have SS := lh (SepT.perm S3 (List.Perm.refl _))
  clear S3 E2
  generalize World.alloc w2 (.cells #[.pointer (some ⟨bp, 1, none⟩), .pointer (some ⟨bp, 2, none⟩), .pointer (some ⟨bp, 3, none⟩)] 84) = w3 at *
  generalize hbt : w2.heap.size = bt at *
  clear hbt
  obtain ⟨h0, h1, h2, h3, h4⟩ := atP_sm (HA.out.ext E3.out) hi HPE.out
  dsimp only at h0 h1 h2 h3 h4
  have bh0 := blt h0
  have bh1 := blt h1
  have bh2 := blt h2
  have bh3 := blt h3
  have bh4 := blt h4
  have qf : w3.cell? ⟨bf, 0, none⟩ = some (.slice (some ⟨b, o, none⟩) f.length c) := ((Sep.get SS.out 2 rfl : Bx _ _ _ ∧ _).1).cell (j := 0) rfl
  have bqf := blt qf
  go_wp2_with fail
  refine (i_below ⟨pk, pa, pb, pc, pn⟩ _).mono ?_
  rintro e w4 ⟨Ak, ck, rfl, hO4, he4⟩
  rw [HPL.out] at hO4 ⊢
  have SS := lh (Sep.add SS.out he4 (Th.own a.heap.size 3 1 Ak m ck (ints (Sg.below ⟨pk, pa, pb, pc, pn⟩))) (hO4.mono E3.out.size) (fun b e => (hO4.lt e).1))
  have E4 := lh (E3.out.tr he4)
  clear hO4 he4 h0 h1 h2 h3 h4 bh0 bh1 bh2 bh3 bh4 qf bqf E3
  have SS := lh (SepT.perm SS.out (List.perm_middle (l₁ := [_, _, _, _]) (l₂ := rs)))
  go_wp2_with fail
  go_loopw [2, 27] (fun s2 s9 wr => ∃ (j : Nat) (A1 : Option Addr) (c1 : Nat), j ≤ m ∧ s9 = .int .i64 j ∧ s2 = .slice A1 (O j).length c1 ∧ Hid (Ext a wr) ∧ Hid (Sep (Th.own a.heap.size 73 5 A1 (O j).length c1 (parts (O j)) :: Th.own a.heap.size 3 1 Ak m ck (ints (Sg.below ⟨pk, pa, pb, pc, pn⟩)) :: Th.box a.heap.size bt [.pointer (some ⟨bp, 1, none⟩), .pointer (some ⟨bp, 2, none⟩), .pointer (some ⟨bp, 3, none⟩)] :: Th.box a.heap.size bp (pcs (P j)) :: Th.box a.heap.size bf [.slice (some ⟨b, o, none⟩) f.length c] :: rs) wr)) (fun _ s9 _ => m - (intOf s9).toNat)
  case atStart => exact ⟨0, Ao, co, Nat.zero_le _, rfl, by rw [O0.out], E4, by rw [O0.out, P0.out]; exact SS⟩
  case round =>
   clear SS E4 O0 P0
   obtain ⟨j, A1, c1, hj, rfl, rfl, hX, hSR⟩ := hrel
   by_cases hlt : j < m
   ·have hj3 : j < 3 := by omega
    obtain ⟨bk, ok, x, hAk, hx, ck0⟩ := (Sep.get hSR.out 1 rfl : Own _ _ _ _ _ _ _ _).rd.at1 hlt
    subst hAk
    have hxr := HKR.out x (List.mem_of_getElem? hx)
    obtain ⟨y, rfl⟩ := Int.eq_ofNat_of_zero_le hxr.1
    have hyi : y < i := by omega
    have HX := lh hx
    have hO := OS.out j _ hx
    have hL := OX.out j _ hx
    have HO := lh hO
    have HL := lh hL
    have CK := lh ck0
    have bck := blt ck0
    have hjx : (j : Int) < (m : Int) := by omega
    have qf : wr.cell? ⟨bf, 0, none⟩ = some (.slice (some ⟨b, o, none⟩) f.length c) := ((Sep.get hSR.out 4 rfl : Bx _ _ _ ∧ _).1).cell (j := 0) rfl
    have bqf := blt qf
    have QF := lh qf
    clear hx hxr hO hL
    go_wp2_with fail
    refine (IH.out y (O j) A1 c1 (_) _ (by omega) (by omega) (by have := HL.out; omega) hX.out hSR.out).mono ?_
    rintro e v1 ⟨A2, c2, rfl, hE1, hS1⟩
    rw [← HO.out] at hS1 ⊢
    have E1 := lh hE1
    have S1 := lh hS1
    clear hE1 hS1 ck0 bck CK qf bqf QF
    have hL1 : (O (j + 1)).length ≤ 1000 := by rw [HO.out]; have := HL.out; have := Sg.postF_len HGD.out (k := k) (i := (y : Int)) (by omega) (by omega) (by omega) (O j); omega
    have iw : IntKind.i64.wrap (((O (j + 1)).length : Int) - 1) = ((O (j + 1)).length : Int) - 1 := IntWalk.i64_in _ (by omega)
    have yb : Bx v1 bp (pcs (P j)) ∧ a.heap.size ≤ bp := Sep.get S1.out 3 rfl
    have YB := lh yb
    have u0 := yb.1.cell (pcs_some (P j) hj3)
    have uf := yb.1.free (j + 1)
    have ul := yb.1.lt
    generalize (pcs (P j)).getD (j + 1) undef = uv at *
    clear yb
    have yt : Bx v1 bt [.pointer (some ⟨bp, 1, none⟩), .pointer (some ⟨bp, 2, none⟩), .pointer (some ⟨bp, 3, none⟩)] := (Sep.get S1.out 2 rfl : Bx _ _ _ ∧ _).1
    have ut := yt.cell (ptr_some bp hj3)
    have ult := yt.lt
    clear yt
    have hj3x : (j : Int) < 3 := by omega
    have SN := lh (Sep.st S1.out 3 rfl ⟨bp, j + 1, none⟩ (.int .i64 (((O (j + 1)).length : Int) - 1)) rfl (Th.box a.heap.size bp (pcs (P (j + 1)))) ⟨by rw [PS.out j hj3]; exact YB.out.1.set (j + 1) _, YB.out.2⟩ (fun _ e => e))
    have EN := lh (E1.out.set (p := ⟨bp, j + 1, none⟩) YB.out.2 (.int .i64 (((O (j + 1)).length : Int) - 1)))
    clear S1 YB
    go_wp2
    go_roundw
    case rel => exact ⟨j + 1, A2, c2, by omega, by go_num, rfl, EN, SN⟩
    case measure => simp [intOf]; omega
   ·obtain rfl : j = m := by omega
    have hO1 := (Sep.get hSR.out 0 rfl : Own _ _ _ _ _ _ _ _)
    have HO1 := lh hO1
    have yb : Bx wr bp (pcs (P j)) := (Sep.get hSR.out 3 rfl : Bx _ _ _ ∧ _).1
    have z0 := yb.cell (j := 0) rfl
    have z1 := yb.cell (j := 1) rfl
    have z2 := yb.cell (j := 2) rfl
    have z3 := yb.cell (j := 3) rfl
    have z4 := yb.cell (j := 4) rfl
    have lz := yb.lt
    have hol := OL.out
    have hws := hX.out.size
    clear yb hO1
    generalize hpq : P j = q at *
    have HPQ := lh hpq
    clear hpq
    obtain ⟨qk, qa, qb, qc, qn⟩ := q
    dsimp only at *
    go_wp2_with (at_builtin; refine wpList_app1 (cs := pcs ⟨qk, qa, qb, qc, qn⟩) rfl rfl eiPart rfl HO1.out rfl rfl (one_pcsT _) (by omega) (by omega) (by omega) ?_; intro A2 c2 w9 hown2 hg2 hat2)
    go_ret
    have hS9 := Sep.app hSR.out 0 rfl hown2 hg2 hat2
    have e9 : O j ++ [⟨qk, qa, qb, qc, qn⟩] = Sg.postF f (k + 1) (i : Int) out := by rw [OM.out]
    have e5 : parts (O j) ++ pcs ⟨qk, qa, qb, qc, qn⟩ = parts (Sg.postF f (k + 1) (i : Int) out) := by rw [← e9]; simp [parts]
    have e6 : (O j).length + 1 = (Sg.postF f (k + 1) (i : Int) out).length := by rw [← e9]; simp
    rw [e5, e6] at hS9
    refine ⟨A2, c2, by simp [e6], hX.out.gr hg2 fun x hx => (HO1.out.lt hx).1, SepT.sub hS9 ?_⟩
    exact List.Sublist.cons_cons _ (((((List.Sublist.refl rs).cons _).cons _).cons _).cons _)
end Go.Proofs.YtdnlpklmihoapaaDoor
