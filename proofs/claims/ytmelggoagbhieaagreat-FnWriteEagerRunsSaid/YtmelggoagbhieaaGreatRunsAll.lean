/- Parts of one proof, joined. The program's which, for any function value that answers: its contract. Conditions: bounds on lengths. The program's MustRun: its function values. Conditions: the boxes can be read. The program's MustRun: its contract. Conditions: bounds on lengths. The program's reach and MayRun with its function values: contracts. Conditions: bounds on lengths; for reach a valid graph. -/
import Derived.Test.YtmelggoagbhieaaGreatImplTwo
import Derived.Test.YtmelggoagbhieaaGreatModelsA
import Derived.Test.YtmelggoagbhieaaGreatLawP
import Derived.Test.YtmelggoagbhieaaGreatImplQ
import Derived.Test.YtmelggoagbhieaaGreatModelT
import Derived.Test.YtmelggoagbhieaaGreatImplThree
import Derived.Test.YtmelggoagbhieaaGreatCellA
/- The program's which, for any function value that answers: its contract. Conditions: bounds on lengths. -/
namespace Go.Proofs.YtmelggoagbhieaaGreat
open Go.RowKit

set_option maxHeartbeats 1000000 in
theorem i_which {fid : Nat} {caps : List Value} {inv : World → Prop} {p : Int → Bool} {dom : Int → Prop} (C : Prd Tryz.prog fid caps inv p dom) (A : Option Addr) (n c : Nat) (w : World) (hi : inv w) (hd : ∀ k : Nat, k < n → dom k) (hn : n ≤ 1048576) :
    Calls Tryz.prog 93 #[.agg #[.slice A n c], .func (.func fid) #[] caps.toArray] w fun e w' => ∃ A', e = .returned (.slice A' (Sg.whichL (fun i => p i) n).length (Sg.whichL (fun i => p i) n).length) ∧
      Own w' w.heap.size 3 1 A' (Sg.whichL (fun i => p i) n).length (Sg.whichL (fun i => p i) n).length (ints (Sg.whichL (fun i => p i) n)) ∧ Ext w w' := by
  have hent := C.ent
  have HC := Lib.hid C
  have HD := Lib.hid hd
  have e0 := (Ext.rfl' w).al (.cells #[.slice A n c] 25)
  have HI := Lib.hid (C.ext _ _ hi e0)
  have HE := Lib.hid e0
  have hq : ∀ k, Sg.whichL (fun i => p i) (k + 1) = if p k = true then Sg.whichL (fun i => p i) k ++ [(k : Int)] else Sg.whichL (fun i => p i) k := fun k => Sg.whichL_succ _ k
  have hL : ∀ k, (Sg.whichL (fun i => p i) k).length ≤ k := fun k => Sg.whichL_len _ k
  have h0 : Sg.whichL (fun i => p i) 0 = [] := rfl
  generalize Sg.whichL (fun i => p i) = V at *
  have HQ := Lib.hid hq
  have HL := Lib.hid hL
  have H0 := Lib.hid h0
  clear C hd hi e0 hq hL h0
  go_enter Tryz.func93, Tryz.ntmps93
  go_wp2
  go_loopw [5, 10] (fun v i wr => ∃ (k : Nat) (A' : Option Addr) (c' : Nat), k ≤ n ∧ i = .int .i64 k ∧ v = .slice A' (V k).length c' ∧ Own wr (w.heap.size + 1) 3 1 A' (V k).length c' (ints (V k)) ∧ Ext (w.alloc (.cells #[.slice A n c] 25)) wr) (fun _ i _ => n - (intOf i).toNat)
  case atStart => exact ⟨0, none, 0, Nat.zero_le _, rfl, by rw [H0.out]; rfl, by rw [H0.out]; exact Own.nil _ _ _ _, Ext.rfl' _⟩
  case round =>
    obtain ⟨k, A', c', hk, rfl, rfl, hown, he⟩ := hrel
    have hl := HL.out k
    have He := Lib.hid he
    have Ho := Lib.hid hown
    have hcm := And.intro hown.2.1 hown.2.2.1
    clear he hown
    by_cases hlt : k < n
    · have hq := HQ.out k
      cases hp : p (k : Int)
      · rw [hp] at hq
        simp only [Bool.false_eq_true, if_false] at hq
        have Hq := Lib.hid hq
        have Hp := Lib.hid hp
        clear hp hq
        go_wp2_with fail
        refine (HC.out.call _ (k : Int) (HC.out.ext _ _ HI.out He.out) (HD.out k hlt)).mono ?_
        rw [Hp.out]
        rintro e w1 ⟨rfl, he1⟩
        go_wp2
        go_roundw
        case rel => exact ⟨k + 1, A', c', by omega, by go_num, by rw [Hq.out], by rw [Hq.out]; exact Ho.out.ext he1, He.out.tr he1⟩
        case measure => simp [intOf]; omega
      · rw [hp] at hq
        simp only [if_true] at hq
        have Hq := Lib.hid hq
        have Hp := Lib.hid hp
        clear hp hq
        go_wp2_with fail
        refine (HC.out.call _ (k : Int) (HC.out.ext _ _ HI.out He.out) (HD.out k hlt)).mono ?_
        rw [Hp.out]
        rintro e w1 ⟨rfl, he1⟩
        have Ho1 := Lib.hid (Ho.out.ext he1)
        have s1 := (He.out.tr he1).size
        simp only [World.size_alloc] at s1
        go_wp2_with (at_builtin; refine wpList_app1 rfl rfl eiInt rfl Ho1.out rfl rfl (one_int _ _) (by omega) (by omega) (by omega) ?_; intro A2 c2 w9 hown2 hg2 hat2)
        go_roundw
        case rel => exact ⟨k + 1, A2, c2, by omega, by go_num, by rw [Hq.out]; simp, by rw [Hq.out]; simpa using hown2, (He.out.tr he1).gr hg2 fun x hx => (by have := (Ho1.out.lt hx).1; simpa using this)⟩
        case measure => simp [intOf]; omega
    · obtain rfl : k = n := by omega
      go_wp2_with (go_at_call 112; refine (i_Clip _ _ _ _ hcm.1 hcm.2).mono ?_; rintro e w' ⟨rfl, rfl⟩)
      go_ret
      exact ⟨A', rfl, Ho.out.clip.mono (by omega), HE.out.tr He.out⟩
end Go.Proofs.YtmelggoagbhieaaGreat

/- The program's MustRun: its function values. Conditions: the boxes can be read. -/
namespace Go.Proofs.YtmelggoagbhieaaGreat
open Go.RowKit
section
variable {P : Program} {ops : Array Oper} {Q : Exit → Act → World → Prop} {md : Region.Mode} {S : World → Prop}
theorem tyImplT (i : Nat) {oi : Oper} {v : Value} {fuel : Nat} {listed : Array Bool} {a : Act} {w : World} (hv : ∀ w, S w → (execOp a.eval oi).run P w = .ok (.value v) w) (h : wpAnyH P md ops Q S fuel (listed.setIfInBounds i true) (a.put oi.dst v) w)
    (hi : ops[i]? = some oi := by simp only [List.getElem?_toArray, List.getElem?_cons_succ, List.getElem?_cons_zero]; rfl) (hs : Region.noSelect ops = true := by kernel_rfl) (hf : Region.free md ops listed i = true := by kernel_rfl) (hr : (Region.ready md ops listed).contains i = true := by kernel_rfl)
    (hQ : ∀ c a w, Q (.panic c) (a.put oi.dst v) w → Q (.panic c) a w := by exact fun _ _ _ h => h) (hw : Region.wanted oi (yielded ops a.tmps) = true := by kernel_rfl) (hS : S w := by assumption) : wpAnyH P md ops Q S (fuel + 1) listed a w := wpAnyH_take hi hs hf hr hQ (Or.inl ⟨hw, hv⟩) hS h
theorem tnImplT (i : Nat) {oi : Oper} {fuel : Nat} {listed : Array Bool} {a : Act} {w : World} (h : wpAnyH P md ops Q S fuel (listed.setIfInBounds i true) (a.put oi.dst undef) w)
    (hi : ops[i]? = some oi := by simp only [List.getElem?_toArray, List.getElem?_cons_succ, List.getElem?_cons_zero]; rfl) (hs : Region.noSelect ops = true := by kernel_rfl) (hf : Region.free md ops listed i = true := by kernel_rfl) (hr : (Region.ready md ops listed).contains i = true := by kernel_rfl)
    (hQ : ∀ c a w, Q (.panic c) (a.put oi.dst undef) w → Q (.panic c) a w := by exact fun _ _ _ h => h) (hw : Region.wanted oi (yielded ops a.tmps) = false := by kernel_rfl) (hS : S w := by assumption) : wpAnyH P md ops Q S (fuel + 1) listed a w := wpAnyH_take hi hs hf hr hQ (Or.inr ⟨hw, rfl⟩) hS h
end

def XInv (Bx By : Nat) (Ax Ay : Option Addr) (cx cy n : Nat) (X Y : List Int) (w : World) : Prop :=
  w.cell? ⟨Bx, 0, none⟩ = some (.slice Ax n cx) ∧ w.cell? ⟨By, 0, none⟩ = some (.slice Ay n cy) ∧ Rd w 1 Ax n (ints X) ∧ Rd w 1 Ay n (ints Y)
theorem XInv.ext {Bx By : Nat} {Ax Ay : Option Addr} {cx cy n : Nat} {X Y : List Int} {w w' : World} (h : XInv Bx By Ax Ay cx cy n X Y w) (e : Ext w w') : XInv Bx By Ax Ay cx cy n X Y w' :=
  ⟨e.cellE h.1, e.cellE h.2.1, h.2.2.1.ext e, h.2.2.2.ext e⟩
theorem prd_must11 (Bx By : Nat) (Ax Ay : Option Addr) (cx cy n : Nat) (X Y : List Int) : Prd Tryz.prog 96 [.pointer (some ⟨Bx, 0, none⟩), .pointer (some ⟨By, 0, none⟩)] (XInv Bx By Ax Ay cx cy n X Y) (fun k => Sg.rd X k != Sg.rd Y k) (fun k => 0 ≤ k ∧ k < n) where
  ent := ent_of Tryz.func96 rfl (by kernel_rfl)
  call := fun w k h hk => by
    obtain ⟨h1, h2, h3, h4⟩ := h
    obtain ⟨j, rfl⟩ := Int.eq_ofNat_of_zero_le hk.1
    have hj : j < n := by omega
    have hb := h3.big
    obtain ⟨ba, oa, x, rfl, hx, hcx⟩ := h3.at1 hj
    obtain ⟨bb, ob, y, rfl, hy, hcy⟩ := h4.at1 hj
    have HP := Lib.hid (show (Sg.rd X j != Sg.rd Y j) = (x != y) by simp [Sg.rd, hx, hy])
    clear hx hy h3 h4 hk
    go_enter Tryz.func96, Tryz.ntmps96
    go_wp2
    go_quiet (fail)
    go_wp2
    go_ret
    exact ⟨ret_bool (by rw [HP.out]), (Ext.rfl' _).drN _⟩
  ext := fun _ _ h e => h.ext e

def MInv (Bg Bx By Br : Nat) (A Ax Ay Ar : Option Addr) (c cx cy cr : Nat) (g : Sg.Graph) (X Y : List Int) (w : World) : Prop :=
  w.cell? ⟨Bg, 0, none⟩ = some (.slice A g.length c) ∧ XInv Bx By Ax Ay cx cy g.length X Y w ∧ w.cell? ⟨Br, 0, none⟩ = some (.slice Ar g.length cr) ∧ RdN w A g ∧ RdL w Ar (Sg.depsTo g X g.length)
theorem MInv.ext {Bg Bx By Br : Nat} {A Ax Ay Ar : Option Addr} {c cx cy cr : Nat} {g : Sg.Graph} {X Y : List Int} {w w' : World} (h : MInv Bg Bx By Br A Ax Ay Ar c cx cy cr g X Y w) (e : Ext w w') : MInv Bg Bx By Br A Ax Ay Ar c cx cy cr g X Y w' :=
  ⟨e.cellE h.1, h.2.1.ext e, e.cellE h.2.2.1, h.2.2.2.1.ext e, h.2.2.2.2.ext e⟩

set_option maxRecDepth 100000 in
set_option maxHeartbeats 4000000 in
theorem prd_must1 (Bg Bx By Br : Nat) (A Ax Ay Ar : Option Addr) (c cx cy cr : Nat) (g : Sg.Graph) (X Y : List Int) (hG : Sg.validG g = true) :
    Prd Tryz.prog 94 [.pointer (some ⟨Bg, 0, none⟩), .pointer (some ⟨Bx, 0, none⟩), .pointer (some ⟨By, 0, none⟩), .pointer (some ⟨Br, 0, none⟩)] (MInv Bg Bx By Br A Ax Ay Ar c cx cy cr g X Y) (fun k => Sg.mustAt g X Y k.toNat) (fun k => 0 ≤ k ∧ k < g.length) where
  ent := ent_of Tryz.func94 rfl (by kernel_rfl)
  call := fun w kk h hk => by
    obtain ⟨h1, ⟨x1, x2, x3, x4⟩, h3, h4, h5⟩ := h
    obtain ⟨k, rfl⟩ := Int.eq_ofNat_of_zero_le hk.1
    have hlt : k < g.length := by omega
    have hgl := h4.1
    obtain ⟨⟨nk, nf⟩, b, o, Ap, cp, hn, rfl, hkc, hsc, hf, hfl⟩ := h4.at_ hlt
    dsimp only at *
    obtain ⟨l, bl, ol, Al, cl, hl0, rfl, hlc, hl, hll⟩ := h5.at_ (show k < (Sg.depsTo g X g.length).length by simpa using hlt)
    obtain ⟨ba, oa, x, rfl, hx, hcx⟩ := x3.at1 hlt
    obtain ⟨bb, ob, y, rfl, hy, hcy⟩ := x4.at1 hlt
    obtain rfl : l = Sg.depAt g X k := by simpa [Sg.depsTo, hlt] using hl0.symm
    have HP := Lib.hid (show Sg.mustAt g X Y k = ((nk != 0) && ((x != y) || (Sg.depAt g X k).any fun n => Sg.rd X n != Sg.rd Y n)) by unfold Sg.mustAt Sg.kindAt; rw [Int.toNat_natCast]; simp [hn, hx, hy])
    have hdom : ∀ z ∈ Sg.depAt g X k, 0 ≤ z ∧ z < (g.length : Int) := fun z hz => by have := Sg.depAt_mem hG hlt hz; omega
    have HCF := Lib.hid (fun w h hi => i_ContainsFunc (prd_must11 Bx By (some ⟨ba, oa, none⟩) (some ⟨bb, ob, none⟩) cx cy g.length X Y) Al (Sg.depAt g X k).length cl (Sg.depAt g X k) w h hi hdom)
    have hb1 := blt h1
    have hb2 := blt hkc
    have hb3 := blt x1
    have hb4 := blt x2
    have hb5 := blt hcx
    have hb6 := blt hcy
    have hb7 := blt h3
    have hb8 := blt hlc
    generalize Sg.depAt g X k = l at *
    have ed := (Ext.rfl' w).dr
    clear hn hx hy hl0 hdom hk h4 h5 hsc hf hfl hG
    by_cases hz : nk = 0
    · have z1 : (nk != 0) = false := by simp [hz]
      rw [z1] at HP
      go_enter Tryz.func94, Tryz.ntmps94
      go_wp2_with fail
      refine wp_region_held_drew (S := (fun W => W.cell? ⟨Bg, 0, none⟩ = some (.slice (some ⟨b, o, none⟩) g.length c) ∧ W.cell? ⟨b, o + k * 2, none⟩ = some (.int .i64 nk) ∧ W.cell? ⟨Bx, 0, none⟩ = some (.slice (some ⟨ba, oa, none⟩) g.length cx) ∧ W.cell? ⟨By, 0, none⟩ = some (.slice (some ⟨bb, ob, none⟩) g.length cy) ∧ W.cell? ⟨ba, oa + k, none⟩ = some (.int .i64 x) ∧ W.cell? ⟨bb, ob + k, none⟩ = some (.int .i64 y) ∧ W.cell? ⟨Br, 0, none⟩ = some (.slice (some ⟨bl, ol, none⟩) g.length cr) ∧ W.cell? ⟨bl, ol + k, none⟩ = some (.slice Al l.length cl))) (by kernel_rfl) ?_ (fun hHeld => ?_)
      · exact ⟨ed.cellE h1, ed.cellE hkc, ed.cellE x1, ed.cellE x2, ed.cellE hcx, ed.cellE hcy, ed.cellE h3, ed.cellE hlc⟩
      refine tyImplT 0 (v := ?_) ?_ ?_
      rotate_left
      · intro w hSw; (try dsimp only at hSw); go_simp; try with_reducible rfl
      try simp only [Act.put, List.setIfInBounds_toArray, List.set_cons_zero, List.set_cons_succ]
      refine tyImplT 1 (v := ?_) ?_ ?_
      rotate_left
      · intro w hSw; (try dsimp only at hSw); go_simp; try with_reducible rfl
      try simp only [Act.put, List.setIfInBounds_toArray, List.set_cons_zero, List.set_cons_succ]
      refine tyImplT 2 (v := ?_) ?_ ?_
      rotate_left
      · intro w hSw; (try dsimp only at hSw); go_simp; try with_reducible rfl
      try simp only [Act.put, List.setIfInBounds_toArray, List.set_cons_zero, List.set_cons_succ]
      refine tyImplT 3 (v := ?_) ?_ ?_
      rotate_left
      · intro w hSw; (try dsimp only at hSw); go_simp; try with_reducible rfl
      try simp only [Act.put, List.setIfInBounds_toArray, List.set_cons_zero, List.set_cons_succ]
      refine tyImplT 4 (v := ?_) ?_ ?_
      rotate_left
      · intro w hSw; (try dsimp only at hSw); go_simp; try with_reducible rfl
      try simp only [Act.put, List.setIfInBounds_toArray, List.set_cons_zero, List.set_cons_succ]
      refine tyImplT 5 (v := ?_) ?_ ?_
      rotate_left
      · intro w hSw; (try dsimp only at hSw); go_simp; try with_reducible rfl
      try simp only [Act.put, List.setIfInBounds_toArray, List.set_cons_zero, List.set_cons_succ]
      refine tyImplT 6 (v := ?_) ?_ ?_
      rotate_left
      · intro w hSw; (try dsimp only at hSw); go_simp; try with_reducible rfl
      try simp only [Act.put, List.setIfInBounds_toArray, List.set_cons_zero, List.set_cons_succ]
      refine tyImplT 7 (v := ?_) ?_ ?_
      rotate_left
      · intro w hSw; (try dsimp only at hSw); go_simp; try with_reducible rfl
      try simp only [Act.put, List.setIfInBounds_toArray, List.set_cons_zero, List.set_cons_succ]
      refine tnImplT 8 ?_
      try simp only [Act.put, List.setIfInBounds_toArray, List.set_cons_zero, List.set_cons_succ]
      refine tnImplT 9 ?_
      try simp only [Act.put, List.setIfInBounds_toArray, List.set_cons_zero, List.set_cons_succ]
      refine tnImplT 10 ?_
      try simp only [Act.put, List.setIfInBounds_toArray, List.set_cons_zero, List.set_cons_succ]
      refine tnImplT 11 ?_
      try simp only [Act.put, List.setIfInBounds_toArray, List.set_cons_zero, List.set_cons_succ]
      refine tnImplT 12 ?_
      try simp only [Act.put, List.setIfInBounds_toArray, List.set_cons_zero, List.set_cons_succ]
      refine tnImplT 13 ?_
      try simp only [Act.put, List.setIfInBounds_toArray, List.set_cons_zero, List.set_cons_succ]
      refine tnImplT 14 ?_
      try simp only [Act.put, List.setIfInBounds_toArray, List.set_cons_zero, List.set_cons_succ]
      refine tnImplT 15 ?_
      try simp only [Act.put, List.setIfInBounds_toArray, List.set_cons_zero, List.set_cons_succ]
      refine tnImplT 16 ?_
      try simp only [Act.put, List.setIfInBounds_toArray, List.set_cons_zero, List.set_cons_succ]
      refine tnImplT 17 ?_
      try simp only [Act.put, List.setIfInBounds_toArray, List.set_cons_zero, List.set_cons_succ]
      refine tnImplT 18 ?_
      try simp only [Act.put, List.setIfInBounds_toArray, List.set_cons_zero, List.set_cons_succ]
      refine tnImplT 19 ?_
      try simp only [Act.put, List.setIfInBounds_toArray, List.set_cons_zero, List.set_cons_succ]
      refine tnImplT 20 ?_
      try simp only [Act.put, List.setIfInBounds_toArray, List.set_cons_zero, List.set_cons_succ]
      refine tnImplT 21 ?_
      try simp only [Act.put, List.setIfInBounds_toArray, List.set_cons_zero, List.set_cons_succ]
      refine tnImplT 22 ?_
      try simp only [Act.put, List.setIfInBounds_toArray, List.set_cons_zero, List.set_cons_succ]
      refine tnImplT 23 ?_
      try simp only [Act.put, List.setIfInBounds_toArray, List.set_cons_zero, List.set_cons_succ]
      refine tnImplT 24 ?_
      try simp only [Act.put, List.setIfInBounds_toArray, List.set_cons_zero, List.set_cons_succ]
      refine tyImplT 25 (v := ?_) ?_ ?_
      rotate_left
      · intro w hSw; (try dsimp only at hSw); go_simp; try with_reducible rfl
      try simp only [Act.put, List.setIfInBounds_toArray, List.set_cons_zero, List.set_cons_succ]
      refine tyImplT 26 (v := ?_) ?_ ?_
      rotate_left
      · intro w hSw; (try dsimp only at hSw); go_simp; try with_reducible rfl
      try simp only [Act.put, List.setIfInBounds_toArray, List.set_cons_zero, List.set_cons_succ]
      refine wpAnyH_done (by kernel_rfl) ?_ _
      go_wp2
      go_ret
      exact ⟨ret_bool (by rw [Int.toNat_natCast, HP.out]; simp), ed⟩
    · have z1 : (nk != 0) = true := by simp [hz]
      rw [z1] at HP
      by_cases hxy : x = y
      · have z2 : (x != y) = false := by simp [hxy]
        rw [z2] at HP
        clear hxy hz
        go_enter Tryz.func94, Tryz.ntmps94
        go_wp2_with fail
        refine wp_region_held_drew (S := (fun W => W.cell? ⟨Bg, 0, none⟩ = some (.slice (some ⟨b, o, none⟩) g.length c) ∧ W.cell? ⟨b, o + k * 2, none⟩ = some (.int .i64 nk) ∧ W.cell? ⟨Bx, 0, none⟩ = some (.slice (some ⟨ba, oa, none⟩) g.length cx) ∧ W.cell? ⟨By, 0, none⟩ = some (.slice (some ⟨bb, ob, none⟩) g.length cy) ∧ W.cell? ⟨ba, oa + k, none⟩ = some (.int .i64 x) ∧ W.cell? ⟨bb, ob + k, none⟩ = some (.int .i64 y) ∧ W.cell? ⟨Br, 0, none⟩ = some (.slice (some ⟨bl, ol, none⟩) g.length cr) ∧ W.cell? ⟨bl, ol + k, none⟩ = some (.slice Al l.length cl))) (by kernel_rfl) ?_ (fun hHeld => ?_)
        · exact ⟨ed.cellE h1, ed.cellE hkc, ed.cellE x1, ed.cellE x2, ed.cellE hcx, ed.cellE hcy, ed.cellE h3, ed.cellE hlc⟩
        refine tyImplT 0 (v := ?_) ?_ ?_
        rotate_left
        · intro w hSw; (try dsimp only at hSw); go_simp; try with_reducible rfl
        try simp only [Act.put, List.setIfInBounds_toArray, List.set_cons_zero, List.set_cons_succ]
        refine tyImplT 1 (v := ?_) ?_ ?_
        rotate_left
        · intro w hSw; (try dsimp only at hSw); go_simp; try with_reducible rfl
        try simp only [Act.put, List.setIfInBounds_toArray, List.set_cons_zero, List.set_cons_succ]
        refine tyImplT 2 (v := ?_) ?_ ?_
        rotate_left
        · intro w hSw; (try dsimp only at hSw); go_simp; try with_reducible rfl
        try simp only [Act.put, List.setIfInBounds_toArray, List.set_cons_zero, List.set_cons_succ]
        refine tyImplT 3 (v := ?_) ?_ ?_
        rotate_left
        · intro w hSw; (try dsimp only at hSw); go_simp; try with_reducible rfl
        try simp only [Act.put, List.setIfInBounds_toArray, List.set_cons_zero, List.set_cons_succ]
        refine tyImplT 4 (v := ?_) ?_ ?_
        rotate_left
        · intro w hSw; (try dsimp only at hSw); go_simp; try with_reducible rfl
        try simp only [Act.put, List.setIfInBounds_toArray, List.set_cons_zero, List.set_cons_succ]
        refine tyImplT 5 (v := ?_) ?_ ?_
        rotate_left
        · intro w hSw; (try dsimp only at hSw); go_simp; try with_reducible rfl
        try simp only [Act.put, List.setIfInBounds_toArray, List.set_cons_zero, List.set_cons_succ]
        refine tyImplT 6 (v := ?_) ?_ ?_
        rotate_left
        · intro w hSw; (try dsimp only at hSw); go_simp; try with_reducible rfl
        try simp only [Act.put, List.setIfInBounds_toArray, List.set_cons_zero, List.set_cons_succ]
        refine tyImplT 7 (v := ?_) ?_ ?_
        rotate_left
        · intro w hSw; (try dsimp only at hSw); go_simp; try with_reducible rfl
        try simp only [Act.put, List.setIfInBounds_toArray, List.set_cons_zero, List.set_cons_succ]
        refine tyImplT 8 (v := ?_) ?_ ?_
        rotate_left
        · intro w hSw; (try dsimp only at hSw); go_simp; try with_reducible rfl
        try simp only [Act.put, List.setIfInBounds_toArray, List.set_cons_zero, List.set_cons_succ]
        refine tyImplT 9 (v := ?_) ?_ ?_
        rotate_left
        · intro w hSw; (try dsimp only at hSw); go_simp; try with_reducible rfl
        try simp only [Act.put, List.setIfInBounds_toArray, List.set_cons_zero, List.set_cons_succ]
        refine tyImplT 10 (v := ?_) ?_ ?_
        rotate_left
        · intro w hSw; (try dsimp only at hSw); go_simp; try with_reducible rfl
        try simp only [Act.put, List.setIfInBounds_toArray, List.set_cons_zero, List.set_cons_succ]
        refine tyImplT 11 (v := ?_) ?_ ?_
        rotate_left
        · intro w hSw; (try dsimp only at hSw); go_simp; try with_reducible rfl
        try simp only [Act.put, List.setIfInBounds_toArray, List.set_cons_zero, List.set_cons_succ]
        refine tyImplT 12 (v := ?_) ?_ ?_
        rotate_left
        · intro w hSw; (try dsimp only at hSw); go_simp; try with_reducible rfl
        try simp only [Act.put, List.setIfInBounds_toArray, List.set_cons_zero, List.set_cons_succ]
        refine tyImplT 13 (v := ?_) ?_ ?_
        rotate_left
        · intro w hSw; (try dsimp only at hSw); go_simp; try with_reducible rfl
        try simp only [Act.put, List.setIfInBounds_toArray, List.set_cons_zero, List.set_cons_succ]
        refine tyImplT 14 (v := ?_) ?_ ?_
        rotate_left
        · intro w hSw; (try dsimp only at hSw); go_simp; try with_reducible rfl
        try simp only [Act.put, List.setIfInBounds_toArray, List.set_cons_zero, List.set_cons_succ]
        refine tyImplT 15 (v := ?_) ?_ ?_
        rotate_left
        · intro w hSw; (try dsimp only at hSw); go_simp; try with_reducible rfl
        try simp only [Act.put, List.setIfInBounds_toArray, List.set_cons_zero, List.set_cons_succ]
        refine tyImplT 16 (v := ?_) ?_ ?_
        rotate_left
        · intro w hSw; (try dsimp only at hSw); go_simp; try with_reducible rfl
        try simp only [Act.put, List.setIfInBounds_toArray, List.set_cons_zero, List.set_cons_succ]
        refine tyImplT 17 (v := ?_) ?_ ?_
        rotate_left
        · intro w hSw; (try dsimp only at hSw); go_simp; try with_reducible rfl
        try simp only [Act.put, List.setIfInBounds_toArray, List.set_cons_zero, List.set_cons_succ]
        refine tyImplT 18 (v := ?_) ?_ ?_
        rotate_left
        · intro w hSw; (try dsimp only at hSw); go_simp; try with_reducible rfl
        try simp only [Act.put, List.setIfInBounds_toArray, List.set_cons_zero, List.set_cons_succ]
        refine tyImplT 19 (v := ?_) ?_ ?_
        rotate_left
        · intro w hSw; (try dsimp only at hSw); go_simp; try with_reducible rfl
        try simp only [Act.put, List.setIfInBounds_toArray, List.set_cons_zero, List.set_cons_succ]
        refine tyImplT 20 (v := ?_) ?_ ?_
        rotate_left
        · intro w hSw; (try dsimp only at hSw); go_simp; try with_reducible rfl
        try simp only [Act.put, List.setIfInBounds_toArray, List.set_cons_zero, List.set_cons_succ]
        refine tyImplT 21 (v := ?_) ?_ ?_
        rotate_left
        · intro w hSw; (try dsimp only at hSw); go_simp; try with_reducible rfl
        try simp only [Act.put, List.setIfInBounds_toArray, List.set_cons_zero, List.set_cons_succ]
        refine tyImplT 22 (v := ?_) ?_ ?_
        rotate_left
        · intro w hSw; (try dsimp only at hSw); go_simp; try with_reducible rfl
        try simp only [Act.put, List.setIfInBounds_toArray, List.set_cons_zero, List.set_cons_succ]
        refine wpAnyH_ready (rs := [23]) (by kernel_rfl) (by simp) ?_
        refine AllReadyH.cons rfl (fun K hK => ?_) AllReadyH.nil
        go_simp
        refine (HCF.out _ (hl.ext ed) ⟨ed.cellE x1, ed.cellE x2, x3.ext ed, x4.ext ed⟩).mono ?_
        rintro e w2 ⟨rfl, he2⟩
        have e4 := ed.tr he2
        try go_wp2_with fail
        refine hK.out _ _ ?_ (fun hHeld2 => ?_)
        · exact ⟨e4.cellE h1, e4.cellE hkc, e4.cellE x1, e4.cellE x2, e4.cellE hcx, e4.cellE hcy, e4.cellE h3, e4.cellE hlc⟩
        clear hK K hHeld
        have hHeld := hHeld2
        clear hHeld2
        try simp only [Act.put, List.setIfInBounds_toArray, List.set_cons_zero, List.set_cons_succ]
        refine tyImplT 24 (v := ?_) ?_ ?_
        rotate_left
        · intro w hSw; (try dsimp only at hSw); go_simp; try with_reducible rfl
        try simp only [Act.put, List.setIfInBounds_toArray, List.set_cons_zero, List.set_cons_succ]
        refine tyImplT 25 (v := ?_) ?_ ?_
        rotate_left
        · intro w hSw; (try dsimp only at hSw); go_simp; try with_reducible rfl
        try simp only [Act.put, List.setIfInBounds_toArray, List.set_cons_zero, List.set_cons_succ]
        refine tyImplT 26 (v := ?_) ?_ ?_
        rotate_left
        · intro w hSw; (try dsimp only at hSw); go_simp; try with_reducible rfl
        try simp only [Act.put, List.setIfInBounds_toArray, List.set_cons_zero, List.set_cons_succ]
        refine wpAnyH_done (by kernel_rfl) ?_ _
        go_wp2
        go_ret
        exact ⟨ret_bool (by rw [Int.toNat_natCast, HP.out]; simp), e4⟩
      · have z2 : (x != y) = true := by simp [hxy]
        rw [z2] at HP
        clear hxy hz
        go_enter Tryz.func94, Tryz.ntmps94
        go_wp2_with fail
        refine wp_region_held_drew (S := (fun W => W.cell? ⟨Bg, 0, none⟩ = some (.slice (some ⟨b, o, none⟩) g.length c) ∧ W.cell? ⟨b, o + k * 2, none⟩ = some (.int .i64 nk) ∧ W.cell? ⟨Bx, 0, none⟩ = some (.slice (some ⟨ba, oa, none⟩) g.length cx) ∧ W.cell? ⟨By, 0, none⟩ = some (.slice (some ⟨bb, ob, none⟩) g.length cy) ∧ W.cell? ⟨ba, oa + k, none⟩ = some (.int .i64 x) ∧ W.cell? ⟨bb, ob + k, none⟩ = some (.int .i64 y) ∧ W.cell? ⟨Br, 0, none⟩ = some (.slice (some ⟨bl, ol, none⟩) g.length cr) ∧ W.cell? ⟨bl, ol + k, none⟩ = some (.slice Al l.length cl))) (by kernel_rfl) ?_ (fun hHeld => ?_)
        · exact ⟨ed.cellE h1, ed.cellE hkc, ed.cellE x1, ed.cellE x2, ed.cellE hcx, ed.cellE hcy, ed.cellE h3, ed.cellE hlc⟩
        refine tyImplT 0 (v := ?_) ?_ ?_
        rotate_left
        · intro w hSw; (try dsimp only at hSw); go_simp; try with_reducible rfl
        try simp only [Act.put, List.setIfInBounds_toArray, List.set_cons_zero, List.set_cons_succ]
        refine tyImplT 1 (v := ?_) ?_ ?_
        rotate_left
        · intro w hSw; (try dsimp only at hSw); go_simp; try with_reducible rfl
        try simp only [Act.put, List.setIfInBounds_toArray, List.set_cons_zero, List.set_cons_succ]
        refine tyImplT 2 (v := ?_) ?_ ?_
        rotate_left
        · intro w hSw; (try dsimp only at hSw); go_simp; try with_reducible rfl
        try simp only [Act.put, List.setIfInBounds_toArray, List.set_cons_zero, List.set_cons_succ]
        refine tyImplT 3 (v := ?_) ?_ ?_
        rotate_left
        · intro w hSw; (try dsimp only at hSw); go_simp; try with_reducible rfl
        try simp only [Act.put, List.setIfInBounds_toArray, List.set_cons_zero, List.set_cons_succ]
        refine tyImplT 4 (v := ?_) ?_ ?_
        rotate_left
        · intro w hSw; (try dsimp only at hSw); go_simp; try with_reducible rfl
        try simp only [Act.put, List.setIfInBounds_toArray, List.set_cons_zero, List.set_cons_succ]
        refine tyImplT 5 (v := ?_) ?_ ?_
        rotate_left
        · intro w hSw; (try dsimp only at hSw); go_simp; try with_reducible rfl
        try simp only [Act.put, List.setIfInBounds_toArray, List.set_cons_zero, List.set_cons_succ]
        refine tyImplT 6 (v := ?_) ?_ ?_
        rotate_left
        · intro w hSw; (try dsimp only at hSw); go_simp; try with_reducible rfl
        try simp only [Act.put, List.setIfInBounds_toArray, List.set_cons_zero, List.set_cons_succ]
        refine tyImplT 7 (v := ?_) ?_ ?_
        rotate_left
        · intro w hSw; (try dsimp only at hSw); go_simp; try with_reducible rfl
        try simp only [Act.put, List.setIfInBounds_toArray, List.set_cons_zero, List.set_cons_succ]
        refine tyImplT 8 (v := ?_) ?_ ?_
        rotate_left
        · intro w hSw; (try dsimp only at hSw); go_simp; try with_reducible rfl
        try simp only [Act.put, List.setIfInBounds_toArray, List.set_cons_zero, List.set_cons_succ]
        refine tyImplT 9 (v := ?_) ?_ ?_
        rotate_left
        · intro w hSw; (try dsimp only at hSw); go_simp; try with_reducible rfl
        try simp only [Act.put, List.setIfInBounds_toArray, List.set_cons_zero, List.set_cons_succ]
        refine tyImplT 10 (v := ?_) ?_ ?_
        rotate_left
        · intro w hSw; (try dsimp only at hSw); go_simp; try with_reducible rfl
        try simp only [Act.put, List.setIfInBounds_toArray, List.set_cons_zero, List.set_cons_succ]
        refine tyImplT 11 (v := ?_) ?_ ?_
        rotate_left
        · intro w hSw; (try dsimp only at hSw); go_simp; try with_reducible rfl
        try simp only [Act.put, List.setIfInBounds_toArray, List.set_cons_zero, List.set_cons_succ]
        refine tyImplT 12 (v := ?_) ?_ ?_
        rotate_left
        · intro w hSw; (try dsimp only at hSw); go_simp; try with_reducible rfl
        try simp only [Act.put, List.setIfInBounds_toArray, List.set_cons_zero, List.set_cons_succ]
        refine tyImplT 13 (v := ?_) ?_ ?_
        rotate_left
        · intro w hSw; (try dsimp only at hSw); go_simp; try with_reducible rfl
        try simp only [Act.put, List.setIfInBounds_toArray, List.set_cons_zero, List.set_cons_succ]
        refine tyImplT 14 (v := ?_) ?_ ?_
        rotate_left
        · intro w hSw; (try dsimp only at hSw); go_simp; try with_reducible rfl
        try simp only [Act.put, List.setIfInBounds_toArray, List.set_cons_zero, List.set_cons_succ]
        refine tyImplT 15 (v := ?_) ?_ ?_
        rotate_left
        · intro w hSw; (try dsimp only at hSw); go_simp; try with_reducible rfl
        try simp only [Act.put, List.setIfInBounds_toArray, List.set_cons_zero, List.set_cons_succ]
        refine tyImplT 16 (v := ?_) ?_ ?_
        rotate_left
        · intro w hSw; (try dsimp only at hSw); go_simp; try with_reducible rfl
        try simp only [Act.put, List.setIfInBounds_toArray, List.set_cons_zero, List.set_cons_succ]
        refine tyImplT 17 (v := ?_) ?_ ?_
        rotate_left
        · intro w hSw; (try dsimp only at hSw); go_simp; try with_reducible rfl
        try simp only [Act.put, List.setIfInBounds_toArray, List.set_cons_zero, List.set_cons_succ]
        refine tnImplT 18 ?_
        try simp only [Act.put, List.setIfInBounds_toArray, List.set_cons_zero, List.set_cons_succ]
        refine tnImplT 19 ?_
        try simp only [Act.put, List.setIfInBounds_toArray, List.set_cons_zero, List.set_cons_succ]
        refine tnImplT 20 ?_
        try simp only [Act.put, List.setIfInBounds_toArray, List.set_cons_zero, List.set_cons_succ]
        refine tnImplT 21 ?_
        try simp only [Act.put, List.setIfInBounds_toArray, List.set_cons_zero, List.set_cons_succ]
        refine tnImplT 22 ?_
        try simp only [Act.put, List.setIfInBounds_toArray, List.set_cons_zero, List.set_cons_succ]
        refine tnImplT 23 ?_
        try simp only [Act.put, List.setIfInBounds_toArray, List.set_cons_zero, List.set_cons_succ]
        refine tyImplT 24 (v := ?_) ?_ ?_
        rotate_left
        · intro w hSw; (try dsimp only at hSw); go_simp; try with_reducible rfl
        try simp only [Act.put, List.setIfInBounds_toArray, List.set_cons_zero, List.set_cons_succ]
        refine tyImplT 25 (v := ?_) ?_ ?_
        rotate_left
        · intro w hSw; (try dsimp only at hSw); go_simp; try with_reducible rfl
        try simp only [Act.put, List.setIfInBounds_toArray, List.set_cons_zero, List.set_cons_succ]
        refine tyImplT 26 (v := ?_) ?_ ?_
        rotate_left
        · intro w hSw; (try dsimp only at hSw); go_simp; try with_reducible rfl
        try simp only [Act.put, List.setIfInBounds_toArray, List.set_cons_zero, List.set_cons_succ]
        refine wpAnyH_done (by kernel_rfl) ?_ _
        go_wp2
        go_ret
        exact ⟨ret_bool (by rw [Int.toNat_natCast, HP.out]; simp), ed⟩
  ext := fun _ _ h e => h.ext e
end Go.Proofs.YtmelggoagbhieaaGreat

/- The program's MustRun: its contract. Conditions: bounds on lengths. -/
namespace Go.Proofs.YtmelggoagbhieaaGreat
open Go.RowKit

set_option maxHeartbeats 1000000 in
theorem i_MustRun (A Aa Ab : Option Addr) (c ca cb : Nat) (g : Sg.Graph) (a b : List Int) (w : World) (h : RdN w A g) (ha : Rd w 1 Aa a.length (ints a)) (hb : Rd w 1 Ab b.length (ints b)) :
    Calls Tryz.prog 24 #[.agg #[.slice A g.length c], .slice Aa a.length ca, .slice Ab b.length cb] w fun e w' => ∃ A1, e = .returned (.slice A1 (Sg.mustOr g a b).length (Sg.mustOr g a b).length) ∧ Own w' w.heap.size 3 1 A1 (Sg.mustOr g a b).length (Sg.mustOr g a b).length (ints (Sg.mustOr g a b)) ∧ Ext w w' := by
  have hgl := h.1
  have e0 := (Ext.rfl' w).al (.cells #[.slice A g.length c] 25)
  have HVA := Lib.hid (i_ValidCells A Aa c ca g a)
  have HVB := Lib.hid (i_ValidCells A Ab c cb g b)
  have q0 : (w.alloc (.cells #[.slice A g.length c] 25)).cell? ⟨w.heap.size, 0, none⟩ = some (.slice A g.length c) := by simp [go_sem]
  have HE := Lib.hid e0
  have H := Lib.hid h
  have Ha := Lib.hid ha
  have Hb := Lib.hid hb
  have Q0 := Lib.hid q0
  clear e0 h ha hb q0
  cases hA : (Sg.validG g && Sg.validC g a)
  · have HA := Lib.hid hA
    have hS : Sg.mustOr g a b = [] := by unfold Sg.mustOr; rw [hA]; rfl
    have HS := Lib.hid hS
    clear hS hA
    go_enter Tryz.func24, Tryz.ntmps24
    go_wp2_with fail
    refine (HVA.out _ (H.out.ext HE.out) (Ha.out.ext HE.out)).mono ?_
    rintro e w1 ⟨rfl, he1⟩
    rw [HA.out]
    have k1 := (he1).cellE Q0.out
    go_wp2
    go_ret
    rw [HS.out]
    exact ⟨none, rfl, Own.nil _ _ _ _, (HE.out.tr he1)⟩
  have HA := Lib.hid hA
  simp only [Bool.and_eq_true] at hA
  cases hB : (Sg.validG g && Sg.validC g b)
  · have HB := Lib.hid hB
    have hS : Sg.mustOr g a b = [] := by unfold Sg.mustOr; rw [hA.1, hA.2]; rw [hA.1] at hB; simp only [Bool.true_and] at hB ⊢; rw [hB]; rfl
    have HS := Lib.hid hS
    clear hS hA hB
    go_enter Tryz.func24, Tryz.ntmps24
    go_wp2_with fail
    refine (HVA.out _ (H.out.ext HE.out) (Ha.out.ext HE.out)).mono ?_
    rintro e w1 ⟨rfl, he1⟩
    rw [HA.out]
    have k1 := (he1).cellE Q0.out
    go_wp2_with fail
    refine (HVB.out _ (H.out.ext (HE.out.tr he1)) (Hb.out.ext (HE.out.tr he1))).mono ?_
    rintro e w2 ⟨rfl, he2⟩
    rw [HB.out]
    have k2 := ((he1.tr he2)).cellE Q0.out
    go_wp2
    go_ret
    rw [HS.out]
    exact ⟨none, rfl, Own.nil _ _ _ _, ((HE.out.tr he1).tr he2)⟩
  have HB := Lib.hid hB
  simp only [Bool.and_eq_true] at hB
  have hS : Sg.mustOr g a b = Sg.whichL (Sg.mustAt g (Sg.mean g a) (Sg.mean g b)) g.length := by unfold Sg.mustOr; rw [hA.1, hA.2, hB.2]; rfl
  have HS := Lib.hid hS
  have HMA := Lib.hid (fun w h hc => i_meaning A Aa c ca g a w h hc hA.1 hA.2)
  have HMB := Lib.hid (fun w h hc => i_meaning A Ab c cb g b w h hc hA.1 hB.2)
  have hx2 : ∀ x ∈ Sg.depsTo g (Sg.mean g a) g.length, x.length ≤ 1048576 := fun x hx => by
    unfold Sg.depsTo at hx
    obtain ⟨i, hi, rfl⟩ := List.mem_map.1 hx
    exact Nat.le_trans (Sg.depAt_len hA.1 _ (List.mem_range.1 hi)) (by omega)
  have HX2 := Lib.hid hx2
  have HG := Lib.hid hA.1
  clear hA hB hS hx2
  generalize Sg.mean g a = X at *
  generalize Sg.mean g b = Y at *
  go_enter Tryz.func24, Tryz.ntmps24
  go_wp2_with fail
  refine (HVA.out _ (H.out.ext HE.out) (Ha.out.ext HE.out)).mono ?_
  rintro e w1 ⟨rfl, he1⟩
  rw [HA.out]
  have k1 := (he1).cellE Q0.out
  go_wp2_with fail
  refine (HVB.out _ (H.out.ext (HE.out.tr he1)) (Hb.out.ext (HE.out.tr he1))).mono ?_
  rintro e w2 ⟨rfl, he2⟩
  rw [HB.out]
  have k2 := ((he1.tr he2)).cellE Q0.out
  go_wp2_with fail
  refine (HMA.out _ (H.out.ext ((HE.out.tr he1).tr he2)) (Ha.out.ext ((HE.out.tr he1).tr he2))).mono ?_
  rintro e w3 ⟨Ax, Ar, hs, rfl, hox, hor, hdx, he3⟩
  have k3 := he3.cellE k2
  have E3 := Lib.hid ((((HE.out.tr he1).tr he2).tr he3))
  have Hrx := Lib.hid hox.rd
  have Hor := Lib.hid hor
  have b3 := blt k3
  clear he1 he2 k1 k2 hox hdx hor he3
  obtain ⟨W4, hW4⟩ : ∃ W4, W4 = ((w3.alloc (.cells #[.slice Ax g.length g.length] 26)).alloc (.cells #[.slice Ar g.length g.length] 27)) := ⟨_, rfl⟩
  have e4 : Ext w3 W4 := by rw [hW4]; exact ((Ext.rfl' w3).al _).al _
  have k4 := e4.cellE k3
  have kx4 : W4.cell? ⟨w3.heap.size, 0, none⟩ = some (.slice Ax g.length g.length) := by rw [hW4]; simp [go_sem]
  have kr4 : W4.cell? ⟨w3.heap.size + 1, 0, none⟩ = some (.slice Ar g.length g.length) := by rw [hW4]; simp [go_sem]
  go_wp2_with fail
  rw [← hW4]
  refine (HMB.out _ (H.out.ext (E3.out.tr e4)) (Hb.out.ext (E3.out.tr e4))).mono ?_
  rintro e w5 ⟨Ay, Ar2, hs2, rfl, hoy, hor2, hdx, he5⟩
  have k5 := he5.cellE k4
  have kx5 := he5.cellE kx4
  have kr5 := he5.cellE kr4
  have b5 := blt kr5
  have b50 := blt k5
  have E5 := Lib.hid ((E3.out.tr e4).tr he5)
  have Hrx5 := Lib.hid (Hrx.out.ext (e4.tr he5))
  have Hor5 := Lib.hid (Hor.out.ext (e4.tr he5))
  have Hry5 := Lib.hid hoy.rd
  clear hW4 e4 k4 kx4 kr4 he5 hoy hor2 hdx
  obtain ⟨W6, hW6⟩ : ∃ W6, W6 = w5.alloc (.cells #[.slice Ay g.length g.length] 26) := ⟨_, rfl⟩
  have e6 : Ext w5 W6 := by rw [hW6]; exact (Ext.rfl' w5).al _
  have ky6 : W6.cell? ⟨w5.heap.size, 0, none⟩ = some (.slice Ay g.length g.length) := by rw [hW6]; simp [go_sem]
  have HI : MInv w.heap.size w3.heap.size w5.heap.size (w3.heap.size + 1) A Ax Ay Ar c g.length g.length g.length g X Y W6 := ⟨e6.cellE k5, ⟨e6.cellE kx5, ky6, Hrx5.out.ext e6, Hry5.out.ext e6⟩, e6.cellE kr5, H.out.ext (E5.out.tr e6), (OwnL.rdL Hor5.out (by simpa using hgl) HX2.out).ext e6⟩
  have HWH := i_which (prd_must1 w.heap.size w3.heap.size w5.heap.size (w3.heap.size + 1) A Ax Ay Ar c g.length g.length g.length g X Y HG.out) A g.length c W6 HI (fun k hk => ⟨by omega, by omega⟩) hgl
  simp only [Int.toNat_natCast] at HWH
  have HWW := Lib.hid HWH
  have E6 := Lib.hid (E5.out.tr e6)
  have z6 : w.heap.size ≤ W6.heap.size := E6.out.size
  clear HWH HI e6 ky6 kx5 kr5
  go_wp2_with fail
  rw [← hW6]
  refine HWW.out.mono ?_
  rintro e w7 ⟨A7, rfl, ho7, he7⟩
  have Ho7 := Lib.hid ho7
  have E7 := Lib.hid (E6.out.tr he7)
  clear ho7 he7 hW6
  go_wp2
  go_ret
  rw [HS.out]
  exact ⟨A7, rfl, Ho7.out.mono z6, E7.out⟩
end Go.Proofs.YtmelggoagbhieaaGreat

/- The program's reach and MayRun with its function values: contracts. Conditions: bounds on lengths; for reach a valid graph. -/
namespace Sg
theorem reads_ok {g : Graph} (hG : validG g = true) {i : Nat} {nk : Int} {nf : List Part} (hn : g[i]? = some ⟨nk, nf⟩) : ∀ p ∈ nf, p.kind = 1 → 0 ≤ p.n ∧ p.n ≤ 9 := by
  have hg := validG_node hG i (List.getElem?_eq_some_iff.1 hn).1
  unfold goodNode at hg
  rw [getD_of hn] at hg
  dsimp only at hg
  split at hg
  · have hl : nf = [] := by simpa using hg
    rw [hl]
    intro p hp
    cases hp
  · split at hg
    · simp only [Bool.and_eq_true] at hg
      intro p hp hk
      exact mayRead_range (mem_mayRead hg.1 hp hk)
    · cases hg
end Sg
namespace Go.Proofs.YtmelggoagbhieaaGreat
open Go.RowKit
section
variable {P : Program} {ops : Array Oper} {Q : Exit → Act → World → Prop} {md : Region.Mode} {S : World → Prop}
theorem tyMayR (i : Nat) {oi : Oper} {v : Value} {fuel : Nat} {listed : Array Bool} {a : Act} {w : World} (hv : ∀ w, S w → (execOp a.eval oi).run P w = .ok (.value v) w) (h : wpAnyH P md ops Q S fuel (listed.setIfInBounds i true) (a.put oi.dst v) w)
    (hi : ops[i]? = some oi := by simp only [List.getElem?_toArray, List.getElem?_cons_succ, List.getElem?_cons_zero]; rfl) (hs : Region.noSelect ops = true := by kernel_rfl) (hf : Region.free md ops listed i = true := by kernel_rfl) (hr : (Region.ready md ops listed).contains i = true := by kernel_rfl)
    (hQ : ∀ c a w, Q (.panic c) (a.put oi.dst v) w → Q (.panic c) a w := by exact fun _ _ _ h => h) (hw : Region.wanted oi (yielded ops a.tmps) = true := by kernel_rfl) (hS : S w := by assumption) : wpAnyH P md ops Q S (fuel + 1) listed a w := wpAnyH_take hi hs hf hr hQ (Or.inl ⟨hw, hv⟩) hS h
theorem tnMayR (i : Nat) {oi : Oper} {fuel : Nat} {listed : Array Bool} {a : Act} {w : World} (h : wpAnyH P md ops Q S fuel (listed.setIfInBounds i true) (a.put oi.dst undef) w)
    (hi : ops[i]? = some oi := by simp only [List.getElem?_toArray, List.getElem?_cons_succ, List.getElem?_cons_zero]; rfl) (hs : Region.noSelect ops = true := by kernel_rfl) (hf : Region.free md ops listed i = true := by kernel_rfl) (hr : (Region.ready md ops listed).contains i = true := by kernel_rfl)
    (hQ : ∀ c a w, Q (.panic c) (a.put oi.dst undef) w → Q (.panic c) a w := by exact fun _ _ _ h => h) (hw : Region.wanted oi (yielded ops a.tmps) = false := by kernel_rfl) (hS : S w := by assumption) : wpAnyH P md ops Q S (fuel + 1) listed a w := wpAnyH_take hi hs hf hr hQ (Or.inr ⟨hw, rfl⟩) hS h
end

theorem bools_rep2 (n : Nat) : List.replicate n (Value.bool false) = bools (List.replicate n false) := by simp [bools]

set_option maxRecDepth 100000 in
set_option maxHeartbeats 4000000 in
theorem i_reach (A : Option Addr) (c : Nat) (g : Sg.Graph) (n : Nat) (w : World) (h : RdN w A g) (hG : Sg.validG g = true) (hn : n < g.length) :
    Calls Tryz.prog 99 #[.agg #[.slice A g.length c], .int .i64 n] w fun e w' => ∃ M, e = .returned (.slice (some ⟨M, 0, none⟩) g.length g.length) ∧ Own w' w.heap.size 4 1 (some ⟨M, 0, none⟩) g.length g.length (bools (Sg.marksTo g n g.length)) ∧ Ext w w' := by
  have hgl := h.1
  have hg10 := validG_len hG
  have q0 : (w.alloc (.cells #[.slice A g.length c] 25)).cell? ⟨w.heap.size, 0, none⟩ = some (.slice A g.length c) := by simp [go_sem]
  have e0 := (Ext.rfl' w).al (.cells #[.slice A g.length c] 25)
  have HG := Lib.hid hG
  have H := Lib.hid h
  have HN := Lib.hid hn
  have Q0 := Lib.hid q0
  have HE0 := Lib.hid e0
  clear hG h hn q0 e0
  go_enter Tryz.func99, Tryz.ntmps99
  go_wp2_with fail
  refine (i_size A g.length c _).mono ?_
  rintro e w3 ⟨rfl, he3⟩
  have E3 := Lib.hid he3
  have hs3 := he3.size
  simp only [World.size_alloc] at hs3
  clear he3
  go_upto_region 2 with (at_make; refine wpList_mk rfl rfl eiBool (B := w3.heap.size) rfl rfl (by omega) (by omega) (Nat.le_refl _) ?_; intro w4 hown hext; rw [made_one _ _ rfl, bools_rep2] at hown; have O4 := Lib.hid hown; have E4 := Lib.hid hext; clear hown hext)
  have k4 := Lib.hid ((E3.out.tr E4.out).cellE Q0.out)
  generalize hM : w3.heap.size = M at *
  have hc4 := O4.out.cell (j := n) (u := .bool false) (by rw [bools_at, List.getElem?_replicate]; simp [HN.out])
  have hf4 := O4.out.free n
  have bM := blt hc4
  have hng : (n : Int) < (g.length : Int) := by have := HN.out; omega
  go_upto_region 3 with fail
  have E5 := Lib.hid (((HE0.out.tr E3.out).tr E4.out).set (p := ⟨M, n, none⟩) (by dsimp only; omega) (.bool true))
  have k5 := Lib.hid (show (w4.setCell ⟨M, n, none⟩ (.bool true)).cell? ⟨w.heap.size, 0, none⟩ = some (.slice A g.length c) by rw [World.cell?_setCell_other _ _ _ _ (by intro e; injection e; omega)]; exact k4.out)
  have O5 := Lib.hid (O4.out.st n (.bool true))
  rw [bools_set, Sg.marksTo_start HG.out HN.out] at O5
  clear hc4 hf4 k4 O4 E4 E3 hM
  generalize w4.setCell ⟨M, n, none⟩ (.bool true) = w5 at *
  clear bM
  go_wp2_with fail
  go_loopw [6] (fun i wr => ∃ k : Nat, n < k ∧ k ≤ g.length ∧ i = .int .i64 k ∧ Hid (Own wr M 4 1 (some ⟨M, 0, none⟩) g.length g.length (bools (Sg.marksTo g n k))) ∧ Hid (Ext w wr) ∧ Hid (wr.cell? ⟨w.heap.size, 0, none⟩ = some (.slice A g.length c))) (fun i _ => g.length - (intOf i).toNat)
  case atStart => exact ⟨n + 1, by omega, by have := HN.out; omega, by go_num, O5, E5, k5⟩
  case round =>
    clear O5 E5 k5
    obtain ⟨k, hnk, hk, rfl, ho, he, hb⟩ := hrel
    have hbx := hb.out
    by_cases hlt : k < g.length
    · obtain ⟨⟨nk, nf⟩, b, o, Ap, cp, hn, rfl, hkc, hs, hf, hfl⟩ := (H.out.ext he.out).at_ hlt
      dsimp only at *
      have HM := Lib.hid (fun w h => i_mayRead Ap cp nf w h (by omega) (Sg.reads_ok HG.out hn))
      have HL := Lib.hid (show (g.getD k default).f = nf by rw [Sg.getD_of hn])
      have HR := Lib.hid (fun (x : Int) (hx : x ∈ Sg.mayRead nf) => Sg.may_ahead HG.out hlt (x := x) (by rw [HL.out]; exact hx))
      have Hf := Lib.hid hf
      have HSC := Lib.hid hs
      clear hn hf hs
      go_wp2_with fail
      refine (i_size (some ⟨b, o, none⟩) g.length c _).mono ?_
      rintro e w1 ⟨rfl, he1⟩
      have H1 := Lib.hid he1
      have hb1 := he1.cellE hbx
      have hk1 := he1.cellE hkc
      have hs1 := he1.cellE HSC.out
      clear he1
      go_wp2_with fail
      refine (HM.out _ (Hf.out.ext H1.out)).mono ?_
      rintro e w2 ⟨A3, c3, rfl, ho3, he2⟩
      have H2 := Lib.hid (H1.out.tr he2)
      have b12 := Lib.hid he2.size
      have OL := Lib.hid ho3
      have hm3 := ho3.rd.big
      have OM := Lib.hid (ho.out.ext H2.out)
      have EW := Lib.hid (he.out.tr H2.out)
      have K2 := Lib.hid (he2.cellE hb1)
      have hMw : M < w1.heap.size := Nat.lt_of_lt_of_le (ho.out.lt rfl).2 H1.out.size
      clear he2 ho3 hk1 hs1 hb1 hbx
      rw [← Sg.marksTo_zero] at OM
      go_wp2_with fail
      go_loopw [31] (fun i wi => ∃ m : Nat, m ≤ (Sg.mayRead nf).length ∧ i = .int .i64 m ∧ Hid (Own wi M 4 1 (some ⟨M, 0, none⟩) g.length g.length (bools ((Sg.marksTo g n k).set k (Sg.markIn g n k m)))) ∧ Hid (Own wi w1.heap.size 3 1 A3 (Sg.mayRead nf).length c3 (ints (Sg.mayRead nf))) ∧ Hid (Ext w wi) ∧ Hid (wi.cell? ⟨w.heap.size, 0, none⟩ = some (.slice (some ⟨b, o, none⟩) g.length c))) (fun i _ => (Sg.mayRead nf).length - (intOf i).toNat)
      case atStart => exact ⟨0, Nat.zero_le _, rfl, OM, OL, EW, K2⟩
      case round =>
        clear OM OL EW K2
        obtain ⟨m, hm, rfl, hom, hol, hei, hbi⟩ := hrel
        by_cases hlm : m < (Sg.mayRead nf).length
        · obtain ⟨bl, ol, x, rfl, hx, hcx⟩ := hol.out.rd.at1 hlm
          obtain ⟨hx0, hxk⟩ := HR.out x (List.mem_of_getElem? hx)
          obtain ⟨X, rfl⟩ := Int.eq_ofNat_of_zero_le hx0
          have HMS := Lib.hid (Sg.markIn_succ (g := g) (n := n) (i := k) (m := m) (by rw [HL.out]; exact hx))
          have hXk : X < k := by omega
          have hck := Lib.hid (hom.out.cell (j := k) (u := .bool (Sg.markIn g n k m)) (by rw [bools_at, List.getElem?_set_self (by simpa using hlt)]; rfl))
          have hcX := Lib.hid (hom.out.cell (j := X) (u := .bool (Sg.useB g n X)) (by rw [bools_at, List.getElem?_set_ne (by omega), Sg.marksTo_at g n k X (by omega)]; simp [hXk]))
          have hfk := hom.out.free k
          generalize hmk : Sg.markIn g n k m = y at *
          generalize hmu : Sg.useB g n X = z at *
          have HY := Lib.hid hmk
          have HZ := Lib.hid hmu
          have ck := hck.out
          have cX := hcX.out
          have bck := blt ck
          have bcx := blt hcx
          have hkg : (k : Int) < (g.length : Int) := by omega
          have hXg : (X : Int) < (g.length : Int) := by omega
          clear hmk hmu hx hx0 hxk
          cases y
          · go_wp2_with fail
            go_roundw
            case rel =>
              have hbl := (hol.out.lt (g := bl) rfl).1
              have o1 := hom.out.st k (.bool z)
              rw [bools_set, List.set_set] at o1
              exact ⟨m + 1, by omega, by go_num, Lib.hid (by rw [(show Sg.markIn g n k (m + 1) = z by rw [HMS.out, Int.toNat_natCast, HZ.out]; rfl)]; exact o1), Lib.hid (hol.out.set (by simp [blk]; omega) _), Lib.hid (hei.out.set (p := ⟨M, k, none⟩) (by dsimp only; omega) _), Lib.hid (by rw [World.cell?_setCell_other _ _ _ _ (by intro e; injection e; omega)]; exact hbi.out)⟩
            case measure => simp [intOf]; omega
          · go_wp2_with fail
            go_roundw
            case rel =>
              have hbl := (hol.out.lt (g := bl) rfl).1
              have o1 := hom.out.st k (.bool true)
              rw [bools_set, List.set_set] at o1
              exact ⟨m + 1, by omega, by go_num, Lib.hid (by rw [(show Sg.markIn g n k (m + 1) = true by rw [HMS.out]; rfl)]; exact o1), Lib.hid (hol.out.set (by simp [blk]; omega) _), Lib.hid (hei.out.set (p := ⟨M, k, none⟩) (by dsimp only; omega) _), Lib.hid (by rw [World.cell?_setCell_other _ _ _ _ (by intro e; injection e; omega)]; exact hbi.out)⟩
            case measure => simp [intOf]; omega
        · obtain rfl : m = (Sg.mayRead nf).length := by omega
          have hon := hom.out
          have hml : (Sg.mayRead nf).length = (Sg.mayRead (g.getD k default).f).length := by rw [HL.out]
          rw [hml, Sg.marksTo_next HG.out hlt hnk] at hon
          have HON := Lib.hid hon
          clear hon hml
          go_wp2
          go_roundw
          case rel => exact ⟨k + 1, by omega, by omega, by go_num, HON, hei, hbi⟩
          case measure => simp [intOf]; omega
    · obtain rfl : k = g.length := by omega
      go_wp2_with fail
      refine (i_size A g.length c _).mono ?_
      rintro e w1 ⟨rfl, he1⟩
      have HO := Lib.hid (ho.out.ext he1)
      have HEE := Lib.hid (he.out.tr he1)
      go_wp2
      go_ret
      exact ⟨M, rfl, HO.out.mono (by omega), HEE.out⟩

def RInv (Bg Bi : Nat) (A : Option Addr) (c : Nat) (g : Sg.Graph) (i : Nat) (w : World) : Prop :=
  w.cell? ⟨Bg, 0, none⟩ = some (.slice A g.length c) ∧ w.cell? ⟨Bi, 0, none⟩ = some (.int .i64 i) ∧ RdN w A g
theorem RInv.ext {Bg Bi : Nat} {A : Option Addr} {c : Nat} {g : Sg.Graph} {i : Nat} {w w' : World} (h : RInv Bg Bi A c g i w) (e : Ext w w') : RInv Bg Bi A c g i w' := ⟨e.cellE h.1, e.cellE h.2.1, h.2.2.ext e⟩

set_option maxHeartbeats 1000000 in
theorem prd_may11 (Bg Bi : Nat) (A : Option Addr) (c : Nat) (g : Sg.Graph) (i : Nat) (hG : Sg.validG g = true) (hi : i < g.length) : Prd Tryz.prog 98 [.pointer (some ⟨Bg, 0, none⟩), .pointer (some ⟨Bi, 0, none⟩)] (RInv Bg Bi A c g i) (fun x => Sg.useB g x.toNat i) (fun x => 0 ≤ x ∧ x < g.length) where
  ent := ent_of Tryz.func98 rfl (by kernel_rfl)
  call := fun w x h hx => by
    obtain ⟨h1, h2, h3⟩ := h
    obtain ⟨n, rfl⟩ := Int.eq_ofNat_of_zero_le hx.1
    have hgl := h3.1
    have HR := Lib.hid (fun w h => i_reach A c g n w h hG (by omega))
    have HI := Lib.hid hi
    have H3 := Lib.hid h3
    have hb1 := blt h1
    have hb2 := blt h2
    have ed := Lib.hid (Ext.rfl' w).dr
    have higl : (i : Int) < (g.length : Int) := by omega
    clear hG h3 hx
    go_enter Tryz.func98, Tryz.ntmps98
    go_wp2_with fail
    refine wp_region_held_drew (S := (fun W => W.cell? ⟨Bg, 0, none⟩ = some (.slice A g.length c) ∧ W.cell? ⟨Bi, 0, none⟩ = some (.int .i64 i))) (by kernel_rfl) ?_ (fun hHeld => ?_)
    · exact ⟨ed.out.cellE h1, ed.out.cellE h2⟩
    refine tyMayR 0 (v := ?_) ?_ ?_
    rotate_left
    · intro w hSw; (try dsimp only at hSw); go_simp; try with_reducible rfl
    try simp only [Act.put, List.setIfInBounds_toArray, List.set_cons_zero, List.set_cons_succ]
    refine tyMayR 1 (v := ?_) ?_ ?_
    rotate_left
    · intro w hSw; (try dsimp only at hSw); go_simp; try with_reducible rfl
    try simp only [Act.put, List.setIfInBounds_toArray, List.set_cons_zero, List.set_cons_succ]
    refine tyMayR 3 (v := ?_) ?_ ?_
    rotate_left
    · intro w hSw; (try dsimp only at hSw); go_simp; try with_reducible rfl
    try simp only [Act.put, List.setIfInBounds_toArray, List.set_cons_zero, List.set_cons_succ]
    refine wpAnyH_ready (rs := [2]) (by kernel_rfl) (by simp) ?_
    refine AllReadyH.cons rfl (fun K hK => ?_) AllReadyH.nil
    go_simp
    refine (HR.out _ (H3.out.ext ed.out)).mono ?_
    rintro e w1 ⟨M, rfl, ho, he1⟩
    have k1 := he1.cellE (ed.out.cellE h1)
    have k2 := he1.cellE (ed.out.cellE h2)
    have kc := ho.cell (j := i) (u := .bool (Sg.useB g n i)) (by rw [bools_at, Sg.marksTo_at g n _ i HI.out]; simp [HI.out])
    have he2 := Lib.hid (ed.out.tr he1)
    have bM := blt kc
    clear ho he1
    generalize hz : Sg.useB g n i = z at *
    have HZ := Lib.hid hz
    clear hz
    try go_wp2_with fail
    refine hK.out _ _ ?_ (fun hHeld2 => ?_)
    · exact ⟨k1, k2⟩
    clear hK K hHeld
    have hHeld := hHeld2
    clear hHeld2
    try simp only [Act.put, List.setIfInBounds_toArray, List.set_cons_zero, List.set_cons_succ]
    refine tyMayR 4 (v := ?_) ?_ ?_
    rotate_left
    · intro w hSw; (try dsimp only at hSw); go_simp; try with_reducible rfl
    try simp only [Act.put, List.setIfInBounds_toArray, List.set_cons_zero, List.set_cons_succ]
    refine wpAnyH_ready (rs := [5]) (by kernel_rfl) (by simp) ?_
    refine AllReadyH.cons rfl (fun K hK => ?_) AllReadyH.nil
    go_simp
    refine hK.out _ _ ?_ (fun hHeld2 => ?_)
    · exact ⟨k1, k2⟩
    clear hK K hHeld
    have hHeld := hHeld2
    clear hHeld2
    try simp only [Act.put, List.setIfInBounds_toArray, List.set_cons_zero, List.set_cons_succ]
    refine tyMayR 6 (v := ?_) ?_ ?_
    rotate_left
    · intro w hSw; (try dsimp only at hSw); go_simp; try with_reducible rfl
    try simp only [Act.put, List.setIfInBounds_toArray, List.set_cons_zero, List.set_cons_succ]
    refine wpAnyH_done (by kernel_rfl) ?_ _
    go_wp2
    go_ret
    exact ⟨ret_bool (by rw [Int.toNat_natCast, HZ.out]), he2.out⟩
  ext := fun _ _ h e => h.ext e

def TInv (Bg Bn : Nat) (A An : Option Addr) (c cn : Nat) (g : Sg.Graph) (ns : List Int) (w : World) : Prop :=
  w.cell? ⟨Bg, 0, none⟩ = some (.slice A g.length c) ∧ w.cell? ⟨Bn, 0, none⟩ = some (.slice An ns.length cn) ∧ RdN w A g ∧ Rd w 1 An ns.length (ints ns)
theorem TInv.ext {Bg Bn : Nat} {A An : Option Addr} {c cn : Nat} {g : Sg.Graph} {ns : List Int} {w w' : World} (h : TInv Bg Bn A An c cn g ns w) (e : Ext w w') : TInv Bg Bn A An c cn g ns w' := ⟨e.cellE h.1, e.cellE h.2.1, h.2.2.1.ext e, h.2.2.2.ext e⟩

set_option maxHeartbeats 2000000 in
theorem prd_may1 (Bg Bn : Nat) (A An : Option Addr) (c cn : Nat) (g : Sg.Graph) (ns : List Int) (hG : Sg.validG g = true) (hns : ∀ x ∈ ns, 0 ≤ x ∧ x < (g.length : Int)) :
    Prd Tryz.prog 97 [.pointer (some ⟨Bg, 0, none⟩), .pointer (some ⟨Bn, 0, none⟩)] (TInv Bg Bn A An c cn g ns) (fun k => Sg.mayAt g ns k.toNat) (fun k => 0 ≤ k ∧ k < g.length) where
  ent := ent_of Tryz.func97 rfl (by kernel_rfl)
  call := fun w kk h hk => by
    obtain ⟨h1, h2, h3, h4⟩ := h
    obtain ⟨k, rfl⟩ := Int.eq_ofNat_of_zero_le hk.1
    have hlt : k < g.length := by omega
    have hgl := h3.1
    obtain ⟨⟨nk, nf⟩, b, o, Ap, cp, hn, rfl, hkc, hsc, hf, hfl⟩ := h3.at_ hlt
    dsimp only at *
    have HP := Lib.hid (show Sg.mayAt g ns k = ((nk != 0) && ns.any fun n => Sg.useB g n.toNat k) by unfold Sg.mayAt Sg.kindAt; rw [Int.toNat_natCast]; simp [hn])
    have HCF := Lib.hid (fun W h hi => i_ContainsFunc (prd_may11 Bg w.heap.size (some ⟨b, o, none⟩) c g k hG hlt) An ns.length cn ns W h hi hns)
    have e0 := Lib.hid ((Ext.rfl' w).al (.cells #[.int .i64 k] 3))
    have q1 := Lib.hid (show (w.alloc (.cells #[.int .i64 k] 3)).cell? ⟨w.heap.size, 0, none⟩ = some (.int .i64 k) by simp [go_sem])
    have H3 := Lib.hid h3
    have H4 := Lib.hid h4
    have h1' := e0.out.cellE h1
    have h2' := e0.out.cellE h2
    have hb1 := blt h1
    have hb2 := blt h2
    have hb3 := blt hkc
    have hkg : (k : Int) < (g.length : Int) := by omega
    clear hn hsc hf hfl hG hns hk h3 h4
    by_cases hz : nk = 0
    · have z1 : (nk != 0) = false := by simp [hz]
      have HZ := Lib.hid z1
      go_enter Tryz.func97, Tryz.ntmps97
      go_wp2
      go_ret
      exact ⟨ret_bool (by rw [Int.toNat_natCast, HP.out, HZ.out]; rfl), e0.out⟩
    · have z1 : (nk != 0) = true := by simp [hz]
      have HZ := Lib.hid z1
      go_enter Tryz.func97, Tryz.ntmps97
      go_wp2_with fail
      refine (HCF.out _ (H4.out.ext e0.out) ⟨h1', q1.out, H3.out.ext e0.out⟩).mono ?_
      rintro e w2 ⟨rfl, he2⟩
      have E2 := Lib.hid (e0.out.tr he2)
      clear he2
      go_wp2
      go_ret
      exact ⟨ret_bool (by rw [Int.toNat_natCast, HP.out, HZ.out]; rfl), E2.out⟩
  ext := fun _ _ h e => h.ext e

set_option maxHeartbeats 2000000 in
theorem i_MayRun (A An : Option Addr) (c cn : Nat) (g : Sg.Graph) (ns : List Int) (w : World) (h : RdN w A g) (hn : Rd w 1 An ns.length (ints ns)) (hc : ns.length ≤ cn) (hcm : cn ≤ maxLen) :
    Calls Tryz.prog 27 #[.agg #[.slice A g.length c], .slice An ns.length cn] w fun e w' => ∃ A1, e = .returned (.slice A1 (Sg.mayRunL g ns).length (Sg.mayRunL g ns).length) ∧ Own w' w.heap.size 3 1 A1 (Sg.mayRunL g ns).length (Sg.mayRunL g ns).length (ints (Sg.mayRunL g ns)) ∧ Ext w w' := by
  have hgl := h.1
  have e0 := Lib.hid (((Ext.rfl' w).al (.cells #[.slice A g.length c] 25)).al (.cells #[.slice An ns.length cn] 26))
  have HVG := Lib.hid (i_ValidGraph A c g)
  have HCD := Lib.hid (fun w h hl => i_cellsDiffer A An c cn g ns w h hl hc hcm)
  have q0 := Lib.hid (show ((w.alloc (.cells #[.slice A g.length c] 25)).alloc (.cells #[.slice An ns.length cn] 26)).cell? ⟨w.heap.size, 0, none⟩ = some (.slice A g.length c) by simp [go_sem])
  have q1 := Lib.hid (show ((w.alloc (.cells #[.slice A g.length c] 25)).alloc (.cells #[.slice An ns.length cn] 26)).cell? ⟨w.heap.size + 1, 0, none⟩ = some (.slice An ns.length cn) by simp [go_sem])
  have H := Lib.hid h
  have HN := Lib.hid hn
  clear h hn hc hcm
  cases hG : Sg.validG g
  · have HS := Lib.hid (show Sg.mayRunL g ns = [] by unfold Sg.mayRunL; rw [hG]; rfl)
    have HG := Lib.hid hG
    clear hG
    go_enter Tryz.func27, Tryz.ntmps27
    go_wp2_with fail
    refine (HVG.out _ (H.out.ext e0.out)).mono ?_
    rintro e w1 ⟨rfl, he1⟩
    rw [HG.out]
    have E1 := Lib.hid (e0.out.tr he1)
    clear he1
    go_wp2
    go_ret
    rw [HS.out]
    exact ⟨none, rfl, Own.nil _ _ _ _, E1.out⟩
  · have HG := Lib.hid hG
    cases hD : Sg.cellsDiffer g ns
    · have HS := Lib.hid (show Sg.mayRunL g ns = [] by unfold Sg.mayRunL; rw [hG, hD]; rfl)
      have HD := Lib.hid hD
      clear hG hD
      go_enter Tryz.func27, Tryz.ntmps27
      go_wp2_with fail
      refine (HVG.out _ (H.out.ext e0.out)).mono ?_
      rintro e w1 ⟨rfl, he1⟩
      rw [HG.out]
      have p0 := he1.cellE q0.out
      have p1 := he1.cellE q1.out
      have E1 := Lib.hid (e0.out.tr he1)
      clear he1
      go_wp2_with fail
      refine (HCD.out _ (H.out.ext E1.out) (HN.out.ext E1.out)).mono ?_
      rintro e w2 ⟨rfl, he2⟩
      rw [HD.out]
      have E2 := Lib.hid (E1.out.tr he2)
      clear he2
      go_wp2
      go_ret
      rw [HS.out]
      exact ⟨none, rfl, Own.nil _ _ _ _, E2.out⟩
    · have HS := Lib.hid (show Sg.mayRunL g ns = Sg.whichL (Sg.mayAt g ns) g.length by unfold Sg.mayRunL; rw [hG, hD]; rfl)
      have HD := Lib.hid hD
      have HNI := Lib.hid (show ∀ x ∈ ns, 0 ≤ x ∧ x < (g.length : Int) from fun x hx => by
        obtain ⟨j, n, rfl, h2, _⟩ := Sg.nodes_in hD x hx
        have := (List.getElem?_eq_some_iff.1 h2).1
        exact ⟨by omega, by omega⟩)
      clear hG hD
      go_enter Tryz.func27, Tryz.ntmps27
      go_wp2_with fail
      refine (HVG.out _ (H.out.ext e0.out)).mono ?_
      rintro e w1 ⟨rfl, he1⟩
      rw [HG.out]
      have p0 := he1.cellE q0.out
      have p1 := he1.cellE q1.out
      have E1 := Lib.hid (e0.out.tr he1)
      clear he1
      go_wp2_with fail
      refine (HCD.out _ (H.out.ext E1.out) (HN.out.ext E1.out)).mono ?_
      rintro e w2 ⟨rfl, he2⟩
      rw [HD.out]
      have p0 := he2.cellE p0
      have p1 := he2.cellE p1
      have E2 := Lib.hid (E1.out.tr he2)
      clear he2
      have HWH := i_which (prd_may1 w.heap.size (w.heap.size + 1) A An c cn g ns HG.out HNI.out) A g.length c w2 ⟨p0, p1, H.out.ext E2.out, HN.out.ext E2.out⟩ (fun k hk => ⟨by omega, by omega⟩) hgl
      simp only [Int.toNat_natCast] at HWH
      have HWW := Lib.hid HWH
      have z2 := E2.out.size
      clear HWH
      go_wp2_with fail
      refine HWW.out.mono ?_
      rintro e w7 ⟨A7, rfl, ho7, he7⟩
      have Ho7 := Lib.hid ho7
      have E7 := Lib.hid (E2.out.tr he7)
      clear ho7 he7
      go_wp2
      go_ret
      rw [HS.out]
      exact ⟨A7, rfl, Ho7.out.mono z2, E7.out⟩
end Go.Proofs.YtmelggoagbhieaaGreat
