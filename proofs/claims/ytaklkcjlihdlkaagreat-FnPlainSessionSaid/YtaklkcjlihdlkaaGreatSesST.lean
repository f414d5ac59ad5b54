/- Parts of one proof, joined. The reference's sessions, their small parts: effects, a new session, one step, what is left, what is shown: contracts. Conditions: bounds on lengths. The reference's PlainSession: its contract. Conditions: bounds on lengths. -/
import Derived.Test.YtaklkcjlihdlkaaGreatTy
import Derived.Test.YtaklkcjlihdlkaaGreatSesAB
import Derived.Test.YtaklkcjlihdlkaaGreatSesV
import Derived.Test.YtaklkcjlihdlkaaGreatReg
import Derived.Test.YtaklkcjlihdlkaaGreatPlT
import Derived.IntWalk
import Derived.Test.YtaklkcjlihdlkaaGreatSesP
import Derived.Test.YtaklkcjlihdlkaaGreatSpecTO
import Derived.Test.YtaklkcjlihdlkaaGreatMeanAll
/- The reference's sessions, their small parts: effects, a new session, one step, what is left, what is shown: contracts. Conditions: bounds on lengths. -/
namespace Sg
def effN (g : Graph) (k : Nat) : List Int := whichL (fun i => decide (kindAt g (i : Int) = 2)) k
theorem effN_all (g : Graph) : effN g g.length = effs g (List.replicate g.length false) := (effs_none g).symm
theorem effN_succ (g : Graph) (k : Nat) : effN g (k + 1) = if kindAt g (k : Int) = 2 then effN g k ++ [(k : Int)] else effN g k := by
 unfold effN
 rw [whichL_succ]
 by_cases h : kindAt g (k : Int) = 2 <;> simp [h]
theorem live_filter (g : Graph) (s : List Bool) : (effN g g.length).filter (fun n => !(s.getD n.toNat false)) = effs g s := by
 have key : ∀ k, (effN g k).filter (fun n => !(s.getD n.toNat false)) = whichL (fun i => decide (kindAt g (i : Int) = 2) && !(s.getD i false)) k := by
  intro k
  induction k with
  | zero => rfl
  | succ k ih =>
   rw [effN_succ, whichL_succ, ← ih]
   by_cases h : kindAt g (k : Int) = 2
   ·cases hs : s.getD k false
    ·simp only [h, if_true, List.filter_append, List.filter_cons, List.filter_nil, Int.toNat_natCast, hs, decide_true, Bool.not_false, Bool.and_self]
    ·simp only [h, if_true, List.filter_append, List.filter_cons, List.filter_nil, Int.toNat_natCast, hs, decide_true, Bool.not_true, Bool.and_false, Bool.false_eq_true, if_false, List.append_nil]
   ·simp [h]
 exact key _
theorem effN_len (g : Graph) (k : Nat) : (effN g k).length ≤ k := whichL_len _ _
end Sg
namespace Go.Proofs.YtaklkcjlihdlkaaGreat
open Go.RowKit

set_option maxHeartbeats 1000000 in
theorem s_effects (A : Option Addr) (c : Nat) (g : Sg.Graph) (w : World) (h : RdN w A g) :
  Calls Tryz.prog 59 #[.agg #[.slice A g.length c]] w fun e w' => ∃ A' c', e = .returned (.slice A' (Sg.effs g (List.replicate g.length false)).length c') ∧ Own w' w.heap.size 3 1 A' (Sg.effs g (List.replicate g.length false)).length c' (ints (Sg.effs g (List.replicate g.length false))) ∧ Ext w w' := by
 have hgl := h.1
 have H := lh h
 have HE := lh (Sg.effN_all g)
 have HS := lh (Sg.effN_succ g)
 have HL := lh (Sg.effN_len g)
 have H0 := lh (show Sg.effN g 0 = [] from rfl)
 generalize Sg.effN g = V at *
 have e0 := ((Ext.rfl' w).al (.cells #[.slice A g.length c] 25)).al (.cells #[] 3)
 have q0 : World.cell? (World.alloc (World.alloc w (.cells #[.slice A g.length c] 25)) (.cells #[] 3)) ⟨w.heap.size, 0, none⟩ = some (.slice A g.length c) := by simp [go_sem]
 have hown := Own.new (World.alloc w (.cells #[.slice A g.length c] 25)) (B := w.heap.size + 1) 3 1 #[] 0 (by simp) (by unfold maxLen; omega) rfl
 simp only [World.size_alloc] at hown
 have EE := lh e0
 have Q0 := lh q0
 have HO := lh hown
 clear h e0 q0 hown
 go_enter Tryz.func59, Tryz.ntmps59
 go_wp2
 go_loopw [3, 4] (fun v i wr => ∃ (k : Nat) (A' : Option Addr) (c' : Nat), k ≤ g.length ∧ i = .int .i64 k ∧ v = .slice A' (V k).length c' ∧ Hid (Own wr (w.heap.size + 1) 3 1 A' (V k).length c' (ints (V k))) ∧ Hid (Ext w wr) ∧ Hid (wr.cell? ⟨w.heap.size, 0, none⟩ = some (.slice A g.length c))) (fun _ i _ => g.length - (intOf i).toNat)
 case atStart => exact ⟨0, _, _, Nat.zero_le _, rfl, by rw [H0.out]; rfl, lh (by rw [H0.out]; exact HO.out), EE, Q0⟩
 case round =>
  obtain ⟨k, A', c', hk, rfl, rfl, hO, hX, hQ⟩ := hrel
  have lg := hQ.out
  have hw1 : w.heap.size + 1 ≤ wr.heap.size := blt lg
  have bg := blt lg
  have hl := HL.out k
  by_cases hlt : k < g.length
  ·obtain ⟨⟨nk, nf⟩, b, oo, Ap, cp, hn, rfl, hkc, hsc, hf, hfl⟩ := (H.out.ext hX.out).at_ hlt
   dsimp only at *
   have HK := lh (show Sg.kindAt g (k : Int) = nk by unfold Sg.kindAt; simp [hn])
   have bk := blt hkc
   clear hn hsc hf hfl
   have hs := HS.out k
   rw [HK.out] at hs
   by_cases hz : nk = 2
   ·subst hz
    rw [if_pos rfl] at hs
    have Hs := lh hs
    clear hs
    go_wp2_with (at_builtin; refine wpList_app1 rfl rfl eiInt rfl hO.out rfl rfl (one_int _ _) (by omega) (by omega) (by omega) ?_; intro A2 c2 w2 hown2 hg2 hat2)
    go_roundw
    case rel => exact ⟨k + 1, A2, c2, by omega, by go_num, by rw [Hs.out]; simp, lh (by rw [Hs.out]; simpa using hown2), lh (hX.out.gr hg2 fun x hx => by have := (hO.out.lt hx).1; omega), lh (grown_cell hg2 lg (fun e => by have := (hO.out.lt e).1; omega))⟩
    case measure => simp [intOf]; omega
   ·rw [if_neg hz] at hs
    have Hs := lh hs
    have z1 : (nk == 2) = false := by simp [hz]
    clear hs hz
    go_wp2
    go_roundw
    case rel => exact ⟨k + 1, A', c', by omega, by go_num, by rw [Hs.out], lh (by rw [Hs.out]; exact hO.out), hX, hQ⟩
    case measure => simp [intOf]; omega
  ·obtain rfl : k = g.length := by omega
   go_wp2
   go_ret
   rw [← HE.out]
   exact ⟨A', c', rfl, hO.out.mono (by omega), hX.out⟩


set_option maxRecDepth 100000 in
set_option maxHeartbeats 4000000 in
theorem s_shows (An Av : Option Addr) (cn cv nn nv : Nat) (ns vs : List Int) (w : World) (hnn : ns.length = nn) (hnv : vs.length = nv) (h : Rd w 1 An nn (ints ns)) (hv : Rd w 1 Av nv (ints vs)) (hd : ∀ x ∈ ns, 0 ≤ x ∧ x < (nv : Int)) (hl : nn ≤ 1048576) :
  Calls Tryz.prog 58 #[.slice An nn cn, .slice Av nv cv] w fun e w' => ∃ A' c', e = .returned (.slice A' (Sg.showL ns vs).length c') ∧ Own w' w.heap.size 61 2 A' (Sg.showL ns vs).length c' (shs (Sg.showL ns vs)) ∧ Ext w w' := by
 subst hnn hnv
 have HD := lh (fun x hx => hd x hx)
 have hq : ∀ k x, ns[k]? = some x → Sg.showL (ns.take (k + 1)) vs = Sg.showL (ns.take k) vs ++ [⟨x, Sg.rd vs x⟩] := fun k x hx => by rw [take_snoc ns k hx]; simp [Sg.showL]
 have hL : ∀ k, k ≤ ns.length → (Sg.showL (ns.take k) vs).length = k := fun k hk => by rw [Sg.showL_len, List.length_take]; omega
 have hE : Sg.showL (ns.take ns.length) vs = Sg.showL ns vs := by rw [List.take_length]
 have HQ := lh hq
 have HL := lh hL
 have HE := lh hE
 have hbv := hv.big
 have H := lh h
 have HV := lh hv
 have HO := lh (Own.new w (B := w.heap.size) 61 2 #[] 0 (Nat.le_refl _) (by unfold maxLen; omega) rfl)
 have HX := lh ((Ext.rfl' w).al (.cells #[] 61))
 clear hd hq hL hE h hv
 go_enter Tryz.func58, Tryz.ntmps58
 go_wp2_with fail
 go_loopw [5, 6] (fun v i wr => ∃ (k : Nat) (A' : Option Addr) (c' : Nat), k ≤ ns.length ∧ i = .int .i64 k ∧ v = .slice A' k c' ∧ Hid (Own wr w.heap.size 61 2 A' k c' (shs (Sg.showL (ns.take k) vs))) ∧ Hid (Ext w wr)) (fun _ i _ => ns.length - (intOf i).toNat)
 case atStart => exact ⟨0, _, _, Nat.zero_le _, rfl, rfl, HO, HX⟩
 case round =>
  clear HO HX
  obtain ⟨k, A', c', hk, rfl, rfl, hO, hX⟩ := hrel
  by_cases hlt : k < ns.length
  ·obtain ⟨ba, oa, x, rfl, hx, hcx0⟩ := H.out.at1 hlt
   have hcx := hX.out.cellE hcx0
   have hba := blt hcx0
   have hx2 := HD.out x (List.mem_of_getElem? hx)
   obtain ⟨j, rfl⟩ := Int.eq_ofNat_of_zero_le hx2.1
   have hj : j < vs.length := by omega
   have hjx : (j : Int) < (vs.length : Int) := by omega
   have hkx : (k : Int) < (ns.length : Int) := by omega
   obtain ⟨bb, ob, y, rfl, hy, hcy0⟩ := HV.out.at1 hj
   have hcy := hX.out.cellE hcy0
   have hbb := blt hcy0
   have Hk := lh (HQ.out k j hx)
   have Hy := lh (show Sg.rd vs (j : Int) = y by unfold Sg.rd; simp [hy])
   have CX := lh hcx
   have CY := lh hcy
   have bx := blt hcx
   have bY := blt hcy
   have E0 := lh ((Ext.rfl' wr).dr)
   clear hx hy hx2 hcx0 hcy0
   go_wp2_with fail
   refine zb 15 (fun W => W.cell? ⟨ba, oa + k, none⟩ = some (.int .i64 j) ∧ W.cell? ⟨bb, ob + j, none⟩ = some (.int .i64 y)) ?_ (fun hHeld => ?_)
   ·exact ⟨E0.out.cellE CX.out, E0.out.cellE CY.out⟩
   refine zy 0 ?_
   refine zy 1 ?_
   refine zy 2 ?_
   refine zy 3 ?_
   refine zy 4 ?_
   refine zy 5 ?_
   refine zy 6 ?_
   refine zy 7 ?_
   refine zy 8 ?_
   refine zy 9 ?_
   refine zy 10 ?_
   refine zy 11 ?_
   refine zy 12 ?_
   refine zr 13 rfl fun K hK => ?_
   go_simp
   try simp only [pg]
   refine hK.out _ _ (fun _ => ⟨(E0.out.al (.cells #[.int .i64 j, .int .i64 y] 61)).cellE CX.out, (E0.out.al (.cells #[.int .i64 j, .int .i64 y] 61)).cellE CY.out⟩) (fun hh => ?_)
   have hHeld := hh (by decide)
   clear hK K hh
   try simp only [Act.put, pu]
   refine zr 14 rfl fun K hK => ?_
   refine held_app1 (w := wr.drew) (cs := [.int .i64 j, .int .i64 y]) rfl rfl eiShow rfl hO.out.dr rfl rfl (one_shc ⟨j, y⟩) (by omega) (by omega) (by simpa using hX.out.size) ?_
   intro A2 c2 w2 hown2 hg2 hat2
   have CX8 := grown_cell hg2 (E0.out.cellE CX.out) (fun e => by have := (hO.out.lt e).1; omega)
   have CY8 := grown_cell hg2 (E0.out.cellE CY.out) (fun e => by have := (hO.out.lt e).1; omega)
   try simp only [pg]
   refine hK.out _ _ (fun _ => ⟨CX8, CY8⟩) (fun hh => ?_)
   have hHeld := hh (by decide)
   clear hK K hh
   try simp only [Act.put, pu]
   refine zr 15 rfl fun K hK => ?_
   go_simp
   refine hK.out _ _ (fun e => absurd rfl e) (fun hh => ?_)
   clear hK K hHeld hh
   try simp only [Act.put, pu]
   refine zn ?_
   have HN := lh hown2
   have HG := lh (hX.out.dr.gr hg2 fun x hx => (hO.out.dr.lt hx).1)
   clear hown2 hg2 hat2 CX8 CY8
   go_wp2_with fail
   go_roundw
   case rel => exact ⟨k + 1, A2, c2, by omega, by go_num, by simp, lh (by rw [Hk.out, Hy.out, ← shs_snoc]; exact HN.out), HG⟩
   case measure => simp [intOf]; omega
  ·obtain rfl : k = ns.length := by omega
   have e1 := HL.out ns.length (Nat.le_refl _)
   have e2 := hO.out
   rw [HE.out] at e1 e2
   have Ho := lh e2
   have E1 := lh e1
   clear e1 e2
   go_wp2
   go_ret
   exact ⟨A', c', by rw [E1.out]; rfl, by rw [E1.out]; exact Ho.out, hX.out⟩

/-- a session's things: its box, what is pending, what is stopped -/
def sesT {B : Nat} (Bs : Nat) (A : Option Addr) (c : Nat) (g : Sg.Graph) (x : Sg.Ses) (n m : Nat) (Ap : Option Addr) (cp : Nat) (As : Option Addr) (cs : Nat) (fl : Nat) : List (Th B) :=
 [Th.box B Bs [.slice A g.length c, .int .i64 (x.opn : Int), .slice Ap n cp, .slice As m cs, .int .i64 (fl : Int)], Th.own B 3 1 Ap n cp (ints x.pend), Th.own B 4 1 As m cs (bools x.stop)]
theorem boolsR2 (n : Nat) : (madeCells (Value.bool false).cells (n * 1)).toList = bools (List.replicate n false) := by rw [made_one _ _ rfl]; simp [bools]
set_option maxRecDepth 100000 in
set_option maxHeartbeats 4000000 in
theorem s_newSession (a : World) (A Ac : Option Addr) (c cc : Nat) (g : Sg.Graph) (x : List Int) (w : World) (hc : Rd w 1 Ac x.length (ints x)) (hg : g.length ≤ 1048576) (hx : x.length ≤ 1048576) (hE : Ext a w) (rs : List (Th a.heap.size)) (hS : Sep rs w) :
  Calls Tryz.prog 56 #[.agg #[.slice A g.length c], .slice Ac x.length cc] w fun e w' => ∃ Bs Ap cp As, e = .returned (.pointer (some ⟨Bs, 0, none⟩)) ∧ Sep (sesT (B := a.heap.size) Bs A c g (Sg.ses0 g x) x.length g.length Ap cp As g.length 0 ++ rs) w' ∧ Ext w w' := by
 have HB := lh ((Ext.rfl' w).al (.cells #[.slice A g.length c] 25))
 have q0 : World.cell? (World.alloc w (.cells #[.slice A g.length c] 25)) ⟨w.heap.size, 0, none⟩ = some (.slice A g.length c) := by simp [go_sem]
 have Q0 := lh q0
 have HC := lh (hc.ext HB.out)
 have HE := lh (hE.tr HB.out)
 have hsz := HE.out.size
 have HS := lh (Sep.ext hS HB.out)
 clear hc hE hS
 go_enter Tryz.func56, Tryz.ntmps56
 go_upto_region 1 with fail
 generalize World.alloc w (.cells #[.slice A g.length c] 25) = w0 at *
 generalize w.heap.size = ba at *
 have bq := blt q0
 have SS := lh (Sep.ext HS.out (Ext.rfl' w0).dr)
 have E0 := lh ((Ext.rfl' w0).dr)
 go_wp2_with fail
 refine zb 9 (fun W => W.cell? ⟨ba, 0, none⟩ = some (.slice A g.length c)) ?_ (fun hHeld => ?_)
 ·exact E0.out.cellE Q0.out
 refine zy 0 ?_
 refine zy 1 ?_
 refine zy 3 ?_
 refine zy 4 ?_
 refine zy 5 ?_
 refine zr2 2 6 rfl rfl (fun K hK => ?_) (fun K hK => ?_)
 ·go_simp
  refine (s_copyInts Ac x.length cc x _ (HC.out.ext E0.out) (by omega)).mono ?_
  rintro e v1 ⟨Ap, cp, rfl, hO1, he1⟩
  have O1 := lh hO1
  have E1 := lh (E0.out.tr he1)
  have SS := lh (Sep.add SS.out he1 (Th.own a.heap.size 3 1 Ap x.length cp (ints x)) (hO1.mono (by have := E0.out.size; (try simp only [World.size_drew] at *); omega)) (fun b e => (hO1.lt e).1))
  clear he1 hO1
  try go_wp2_with fail
  refine hK.out _ _ (fun _ => (E1.out).cellE Q0.out) (fun hh => ?_)
  have hHeld := hh (by decide)
  clear hK K hh
  try simp only [Act.put, pu]
  refine zr 6 rfl fun K hK => ?_
  refine held_mkb rfl rfl eiBool rfl rfl (by omega) (by omega) (Nat.le_refl _) ?_
  intro bs v2 hbs hO2 he2
  rw [boolsR2] at hO2
  have O1 := lh (O1.out.ext he2)
  have O2 := lh hO2
  have E2 := lh (E1.out.tr he2)
  have SS := lh (Sep.add SS.out he2 (Th.own a.heap.size 4 1 (some ⟨bs, 0, none⟩) g.length g.length (bools (List.replicate g.length false))) (hO2.mono (by have := E1.out.size; (try simp only [World.size_drew] at *); omega)) (fun b e => (hO2.lt e).1))
  clear he2 hO2
  clear hbs
  try simp only [pg]
  refine hK.out _ _ (fun _ => (E2.out).cellE Q0.out) (fun hh => ?_)
  have hHeld := hh (by decide)
  clear hK K hh
  try simp only [Act.put, pu]
  refine zy 7 ?_
  refine zr 8 rfl fun K hK => ?_
  have hbx := Bx.new v2 #[.slice A g.length c, .int .i64 0, .slice Ap x.length cp, .slice (some ⟨bs, 0, none⟩) g.length g.length, .int .i64 0] 85
  have he3 := (Ext.rfl' v2).al (.cells #[.slice A g.length c, .int .i64 0, .slice Ap x.length cp, .slice (some ⟨bs, 0, none⟩) g.length g.length, .int .i64 0] 85)
  have SB := lh (Sep.add SS.out he3 (Th.box a.heap.size v2.heap.size [.slice A g.length c, .int .i64 0, .slice Ap x.length cp, .slice (some ⟨bs, 0, none⟩) g.length g.length, .int .i64 0]) ⟨hbx, by have := E2.out.size; (try simp only [World.size_drew] at *); omega⟩ (fun b e => by have e2 : b = v2.heap.size := e; omega))
  have E3 := lh (E2.out.tr he3)
  clear hbx he3
  go_simp
  try simp only [pg]
  refine hK.out _ _ (fun _ => (E3.out).cellE Q0.out) (fun hh => ?_)
  have hHeld := hh (by decide)
  clear hK K hh
  try simp only [Act.put, pu]
  refine zr 9 rfl fun K hK => ?_
  go_simp
  refine hK.out _ _ (fun e => absurd rfl e) (fun hh => ?_)
  clear hK K hHeld hh
  try simp only [Act.put, pu]
  refine zn ?_
  go_wp2
  go_ret
  exact ⟨_, Ap, cp, (some ⟨bs, 0, none⟩), rfl, Sep.perm SB.out ((List.Perm.swap _ _ _).cons _), HB.out.tr E3.out⟩
 ·refine held_mkb rfl rfl eiBool rfl rfl (by omega) (by omega) (Nat.le_refl _) ?_
  intro bs v1 hbs hO2 he1
  rw [boolsR2] at hO2
  have O2 := lh hO2
  have E1 := lh (E0.out.tr he1)
  have SS := lh (Sep.add SS.out he1 (Th.own a.heap.size 4 1 (some ⟨bs, 0, none⟩) g.length g.length (bools (List.replicate g.length false))) (hO2.mono (by have := E0.out.size; (try simp only [World.size_drew] at *); omega)) (fun b e => (hO2.lt e).1))
  clear he1 hO2
  clear hbs
  try simp only [pg]
  refine hK.out _ _ (fun _ => (E1.out).cellE Q0.out) (fun hh => ?_)
  have hHeld := hh (by decide)
  clear hK K hh
  try simp only [Act.put, pu]
  refine zr 2 rfl fun K hK => ?_
  go_simp
  refine (s_copyInts Ac x.length cc x _ (HC.out.ext E1.out) (by omega)).mono ?_
  rintro e v2 ⟨Ap, cp, rfl, hO1, he2⟩
  have O2 := lh (O2.out.ext he2)
  have O1 := lh hO1
  have E2 := lh (E1.out.tr he2)
  have SS := lh (Sep.add SS.out he2 (Th.own a.heap.size 3 1 Ap x.length cp (ints x)) (hO1.mono (by have := E1.out.size; (try simp only [World.size_drew] at *); omega)) (fun b e => (hO1.lt e).1))
  clear he2 hO1
  try go_wp2_with fail
  refine hK.out _ _ (fun _ => (E2.out).cellE Q0.out) (fun hh => ?_)
  have hHeld := hh (by decide)
  clear hK K hh
  try simp only [Act.put, pu]
  refine zy 7 ?_
  refine zr 8 rfl fun K hK => ?_
  have hbx := Bx.new v2 #[.slice A g.length c, .int .i64 0, .slice Ap x.length cp, .slice (some ⟨bs, 0, none⟩) g.length g.length, .int .i64 0] 85
  have he3 := (Ext.rfl' v2).al (.cells #[.slice A g.length c, .int .i64 0, .slice Ap x.length cp, .slice (some ⟨bs, 0, none⟩) g.length g.length, .int .i64 0] 85)
  have SB := lh (Sep.add SS.out he3 (Th.box a.heap.size v2.heap.size [.slice A g.length c, .int .i64 0, .slice Ap x.length cp, .slice (some ⟨bs, 0, none⟩) g.length g.length, .int .i64 0]) ⟨hbx, by have := E2.out.size; (try simp only [World.size_drew] at *); omega⟩ (fun b e => by have e2 : b = v2.heap.size := e; omega))
  have E3 := lh (E2.out.tr he3)
  clear hbx he3
  go_simp
  try simp only [pg]
  refine hK.out _ _ (fun _ => (E3.out).cellE Q0.out) (fun hh => ?_)
  have hHeld := hh (by decide)
  clear hK K hh
  try simp only [Act.put, pu]
  refine zr 9 rfl fun K hK => ?_
  go_simp
  refine hK.out _ _ (fun e => absurd rfl e) (fun hh => ?_)
  clear hK K hHeld hh
  try simp only [Act.put, pu]
  refine zn ?_
  go_wp2
  go_ret
  exact ⟨_, Ap, cp, (some ⟨bs, 0, none⟩), rfl, Sep.perm SB.out (List.Perm.refl _), HB.out.tr E3.out⟩

set_option maxRecDepth 100000 in
set_option maxHeartbeats 8000000 in
theorem s_stepOf (a : World) (Bs : Nat) (A Ap As : Option Addr) (c cp cs n m fl : Nat) (g : Sg.Graph) (o : Nat) (p : List Int) (s : List Bool) (ak an av : Int) (rs : List (Th a.heap.size)) (w : World) (hE : Ext a w)
  (hS : Sep (sesT Bs A c g ⟨o, p, s⟩ n m Ap cp As cs fl ++ rs) w) (hn : p.length = n) (hm : s.length = m) (hng : n = g.length) (hmg : m = g.length) (_hg : g.length ≤ 1048576) (ho : o ≤ 30) (hfl : fl ≤ 30) (hok : Sg.actOk g ⟨ak, an, av⟩ = true) :
  Calls Tryz.prog 61 #[.pointer (some ⟨Bs, 0, none⟩), .agg #[.int .i64 ak, .int .i64 an, .int .i64 av]] w fun e w' => ∃ fl', fl' ≤ fl + 1 ∧ e = .returned (.bool (Sg.stepS ⟨o, p, s⟩ ⟨ak, an, av⟩).2) ∧ Ext a w' ∧
   Sep (sesT Bs A c g (Sg.stepS ⟨o, p, s⟩ ⟨ak, an, av⟩).1 n m Ap cp As cs fl' ++ rs) w' := by
 have HN := lh hn
 have HM := lh hm
 have HNG := lh hng
 have HMG := lh hmg
 have hAC := lh hok
 have EA := lh ((Ext.rfl' w).al (.cells #[.int .i64 ak, .int .i64 an, .int .i64 av] 63))
 have a0 : World.cell? (World.alloc w (.cells #[.int .i64 ak, .int .i64 an, .int .i64 av] 63)) ⟨w.heap.size, 0, none⟩ = some (.int .i64 ak) := by simp [go_sem]
 have a1 : World.cell? (World.alloc w (.cells #[.int .i64 ak, .int .i64 an, .int .i64 av] 63)) ⟨w.heap.size, 1, none⟩ = some (.int .i64 an) := by simp [go_sem]
 have a2 : World.cell? (World.alloc w (.cells #[.int .i64 ak, .int .i64 an, .int .i64 av] 63)) ⟨w.heap.size, 2, none⟩ = some (.int .i64 av) := by simp [go_sem]
 have A0 := lh a0
 have A1 := lh a1
 have A2 := lh a2
 have SV := lh (Sep.ext hS EA.out)
 have EV := lh (hE.tr EA.out)
 have hba := hE.size
 have hpb : ∀ b, blk Ap = some b → b < w.heap.size := fun b hb => ((Sep.get hS 1 rfl : Own _ _ _ _ _ _ _ _).lt hb).2
 have hsb : ∀ b, blk As = some b → b < w.heap.size := fun b hb => ((Sep.get hS 2 rfl : Own _ _ _ _ _ _ _ _).lt hb).2
 have hbb : Bs < w.heap.size := ((Sep.get hS 0 rfl : Bx _ _ _ ∧ _).1).lt
 have HPB := lh hpb
 have HSB := lh hsb
 clear hS hE hn hm hng hmg hok a0 a1 a2 hpb hsb
 go_enter Tryz.func61, Tryz.ntmps61
 go_upto_region 1 with fail
 generalize World.alloc w (.cells #[.int .i64 ak, .int .i64 an, .int .i64 av] 63) = v1 at *
 clear EA
 generalize w.heap.size = ba at *
 have a0 := A0.out
 have a1 := A1.out
 have a2 := A2.out
 have sb := blt a0
 have bx : Bx v1 Bs [.slice A g.length c, .int .i64 (o : Int), .slice Ap n cp, .slice As m cs, .int .i64 (fl : Int)] := (Sep.get SV.out 0 rfl : Bx _ _ _ ∧ _).1
 have hBs : a.heap.size ≤ Bs := (Sep.get SV.out 0 rfl : Bx _ _ _ ∧ _).2
 have BX := lh bx
 have x1 := bx.cell (j := 1) rfl
 have x2 := bx.cell (j := 2) rfl
 have x3 := bx.cell (j := 3) rfl
 have x4 := bx.cell (j := 4) rfl
 have f1 := bx.free 1
 have f4 := bx.free 4
 clear bx
 have iwo : IntKind.i64.wrap ((o : Int) + 1) = (o : Int) + 1 := IntWalk.i64_in _ (by omega)
 have iwf : IntKind.i64.wrap ((fl : Int) + 1) = (fl : Int) + 1 := IntWalk.i64_in _ (by omega)
 by_cases hk0 : ak = 0
 ·subst hk0
  have hao := hAC.out
  unfold Sg.actOk at hao
  simp only [if_true, Bool.and_eq_true, Sg.isCell, decide_eq_true_eq, Sg.inR] at hao
  obtain ⟨j, rfl⟩ := Int.eq_ofNat_of_zero_le hao.1.1.1
  have hj : j < n := by have := HNG.out; omega
  have hjx : (j : Int) < (n : Int) := by omega
  clear hao
  have hN : Own v1 a.heap.size 3 1 Ap n cp (ints p) := Sep.get SV.out 1 rfl
  obtain ⟨bn, rfl, hbn⟩ := hN.at_ (show 0 < n * 1 by omega)
  obtain ⟨u, hu⟩ : ∃ u, (ints p)[j]? = some u := ⟨_, List.getElem?_eq_getElem (by rw [hN.1]; omega)⟩
  have r0 := hN.cell hu
  have q0 := hN.free j
  have ltn := (hN.lt (g := bn) rfl).2
  have hbna := HPB.out bn rfl
  have hne : Bs ≠ bn := fun e => by have := (SV.out).2.1 (Th.own a.heap.size 3 1 (some ⟨bn, 0, none⟩) n cp (ints p)) (by simp) Bs rfl; exact this (by rw [e]; rfl)
  have SV2 := lh (Sep.st SV.out 1 rfl ⟨bn, j, none⟩ (.int .i64 av) rfl (Th.own a.heap.size 3 1 (some ⟨bn, 0, none⟩) n cp (ints (p.set j av))) (by have h9 := hN.st j (.int .i64 av); rw [show (ints p).set j (.int .i64 av) = ints (p.set j av) by simp [ints, List.map_set]] at h9; exact h9) (fun b hb => hb))
  have EV2 := lh (EV.out.set (p := ⟨bn, j, none⟩) hbn (.int .i64 av))
  have E0 := lh ((Ext.rfl' v1).dr)
  have RD := lh (E0.out.cellE r0)
  clear hu hN
  go_wp2_with fail
  refine zb 9 (fun W => W.cell? ⟨Bs, 2, none⟩ = some (.slice (some ⟨bn, 0, none⟩) n cp) ∧ W.cell? ⟨ba, 1, none⟩ = some (.int .i64 j) ∧ W.cell? ⟨ba, 2, none⟩ = some (.int .i64 av)) ?_ (fun hHeld => ?_)
  ·exact ⟨E0.out.cellE x2, E0.out.cellE a1, E0.out.cellE a2⟩
  refine zy 0 ?_
  refine zy 1 ?_
  refine zy 2 ?_
  refine zy 3 ?_
  refine zy 4 ?_
  refine zy 5 ?_
  refine zy 6 ?_
  refine zy 7 ?_
  refine zy 8 ?_
  refine zr 9 rfl fun K hK => ?_
  go_simp
  refine hK.out _ _ (fun e => absurd rfl e) (fun hh => ?_)
  clear hK K hHeld hh
  try simp only [Act.put]
  refine zn ?_
  skip
  have hdr : World.setCell (World.drew v1) ⟨bn, j, none⟩ (.int .i64 av) = World.drew (World.setCell v1 ⟨bn, j, none⟩ (.int .i64 av)) := rfl
  have S2 := lh (Sep.ext SV2.out ((Ext.rfl' _).dr))
  have E2 := lh (EV2.out.dr)
  try rw [hdr]
  clear hdr SV2 EV2 SV EV r0 q0 x1 x2 x3 x4 f1 f4 RD a0 a1 a2 BX E0 A0 A1 A2
  generalize World.drew (World.setCell v1 ⟨bn, j, none⟩ (.int .i64 av)) = v2 at *
  have bx : Bx v2 Bs [.slice A g.length c, .int .i64 (o : Int), .slice (some ⟨bn, 0, none⟩) n cp, .slice As m cs, .int .i64 (fl : Int)] := (Sep.get S2.out 0 rfl : Bx _ _ _ ∧ _).1
  have BX := lh bx
  have x1 := bx.cell (j := 1) rfl
  have x4 := bx.cell (j := 4) rfl
  have f4 := bx.free 4
  clear bx
  by_cases ho0 : o = 0
  ·subst ho0
   go_wp2
   go_ret
   refine ⟨fl + 1, Nat.le_refl _, rfl, E2.out.set (p := ⟨Bs, 4, none⟩) hBs _, ?_⟩
   exact Sep.st S2.out 0 rfl ⟨Bs, 4, none⟩ _ rfl (Th.box a.heap.size Bs [.slice A g.length c, .int .i64 ((0 : Nat) : Int), .slice (some ⟨bn, 0, none⟩) n cp, .slice As m cs, .int .i64 ((fl + 1 : Nat) : Int)]) ⟨BX.out.set 4 _, hBs⟩ (fun _ e => e)
  ·have z0 : decide ((0 : Int) < (o : Int)) = true := by simp; omega
   have HO := lh (show (Sg.stepS ⟨o, p, s⟩ ⟨0, (j : Int), av⟩) = (⟨o, p.set j av, s⟩, false) by simp [Sg.stepS, ho0])
   go_wp2
   go_ret
   rw [HO.out]
   exact ⟨fl, by omega, rfl, E2.out, S2.out⟩
 have y0 : (ak == 0) = false := by simp [hk0]
 by_cases hk1 : ak = 1
 ·subst hk1
  have hao := hAC.out
  unfold Sg.actOk at hao
  simp [Sg.inR] at hao
  obtain ⟨j, rfl⟩ := Int.eq_ofNat_of_zero_le hao.1.1.1
  have hj : j < m := by have := HMG.out; omega
  have hjx : (j : Int) < (m : Int) := by omega
  clear hao
  have hN : Own v1 a.heap.size 4 1 As m cs (bools s) := Sep.get SV.out 2 rfl
  obtain ⟨bn, rfl, hbn⟩ := hN.at_ (show 0 < m * 1 by omega)
  obtain ⟨u, hu⟩ : ∃ u, (bools s)[j]? = some u := ⟨_, List.getElem?_eq_getElem (by rw [hN.1]; omega)⟩
  have r0 := hN.cell hu
  have q0 := hN.free j
  have ltn := (hN.lt (g := bn) rfl).2
  have hbna := HSB.out bn rfl
  have SV2 := lh (Sep.st SV.out 2 rfl ⟨bn, j, none⟩ (.bool true) rfl (Th.own a.heap.size 4 1 (some ⟨bn, 0, none⟩) m cs (bools (s.set j true))) (by have h9 := hN.st j (.bool true); rw [show (bools s).set j (.bool true) = bools (s.set j true) by simp [bools, List.map_set]] at h9; exact h9) (fun b hb => hb))
  have EV2 := lh (EV.out.set (p := ⟨bn, j, none⟩) hbn (.bool true))
  have E0 := lh ((Ext.rfl' v1).dr)
  clear hu hN
  go_wp2_with fail
  refine zb 7 (fun W => W.cell? ⟨Bs, 3, none⟩ = some (.slice (some ⟨bn, 0, none⟩) m cs) ∧ W.cell? ⟨ba, 1, none⟩ = some (.int .i64 j)) ?_ (fun hHeld => ?_)
  ·exact ⟨E0.out.cellE x3, E0.out.cellE a1⟩
  refine zy 0 ?_
  refine zy 1 ?_
  refine zy 2 ?_
  refine zy 3 ?_
  refine zy 4 ?_
  refine zy 5 ?_
  refine zy 6 ?_
  refine zr 7 rfl fun K hK => ?_
  go_simp
  refine hK.out _ _ (fun e => absurd rfl e) (fun hh => ?_)
  clear hK K hHeld hh
  try simp only [Act.put]
  refine zn ?_
  skip
  have HO := lh (show (Sg.stepS ⟨o, p, s⟩ ⟨1, (j : Int), av⟩) = (⟨o, p, s.set j true⟩, false) by simp [Sg.stepS])
  go_wp2
  go_ret
  rw [HO.out]
  exact ⟨fl, by omega, rfl, EV2.out.dr, Sep.ext SV2.out ((Ext.rfl' _).dr)⟩
 have y1 : (ak == 1) = false := by simp [hk1]
 by_cases hk2 : ak = 2
 ·subst hk2
  have HO := lh (show (Sg.stepS ⟨o, p, s⟩ ⟨2, an, av⟩) = (⟨o + 1, p, s⟩, false) by simp [Sg.stepS])
  have z1 : decide ((0 : Int) < (o : Int) + 1) = true := decide_eq_true (by omega)
  go_wp2
  go_ret
  rw [HO.out]
  refine ⟨fl, by omega, rfl, EV.out.set (p := ⟨Bs, 1, none⟩) hBs _, ?_⟩
  exact Sep.st SV.out 0 rfl ⟨Bs, 1, none⟩ _ rfl (Th.box a.heap.size Bs [.slice A g.length c, .int .i64 ((o + 1 : Nat) : Int), .slice Ap n cp, .slice As m cs, .int .i64 (fl : Int)]) ⟨BX.out.set 1 _, hBs⟩ (fun _ e => e)
 have y2 : (ak == 2) = false := by simp [hk2]
 obtain rfl : ak = 3 := by
  have hao := hAC.out
  unfold Sg.actOk at hao
  rw [if_neg hk0, if_neg hk1] at hao
  split at hao
  ·rename_i h; rcases h with h | h
   ·exact absurd h hk2
   ·exact h
  ·cases hao
 rcases o with _ | _ | o
 ·have HO := lh (show (Sg.stepS ⟨0, p, s⟩ ⟨3, an, av⟩) = (⟨0, p, s⟩, false) by simp [Sg.stepS])
  go_wp2
  go_ret
  rw [HO.out]
  exact ⟨fl, by omega, rfl, EV.out, SV.out⟩
 ·have HO := lh (show (Sg.stepS ⟨0 + 1, p, s⟩ ⟨3, an, av⟩) = (⟨0, p, s⟩, true) by simp [Sg.stepS])
  have BY := lh (BX.out.set 1 (.int .i64 0))
  go_wp2_with fail
  go_ret
  rw [HO.out]
  refine ⟨fl + 1, Nat.le_refl _, rfl, (EV.out.set (p := ⟨Bs, 1, none⟩) hBs _).set (p := ⟨Bs, 4, none⟩) hBs _, ?_⟩
  have S3 := Sep.st SV.out 0 rfl ⟨Bs, 1, none⟩ (.int .i64 0) rfl (Th.box a.heap.size Bs [.slice A g.length c, .int .i64 0, .slice Ap n cp, .slice As m cs, .int .i64 (fl : Int)]) ⟨BX.out.set 1 _, hBs⟩ (fun _ e => e)
  exact Sep.st S3 0 rfl ⟨Bs, 4, none⟩ _ rfl (Th.box a.heap.size Bs [.slice A g.length c, .int .i64 ((0 : Nat) : Int), .slice Ap n cp, .slice As m cs, .int .i64 ((fl + 1 : Nat) : Int)]) ⟨BY.out.set 4 _, hBs⟩ (fun _ e => e)
 ·have HO := lh (show (Sg.stepS ⟨o + 1 + 1, p, s⟩ ⟨3, an, av⟩) = (⟨o + 1, p, s⟩, false) by simp [Sg.stepS])
  have iw : IntKind.i64.wrap (((o + 1 + 1 : Nat) : Int) - 1) = ((o + 1 : Nat) : Int) := by rw [show (((o + 1 + 1 : Nat) : Int) - 1) = ((o + 1 : Nat) : Int) by omega]; exact IntWalk.i64_in _ (by omega)
  have z1 : decide ((0 : Int) < ((o + 1 : Nat) : Int)) = true := decide_eq_true (by omega)
  go_wp2
  go_ret
  rw [HO.out]
  refine ⟨fl, by omega, rfl, EV.out.set (p := ⟨Bs, 1, none⟩) hBs _, ?_⟩
  exact Sep.st SV.out 0 rfl ⟨Bs, 1, none⟩ _ rfl (Th.box a.heap.size Bs [.slice A g.length c, .int .i64 ((o + 1 : Nat) : Int), .slice Ap n cp, .slice As m cs, .int .i64 (fl : Int)]) ⟨BX.out.set 1 _, hBs⟩ (fun _ e => e)
end Go.Proofs.YtaklkcjlihdlkaaGreat

/- The reference's PlainSession: its contract. Conditions: bounds on lengths. -/
namespace Go.Proofs.YtaklkcjlihdlkaaGreat
open Go.RowKit

set_option maxRecDepth 100000 in
set_option maxHeartbeats 4000000 in
theorem s_live (a : World) (Bs : Nat) (A Ap As : Option Addr) (c cp cs n m fl : Nat) (g : Sg.Graph) (o : Nat) (p : List Int) (s : List Bool) (rs : List (Th a.heap.size)) (w : World) (hA : RdN a A g) (hE : Ext a w)
  (hS : Sep (sesT Bs A c g ⟨o, p, s⟩ n m Ap cp As cs fl ++ rs) w) (hm : s.length = m) (hmg : m = g.length) :
  Calls Tryz.prog 63 #[.pointer (some ⟨Bs, 0, none⟩)] w fun e w' => ∃ A' c', e = .returned (.slice A' (Sg.effs g s).length c') ∧ Own w' w.heap.size 3 1 A' (Sg.effs g s).length c' (ints (Sg.effs g s)) ∧ Ext w w' := by
 subst hm
 have hgl := hA.1
 have EA := lh ((Ext.rfl' w).al (.cells #[] 3))
 have HA := lh (hA.ext (hE.tr EA.out))
 have HMG := lh hmg
 have bx : Bx w Bs [.slice A g.length c, .int .i64 (o : Int), .slice Ap n cp, .slice As s.length cs, .int .i64 (fl : Int)] := (Sep.get hS 0 rfl : Bx _ _ _ ∧ _).1
 have x0 := EA.out.cellE (bx.cell (j := 0) rfl)
 have X3 := lh (bx.cell (j := 3) rfl)
 have RS := lh ((Sep.get hS 2 rfl : Own _ _ _ _ _ _ _ _).rd)
 have hown := Own.new w (B := w.heap.size) 3 1 #[] 0 (Nat.le_refl _) (by unfold maxLen; omega) rfl
 have HO := lh hown
 have HF := lh (Sg.live_filter g s)
 have HEN := lh (Sg.effN_all g)
 have HLE := lh (Sg.effN_len g g.length)
 have HLT := lh (fun n (h : n ∈ Sg.effN g g.length) => by rw [Sg.effN_all] at h; exact mem_effs_lt h)
 have HEF := lh (fun w1 h1 => by have := s_effects A c g w1 h1; rw [← Sg.effN_all] at this; exact this)
 generalize Sg.effN g g.length = ef at *
 have hef : ef.length ≤ 1048576 := by have := HLE.out; omega
 clear hS bx hown hmg hE
 have bq := blt x0
 go_enter Tryz.func63, Tryz.ntmps63
 go_upto_region 3 with (go_at_call 59; refine (HEF.out _ HA.out).mono ?_; rintro e w1 ⟨A1, c1, rfl, hO1, he1⟩; have O1 := lh hO1; have E1 := lh (EA.out.tr he1); have O0 := lh (HO.out.ext he1); clear hO1 he1)
 clear HO HEF x0 bq
 have HD1 := lh (show ∀ b, blk (some ⟨w.heap.size, 0, none⟩) = some b → blk A1 ≠ some b from fun b hb hb1 => by have h2 := (O1.out.lt hb1).1; simp [blk] at hb; simp at h2; omega)
 have hq : ∀ k x, ef[k]? = some x → (ef.take (k + 1)).filter (fun n => !(s.getD n.toNat false)) = (ef.take k).filter (fun n => !(s.getD n.toNat false)) ++ (if s.getD x.toNat false = true then [] else [x]) := fun k x hx => by
  rw [take_snoc ef k hx, List.filter_append]
  cases hs : s.getD x.toNat false <;> (simp only [List.filter_cons, List.filter_nil, hs]; rfl)
 have hL : ∀ k, ((ef.take k).filter (fun n => !(s.getD n.toNat false))).length ≤ k := fun k => Nat.le_trans (List.length_filter_le _ _) (by rw [List.length_take]; omega)
 have h00 : (ef.take 0).filter (fun n => !(s.getD n.toNat false)) = [] := rfl
 have hend : (ef.take ef.length).filter (fun n => !(s.getD n.toNat false)) = Sg.effs g s := by rw [List.take_length]; exact HF.out
 obtain ⟨V, hV⟩ : ∃ V : Nat → List Int, ∀ k, V k = (ef.take k).filter (fun n => !(s.getD n.toNat false)) := ⟨_, fun _ => rfl⟩
 simp only [← hV] at hq hL h00 hend
 have HQ := lh hq
 have HL := lh hL
 have H00 := lh h00
 have HEND := lh hend
 clear hq hL h00 hend hV HF
 go_wp2_with fail
 go_loopw [3, 5] (fun v i wr => ∃ (k : Nat) (A' : Option Addr) (c' : Nat), k ≤ ef.length ∧ i = .int .i64 k ∧ v = .slice A' (V k).length c' ∧ Hid (Own wr w.heap.size 3 1 A' (V k).length c' (ints (V k))) ∧ Hid (∀ b, blk A' = some b → blk A1 ≠ some b) ∧ Hid (Ext w wr) ∧ Hid (Own wr w.heap.size 3 1 A1 ef.length c1 (ints ef))) (fun _ i _ => ef.length - (intOf i).toNat)
 case atStart => exact ⟨0, _, _, Nat.zero_le _, rfl, by rw [H00.out]; rfl, lh (by rw [H00.out]; exact O0.out), HD1, E1, lh (O1.out.mono (by simp))⟩
 case round =>
  clear O0 O1
  obtain ⟨k, A', c', hk, rfl, rfl, hO, hD, hX, hR⟩ := hrel
  have hvl := HL.out k
  have x3 := hX.out.cellE X3.out
  have b3 := blt x3
  by_cases hlt : k < ef.length
  ·obtain ⟨ba, oa, x, rfl, hx, hcx⟩ := hR.out.rd.at1 hlt
   have hx2 := HLT.out x (List.mem_of_getElem? hx)
   obtain ⟨j, rfl⟩ := Int.eq_ofNat_of_zero_le hx2.1
   have hj : j < s.length := by have := HMG.out; omega
   have hjx : (j : Int) < (s.length : Int) := by omega
   have hkx : (k : Int) < (ef.length : Int) := by omega
   obtain ⟨bb, ob, y, rfl, hy, hcy⟩ := (RS.out.ext hX.out).atB hj
   have Hk := lh (HQ.out k j hx)
   have Hy := lh (show s.getD ((j : Int).toNat) false = y by simp [hy])
   have bx := blt hcx
   have bY := blt hcy
   have E0 := lh ((Ext.rfl' wr).dr)
   clear hx hy hx2
   cases y
   ·have hs := Hk.out
    rw [Hy.out] at hs
    simp only [Bool.false_eq_true, if_false] at hs
    have Hs := lh hs
    clear hs Hk Hy
    go_wp2_with fail
    refine wp_region_held_drew (S := (fun W => W.cell? ⟨Bs, 3, none⟩ = some (.slice (some ⟨bb, ob, none⟩) s.length cs) ∧ W.cell? ⟨ba, oa + k, none⟩ = some (.int .i64 j) ∧ W.cell? ⟨bb, ob + j, none⟩ = some (.bool false))) (by kernel_rfl) ?_ (fun hHeld => ?_)
    ·exact ⟨E0.out.cellE x3, E0.out.cellE hcx, E0.out.cellE hcy⟩
    refine ty 0 ?_
    refine ty 1 ?_
    refine ty 2 ?_
    refine ty 3 ?_
    refine ty 4 ?_
    refine ty 5 ?_
    refine ty 6 ?_
    refine ty 7 ?_
    refine ty 8 ?_
    refine ty 9 ?_
    refine ty 10 ?_
    refine dn ?_
    skip
    have hcx2 := E0.out.cellE hcx
    have bx2 := blt hcx2
    have hO2 := lh hO.out.dr
    have hX2 := lh hX.out.dr
    have hR2 := lh (hR.out.ext E0.out)
    generalize World.drew wr = wd at *
    go_wp2_with (at_builtin; refine wpList_app1 rfl rfl eiInt rfl hO2.out rfl rfl (one_int _ _) (by omega) (by omega) hX2.out.size ?_; intro A2 c2 w2 hown2 hg2 hat2)
    have HR := lh (hR2.out.gr hg2 (.inr fun e => hD.out ba e.symm rfl))
    have HD2 := lh (show ∀ b, blk A2 = some b → blk (some ⟨ba, oa, none⟩) ≠ some b from fun b hb hb1 => by
     rcases hat2 with h8 | ⟨g8, h8, h9⟩
     ·exact hD.out b (h8 ▸ hb) hb1
     ·rw [h8] at hb; injection hb with hb; have := (hR2.out.lt hb1).2; omega)
    go_roundw
    case rel => exact ⟨k + 1, A2, c2, by omega, by go_num, by rw [Hs.out]; simp, lh (by rw [Hs.out]; simpa using hown2), HD2, lh (hX2.out.gr hg2 fun x hx => (hO2.out.lt hx).1), HR⟩
    case measure => simp [intOf]; omega
   ·have hs := Hk.out
    rw [Hy.out] at hs
    simp only [if_true, List.append_nil] at hs
    have Hs := lh hs
    clear hs Hk Hy
    go_wp2_with fail
    refine wp_region_held_drew (S := (fun W => W.cell? ⟨Bs, 3, none⟩ = some (.slice (some ⟨bb, ob, none⟩) s.length cs) ∧ W.cell? ⟨ba, oa + k, none⟩ = some (.int .i64 j) ∧ W.cell? ⟨bb, ob + j, none⟩ = some (.bool true))) (by kernel_rfl) ?_ (fun hHeld => ?_)
    ·exact ⟨E0.out.cellE x3, E0.out.cellE hcx, E0.out.cellE hcy⟩
    refine ty 0 ?_
    refine ty 1 ?_
    refine ty 2 ?_
    refine ty 3 ?_
    refine ty 4 ?_
    refine ty 5 ?_
    refine ty 6 ?_
    refine ty 7 ?_
    refine ty 8 ?_
    refine ty 9 ?_
    refine ty 10 ?_
    refine dn ?_
    skip
    go_wp2
    go_roundw
    case rel => exact ⟨k + 1, A', c', by omega, by go_num, by rw [Hs.out], lh (by rw [Hs.out]; exact hO.out.dr), hD, lh hX.out.dr, lh (hR.out.ext E0.out)⟩
    case measure => simp [intOf]; omega
  ·obtain rfl : k = ef.length := by omega
   have e1 := hO.out
   rw [HEND.out] at e1
   have Ho := lh e1
   have hvv : (V ef.length).length = (Sg.effs g s).length := by rw [HEND.out]
   have HV := lh hvv
   clear e1 hvv
   go_wp2
   go_ret
   exact ⟨A', c', by rw [HV.out]; rfl, Ho.out, hX.out⟩

theorem perm_start {α : Type _} (w x a b c d : α) : [w, x, a, b, c, d].Perm [a, b, c, x, w, d] := ((List.Perm.swap x w _).trans ((List.perm_middle (l₁ := [a, b, c]) (l₂ := [d]) (a := w)).symm.cons x)).trans (List.perm_middle (l₁ := [a, b, c]) (l₂ := [w, d]) (a := x)).symm
set_option maxRecDepth 100000 in
set_option maxHeartbeats 16000000 in
theorem s_PlainSession (A Ac Al : Option Addr) (c cc cl : Nat) (g : Sg.Graph) (x : List Int) (l : List Sg.Act) (w : World) (h : RdN w A g) (hx : Rd w 1 Ac x.length (ints x)) (hl : Rd w 3 Al l.length (acts l)) :
  Calls Tryz.prog 15 #[.agg #[.slice A g.length c], .slice Ac x.length cc, .slice Al l.length cl] w fun e w' => ∃ A1 c1, e = .returned (.slice A1 (Sg.plainS g x l).length c1) ∧ Own w' w.heap.size 61 2 A1 (Sg.plainS g x l).length c1 (shs (Sg.plainS g x l)) ∧ Ext w w' := by
 have H := lh h
 have HX := lh hx
 have HL := lh hl
 have hgl := h.1
 have q0 : World.cell? (World.alloc w (.cells #[.slice A g.length c] 25)) ⟨w.heap.size, 0, none⟩ = some (.slice A g.length c) := by simp [go_sem]
 have Q0 := lh q0
 have EB := lh ((Ext.rfl' w).al (.cells #[.slice A g.length c] 25))
 have HF := lh (s_validSession A Ac Al c cc cl g x l)
 clear h hx hl q0
 go_enter Tryz.func15, Tryz.ntmps15
 cases hfit : Sg.fitS g x l
 ·have HFT := lh hfit
  have HE : Hid (Sg.plainS g x l = []) := lh (by unfold Sg.plainS; rw [hfit]; rfl)
  clear hfit
  rw [HE.out]
  go_wp2_with fail
  refine (HF.out _ (H.out.ext EB.out) (HX.out.ext EB.out) (HL.out.ext EB.out)).mono ?_
  rintro e w1 ⟨rfl, he1⟩
  rw [HFT.out]
  go_wp2
  go_ret
  exact ⟨none, 0, rfl, Own.nil _ _ _ _, EB.out.tr he1⟩
 obtain ⟨hG, hC, hAc, hl30⟩ := Sg.fitS_parts hfit
 have hxl := Sg.length_validC hC
 have hg10 := validG_len hG
 have hx4 : x.length ≤ 1048576 := by omega
 have HFT := lh hfit
 have HC := lh hC
 have HXG := lh hxl
 have HL30 := lh hl30
 have HAC := lh hAc
 clear hfit hxl hC hl30 hAc
 go_wp2_with fail
 refine (HF.out _ (H.out.ext EB.out) (HX.out.ext EB.out) (HL.out.ext EB.out)).mono ?_
 rintro e w1 ⟨rfl, he1⟩
 rw [HFT.out]
 have q1 := he1.cellE Q0.out
 have SG := lh (Sep.iff.2 ⟨fun t ht => by rw [List.mem_singleton.1 ht]; exact ⟨(Bx.new w #[.slice A g.length c] 25).ext he1, Nat.le_refl _⟩, by simp⟩ : Sep [Th.box w.heap.size w.heap.size [.slice A g.length c]] w1)
 have EX1 := lh (EB.out.tr he1)
 have bq1 := blt q1
 clear he1 Q0
 go_wp2_with fail
 refine (s_newSession w A Ac c cc g x _ (HX.out.ext EX1.out) hgl hx4 EX1.out _ SG.out).mono ?_
 rintro e w2 ⟨Bs, Ap, cp, As, rfl, hS2, he2⟩
 have q2 := he2.cellE q1
 have bq2 := blt q2
 have EX2 := lh (EX1.out.tr he2)
 have S2 := lh hS2
 clear he2 hS2 q1 bq1 EX1 SG
 go_wp2_with fail
 refine (s_copyInts Ac x.length cc x _ (HX.out.ext EX2.out) (by omega)).mono ?_
 rintro e w3 ⟨An, cn, rfl, hO3, he3⟩
 have q3 := he3.cellE q2
 have bq3 := blt q3
 have S3 := lh (Sep.add S2.out he3 (Th.own w.heap.size 3 1 An x.length cn (ints x)) (hO3.mono EX2.out.size) (fun b e => (hO3.lt e).1))
 have O3 := lh hO3
 have EX3 := lh (EX2.out.tr he3)
 clear hO3 he3 q2 bq2 EX2 S2
 have E0 := lh ((Ext.rfl' w3).dr)
 have SS := lh (Sep.ext S3.out E0.out)
 have RG := lh (H.out.ext EX3.out)
 have HEL := lh (Sg.effs_len g (List.replicate g.length false))
 have HEM := lh (fun z (hz : z ∈ Sg.effs g (List.replicate g.length false)) => mem_effs_lt hz)
 have HEF := lh (s_effects A c g)
 have HMO := lh (fun w1 h1 h2 => s_meaning A An c cn g x w1 h1 h2 hG HC.out)
 have HSL := lh (show (Sg.showL (Sg.effs g (List.replicate g.length false)) (Sg.mean g x)).length ≤ g.length * (0 + 1) from by rw [Sg.showL_len]; have := Sg.effs_len g (List.replicate g.length false); omega)
 obtain ⟨ef, hef⟩ : ∃ ef, ef = Sg.effs g (List.replicate g.length false) := ⟨_, rfl⟩
 have HEE := lh hef
 rw [← hef] at HEL HEM HEF HSL
 clear hef
 go_wp2_with fail
 refine zb 6 (fun W => W.cell? ⟨w.heap.size, 0, none⟩ = some (.slice A g.length c)) ?_ (fun hHeld => ?_)
 ·exact E0.out.cellE q3
 refine zy 0 ?_
 refine zy 2 ?_
 refine zy 3 ?_
 refine zr 1 rfl fun K hK => ?_
 go_simp
 refine (HEF.out _ (RG.out.ext E0.out)).mono ?_
 rintro e v1 ⟨A1, c1, rfl, hO1, he1⟩
 have O1 := lh hO1
 have E1 := lh (E0.out.tr he1)
 have SS := lh (Sep.ext SS.out he1)
 clear he1 hO1
 try go_wp2_with fail
 refine hK.out _ _ (fun _ => E1.out.cellE q3) (fun hh => ?_)
 have hHeld := hh (by decide)
 clear hK K hh
 try simp only [Act.put, pu]
 refine zr 4 rfl fun K hK => ?_
 go_simp
 refine (HMO.out _ (RG.out.ext E1.out) (O3.out.rd.ext E1.out)).mono ?_
 rintro e v2 ⟨A4, c4, rfl, hO4, he2⟩
 have O1 := lh (O1.out.ext he2)
 have O4 := lh hO4
 have E2 := lh (E1.out.tr he2)
 have SS := lh (Sep.ext SS.out he2)
 clear he2 hO4
 try go_wp2_with fail
 refine hK.out _ _ (fun _ => E2.out.cellE q3) (fun hh => ?_)
 have hHeld := hh (by decide)
 clear hK K hh
 try simp only [Act.put, pu]
 refine zr 5 rfl fun K hK => ?_
 go_simp
 refine (s_shows A1 A4 c1 c4 _ g.length ef (Sg.mean g x) _ rfl (by simp [Sg.mean]) O1.out.rd O4.out.rd HEM.out (Nat.le_trans HEL.out (by omega))).mono ?_
 rintro e v3 ⟨Ao, co, rfl, hO5, he3⟩
 have O1 := lh (O1.out.ext he3)
 have O4 := lh (O4.out.ext he3)
 have O5 := lh hO5
 have E3 := lh (E2.out.tr he3)
 have SS := lh (Sep.add SS.out he3 (Th.own w.heap.size 61 2 Ao (Sg.showL ef (Sg.mean g x)).length co (shs (Sg.showL ef (Sg.mean g x)))) (hO5.mono (by have := E2.out.size; have := EX3.out.size; (try simp only [World.size_drew] at *); omega)) (fun b e => (hO5.lt e).1))
 clear he3 hO5
 try go_wp2_with fail
 refine hK.out _ _ (fun _ => E3.out.cellE q3) (fun hh => ?_)
 have hHeld := hh (by decide)
 clear hK K hh
 try simp only [Act.put, pu]
 refine zr 6 rfl fun K hK => ?_
 go_simp
 refine hK.out _ _ (fun e => absurd rfl e) (fun hh => ?_)
 clear hK K hHeld hh
 try simp only [Act.put, pu]
 refine zn ?_
 have q4 := E3.out.cellE q3
 have bq4 := blt q4
 have EX4 := lh (EX3.out.tr E3.out)
 clear q3 bq3 E0 S3 O3 HEF HMO RG EX3 E1 E2 E3 O1 O4 O5
 rename_i v3
 have HSHE := lh (show Sg.showL ef (Sg.mean g x) = Sg.showL (Sg.effs g (List.replicate g.length false)) (Sg.mean g x) by rw [HEE.out])
 generalize Sg.showL ef (Sg.mean g x) = sh at *
 obtain ⟨Q, hQ⟩ : ∃ Q : Nat → Sg.Ses × List Int × List Sg.Show, ∀ k, Q k = Sg.runS (Sg.plainFl g) (Sg.ses0 g x, (x, sh)) (l.take k) := ⟨_, fun _ => rfl⟩
 have hq : ∀ k y, l[k]? = some y → Q (k + 1) = Sg.stepR (Sg.plainFl g) (Q k) y := fun k y hy => by rw [hQ, hQ, take_snoc l k hy, Sg.runS_snoc]
 have hok : ∀ k, k ≤ l.length → Sg.SesOk g (Q k).1 k := fun k hk => by rw [hQ]; exact Sg.runS_ok _ (Sg.ses0_ok HC.out) l HAC.out k hk
 have hq0 : Q 0 = (Sg.ses0 g x, (x, sh)) := by rw [hQ]; rfl
 have hqe : Sg.plainS g x l = (Q l.length).2.2 := by rw [hQ, List.take_length, HSHE.out]; unfold Sg.plainS; rw [if_pos HFT.out]
 have HQ := lh hq
 have HOK := lh hok
 have HQ0 := lh hq0
 have HQE := lh hqe
 have HBL := HL.out.big
 clear hQ hq hok hq0 hqe HEE HEL HEM HSHE
 go_wp2_with fail
 go_loopw [8, 9, 10] (fun s8 s9 s10 wr => ∃ (k : Nat) (An : Option Addr) (cn : Nat) (Ao : Option Addr) (co fl : Nat), k ≤ l.length ∧ s10 = .int .i64 k ∧ s8 = .slice An (Q k).2.1.length cn ∧ s9 = .slice Ao (Q k).2.2.length co ∧ fl ≤ k ∧ Hid ((Q k).2.2.length ≤ g.length * (k + 1)) ∧ Hid (Sg.validC g (Q k).2.1 = true) ∧ Hid (Ext w wr) ∧
  Hid (Sep (sesT Bs A c g (Q k).1 x.length g.length Ap cp As g.length fl ++ [Th.own w.heap.size 3 1 An (Q k).2.1.length cn (ints (Q k).2.1), Th.own w.heap.size 61 2 Ao (Q k).2.2.length co (shs (Q k).2.2), Th.box w.heap.size w.heap.size [.slice A g.length c]]) wr)) (fun _ _ i _ => l.length - (intOf i).toNat)
 case atStart => exact ⟨0, An, cn, Ao, co, 0, Nat.zero_le _, rfl, by rw [HQ0.out], by rw [HQ0.out], Nat.le_refl _, lh (by rw [HQ0.out]; exact HSL.out), lh (by rw [HQ0.out]; exact HC.out), EX4, lh (by rw [HQ0.out]; exact Sep.perm SS.out (perm_start _ _ _ _ _ _))⟩
 case round =>
  clear SS q4 bq4 EX4 HQ0
  obtain ⟨k, An, cn, Ao, co, fl, hk, rfl, rfl, rfl, hfl, hLQ, hVQ, hX, hSS⟩ := hrel
  have hko := HOK.out k hk
  have Hko := lh hko
  have hok1 : k + 1 ≤ l.length → Sg.SesOk g (Q (k + 1)).1 (k + 1) := HOK.out (k + 1)
  have HOK1 := lh hok1
  clear hko hok1
  have hfl30 : fl ≤ 30 := by have := HL30.out; omega
  by_cases hlt : k < l.length
  ·obtain ⟨bo, oo, ⟨ak, an, av⟩, rfl, ha, hc0, hc1, hc2⟩ := (HL.out.ext hX.out).atA hlt
   dsimp only at *
   have HQ1 := lh (HQ.out k _ ha)
   have HAO := lh (HAC.out _ (List.mem_of_getElem? ha))
   have HK1 := lh (HOK1.out hlt)
   have bc0 := blt hc0
   have bc1 := blt hc1
   have bc2 := blt hc2
   clear ha HOK1
   generalize Q k = q at *
   obtain ⟨⟨o, p, s⟩, y, out⟩ := q
   dsimp only at *
   have hpn : p.length = x.length := (Sg.length_validC Hko.out.c).trans HXG.out.symm
   have hsn : s.length = g.length := Hko.out.s
   have ho30 : o ≤ 30 := by have h9 : o ≤ k := Hko.out.o; have := HL30.out; omega
   have HST := lh (s_stepOf w Bs A Ap As c cp g.length x.length g.length fl g o p s ak an av [Th.own w.heap.size 3 1 An y.length cn (ints y), Th.own w.heap.size 61 2 Ao out.length co (shs out), Th.box w.heap.size w.heap.size [.slice A g.length c]] wr hX.out hSS.out hpn hsn HXG.out rfl hgl ho30 hfl30 HAO.out)
   clear hpn hsn
   rcases hst : Sg.stepS ⟨o, p, s⟩ ⟨ak, an, av⟩ with ⟨⟨o', p', s'⟩, due⟩
   have HQ2 := HQ1.out
   unfold Sg.stepR at HQ2
   rw [hst] at HQ2 HST
   dsimp only at HQ2
   clear hst
   have qg := hX.out
   have gb := (((Sep.get hSS.out 5 rfl : Bx _ _ _ ∧ _).1).cell (j := 0) rfl : wr.cell? ⟨w.heap.size, 0, none⟩ = some (.slice A g.length c))
   have bgb := blt gb
   clear qg
   cases due
   ·have hq2 : Q (k + 1) = (⟨o', p', s'⟩, (y, out)) := HQ2
    have HQ3 := lh hq2
    clear HQ2 hq2
    go_wp2_with fail
    refine HST.out.mono ?_
    rintro e w5 ⟨fl', hfl', rfl, hE5, hS5⟩
    have HE5 := lh hE5
    have HS5 := lh hS5
    clear hE5 hS5 HST hSS hX gb bgb
    have hL2 : (Q (k + 1)).2.2.length ≤ g.length * (k + 1 + 1) := by rw [HQ3.out]; show out.length ≤ _; have := hLQ.out; rw [Nat.mul_add g.length (k + 1) 1]; omega
    have HL2 := lh hL2
    clear hL2
    go_wp2
    go_roundw
    case rel => exact ⟨k + 1, An, cn, Ao, co, fl', by omega, by go_num, by rw [HQ3.out], by rw [HQ3.out], by omega, HL2, lh (by rw [HQ3.out]; exact hVQ.out), HE5, lh (by rw [HQ3.out]; exact HS5.out)⟩
    case measure => simp [intOf]; omega
   ·have hq2 : Q (k + 1) = (⟨o', p', s'⟩, Sg.plainFl g (y, out) p' s') := HQ2
    have HQ3 := lh hq2
    have hk1 := HK1.out
    rw [hq2] at hk1
    have hp' : p'.length = x.length := (Sg.length_validC hk1.c).trans HXG.out.symm
    have hs' : s'.length = g.length := hk1.s
    have HPC := lh hk1.c
    have HSN := lh hs'
    have HMR := lh (fun w1 h1 h2 (h3 : Rd w1 1 Ap x.length (ints p')) => by have := s_MustRun A An Ap c cn cp g y p' w1 h1 h2 (by rw [hp']; exact h3); rw [hp'] at this; exact this)
    have HMO := lh (fun w1 h1 (h2 : Rd w1 1 Ap x.length (ints p')) => by have := s_meaning A Ap c cp g p' w1 h1 (by rw [hp']; exact h2) hG HPC.out; rw [hp'] at this; exact this)
    have HPN := lh hp'
    have HEL := lh (Sg.effs_len g s')
    have HCM := lh (fun z (hz : z ∈ Sg.common (Sg.effs g s') (Sg.mustOr g y p')) => mem_common_lt hz)
    have HCL := lh (common_len (Sg.effs g s') (Sg.mustOr g y p'))
    have HOL := lh (show out.length ≤ 40000 from Nat.le_trans hLQ.out (Nat.le_trans (Nat.mul_le_mul hg10 (show k + 1 ≤ 31 by have := HL30.out; omega)) (by omega)))
    clear HQ2 hq2 hk1 hp' hs'
    go_wp2_with fail
    refine HST.out.mono ?_
    rintro e w5 ⟨fl', hfl', rfl, hE5, hS5⟩
    have HE5 := lh hE5
    have HS5 := lh hS5
    clear hE5 hS5 HST hSS hX gb bgb
    have E0 := lh ((Ext.rfl' w5).dr)
    have SS := lh (Sep.ext HS5.out E0.out)
    have gb := (((Sep.get HS5.out 5 rfl : Bx _ _ _ ∧ _).1).cell (j := 0) rfl : w5.cell? ⟨w.heap.size, 0, none⟩ = some (.slice A g.length c))
    have pb := (((Sep.get HS5.out 0 rfl : Bx _ _ _ ∧ _).1).cell (j := 2) rfl : w5.cell? ⟨Bs, 2, none⟩ = some (.slice Ap x.length cp))
    have bgb := blt gb
    have bpb := blt pb
    have RG := lh (H.out.ext HE5.out)
    have RP := lh ((Sep.get HS5.out 1 rfl : Own _ _ _ _ _ _ _ _).rd)
    have RY := lh ((Sep.get HS5.out 3 rfl : Own _ _ _ _ _ _ _ _).rd)
    go_wp2_with fail
    refine zb 19 (fun W => W.cell? ⟨w.heap.size, 0, none⟩ = some (.slice A g.length c) ∧ W.cell? ⟨Bs, 2, none⟩ = some (.slice Ap x.length cp)) ?_ (fun hHeld => ?_)
    ·exact ⟨E0.out.cellE gb, E0.out.cellE pb⟩
    refine zy 0 ?_
    refine zy 1 ?_
    refine zy 3 ?_
    refine zy 4 ?_
    refine zy 5 ?_
    refine zy 6 ?_
    refine zy 7 ?_
    refine zy 8 ?_
    refine zy 11 ?_
    refine zy 12 ?_
    refine zy 13 ?_
    refine zy 14 ?_
    refine zy 15 ?_
    refine zr 2 rfl fun K hK => ?_
    go_simp
    refine (s_live w Bs A Ap As c cp g.length x.length g.length fl' g o' p' s' _ _ H.out (HE5.out.tr E0.out) SS.out HSN.out rfl).mono ?_
    rintro e v1 ⟨A1, c1, rfl, hO1, he1⟩
    have O1 := lh hO1
    have E1 := lh (E0.out.tr he1)
    have SS := lh (Sep.ext SS.out he1)
    clear he1 hO1
    try go_wp2_with fail
    refine hK.out _ _ (fun _ => ⟨E1.out.cellE gb, E1.out.cellE pb⟩) (fun hh => ?_)
    have hHeld := hh (by decide)
    clear hK K hh
    try simp only [Act.put, pu]
    refine zr 9 rfl fun K hK => ?_
    go_simp
    refine (HMR.out _ (RG.out.ext E1.out) (RY.out.ext E1.out) (RP.out.ext E1.out)).mono ?_
    rintro e v2 ⟨A2, c2, rfl, hO2, he2⟩
    have O1 := lh (O1.out.ext he2)
    have O2 := lh hO2
    have E2 := lh (E1.out.tr he2)
    have SS := lh (Sep.ext SS.out he2)
    clear he2 hO2
    try go_wp2_with fail
    refine hK.out _ _ (fun _ => ⟨E2.out.cellE gb, E2.out.cellE pb⟩) (fun hh => ?_)
    have hHeld := hh (by decide)
    clear hK K hh
    try simp only [Act.put, pu]
    refine zr 10 rfl fun K hK => ?_
    go_simp
    refine (s_common A1 A2 c1 c2 (Sg.mustOr g y p').length (Sg.effs g s') (Sg.mustOr g y p') _ O1.out.rd O2.out.rd (Nat.le_trans HEL.out (by omega))).mono ?_
    rintro e v3 ⟨A3, c3, rfl, hO3, he3⟩
    have O1 := lh (O1.out.ext he3)
    have O2 := lh (O2.out.ext he3)
    have O3 := lh hO3
    have E3 := lh (E2.out.tr he3)
    have SS := lh (Sep.ext SS.out he3)
    clear he3 hO3
    try go_wp2_with fail
    refine hK.out _ _ (fun _ => ⟨E3.out.cellE gb, E3.out.cellE pb⟩) (fun hh => ?_)
    have hHeld := hh (by decide)
    clear hK K hh
    try simp only [Act.put, pu]
    refine zr 16 rfl fun K hK => ?_
    go_simp
    refine (HMO.out _ (RG.out.ext E3.out) (RP.out.ext E3.out)).mono ?_
    rintro e v4 ⟨A4, c4, rfl, hO4, he4⟩
    have O1 := lh (O1.out.ext he4)
    have O2 := lh (O2.out.ext he4)
    have O3 := lh (O3.out.ext he4)
    have O4 := lh hO4
    have E4 := lh (E3.out.tr he4)
    have SS := lh (Sep.ext SS.out he4)
    clear he4 hO4
    try go_wp2_with fail
    refine hK.out _ _ (fun _ => ⟨E4.out.cellE gb, E4.out.cellE pb⟩) (fun hh => ?_)
    have hHeld := hh (by decide)
    clear hK K hh
    try simp only [Act.put, pu]
    refine zr 17 rfl fun K hK => ?_
    go_simp
    refine (s_shows A3 A4 c3 c4 _ g.length (Sg.common (Sg.effs g s') (Sg.mustOr g y p')) (Sg.mean g p') _ rfl (by simp [Sg.mean]) O3.out.rd O4.out.rd HCM.out (Nat.le_trans HCL.out (Nat.le_trans HEL.out (by omega)))).mono ?_
    rintro e v5 ⟨A5, c5, rfl, hO5, he5⟩
    have O1 := lh (O1.out.ext he5)
    have O2 := lh (O2.out.ext he5)
    have O3 := lh (O3.out.ext he5)
    have O4 := lh (O4.out.ext he5)
    have O5 := lh hO5
    have E5 := lh (E4.out.tr he5)
    have SS := lh (Sep.ext SS.out he5)
    clear he5 hO5
    have L5 := lh (show (Sg.showL (Sg.common (Sg.effs g s') (Sg.mustOr g y p')) (Sg.mean g p')).length ≤ 1000 from by rw [Sg.showL_len]; exact Nat.le_trans HCL.out (Nat.le_trans HEL.out (by omega)))
    have HFL := lh (show Sg.plainFl g (y, out) p' s' = (p', out ++ Sg.showL (Sg.common (Sg.effs g s') (Sg.mustOr g y p')) (Sg.mean g p')) from rfl)
    generalize Sg.showL (Sg.common (Sg.effs g s') (Sg.mustOr g y p')) (Sg.mean g p') = sh at *
    try go_wp2_with fail
    refine hK.out _ _ (fun _ => ⟨E5.out.cellE gb, E5.out.cellE pb⟩) (fun hh => ?_)
    have hHeld := hh (by decide)
    clear hK K hh
    try simp only [Act.put, pu]
    refine zr 18 rfl fun K hK => ?_
    have HOW : Own v5 w.heap.size 61 2 Ao out.length co (shs out) := Sep.get SS.out 4 rfl
    refine held_appR rfl rfl eiShow rfl HOW rfl O5.out.rd (one_shs sh) (by have := HOL.out; have := L5.out; unfold maxLen; omega) (by have := HOL.out; have := L5.out; omega) (by have := E5.out.size; have := HE5.out.size; (try simp only [World.size_drew] at *); omega) ?_
    intro A6 c6 v6 ho6 hg6 hat6
    have SS := lh (Sep.app SS.out 4 rfl (n' := out.length + sh.length) (xs' := shs out ++ shs sh) ho6 hg6 (hat6.imp id fun e => ⟨_, e, Nat.le_refl _⟩))
    have EX6 := lh ((HE5.out.tr E5.out).gr hg6 (fun z hz => (HOW.lt hz).1))
    have yg := (((Sep.get SS.out 5 rfl : Bx _ _ _ ∧ _).1).cell (j := 0) rfl : v6.cell? ⟨w.heap.size, 0, none⟩ = some (.slice A g.length c))
    have yb := (((Sep.get SS.out 0 rfl : Bx _ _ _ ∧ _).1).cell (j := 2) rfl : v6.cell? ⟨Bs, 2, none⟩ = some (.slice Ap x.length cp))
    clear ho6 hg6 hat6 HOW
    try simp only [pg]
    refine hK.out _ _ (fun _ => ⟨yg, yb⟩) (fun hh => ?_)
    have hHeld := hh (by decide)
    clear hK K hh
    try simp only [Act.put, pu]
    refine zr 19 rfl fun K hK => ?_
    go_simp
    refine hK.out _ _ (fun e => absurd rfl e) (fun hh => ?_)
    clear hK K hHeld hh
    try simp only [Act.put, pu]
    refine zn ?_
    have HOX := lh (Sep.get SS.out 1 rfl : Own _ _ _ _ _ _ _ _)
    have bb6 := blt yb
    rw [HFL.out] at HQ3
    clear gb pb bgb bpb
    go_wp2_with fail
    refine (s_copyInts Ap x.length cp p' _ HOX.out.rd (by omega)).mono ?_
    rintro e v7 ⟨An7, cn7, rfl, hO7, he7⟩
    have S7 := lh (Sep.set SS.out 3 rfl (F := fun _ => False) (Mod.of he7) (Th.own w.heap.size 3 1 An7 x.length cn7 (ints p')) (fun _ => False.elim) (hO7.mono EX6.out.size) (fun b hb => .inr (hO7.lt hb).1))
    have EX7 := lh (EX6.out.tr he7)
    go_wp2
    go_roundw
    case rel => exact ⟨k + 1, An7, cn7, A6, c6, fl', by omega, by go_num, by rw [HQ3.out]; show Value.slice _ x.length _ = Value.slice _ p'.length _; rw [HPN.out], by rw [HQ3.out]; simp, by omega, lh (by rw [HQ3.out]; have := Sg.plainFl_small (q := (y, out)) hLQ.out p' s'; rw [HFL.out] at this; exact this), lh (by rw [HQ3.out]; exact HPC.out), EX7, lh (by rw [HQ3.out]; show Sep (sesT Bs A c g ⟨o', p', s'⟩ x.length g.length Ap cp As g.length fl' ++ [Th.own w.heap.size 3 1 An7 p'.length cn7 (ints p'), Th.own w.heap.size 61 2 A6 (out ++ sh).length c6 (shs (out ++ sh)), Th.box w.heap.size w.heap.size [.slice A g.length c]]) _; rw [HPN.out, List.length_append, ← shs_app]; exact S7.out)⟩
    case measure => simp [intOf]; omega
  ·obtain rfl : k = l.length := by omega
   go_wp2
   go_ret
   rw [HQE.out]
   exact ⟨Ao, co, rfl, Sep.get hSS.out 4 rfl, hX.out⟩
end Go.Proofs.YtaklkcjlihdlkaaGreat
