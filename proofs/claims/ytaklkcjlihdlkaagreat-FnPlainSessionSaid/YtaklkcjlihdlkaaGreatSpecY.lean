/- The reference's writes: its contract. Conditions: a valid state, cells that can be written. -/
import Derived.Test.YtaklkcjlihdlkaaGreatTy
import Derived.Test.YtaklkcjlihdlkaaGreatWsT
import Derived.Test.YtaklkcjlihdlkaaGreatSpecX
import Derived.Test.YtaklkcjlihdlkaaGreatSepAll
import Derived.Test.YtaklkcjlihdlkaaGreatModelH
import Derived.Test.YtaklkcjlihdlkaaGreatSpecTO
namespace Go.Proofs.YtaklkcjlihdlkaaGreat
open Go.RowKit

set_option maxRecDepth 100000 in
set_option maxHeartbeats 16000000 in
theorem s_writeG (B : Nat) (a : World) (A Av Ar An Aw : Option Addr) (c cv cr cn cw : Nat) (g : Sg.Graph) (v nodes vals : List Int) (r : List (List Int)) (hs : List (Option Addr × Nat)) (w : World)
  (ha : RdN a A g) (hE : Ext a w) (hB : a.heap.size ≤ B) (hBw : B ≤ w.heap.size)
  (ts : List (Th B)) (hna : ∀ W, Ext a W → Sep ts W → Rd W 1 An nodes.length (ints nodes)) (hwa : ∀ W, Ext a W → Sep ts W → Rd W 1 Aw vals.length (ints vals))
  (hnb : 0 < nodes.length → ∀ b, blk An = some b → b < a.heap.size ∨ ∃ t ∈ ts, t.fp b) (hwb : 0 < vals.length → ∀ b, blk Aw = some b → b < a.heap.size ∨ ∃ t ∈ ts, t.fp b) (hS : Sep (Th.own B 3 1 Av v.length cv (ints v) :: Th.ownL B Ar cr r hs :: ts) w) (hV : Sg.validE g ⟨v, r⟩ = true) (hcd : Sg.cellsDiffer g nodes = true) (hlen : nodes.length = vals.length) (hxr : Sg.inRange vals) :
  Calls Tryz.prog 110 #[.agg #[.slice A g.length c], .agg #[.slice Av v.length cv, .slice Ar r.length cr], .slice An nodes.length cn, .slice Aw vals.length cw] w fun e w' => ∃ Ad cd hs', e = .returned (.tuple #[.agg #[.slice Av v.length cv, .slice Ar r.length cr], .slice Ad (Sg.writeS g ⟨v, r⟩ nodes vals).ran.length cd]) ∧
   Sep (Th.own B 3 1 Ad (Sg.writeS g ⟨v, r⟩ nodes vals).ran.length cd (ints (Sg.writeS g ⟨v, r⟩ nodes vals).ran) :: Th.own B 3 1 Av (Sg.writeS g ⟨v, r⟩ nodes vals).vals.length cv (ints (Sg.writeS g ⟨v, r⟩ nodes vals).vals) :: Th.ownL B Ar cr (Sg.writeS g ⟨v, r⟩ nodes vals).reads hs' :: ts) w' ∧ (Sg.writeS g ⟨v, r⟩ nodes vals).vals.length = v.length ∧ (Sg.writeS g ⟨v, r⟩ nodes vals).reads.length = r.length ∧ Ext a w' := by
 obtain ⟨hG, hvl, hrl, hvr, _⟩ := Sg.validE_parts hV
 have hg10 := validG_len hG
 have hgl := ha.1
 have WI0 := lh (Sg.WrIn.of hV)
 have HVR := lh (Sg.inR999_range hvr)
 have HG := lh hG
 have HXR := lh hxr
 have HCD := lh (fun (k : Nat) (n : Int) (hn : nodes[k]? = some n) => Sg.cellsDiffer_at hcd hn)
 have HVL := lh hvl
 have HRL := lh hrl
 have HLN := lh hlen
 have hnl : nodes.length ≤ 10 := Nat.le_trans (Sg.cellsDiffer_len hcd) hg10
 have hvl1 : v.length ≤ 10 := by rw [show v.length = g.length from hvl]; exact hg10
 have hrl1 : r.length ≤ 10 := by rw [show r.length = g.length from hrl]; exact hg10
 have HA := lh ha
 have HNA := lh hna
 have HWA := lh hwa
 have HNB := lh hnb
 have HWB := lh hwb
 have W0 := WS.start hS hBw #[.slice A g.length c] #[.slice Av v.length cv, .slice Ar r.length cr] #[.slice none 0 0, .slice none 0 0] 25 118 118 3
 have on := Own.new (World.alloc (World.alloc (World.alloc w (.cells #[.slice A g.length c] 25)) (.cells #[.slice Av v.length cv, .slice Ar r.length cr] 118)) (.cells #[.slice none 0 0, .slice none 0 0] 118)) (B := B) 3 1 #[] 0 (by simp; omega) (by unfold maxLen; omega) rfl
 have WS0 := lh (WS.newC (A' := some ⟨((World.alloc (World.alloc (World.alloc w (.cells #[.slice A g.length c] 25)) (.cells #[.slice Av v.length cv, .slice Ar r.length cr] 118)) (.cells #[.slice none 0 0, .slice none 0 0] 118))).heap.size, 0, none⟩) (n' := 0) (c' := 0) (xs' := ints []) W0 ((Ext.rfl' _).al (.cells #[] 3)) (by simpa [ints] using on) (fun b hb => by simp [blk] at hb; simp; omega))
 have EA := lh (hE.tr (show Ext w (World.alloc (World.alloc (World.alloc (World.alloc w (.cells #[.slice A g.length c] 25)) (.cells #[.slice Av v.length cv, .slice Ar r.length cr] 118)) (.cells #[.slice none 0 0, .slice none 0 0] 118)) (.cells #[] 3)) from ((((Ext.rfl' w).al _).al _).al _).al _))
 have hal : a.heap.size ≤ w.heap.size := hE.size
 clear ha hna hwa hnb hwb hE hS hV hG hvl hrl hvr hcd hlen hxr W0 on
 go_enter Tryz.func110, Tryz.ntmps110
 go_upto_region 2 with fail
 simp only [World.size_alloc] at WS0
 generalize (World.alloc (World.alloc (World.alloc (World.alloc w (.cells #[.slice A g.length c] 25)) (.cells #[.slice Av v.length cv, .slice Ar r.length cr] 118)) (.cells #[.slice none 0 0, .slice none 0 0] 118)) (.cells #[] 3)) = w5 at *
 generalize hM1 : w.heap.size + 1 + 1 + 1 = M1 at *
 clear hM1
 go_wp2_with fail
 go_loopw [10, 11] (fun s10 i wr => ∃ (k : Nat) (chg : List Int) (Ac : Option Addr) (cc : Nat), k ≤ nodes.length ∧ i = .int .i64 k ∧ s10 = .slice Ac chg.length cc ∧ Hid (WS B w.heap.size (w.heap.size + 1) (w.heap.size + 2) [.slice A g.length c] [.slice Av v.length cv, .slice Ar r.length cr] [.slice none 0 0, .slice none 0 0] Av cv (Sg.wcells (v, List.replicate g.length false) nodes vals k).1 Ar cr r hs 3 Ac chg.length cc (ints chg) none 0 [] ts wr) ∧ Hid (Sg.ChR g chg (Sg.wcells (v, List.replicate g.length false) nodes vals k).2 ∧ ∀ x ∈ chg, x ∈ nodes.take k) ∧ chg.length ≤ k ∧ Hid (Ext a wr)) (fun _ i _ => nodes.length - (intOf i).toNat)
 case atStart => exact ⟨0, [], _, 0, Nat.zero_le _, rfl, rfl, WS0, lh ⟨Sg.ChR.start g, by simp⟩, Nat.le_refl _, EA⟩
 case round =>
  clear WS0 EA
  obtain ⟨k, chg, Ac, cc, hk, rfl, rfl, hW, hCH, hcl, hE⟩ := hrel
  by_cases hlt : k < nodes.length
  ·obtain ⟨bn, on, x, hAn, hx, hcx⟩ := (HNA.out _ hE.out hW.out.tsS).at1 hlt
   obtain ⟨bw, ow, y, hAw, hy, hcy⟩ := (HWA.out _ hE.out hW.out.tsS).at1 (show k < vals.length by rw [← HLN.out]; exact hlt)
   subst hAn
   subst hAw
   obtain ⟨j, nd, hxj, hnd, hkd⟩ := Sg.isCell_at (HCD.out k x hx).1
   subst hxj
   have HNT := lh (HCD.out k _ hx).2
   have HTK := lh (show nodes.take (k + 1) = nodes.take k ++ [(j : Int)] by rw [List.take_succ_eq_append_getElem hlt]; obtain ⟨_, h2⟩ := List.getElem?_eq_some_iff.1 hx; rw [h2])
   have hj : j < g.length := (List.getElem?_eq_some_iff.1 hnd).1
   have HST := lh (Sg.wcells_succ (v, List.replicate g.length false) nodes vals k hx hy)
   obtain ⟨vk, hvk⟩ : ∃ vk, vk = (Sg.wcells (v, List.replicate g.length false) nodes vals k).1 := ⟨_, rfl⟩
   obtain ⟨ck, hck⟩ : ∃ ck, ck = (Sg.wcells (v, List.replicate g.length false) nodes vals k).2 := ⟨_, rfl⟩
   have hvkl : vk.length = v.length := by rw [hvk]; simp
   have hckl : ck.length = g.length := by rw [hck]; simp
   have hWk := hW.out
   rw [← hvk] at hWk
   have HWk := lh hWk
   have hch := hCH.out
   rw [← hck] at hch
   have HCH := lh hch
   have HS1 := lh (show Sg.wcells (v, List.replicate g.length false) nodes vals (k + 1) = (vk.set j y, ck.set j (vk.getD j 0 != y)) by rw [HST.out, hvk, hck]; unfold Sg.wstep; simp)
   have hjv : j < vk.length := by rw [hvkl, HVL.out]; exact hj
   have hjc : j < ck.length := by rw [hckl]; exact hj
   clear hvk hck hW hWk HST hnd hkd hx hy hch hCH
   obtain ⟨gv, hAv, _⟩ := HWk.out.vv.at_ (by omega)
   subst hAv
   obtain ⟨z, hz⟩ : ∃ z, vk[j]? = some z := ⟨_, List.getElem?_eq_getElem hjv⟩
   have HZ := lh hz
   have HZD := lh (show vk.getD j 0 = z by simp [hz])
   have cz := HWk.out.vv.cell (j := j) (u := .int .i64 z) (by rw [ints_at, hz]; rfl)
   have fz := HWk.out.vv.free j
   have s0 := HWk.out.b1.cell (j := 0) rfl
   have bcz := blt cz
   have bs0 := blt s0
   have bcx := blt hcx
   have bcy := blt hcy
   have hBv := (HWk.out.vv.lt (g := gv) rfl).1
   have hbna : bn ≠ gv := by
    have hx9 := hBv
    rcases HNB.out (by omega) bn (by first | rfl | (rw [hAn]; rfl)) with h9 | ⟨t9, ht9, hf9⟩
    ·omega
    ·exact fun e9 => HWk.out.tv ht9 hf9 (by rw [e9]; rfl)
   have hbwa : bw ≠ gv := by
    have hx9 := hBv
    rcases HWB.out (by rw [← HLN.out]; omega) bw (by first | rfl | (rw [hAw]; rfl)) with h9 | ⟨t9, ht9, hf9⟩
    ·omega
    ·exact fun e9 => HWk.out.tv ht9 hf9 (by rw [e9]; rfl)
   clear hz
   have hjg : (j : Int) < (g.length : Int) := by omega
   have hjvi : (j : Int) < (v.length : Int) := by omega
   have hkw : (k : Int) < (vals.length : Int) := by rw [← HLN.out]; omega
   go_upto_region 5 with fail
   refine wp_region_held_drew (S := (fun W => W.cell? ⟨w.heap.size + 1, 0, none⟩ = some (.slice (some ⟨gv, 0, none⟩) v.length cv) ∧ W.cell? ⟨gv, j, none⟩ = some (.int .i64 z) ∧ W.cell? ⟨bn, on + k, none⟩ = some (.int .i64 (j : Int)) ∧ W.cell? ⟨bw, ow + k, none⟩ = some (.int .i64 y))) (by kernel_rfl) ?_ (fun hHeld => ?_)
   ·exact ⟨((Ext.rfl' _).dr).cellE s0, ((Ext.rfl' _).dr).cellE cz, ((Ext.rfl' _).dr).cellE hcx, ((Ext.rfl' _).dr).cellE hcy⟩
   refine ty 0 ?_
   refine ty 1 ?_
   refine ty 2 ?_
   refine ty 3 ?_
   refine ty 4 ?_
   refine ty 5 ?_
   refine ty 6 ?_
   refine ty 7 ?_
   refine ty 8 ?_
   refine ty 9 ?_
   refine ty 10 ?_
   refine ty 11 ?_
   refine ty 12 ?_
   refine dn ?_
   have W5 := lh (HWk.out.ext ((Ext.rfl' _).dr))
   have E5 := lh (hE.out.dr)
   have x0 := ((Ext.rfl' wr).dr).cellE s0
   have x1 := ((Ext.rfl' wr).dr).cellE cz
   have x2 := ((Ext.rfl' wr).dr).cellE hcy
   have x3 := ((Ext.rfl' wr).dr).cellE hcx
   have x4 := W5.out.vv.free j
   clear s0 cz hcy fz bcz bs0 bcx bcy hcx hHeld HWk hE
   generalize World.drew wr = w6 at *
   have bx0 := blt x0
   have bx1 := blt x1
   have bx2 := blt x2
   have bx3 := blt x3
   by_cases hzy : z = y
   ·have z1 : (z != y) = false := by simp [hzy]
    have HE := lh (show Sg.wcells (v, List.replicate g.length false) nodes vals (k + 1) = (vk, ck.set j false) by rw [HS1.out, HZD.out, z1]; rw [Sg.set_self (by rw [← hzy]; exact HZ.out)])
    have HC2 := lh (show Sg.ChR g chg (ck.set j false) from HCH.out.1.keep (fun h => HNT.out (HCH.out.2 _ h)))
    clear hzy
    go_wp2_with fail
    go_roundw
    case rel => exact ⟨k + 1, chg, Ac, cc, by omega, by go_num, rfl, lh (by rw [HE.out]; exact W5.out), lh ⟨by rw [HE.out]; exact HC2.out, fun x hx => by rw [HTK.out]; exact List.mem_append_left _ (HCH.out.2 x hx)⟩, by omega, E5⟩
    case measure => simp [intOf]; omega
   ·have z1 : (z != y) = true := by simp [hzy]
    have HE := lh (show Sg.wcells (v, List.replicate g.length false) nodes vals (k + 1) = (vk.set j y, ck.set j true) by rw [HS1.out, HZD.out, z1])
    have HC2 := lh (HCH.out.1.add hjc)
    clear hzy
    go_upto_region 6 with fail
    have W7 := lh (W5.out.setV j y)
    have dV1 := W5.out.vN1 gv rfl
    have hm6 := lh (Mod.set (F := fun b => b = gv) (Mod.rfl' (fun b => b = gv) w6) (p := ⟨gv, j, none⟩) (.inl rfl) (.int .i64 y))
    have s06 := hm6.out.cellE x0 dV1
    have cx6 := hm6.out.cellE x3 (by omega)
    have cy6 := hm6.out.cellE x2 (by omega)
    refine wp_region_held_drew (S := (fun W => W.cell? ⟨w.heap.size + 1, 0, none⟩ = some (.slice (some ⟨gv, 0, none⟩) v.length cv) ∧ W.cell? ⟨bn, on + k, none⟩ = some (.int .i64 (j : Int)) ∧ W.cell? ⟨bw, ow + k, none⟩ = some (.int .i64 y))) (by kernel_rfl) ?_ (fun hHeld => ?_)
    ·exact ⟨((Ext.rfl' _).dr).cellE x0, ((Ext.rfl' _).dr).cellE x3, ((Ext.rfl' _).dr).cellE x2⟩
    refine ty 0 ?_
    refine ty 1 ?_
    refine ty 2 ?_
    refine ty 3 ?_
    refine ty 4 ?_
    refine ty 5 ?_
    refine ty 6 ?_
    refine ty 7 ?_
    refine ty 8 ?_
    refine ty 9 ?_
    refine ty 10 ?_
    refine rd1 11 rfl fun K hK => ?_
    go_simp
    refine hK.out _ _ (by exact ⟨((Ext.rfl' _).dr).cellE s06, ((Ext.rfl' _).dr).cellE cx6, ((Ext.rfl' _).dr).cellE cy6⟩) fun hh2 => ?_; clear hK K hHeld; have hHeld := hh2; clear hh2
    try simp only [Act.put]
    refine dn ?_
    have W8 := lh (W7.out.ext ((Ext.rfl' _).dr))
    have E8 := lh ((E5.out.set (p := ⟨gv, j, none⟩) (show a.heap.size ≤ gv by omega) (.int .i64 y)).dr)
    have y3 := ((Ext.rfl' _).dr).cellE cx6
    clear s06 cx6 cy6 x0 x1 x2 x3 x4 bx0 bx1 bx2 bx3 hm6 dV1 hHeld W7 W5 E5
    generalize (World.setCell w6 ⟨gv, j, none⟩ (.int .i64 y)).drew = w8 at *
    have by3 := blt y3
    have hw8 : B ≤ w8.heap.size := by have := W8.out.b0.lt; omega
    go_wp2_with (at_builtin; refine wpList_app1 rfl rfl eiInt rfl W8.out.c rfl rfl (one_int _ _) (by omega) (by omega) hw8 ?_; intro A9 c9 w9 ho9 hg9 hat9; have hl9 : (chg ++ [(j : Int)]).length = chg.length + 1 := (by simp); have W9 := lh (WS.pushC (n' := (chg ++ [(j : Int)]).length) (xs' := ints (chg ++ [(j : Int)])) W8.out (by rw [hl9]; simpa using ho9) hg9 hat9); have E9 := lh (E8.out.gr hg9 (fun b hb => by have := (W8.out.c.lt hb).1; omega)); clear ho9 hg9 hat9 hl9)
    go_roundw
    case rel => exact ⟨k + 1, chg ++ [(j : Int)], A9, c9, by omega, by go_num, by simp, lh (by rw [HE.out]; exact W9.out), lh ⟨by rw [HE.out]; exact HC2.out, fun x hx => by rw [HTK.out]; rcases List.mem_append.1 hx with hx | hx; exact List.mem_append_left _ (HCH.out.2 x hx); exact List.mem_append_right _ hx⟩, by simp; omega, E9⟩
    case measure => simp [intOf]; omega
  ·obtain rfl : k = nodes.length := by omega
   clear hlt hk
   obtain ⟨S0, hS0⟩ : ∃ S0 : Sg.WrS, S0 = ⟨(Sg.wcells (v, List.replicate g.length false) nodes vals nodes.length).1, r, (Sg.wcells (v, List.replicate g.length false) nodes vals nodes.length).2, []⟩ := ⟨_, rfl⟩
   have HFIN := lh (show Sg.writeS g ⟨v, r⟩ nodes vals = Sg.rsteps g S0 g.length by rw [hS0]; rfl)
   have OK0 := lh (show Sg.WrOk g S0 by rw [hS0]; exact ⟨by simp [show v.length = g.length from HVL.out], HRL.out, by simp, Sg.wcells_range v _ nodes vals nodes.length HVR.out HXR.out⟩)
   have WI1 := lh (show Sg.WrIn g S0.reads by rw [hS0]; exact WI0.out)
   have W0 := lh (show WS B w.heap.size (w.heap.size + 1) (w.heap.size + 2) [.slice A g.length c] [.slice Av v.length cv, .slice Ar r.length cr] [.slice none 0 0, .slice none 0 0] Av cv S0.vals Ar cr S0.reads hs 3 Ac chg.length cc (ints chg) none 0 S0.ran ts wr by rw [hS0]; exact hW.out)
   have CH0 := lh (show Sg.ChR g chg S0.ch ∧ ∀ x ∈ chg, Sg.isCell g x = true ∨ x < ((0 : Nat) : Int) from ⟨by rw [hS0]; exact hCH.out.1, fun x hx => .inl (by have := hCH.out.2 x hx; rw [List.take_length] at this; obtain ⟨i, hi⟩ := List.getElem?_of_mem this; exact (HCD.out i x hi).1)⟩)
   obtain ⟨wz, rfl⟩ : ∃ wz : World, wz = wr := ⟨_, rfl⟩
   have hwz : B ≤ wz.heap.size := by have := hW.out.b0.lt; omega
   have on2 := Own.new wz (B := B) 3 1 #[] 0 hwz (by unfold maxLen; omega) rfl
   have hr0 : S0.ran = [] := by rw [hS0]
   have W1 := lh (WS.newD (rn' := S0.ran) (c' := 0) (A' := some ⟨wz.heap.size, 0, none⟩) W0.out ((Ext.rfl' wz).al (.cells #[] 3)) (by rw [hr0]; simpa [ints] using on2) (fun b hb => by simp [blk] at hb; omega))
   have HEZ := lh (hE.out.al (.cells #[] 3))
   have HR0 := lh (show S0.ran.length = 0 by rw [hr0]; rfl)
   clear hS0 hW hr0 on2 hCH hE W0 WI0
   go_upto_region 9 with fail
   generalize World.alloc wz (.cells #[] 3) = w1 at *
   obtain ⟨chg0, hchg0⟩ : ∃ x, x = chg := ⟨_, rfl⟩
   go_wp2_with fail
   go_loopw [10, 12, 13] (fun s10 s12 i wr => ∃ (k : Nat) (chg : List Int) (Ac : Option Addr) (cc : Nat) (Ad : Option Addr) (cd : Nat) (hs' : List (Option Addr × Nat)), k ≤ g.length ∧ i = .int .i64 k ∧ s10 = .slice Ac chg.length cc ∧ s12 = .slice Ad (Sg.rsteps g S0 k).ran.length cd ∧ Hid (WS B w.heap.size (w.heap.size + 1) (w.heap.size + 2) [.slice A g.length c] [.slice Av v.length cv, .slice Ar r.length cr] [.slice none 0 0, .slice none 0 0] Av cv (Sg.rsteps g S0 k).vals Ar cr (Sg.rsteps g S0 k).reads hs' 3 Ac chg.length cc (ints chg) Ad cd (Sg.rsteps g S0 k).ran ts wr) ∧ Hid (Sg.WrIn g (Sg.rsteps g S0 k).reads) ∧ Hid (Sg.ChR g chg (Sg.rsteps g S0 k).ch ∧ ∀ x ∈ chg, Sg.isCell g x = true ∨ x < (k : Int)) ∧ chg.length ≤ 10 + k ∧ Hid (Ext a wr)) (fun _ _ i _ => g.length - (intOf i).toNat)
   case atStart => exact ⟨0, chg, Ac, cc, _, 0, hs, Nat.zero_le _, rfl, rfl, by rw [Sg.rsteps_zero, HR0.out], W1, WI1, CH0, by omega, HEZ⟩
   case round =>
    clear W1 WI1 HEZ CH0 hcl hchg0
    obtain ⟨k, chg, Ac, cc, Ad, cd, hs', hk, rfl, rfl, rfl, hW, hI, hCH, hcl, hE⟩ := hrel
    have gb := hW.out.b0.cell (j := 0) rfl
    have bgb := blt gb
    by_cases hlt : k < g.length
    ·obtain ⟨n, hn⟩ : ∃ n, g[k]? = some n := ⟨_, List.getElem?_eq_getElem hlt⟩
     have OKk := lh (OK0.out.steps HG.out k hk)
     have HSU := lh (Sg.rsteps_succ g S0 k)
     have HRN := lh (Sg.rsteps_ran g S0 k)
     obtain ⟨s, hs0⟩ : ∃ s, s = Sg.rsteps g S0 k := ⟨_, rfl⟩
     rw [← hs0] at OKk HSU hW hI HRN hCH
     have hrl9 : s.ran.length ≤ 10 := by have h1 := HRN.out; have h2 := HR0.out; omega
     rw [← hs0]
     clear hs0
     obtain ⟨n', bg, og, Ap, cp, hn', hAe, hkc0, hfs0, hf0, hfl⟩ := HA.out.at_ hlt
     rw [hn] at hn'
     injection hn' with hn'
     subst hn'
     subst hAe
     have HF0 := lh hfs0
     have HP0 := lh hf0
     have hkc := hE.out.cellE hkc0
     have HN := lh hn
     have hvs : s.vals.length = v.length := by rw [OKk.out.v, HVL.out]
     have hrs : s.reads.length = r.length := by rw [OKk.out.r, HRL.out]
     have hcs : s.ch.length = g.length := OKk.out.c
     have HVS := lh hvs
     have HRS := lh hrs
     have HCS := lh hcs
     have hkr : k < s.reads.length := by rw [hrs, HRL.out]; exact hlt
     have hkv : k < s.vals.length := by rw [hvs, HVL.out]; exact hlt
     have hkr2 : (k : Int) < (r.length : Int) := by rw [← hrs]; omega
     have hkv2 : (k : Int) < (v.length : Int) := by rw [← hvs]; omega
     have hrl2 : s.reads.length ≤ 10 := by rw [hrs]; exact hrl1
     have bkc := blt hkc
     clear hn hvs hrs hcs hf0 hfl hkc0 hfs0
     by_cases h0 : n.kind = 0
     ·have z1 : (n.kind == 0) = true := by simp [h0]
      have HS1 := lh (show Sg.rsteps g S0 (k + 1) = s by rw [HSU.out]; exact Sg.rstep_no HN.out (.inl h0))
      clear h0
      have CH2 := lh (show Sg.ChR g chg s.ch ∧ ∀ x ∈ chg, Sg.isCell g x = true ∨ x < ((k + 1 : Nat) : Int) from ⟨hCH.out.1, fun x hx => (hCH.out.2 x hx).imp id (fun h => by omega)⟩)
      go_wp2_with fail
      go_roundw
      case rel => exact ⟨k + 1, chg, Ac, cc, Ad, cd, hs', by omega, by go_num, rfl, by rw [HS1.out], lh (by rw [HS1.out]; exact hW.out), lh (by rw [HS1.out]; exact hI.out), lh (by rw [HS1.out]; exact CH2.out), by omega, hE⟩
      case measure => simp [intOf]; omega
     ·have z1 : (n.kind == 0) = false := by rw [beq_eq_false_iff_ne]; exact h0
      have HN0 := lh h0
      clear h0
      obtain ⟨gv, hAv, _⟩ := hW.out.vv.at_ (by omega)
      subst hAv
      obtain ⟨gr, hAr, _⟩ := hW.out.rr.out.at_ (by simp; omega)
      subst hAr
      obtain ⟨l, bl, ol, Al, cl, hl, hAe, hlc, hlr, hll⟩ := (OwnL.rdL hW.out.rr (by omega) (fun l hl => Nat.le_trans (hI.out.le l hl) (by omega))).at_ hkr
      simp only [Option.some.injEq, Addr.mk.injEq, and_true] at hAe
      obtain ⟨rfl, rfl⟩ := hAe
      simp only [Nat.zero_add] at hlc
      have HLD := lh (show s.reads.getD k [] = l by simp [hl])
      have s1 := hW.out.b1.cell (j := 1) rfl
      have bs1 := blt s1
      have blc := blt hlc
      have HRD := lh hlr
      have HMT := lh (s_meets Al Ac cl cc l.length chg.length l chg wr hlr hW.out.c.rd)
      have HHT := lh (show Sg.meets l chg = Sg.hit s (s.reads.getD k []) by rw [HLD.out]; exact (Sg.hit_meets hCH.out.1 (fun x hx => by have := hI.out.rd k hlt x (by rw [HLD.out]; exact hx); omega)).symm)
      clear hl hlr
      cases hh : Sg.hit s (s.reads.getD k [])
      ·have HS1 := lh (show Sg.rsteps g S0 (k + 1) = s by rw [HSU.out]; exact Sg.rstep_no HN.out (.inr hh))
       have HF := lh (HHT.out.trans hh)
       clear hh
       have CH2 := lh (show Sg.ChR g chg s.ch ∧ ∀ x ∈ chg, Sg.isCell g x = true ∨ x < ((k + 1 : Nat) : Int) from ⟨hCH.out.1, fun x hx => (hCH.out.2 x hx).imp id (fun h => by omega)⟩)
       go_wp2_with fail
       refine HMT.out.mono ?_
       rintro e w2 ⟨rfl, he2⟩
       rw [HF.out]
       have W2 := lh (hW.out.ext he2)
       have E2 := lh (hE.out.tr he2)
       clear he2 s1 bs1 blc hlc hkc bkc gb bgb
       go_wp2_with fail
       go_roundw
       case rel => exact ⟨k + 1, chg, Ac, cc, Ad, cd, hs', by omega, by go_num, rfl, by rw [HS1.out], lh (by rw [HS1.out]; exact W2.out), lh (by rw [HS1.out]; exact hI.out), lh (by rw [HS1.out]; exact CH2.out), by omega, E2⟩
       case measure => simp [intOf]; omega
      ·obtain ⟨X, hX⟩ : ∃ X, X = (Sg.runF n.f s.vals).1 := ⟨_, rfl⟩
       obtain ⟨L, hL⟩ : ∃ L, L = (Sg.runF n.f s.vals).2 := ⟨_, rfl⟩
       obtain ⟨z, hz⟩ : ∃ z, s.vals[k]? = some z := ⟨_, List.getElem?_eq_getElem hkv⟩
       have HZ := lh hz
       have HSY := lh (show Sg.rsteps g S0 (k + 1) = ⟨s.vals.set k X, s.reads.set k L, s.ch.set k (X != z), s.ran ++ [(k : Int)]⟩ by rw [HSU.out, hX, hL, Sg.rstep_yes HN.out HN0.out hh, Sg.getD_of hz])
       have HF := lh (HHT.out.trans hh)
       have HI6 := lh (show Sg.WrIn g (s.reads.set k L) by rw [hL]; exact hI.out.put HG.out s.vals HN.out HN0.out)
       have HRU := lh (fun (W : World) (hf : Rd W 5 Ap n.f.length (parts n.f)) (hv : Rd W 1 (some ⟨gv, 0, none⟩) s.vals.length (ints s.vals)) => by have := s_run Ap (some ⟨gv, 0, none⟩) cp cv s.vals.length n.f s.vals (show Sg.FOK n.f s.vals.length from by rw [OKk.out.v]; exact ⟨(Sg.validG_fok HG.out k HN.out HN0.out).good, (Sg.validG_fok HG.out k HN.out HN0.out).len, (Sg.validG_fok HG.out k HN.out HN0.out).one, fun p hp h1 => by have := (Sg.validG_fok HG.out k HN.out HN0.out).reads p hp h1; omega⟩) OKk.out.n W hf hv; rw [← hX, ← hL, HVS.out] at this; exact this)
       clear hh hX hL hz
       go_wp2_with fail
       refine HMT.out.mono ?_
       rintro e w2 ⟨rfl, he2⟩
       rw [HF.out]
       have W2 := lh (hW.out.ext he2)
       have E2 := lh (hE.out.tr he2)
       clear he2 s1 bs1 blc hlc hkc bkc gb bgb hW hE
       have hbw2 : B ≤ w2.heap.size := by have := W2.out.b0.lt; omega
       go_upto_region 14 with (at_builtin; refine wpList_app1 rfl rfl eiInt rfl W2.out.d rfl rfl (one_int _ _) (by omega) (by omega) hbw2 ?_; intro A3 c3 w3 ho3 hg3 hat3; have hl3 : (s.ran ++ [(k : Int)]).length = s.ran.length + 1 := (by simp); have W3 := lh (WS.pushD (rn' := s.ran ++ [(k : Int)]) W2.out (by rw [hl3]; simpa using ho3) hg3 hat3); have E3 := lh (E2.out.gr hg3 (fun b hb => by have := (W2.out.d.lt hb).1; omega)); clear ho3 hg3 hat3 hl3)
       have s0 := W3.out.b1.cell (j := 0) rfl
       have gb := W3.out.b0.cell (j := 0) rfl
       have hfs := E3.out.cellE HF0.out
       have b1 := blt s0
       have b2 := blt gb
       have b3 := blt hfs
       refine wp_region_held_drew (S := (fun W => W.cell? ⟨w.heap.size, 0, none⟩ = some (.slice (some ⟨bg, og, none⟩) g.length c) ∧ W.cell? ⟨bg, og + k * 2 + 1, none⟩ = some (.slice Ap n.f.length cp) ∧ W.cell? ⟨w.heap.size + 1, 0, none⟩ = some (.slice (some ⟨gv, 0, none⟩) v.length cv))) (by kernel_rfl) ?_ (fun hHeld => ?_)
       ·exact ⟨((Ext.rfl' _).dr).cellE gb, ((Ext.rfl' _).dr).cellE hfs, ((Ext.rfl' _).dr).cellE s0⟩
       refine ty 0 ?_
       refine ty 1 ?_
       refine ty 2 ?_
       refine ty 3 ?_
       refine ty 4 ?_
       refine ty 5 ?_
       refine ty 6 ?_
       refine ty 7 ?_
       refine rd1 8 rfl fun K hK => ?_
       go_simp
       refine (HRU.out _ (HP0.out.ext (E3.out.dr)) (W3.out.vv.rd.ext ((Ext.rfl' _).dr))).mono ?_
       rintro e w4 ⟨A0, c0, rfl, ho4, he4, hx0, hx1⟩
       have W5 := lh (WS.putR (W3.out.ext ((Ext.rfl' _).dr)) (by have := W3.out.b0.lt; simp; omega) he4 hkr L ho4)
       have W4 := lh (W3.out.ext (((Ext.rfl' _).dr).tr he4))
       have E4 := lh ((E3.out.dr).tr he4)
       have E5 := lh (E4.out.set (p := ⟨gr, k, none⟩) (show a.heap.size ≤ gr by have := (OwnD.lt W3.out.rr (b := gr) (.inl rfl)).1; omega) (.slice A0 L.length c0))
       have s04 := he4.cellE (((Ext.rfl' _).dr).cellE s0)
       have gb4 := he4.cellE (((Ext.rfl' _).dr).cellE gb)
       have hfs4 := he4.cellE (((Ext.rfl' _).dr).cellE hfs)
       clear ho4 he4
       try go_wp2_with fail
       refine hK.out _ _ (by exact ⟨gb4, hfs4, s04⟩) fun hh2 => ?_; clear hK K hHeld; have hHeld := hh2; clear hh2
       try simp only [Act.put, pu]
       refine ty 9 ?_
       refine ty 10 ?_
       refine ty 11 ?_
       refine ty 12 ?_
       refine ty 13 ?_
       refine dn ?_
       clear hHeld gb4 hfs4 s04 s0 gb hfs b1 b2 b3
       obtain ⟨l5, _, _, Al5, cl5, hl5, hAe, hlc5, _, _⟩ := (OwnL.rdL W4.out.rr (by omega) (fun l hl => Nat.le_trans (hI.out.le l hl) (by omega))).at_ hkr
       simp only [Option.some.injEq, Addr.mk.injEq, and_true] at hAe
       obtain ⟨rfl, rfl⟩ := hAe
       simp only [Nat.zero_add] at hlc5
       have s14 := W4.out.b1.cell (j := 1) rfl
       have fr4 := W4.out.rr.out.free k
       have b1 := blt s14
       have b2 := blt hlc5
       clear hl5
       go_upto_region 16 with fail
       clear s14 fr4 b1 b2 hlc5 W4 E4
       generalize World.setCell w4 ⟨gr, k, none⟩ (.slice A0 L.length c0) = w5 at *
       have s0 := W5.out.b1.cell (j := 0) rfl
       have vz := W5.out.vv.cell (j := k) (u := .int .i64 z) (by rw [ints_at, HZ.out]; rfl)
       have fz := W5.out.vv.free k
       have b1 := blt s0
       have b2 := blt vz
       by_cases hxz : X = z
       ·have z1x : (X != z) = false := by simp [hxz]
        have HS1 := lh (show Sg.rsteps g S0 (k + 1) = ⟨s.vals, s.reads.set k L, s.ch.set k false, s.ran ++ [(k : Int)]⟩ by rw [HSY.out, z1x, Sg.set_self (by rw [hxz]; exact HZ.out)])
        have CH2 := lh (show Sg.ChR g chg (s.ch.set k false) ∧ ∀ x ∈ chg, Sg.isCell g x = true ∨ x < ((k + 1 : Nat) : Int) from ⟨hCH.out.1.keep (fun h => by rcases hCH.out.2 _ h with h | h; rw [Sg.isCell_of HN.out] at h; exact HN0.out (of_decide_eq_true h); omega), fun x hx => (hCH.out.2 x hx).imp id (fun h => by omega)⟩)
        clear hxz
        go_wp2_with fail
        go_roundw
        case rel => exact ⟨k + 1, chg, Ac, cc, A3, c3, _, by omega, by go_num, rfl, by rw [HS1.out]; simp, lh (by rw [HS1.out]; exact W5.out), lh (by rw [HS1.out]; exact HI6.out), lh (by rw [HS1.out]; exact CH2.out), by omega, E5⟩
        case measure => simp [intOf]; omega
       ·have z1x : (X != z) = true := by simp [hxz]
        have HS1 := lh (show Sg.rsteps g S0 (k + 1) = ⟨s.vals.set k X, s.reads.set k L, s.ch.set k true, s.ran ++ [(k : Int)]⟩ by rw [HSY.out, z1x])
        have CH2 := lh (show Sg.ChR g (chg ++ [(k : Int)]) (s.ch.set k true) ∧ ∀ x ∈ chg ++ [(k : Int)], Sg.isCell g x = true ∨ x < ((k + 1 : Nat) : Int) from ⟨hCH.out.1.add (by rw [HCS.out]; exact hlt), fun x hx => by rcases List.mem_append.1 hx with hx | hx; exact (hCH.out.2 x hx).imp id (fun h => by omega); simp at hx; subst hx; exact .inr (by omega)⟩)
        clear hxz
        have W6 := lh (W5.out.setV k X)
        have E6 := lh (E5.out.set (p := ⟨gv, k, none⟩) (show a.heap.size ≤ gv by have := (W5.out.vv.lt (g := gv) rfl).1; omega) (.int .i64 X))
        go_upto_region 18 with fail
        generalize World.setCell w5 ⟨gv, k, none⟩ (.int .i64 X) = w6 at *
        have hw6 : B ≤ w6.heap.size := by have := W6.out.b0.lt; omega
        go_wp2_with (at_builtin; refine wpList_app1 rfl rfl eiInt rfl W6.out.c rfl rfl (one_int _ _) (by omega) (by omega) hw6 ?_; intro A9 c9 w9 ho9 hg9 hat9; have hl9 : (chg ++ [(k : Int)]).length = chg.length + 1 := (by simp); have W9 := lh (WS.pushC (n' := (chg ++ [(k : Int)]).length) (xs' := ints (chg ++ [(k : Int)])) W6.out (by rw [hl9]; simpa using ho9) hg9 hat9); have E9 := lh (E6.out.gr hg9 (fun b hb => by have := (W6.out.c.lt hb).1; omega)); clear ho9 hg9 hat9 hl9)
        go_roundw
        case rel => exact ⟨k + 1, chg ++ [(k : Int)], A9, c9, A3, c3, _, by omega, by go_num, by simp, by rw [HS1.out]; simp, lh (by rw [HS1.out]; exact W9.out), lh (by rw [HS1.out]; exact HI6.out), lh (by rw [HS1.out]; exact CH2.out), by simp; omega, E9⟩
        case measure => simp [intOf]; omega
    ·obtain rfl : k = g.length := by omega
     have OKk := lh (OK0.out.steps HG.out g.length (Nat.le_refl _))
     have WF := lh (WS.fin hW.out)
     have HVS := lh (show (Sg.rsteps g S0 g.length).vals.length = v.length by rw [OKk.out.v, HVL.out])
     have HRS := lh (show (Sg.rsteps g S0 g.length).reads.length = r.length by rw [OKk.out.r, HRL.out])
     have s0 := hW.out.b1.cell (j := 0) rfl
     have s1 := hW.out.b1.cell (j := 1) rfl
     have y0 := hW.out.b2.cell (j := 0) rfl
     have y1 := hW.out.b2.cell (j := 1) rfl
     have f0 := hW.out.b2.free 0
     have f1 := hW.out.b2.free 1
     have b1 := blt s0
     have b2 := blt y0
     have BR := lh hW.out.b2
     have hNw := hW.out.b0.lt
     go_wp2
     have t0 : ∀ u0 u1 : Value, World.cell? (World.setCell (World.setCell wr ⟨w.heap.size + 2, 0, none⟩ u0) ⟨w.heap.size + 2, 1, none⟩ u1) ⟨w.heap.size + 2, 0, none⟩ = some u0 := fun u0 u1 => ((BR.out.set 0 u0).set 1 u1).cell (j := 0) rfl
     have t1 : ∀ u0 u1 : Value, World.cell? (World.setCell (World.setCell wr ⟨w.heap.size + 2, 0, none⟩ u0) ⟨w.heap.size + 2, 1, none⟩ u1) ⟨w.heap.size + 2, 1, none⟩ = some u1 := fun u0 u1 => ((BR.out.set 0 u0).set 1 u1).cell (j := 1) rfl
     refine bodyPost_ret (v := .tuple #[.agg #[.slice Av v.length cv, .slice Ar r.length cr], .slice Ad (Sg.rsteps g S0 g.length).ran.length cd]) (by simp [results, Tryz.results110, go_sem, t0, t1]; try rfl) rfl ?_
     rw [HFIN.out]
     have hS := Mod.set (F := fun b => b = w.heap.size + 2) (Mod.set (F := fun b => b = w.heap.size + 2) (Mod.rfl' (fun b => b = w.heap.size + 2) wr) (p := ⟨w.heap.size + 2, 0, none⟩) (.inl rfl) (.slice Av v.length cv)) (p := ⟨w.heap.size + 2, 1, none⟩) (.inl rfl) (.slice Ar r.length cr)
     refine ⟨Ad, cd, hs', rfl, Sep.fr WF.out (fun x hx b hb => hS.block b (Sep.lt WF.out hx hb).2 (fun e => ?_)), HVS.out, HRS.out, ((hE.out.set (p := ⟨w.heap.size + 2, 0, none⟩) (show a.heap.size ≤ w.heap.size + 2 by omega) _).set (p := ⟨w.heap.size + 2, 1, none⟩) (show a.heap.size ≤ w.heap.size + 2 by omega) _)⟩
     simp only [List.mem_cons] at hx
     rcases hx with rfl | rfl | rfl | hx
     ·exact hW.out.dN2 b hb e.symm
     ·exact hW.out.vN2 b hb e.symm
     ·exact hW.out.rN2 b hb e.symm
     ·exact hW.out.tN2 x hx b hb e.symm
theorem s_writes (B : Nat) (a : World) (A Av Ar An Aw : Option Addr) (c cv cr cn cw : Nat) (g : Sg.Graph) (v nodes vals : List Int) (r : List (List Int)) (hs : List (Option Addr × Nat)) (w : World)
  (ha : RdN a A g) (hna : Rd a 1 An nodes.length (ints nodes)) (hwa : Rd a 1 Aw vals.length (ints vals)) (hE : Ext a w) (hB : a.heap.size ≤ B) (hBw : B ≤ w.heap.size)
  (ts : List (Th B)) (hS : Sep (Th.own B 3 1 Av v.length cv (ints v) :: Th.ownL B Ar cr r hs :: ts) w) (hV : Sg.validE g ⟨v, r⟩ = true) (hcd : Sg.cellsDiffer g nodes = true) (hlen : nodes.length = vals.length) (hxr : Sg.inRange vals) :
  Calls Tryz.prog 110 #[.agg #[.slice A g.length c], .agg #[.slice Av v.length cv, .slice Ar r.length cr], .slice An nodes.length cn, .slice Aw vals.length cw] w fun e w' => ∃ Ad cd hs', e = .returned (.tuple #[.agg #[.slice Av v.length cv, .slice Ar r.length cr], .slice Ad (Sg.writeS g ⟨v, r⟩ nodes vals).ran.length cd]) ∧
   Sep (Th.own B 3 1 Ad (Sg.writeS g ⟨v, r⟩ nodes vals).ran.length cd (ints (Sg.writeS g ⟨v, r⟩ nodes vals).ran) :: Th.own B 3 1 Av (Sg.writeS g ⟨v, r⟩ nodes vals).vals.length cv (ints (Sg.writeS g ⟨v, r⟩ nodes vals).vals) :: Th.ownL B Ar cr (Sg.writeS g ⟨v, r⟩ nodes vals).reads hs' :: ts) w' ∧ (Sg.writeS g ⟨v, r⟩ nodes vals).vals.length = v.length ∧ (Sg.writeS g ⟨v, r⟩ nodes vals).reads.length = r.length ∧ Ext a w' :=
 s_writeG B a A Av Ar An Aw c cv cr cn cw g v nodes vals r hs w ha hE hB hBw ts (fun _ e _ => hna.ext e) (fun _ e _ => hwa.ext e) (fun h _ hb => .inl (Rd.lt1 hna h hb)) (fun h _ hb => .inl (Rd.lt1 hwa h hb)) hS hV hcd hlen hxr
end Go.Proofs.YtaklkcjlihdlkaaGreat
