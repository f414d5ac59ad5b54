/- The program's eager write: its contract. Conditions: a valid state, cells that can be written. -/
import Derived.Test.YtaklkcjlihdlkaaGreatTy
import Derived.Test.YtaklkcjlihdlkaaGreatWsT
import Derived.Test.YtaklkcjlihdlkaaGreatImplB1
import Derived.Test.YtaklkcjlihdlkaaGreatCellA
import Derived.Test.YtaklkcjlihdlkaaGreatModLaz
namespace Go.Proofs.YtaklkcjlihdlkaaGreat
open Go.RowKit

theorem prd_write1 (B : Nat) (Ac : Option Addr) (cc n : Nat) (ch : List Bool) : Prd Tryz.prog 143 [.pointer (some ⟨B, 0, none⟩)] (fun w => w.cell? ⟨B, 0, none⟩ = some (.slice Ac n cc) ∧ Rd w 1 Ac n (bools ch)) (fun k => ch.getD k.toNat false) (fun k => 0 ≤ k ∧ k < n) where
 ent := ent_of Tryz.func143 rfl (by kernel_rfl)
 call := fun w k h hk => by
  obtain ⟨h1, h3⟩ := h
  obtain ⟨j, rfl⟩ := Int.eq_ofNat_of_zero_le hk.1
  have hj : j < n := by omega
  have hb := h3.big
  obtain ⟨ba, oa, x, rfl, hx, hcx⟩ := h3.atB hj
  have HP := lh (show ch.getD ((j : Int).toNat) false = x by simp [hx])
  have hb1 := blt h1
  clear hx h3 hk
  go_enter Tryz.func143, Tryz.ntmps143
  go_wp2
  go_ret
  exact ⟨ret_bool (by rw [HP.out]), Ext.rfl' _⟩
 ext := fun _ _ h e => ⟨e.cellE h.1, h.2.ext e⟩
theorem bools_rep (n : Nat) : List.replicate n (Value.bool false) = bools (List.replicate n false) := by simp [bools]

set_option maxRecDepth 100000 in
set_option maxHeartbeats 16000000 in
theorem i_writeG (B : Nat) (a : World) (A Av Ar An Aw : Option Addr) (c cv cr cn cw : Nat) (g : Sg.Graph) (v nodes vals : List Int) (r : List (List Int)) (hs : List (Option Addr × Nat)) (w : World)
  (ha : RdN a A g) (hE : Ext a w) (hB : a.heap.size ≤ B) (hBw : B ≤ w.heap.size)
  (ts : List (Th B)) (hna : ∀ W, Ext a W → Sep ts W → Rd W 1 An nodes.length (ints nodes)) (hwa : ∀ W, Ext a W → Sep ts W → Rd W 1 Aw vals.length (ints vals))
  (hnb : 0 < nodes.length → ∀ b, blk An = some b → b < a.heap.size ∨ ∃ t ∈ ts, t.fp b) (hwb : 0 < vals.length → ∀ b, blk Aw = some b → b < a.heap.size ∨ ∃ t ∈ ts, t.fp b) (hS : Sep (Th.own B 3 1 Av v.length cv (ints v) :: Th.ownL B Ar cr r hs :: ts) w) (hV : Sg.validE g ⟨v, r⟩ = true) (hcd : Sg.cellsDiffer g nodes = true) (hlen : nodes.length = vals.length) (hxr : Sg.inRange vals) :
  Calls Tryz.prog 107 #[.agg #[.slice Av v.length cv, .slice Ar r.length cr], .agg #[.slice A g.length c], .slice An nodes.length cn, .slice Aw vals.length cw] w fun e w' => ∃ Ad hs', e = .returned (.slice Ad (Sg.writeS g ⟨v, r⟩ nodes vals).ran.length (Sg.writeS g ⟨v, r⟩ nodes vals).ran.length) ∧
   Sep (Th.own B 3 1 Ad (Sg.writeS g ⟨v, r⟩ nodes vals).ran.length (Sg.writeS g ⟨v, r⟩ nodes vals).ran.length (ints (Sg.writeS g ⟨v, r⟩ nodes vals).ran) :: Th.own B 3 1 Av (Sg.writeS g ⟨v, r⟩ nodes vals).vals.length cv (ints (Sg.writeS g ⟨v, r⟩ nodes vals).vals) :: Th.ownL B Ar cr (Sg.writeS g ⟨v, r⟩ nodes vals).reads hs' :: ts) w' ∧ Ext a w' := by
 obtain ⟨hG, hvl, hrl, hvr, _⟩ := Sg.validE_parts hV
 have hg10 := validG_len hG
 have hgl := ha.1
 have WI0 := lh (Sg.WrIn.of hV)
 have HVR := lh (Sg.inR999_range hvr)
 have HG := lh hG
 have HXR := lh hxr
 have HCD := lh (fun (k : Nat) (n : Int) (hn : nodes[k]? = some n) => (Sg.cellsDiffer_at hcd hn).1)
 have HVL := lh hvl
 have HRL := lh hrl
 have HLN := lh hlen
 have hnl : nodes.length ≤ 10 := Nat.le_trans (Sg.cellsDiffer_len hcd) hg10
 have hvl1 : v.length ≤ 10 := by rw [show v.length = g.length from hvl]; exact hg10
 have hrl1 : r.length ≤ 10 := by rw [show r.length = g.length from hrl]; exact hg10
 have S0 := lh hS
 have HA := lh ha
 have HNA := lh hna
 have HWA := lh hwa
 have HNB := lh hnb
 have HWB := lh hwb
 have E0 := lh hE
 have qsb : World.cell? (World.alloc (World.alloc w (.cells #[.slice Av v.length cv, .slice Ar r.length cr] 118)) (.cells #[.slice A g.length c] 25)) ⟨w.heap.size, 0, none⟩ = some (.slice Av v.length cv) := by simp [go_sem]
 have qgb : World.cell? (World.alloc (World.alloc w (.cells #[.slice Av v.length cv, .slice Ar r.length cr] 118)) (.cells #[.slice A g.length c] 25)) ⟨w.heap.size + 1, 0, none⟩ = some (.slice A g.length c) := by simp [go_sem]
 have hal : a.heap.size ≤ w.heap.size := hE.size
 clear ha hna hwa hnb hwb hE hS hV hG hvl hrl hvr hcd hlen hxr
 go_enter Tryz.func107, Tryz.ntmps107
 go_wp2_with fail
 refine (i_size A g.length c _).mono ?_
 rintro e w3 ⟨rfl, he3⟩
 have E3 := lh he3
 have hs3 := he3.size
 simp only [World.size_alloc] at hs3
 clear he3 qsb qgb
 go_upto_region 2 with (at_make; refine wpList_mk rfl rfl eiBool (B := w3.heap.size) rfl rfl (by omega) (by omega) (Nat.le_refl _) ?_; intro w4 hown hext; rw [made_one _ _ rfl, bools_rep] at hown; have O4 := lh hown; have E4 := lh hext; clear hown hext)
 have hs4 := E4.out.size
 have WS0 := lh (WS.startI S0.out hBw #[.slice Av v.length cv, .slice Ar r.length cr] #[.slice A g.length c] 118 25 72 4 E3.out E4.out O4.out #[.slice (some ⟨w3.heap.size, 0, none⟩) g.length g.length])
 have EA := lh (((E0.out.tr (((Ext.rfl' w).al (.cells #[.slice Av v.length cv, .slice Ar r.length cr] 118)).al (.cells #[.slice A g.length c] 25))).tr (E3.out.tr E4.out)).al (.cells #[.slice (some ⟨w3.heap.size, 0, none⟩) g.length g.length] 72))
 have hN2 : w.heap.size + 1 < w4.heap.size := by omega
 generalize World.alloc w4 (.cells #[.slice (some ⟨w3.heap.size, 0, none⟩) g.length g.length] 72) = w5 at *
 generalize hM2 : w4.heap.size = M2 at *
 generalize hM1 : w3.heap.size = M1 at *
 clear hM1 hM2 O4 E3 E4 S0 E0 hs3 hs4
 go_wp2_with fail
 go_loopw [20] (fun i wr => ∃ k : Nat, k ≤ nodes.length ∧ i = .int .i64 k ∧ Hid (WS B w.heap.size (w.heap.size + 1) M2 [.slice Av v.length cv, .slice Ar r.length cr] [.slice A g.length c] [.slice (some ⟨M1, 0, none⟩) g.length g.length] Av cv (Sg.wcells (v, List.replicate g.length false) nodes vals k).1 Ar cr r hs 4 (some ⟨M1, 0, none⟩) g.length g.length (bools (Sg.wcells (v, List.replicate g.length false) nodes vals k).2) none 0 [] ts wr) ∧ Hid (Ext a wr)) (fun i _ => nodes.length - (intOf i).toNat)
 case atStart => exact ⟨0, Nat.zero_le _, rfl, WS0, EA⟩
 case round =>
  clear WS0 EA
  obtain ⟨k, hk, rfl, hW, hE⟩ := hrel
  by_cases hlt : k < nodes.length
  ·obtain ⟨bn, on, x, hAn, hx, hcx⟩ := (HNA.out _ hE.out hW.out.tsS).at1 hlt
   obtain ⟨bw, ow, y, hAw, hy, hcy⟩ := (HWA.out _ hE.out hW.out.tsS).at1 (show k < vals.length by rw [← HLN.out]; exact hlt)
   subst hAn
   subst hAw
   obtain ⟨j, nd, hxj, hnd, hkd⟩ := Sg.isCell_at (HCD.out k x hx)
   subst hxj
   have hj : j < g.length := (List.getElem?_eq_some_iff.1 hnd).1
   have HST := lh (Sg.wcells_succ (v, List.replicate g.length false) nodes vals k hx hy)
   obtain ⟨vk, hvk⟩ : ∃ vk, vk = (Sg.wcells (v, List.replicate g.length false) nodes vals k).1 := ⟨_, rfl⟩
   obtain ⟨ck, hck⟩ : ∃ ck, ck = (Sg.wcells (v, List.replicate g.length false) nodes vals k).2 := ⟨_, rfl⟩
   have hvkl : vk.length = v.length := by rw [hvk]; simp
   have hckl : ck.length = g.length := by rw [hck]; simp
   have hWk := hW.out
   rw [← hvk, ← hck] at hWk
   have HWk := lh hWk
   have HS1 := lh (show Sg.wcells (v, List.replicate g.length false) nodes vals (k + 1) = (vk.set j y, ck.set j (vk.getD j 0 != y)) by rw [HST.out, hvk, hck]; unfold Sg.wstep; simp)
   have hjv : j < vk.length := by rw [hvkl, HVL.out]; exact hj
   have hjc : j < ck.length := by rw [hckl]; exact hj
   clear hvk hck hW hWk HST hnd hkd hx hy
   obtain ⟨gv, hAv, _⟩ := HWk.out.vv.at_ (by omega)
   subst hAv
   obtain ⟨z, hz⟩ : ∃ z, vk[j]? = some z := ⟨_, List.getElem?_eq_getElem hjv⟩
   have HZ := lh (show vk.getD j 0 = z by simp [hz])
   have cz := HWk.out.vv.cell (j := j) (u := .int .i64 z) (by rw [ints_at, hz]; rfl)
   have fz := HWk.out.vv.free j
   obtain ⟨cb, hcb⟩ : ∃ cb, ck[j]? = some cb := ⟨_, List.getElem?_eq_getElem hjc⟩
   have cc0 := HWk.out.c.cell (j := j) (u := .bool cb) (by rw [bools_at, hcb]; rfl)
   have fc := HWk.out.c.free j
   have s0 := HWk.out.b0.cell (j := 0) rfl
   have c0 := HWk.out.b2.cell (j := 0) rfl
   have bcz := blt cz
   have bcc := blt cc0
   have bs0 := blt s0
   have bc0 := blt c0
   have bcx := blt hcx
   have bcy := blt hcy
   have hBv := (HWk.out.vv.lt (g := gv) rfl).1
   have hBc := (HWk.out.c.lt (g := M1) rfl).1
   have hbna : bn ≠ gv ∧ bn ≠ M1 := by
    have hx9 := hBv
    rcases HNB.out (by omega) bn (by first | rfl | (rw [hAn]; rfl)) with h9 | ⟨t9, ht9, hf9⟩
    ·exact ⟨by omega, by omega⟩
    ·exact ⟨fun e9 => HWk.out.tv ht9 hf9 (by rw [e9]; rfl), fun e9 => HWk.out.tc ht9 hf9 (by rw [e9]; rfl)⟩
   have hbna1 := hbna.1
   have hbna2 := hbna.2
   have hbwa : bw ≠ gv ∧ bw ≠ M1 := by
    have hx9 := hBv
    rcases HWB.out (by rw [← HLN.out]; omega) bw (by first | rfl | (rw [hAw]; rfl)) with h9 | ⟨t9, ht9, hf9⟩
    ·exact ⟨by omega, by omega⟩
    ·exact ⟨fun e9 => HWk.out.tv ht9 hf9 (by rw [e9]; rfl), fun e9 => HWk.out.tc ht9 hf9 (by rw [e9]; rfl)⟩
   have hbwa1 := hbwa.1
   have hbwa2 := hbwa.2
   clear hz hcb
   have hjg : (j : Int) < (g.length : Int) := by omega
   have hjvi : (j : Int) < (v.length : Int) := by omega
   have hkw : (k : Int) < (vals.length : Int) := by rw [← HLN.out]; omega
   go_upto_region 5 with fail
   have W5 := lh (HWk.out.setC j (.bool (z != y)))
   rw [bools_set] at W5
   have hne5 : gv ≠ M1 := fun e => HWk.out.cv_ M1 rfl (show blk (some ⟨gv, 0, none⟩) = some M1 by rw [e]; rfl)
   have hm5 := lh (Mod.set (F := fun b => b = M1) (Mod.rfl' (fun b => b = M1) wr) (p := ⟨M1, j, none⟩) (.inl rfl) (.bool (z != y)))
   have dM2 := HWk.out.cN2 M1 rfl
   have dM0 := HWk.out.cN M1 rfl
   have c05 := hm5.out.cellE c0 dM2
   have s05 := hm5.out.cellE s0 dM0
   have cz5 := hm5.out.cellE cz hne5
   have cy5 := hm5.out.cellE hcy (by omega)
   refine wp_region_held_drew (S := (fun W => W.cell? ⟨M2, 0, none⟩ = some (.slice (some ⟨M1, 0, none⟩) g.length g.length) ∧ W.cell? ⟨w.heap.size, 0, none⟩ = some (.slice (some ⟨gv, 0, none⟩) v.length cv) ∧ W.cell? ⟨gv, j, none⟩ = some (.int .i64 z) ∧ W.cell? ⟨bw, ow + k, none⟩ = some (.int .i64 y))) (by kernel_rfl) ?_ (fun hHeld => ?_)
   ·exact ⟨((Ext.rfl' _).dr).cellE c0, ((Ext.rfl' _).dr).cellE s0, ((Ext.rfl' _).dr).cellE cz, ((Ext.rfl' _).dr).cellE hcy⟩
   refine ty 0 ?_
   refine ty 1 ?_
   refine ty 2 ?_
   refine ty 3 ?_
   refine ty 4 ?_
   refine ty 5 ?_
   refine ty 6 ?_
   refine ty 7 ?_
   refine ty 8 ?_
   refine ty 9 ?_
   refine ty 10 ?_
   refine ty 11 ?_
   refine ty 12 ?_
   refine rd1 13 rfl fun K hK => ?_
   go_simp
   refine hK.out _ _ (by exact ⟨((Ext.rfl' _).dr).cellE c05, ((Ext.rfl' _).dr).cellE s05, ((Ext.rfl' _).dr).cellE cz5, ((Ext.rfl' _).dr).cellE cy5⟩) fun hh2 => ?_; clear hK K hHeld; have hHeld := hh2; clear hh2
   try simp only [Act.put]
   refine dn ?_
   have W6 := lh (W5.out.ext ((Ext.rfl' _).dr))
   have E6 := lh ((hE.out.set (p := ⟨M1, j, none⟩) (show a.heap.size ≤ M1 by omega) (.bool (z != y))).dr)
   have x0 := ((Ext.rfl' _).dr).cellE s05
   have x1 := ((Ext.rfl' _).dr).cellE cz5
   have x2 := ((Ext.rfl' _).dr).cellE cy5
   have x3 := W6.out.vv.free j
   clear hne5 hm5 dM2 dM0 c05 s05 cz5 cy5 c0 s0 cz hcy fz cc0 fc bcz bcc bs0 bc0 bcx bcy hcx hHeld W5 HWk hE
   generalize (World.setCell wr ⟨M1, j, none⟩ (.bool (z != y))).drew = w6 at *
   have bx0 := blt x0
   have bx1 := blt x1
   have bx2 := blt x2
   go_upto_region 6 with fail
   have W7 := lh (W6.out.setV j y)
   have dV0 := W6.out.vN gv rfl
   have hm6 := lh (Mod.set (F := fun b => b = gv) (Mod.rfl' (fun b => b = gv) w6) (p := ⟨gv, j, none⟩) (.inl rfl) (.int .i64 y))
   have s06 := hm6.out.cellE x0 dV0
   have cy6 := hm6.out.cellE x2 (by omega)
   refine wp_region_held_drew (S := (fun W => W.cell? ⟨w.heap.size, 0, none⟩ = some (.slice (some ⟨gv, 0, none⟩) v.length cv) ∧ W.cell? ⟨bw, ow + k, none⟩ = some (.int .i64 y))) (by kernel_rfl) ?_ (fun hHeld => ?_)
   ·exact ⟨((Ext.rfl' _).dr).cellE x0, ((Ext.rfl' _).dr).cellE x2⟩
   refine ty 0 ?_
   refine ty 1 ?_
   refine ty 2 ?_
   refine ty 3 ?_
   refine ty 4 ?_
   refine ty 5 ?_
   refine ty 6 ?_
   refine ty 7 ?_
   refine rd1 8 rfl fun K hK => ?_
   go_simp
   refine hK.out _ _ (by exact ⟨((Ext.rfl' _).dr).cellE s06, ((Ext.rfl' _).dr).cellE cy6⟩) fun hh2 => ?_; clear hK K hHeld; have hHeld := hh2; clear hh2
   try simp only [Act.put]
   refine dn ?_
   have W8 := lh (W7.out.ext ((Ext.rfl' _).dr))
   have E8 := lh ((E6.out.set (p := ⟨gv, j, none⟩) (show a.heap.size ≤ gv by omega) (.int .i64 y)).dr)
   go_wp2_with fail
   go_roundw
   case rel => exact ⟨k + 1, by omega, by go_num, lh (by rw [HS1.out]; dsimp only; rw [HZ.out]; exact W8.out), E8⟩
   case measure => simp [intOf]; omega
  ·obtain rfl : k = nodes.length := by omega
   clear hlt hk
   obtain ⟨S0, hS0⟩ : ∃ S0 : Sg.WrS, S0 = ⟨(Sg.wcells (v, List.replicate g.length false) nodes vals nodes.length).1, r, (Sg.wcells (v, List.replicate g.length false) nodes vals nodes.length).2, []⟩ := ⟨_, rfl⟩
   have HFIN := lh (show Sg.writeS g ⟨v, r⟩ nodes vals = Sg.rsteps g S0 g.length by rw [hS0]; rfl)
   have OK0 := lh (show Sg.WrOk g S0 by rw [hS0]; exact ⟨by simp [show v.length = g.length from HVL.out], HRL.out, by simp, Sg.wcells_range v _ nodes vals nodes.length HVR.out HXR.out⟩)
   have WI1 := lh (show Sg.WrIn g S0.reads by rw [hS0]; exact WI0.out)
   have W0 := lh (show WS B w.heap.size (w.heap.size + 1) M2 [.slice Av v.length cv, .slice Ar r.length cr] [.slice A g.length c] [.slice (some ⟨M1, 0, none⟩) g.length g.length] Av cv S0.vals Ar cr S0.reads hs 4 (some ⟨M1, 0, none⟩) g.length g.length (bools S0.ch) none 0 S0.ran ts wr by rw [hS0]; exact hW.out)
   have gb := hW.out.b1.cell (j := 0) rfl
   have bgb := blt gb
   obtain ⟨wz, rfl⟩ : ∃ wz : World, wz = wr := ⟨_, rfl⟩
   have HEZ := hE
   have hr0 : S0.ran.length = 0 := by rw [hS0]; rfl
   have HR0 := lh hr0
   clear hS0 hW hr0
   go_wp2_with fail
   go_loopw [12, 50] (fun s12 i wr => ∃ (k : Nat) (Ad : Option Addr) (cd : Nat) (hs' : List (Option Addr × Nat)), k ≤ g.length ∧ i = .int .i64 k ∧ s12 = .slice Ad (Sg.rsteps g S0 k).ran.length cd ∧ Hid (WS B w.heap.size (w.heap.size + 1) M2 [.slice Av v.length cv, .slice Ar r.length cr] [.slice A g.length c] [.slice (some ⟨M1, 0, none⟩) g.length g.length] Av cv (Sg.rsteps g S0 k).vals Ar cr (Sg.rsteps g S0 k).reads hs' 4 (some ⟨M1, 0, none⟩) g.length g.length (bools (Sg.rsteps g S0 k).ch) Ad cd (Sg.rsteps g S0 k).ran ts wr) ∧ Hid (Sg.WrIn g (Sg.rsteps g S0 k).reads) ∧ Hid (Ext a wr)) (fun _ i _ => g.length - (intOf i).toNat)
   case atStart => exact ⟨0, none, 0, hs, Nat.zero_le _, rfl, by rw [Sg.rsteps_zero, HR0.out], W0, WI1, HEZ⟩
   case round =>
    clear gb bgb W0 WI1 HEZ hE
    obtain ⟨k, Ad, cd, hs', hk, rfl, rfl, hW, hI, hE⟩ := hrel
    by_cases hlt : k < g.length
    ·obtain ⟨n, hn⟩ : ∃ n, g[k]? = some n := ⟨_, List.getElem?_eq_getElem hlt⟩
     have OKk := lh (OK0.out.steps HG.out k hk)
     have HSU := lh (Sg.rsteps_succ g S0 k)
     have HRN := lh (Sg.rsteps_ran g S0 k)
     obtain ⟨s, hs0⟩ : ∃ s, s = Sg.rsteps g S0 k := ⟨_, rfl⟩
     rw [← hs0] at OKk HSU hW hI HRN
     have hrl9 : s.ran.length ≤ 10 := by have h1 := HRN.out; have h2 := HR0.out; omega
     rw [← hs0]
     clear hs0
     obtain ⟨n', bg, og, Ap, cp, hn', hAe, hkc, hfs, hf, hfl⟩ := (HA.out.ext hE.out).at_ hlt
     rw [hn] at hn'
     injection hn' with hn'
     subst hn'
     subst hAe
     have HN := lh hn
     have hvs : s.vals.length = v.length := by rw [OKk.out.v, HVL.out]
     have hrs : s.reads.length = r.length := by rw [OKk.out.r, HRL.out]
     have hcs : s.ch.length = g.length := OKk.out.c
     have HVS := lh hvs
     have HRS := lh hrs
     have HCS := lh hcs
     have hkr : k < s.reads.length := by rw [hrs, HRL.out]; exact hlt
     have hkv : k < s.vals.length := by rw [hvs, HVL.out]; exact hlt
     have hkr2 : (k : Int) < (r.length : Int) := by rw [← hrs]; omega
     have hkc2 : (k : Int) < (g.length : Int) := by omega
     have hrl2 : s.reads.length ≤ 10 := by rw [hrs]; exact hrl1
     have NB := lh (Bx.new wr #[.int .i64 n.kind, .slice Ap n.f.length cp] 39)
     have EN := lh ((Ext.rfl' wr).al (.cells #[.int .i64 n.kind, .slice Ap n.f.length cp] 39))
     have bkc := blt hkc
     have bfs := blt hfs
     clear hn hvs hrs hcs hf hfl
     go_upto_region 12 with fail
     have W1 := lh (hW.out.ext EN.out)
     have E1 := lh (hE.out.tr EN.out)
     generalize World.alloc wr (.cells #[.int .i64 n.kind, .slice Ap n.f.length cp] 39) = w1 at *
     have nk := NB.out.cell (j := 0) rfl
     have bnk := blt nk
     clear hkc hfs bkc bfs EN hW hE
     by_cases h0 : n.kind = 0
     ·have z1 : (n.kind != 0) = false := by simp [h0]
      have HS1 := lh (show Sg.rsteps g S0 (k + 1) = s by rw [HSU.out]; exact Sg.rstep_no HN.out (.inl h0))
      clear h0
      go_wp2_with fail
      go_roundw
      case rel => exact ⟨k + 1, Ad, cd, hs', by omega, by go_num, by rw [HS1.out], lh (by rw [HS1.out]; exact W1.out), lh (by rw [HS1.out]; exact hI.out), E1⟩
      case measure => simp [intOf]; omega
     ·have z1 : (n.kind != 0) = true := by simp [h0]
      have HN0 := lh h0
      clear h0
      obtain ⟨gv, hAv, _⟩ := W1.out.vv.at_ (by omega)
      subst hAv
      obtain ⟨gr, hAr, _⟩ := W1.out.rr.out.at_ (by simp; omega)
      subst hAr
      obtain ⟨l, bl, ol, Al, cl, hl, hAe, hlc, hlr, hll⟩ := (OwnL.rdL W1.out.rr (by omega) (fun l hl => Nat.le_trans (hI.out.le l hl) (by omega))).at_ hkr
      simp only [Option.some.injEq, Addr.mk.injEq, and_true] at hAe
      obtain ⟨rfl, rfl⟩ := hAe
      simp only [Nat.zero_add] at hlc
      have HLD := lh (show s.reads.getD k [] = l by simp [hl])
      have s1 := W1.out.b0.cell (j := 1) rfl
      have bs1 := blt s1
      have blc := blt hlc
      have HRD := lh hlr
      have HCF := lh (i_ContainsFunc (prd_write1 M2 (some ⟨M1, 0, none⟩) g.length g.length s.ch) Al l.length cl l w1 hlr ⟨W1.out.b2.cell (j := 0) rfl, W1.out.c.rd⟩ (fun x hx => by have := hI.out.rd k hlt x (by rw [HLD.out]; exact hx); omega))
      have HHT := lh (show (l.any fun k => s.ch.getD k.toNat false) = Sg.hit s (s.reads.getD k []) by rw [HLD.out]; rfl)
      clear hl hlr
      cases hh : Sg.hit s (s.reads.getD k [])
      ·have HS1 := lh (show Sg.rsteps g S0 (k + 1) = s by rw [HSU.out]; exact Sg.rstep_no HN.out (.inr hh))
       have HF := lh (HHT.out.trans hh)
       clear hh
       go_wp2_with fail
       refine HCF.out.mono ?_
       rintro e w2 ⟨rfl, he2⟩
       rw [HF.out]
       have W2 := lh (W1.out.ext he2)
       have E2 := lh (E1.out.tr he2)
       clear he2 s1 bs1 blc hlc nk bnk
       go_wp2_with fail
       go_roundw
       case rel => exact ⟨k + 1, Ad, cd, hs', by omega, by go_num, by rw [HS1.out], lh (by rw [HS1.out]; exact W2.out), lh (by rw [HS1.out]; exact hI.out), E2⟩
       case measure => simp [intOf]; omega
      ·obtain ⟨bq, hbq⟩ : ∃ bq : Bool, bq = ((Sg.runF n.f s.vals).1 != s.vals.getD k 0) := ⟨_, rfl⟩
       have HBQ := lh hbq
       have HS1 := lh (show Sg.rsteps g S0 (k + 1) = ⟨s.vals.set k (Sg.runF n.f s.vals).1, s.reads.set k (Sg.runF n.f s.vals).2, s.ch.set k bq, s.ran ++ [(k : Int)]⟩ by rw [HSU.out, hbq]; exact Sg.rstep_yes HN.out HN0.out hh)
       have HF := lh (HHT.out.trans hh)
       clear hh hbq
       go_wp2_with fail
       refine HCF.out.mono ?_
       rintro e w2 ⟨rfl, he2⟩
       rw [HF.out]
       have W2 := lh (W1.out.ext he2)
       have E2 := lh (E1.out.tr he2)
       clear he2 s1 bs1 blc hlc nk bnk
       have hw2 := E2.out.size
       have hbw2 : B ≤ w2.heap.size := by have := W2.out.b0.lt; omega
       have bE2 := E2
       go_upto_region 14 with (at_builtin; refine wpList_app1 rfl rfl eiInt rfl W2.out.d rfl rfl (one_int _ _) (by omega) (by omega) hbw2 ?_; intro A3 c3 w3 ho3 hg3 hat3; have hl3 : (s.ran ++ [(k : Int)]).length = s.ran.length + 1 := (by simp); have W3 := lh (WS.pushD (rn' := s.ran ++ [(k : Int)]) W2.out (by rw [hl3]; simpa using ho3) hg3 hat3); have E3 := lh (E2.out.gr hg3 (fun b hb => by have := (W2.out.d.lt hb).1; omega)); clear ho3 hg3 hat3 hl3)
       have s0 := W3.out.b0.cell (j := 0) rfl
       have s1 := W3.out.b0.cell (j := 1) rfl
       have gb := W3.out.b1.cell (j := 0) rfl
       have c0 := W3.out.b2.cell (j := 0) rfl
       have b1 := blt s0
       have b2 := blt gb
       have b3 := blt c0
       have hgr : gv ≠ gr := fun e => W3.out.vr gv rfl (.inl (by rw [e]; rfl))
       refine wp_region_held_drew (S := (fun W => W.cell? ⟨M2, 0, none⟩ = some (.slice (some ⟨M1, 0, none⟩) g.length g.length) ∧ W.cell? ⟨w.heap.size, 0, none⟩ = some (.slice (some ⟨gv, 0, none⟩) v.length cv) ∧ W.cell? ⟨w.heap.size, 1, none⟩ = some (.slice (some ⟨gr, 0, none⟩) r.length cr) ∧ W.cell? ⟨w.heap.size + 1, 0, none⟩ = some (.slice (some ⟨bg, og, none⟩) g.length c))) (by kernel_rfl) ?_ (fun hHeld => ?_)
       ·exact ⟨((Ext.rfl' _).dr).cellE c0, ((Ext.rfl' _).dr).cellE s0, ((Ext.rfl' _).dr).cellE s1, ((Ext.rfl' _).dr).cellE gb⟩
       refine ty 0 ?_
       refine ty 1 ?_
       refine ty 2 ?_
       refine ty 3 ?_
       refine ty 4 ?_
       refine rd1 5 rfl fun K hK => ?_
       go_simp
       have HRE := i_runE B (some ⟨bg, og, none⟩) c gv cv gr cr g s.vals s.reads hs' k n _ (HA.out.ext (E3.out.dr)) (W3.out.vv.dr) (OwnD.ext W3.out.rr ((Ext.rfl' _).dr)) hgr HN.out hkv hkr (Sg.validG_fok HG.out k HN.out HN0.out) OKk.out.n
       rw [HVS.out, HRS.out, ← HBQ.out] at HRE
       refine HRE.mono ?_
       rintro e w5 ⟨rfl, A0, w4, he4, ho4, he5⟩
       have W4 := lh (WS.putR (W3.out.ext ((Ext.rfl' _).dr)) (by have := E3.out.size; have := W3.out.b0.lt; simp; omega) he4 hkr (Sg.runF n.f s.vals).2 ho4)
       have W5 := lh ((W4.out.setV k (Sg.runF n.f s.vals).1).ext he5)
       have E5 := lh ((((E3.out.dr).tr he4).set (p := ⟨gr, k, none⟩) (show a.heap.size ≤ gr by have := (OwnD.lt W3.out.rr (b := gr) (.inl rfl)).1; omega) _ |>.set (p := ⟨gv, k, none⟩) (show a.heap.size ≤ gv by have := (W3.out.vv.lt (g := gv) rfl).1; omega) _).tr he5)
       have s05 := W5.out.b0.cell (j := 0) rfl
       have s15 := W5.out.b0.cell (j := 1) rfl
       have gb5 := W5.out.b1.cell (j := 0) rfl
       have c05 := W5.out.b2.cell (j := 0) rfl
       obtain ⟨cb, hcb⟩ : ∃ cb, s.ch[k]? = some cb := ⟨_, List.getElem?_eq_getElem (by rw [HCS.out]; exact hlt)⟩
       have ck := W5.out.c.cell (j := k) (u := .bool cb) (by rw [bools_at, hcb]; rfl)
       have fk := W5.out.c.free k
       have bk := blt ck
       clear he4 ho4 he5 hcb HRE W4
       have W6 := lh (W5.out.setC k (.bool bq))
       rw [bools_set] at W6
       have E6 := lh (E5.out.set (p := ⟨M1, k, none⟩) (show a.heap.size ≤ M1 by have := (W5.out.c.lt (g := M1) rfl).1; omega) (.bool bq))
       have hm6 := lh (Mod.set (F := fun b => b = M1) (Mod.rfl' (fun b => b = M1) w5) (p := ⟨M1, k, none⟩) (.inl rfl) (.bool bq))
       have s06 := hm6.out.cellE s05 (W5.out.cN M1 rfl)
       have s16 := hm6.out.cellE s15 (W5.out.cN M1 rfl)
       have gb6 := hm6.out.cellE gb5 (W5.out.cN1 M1 rfl)
       have c06 := hm6.out.cellE c05 (W5.out.cN2 M1 rfl)
       have HI6 := lh (hI.out.put HG.out s.vals HN.out HN0.out)
       try go_wp2_with fail
       refine hK.out _ _ (by exact ⟨c05, s05, s15, gb5⟩) fun hh2 => ?_; clear hK K hHeld; have hHeld := hh2; clear hh2
       try simp only [Act.put, pu]
       refine ty 6 ?_
       refine rd1 7 rfl fun K hK => ?_
       go_simp
       refine hK.out _ _ (by exact ⟨c06, s06, s16, gb6⟩) fun hh2 => ?_; clear hK K hHeld; have hHeld := hh2; clear hh2
       try simp only [Act.put]
       refine dn ?_
       go_wp2_with fail
       go_roundw
       case rel => exact ⟨k + 1, A3, c3, _, by omega, by go_num, by rw [HS1.out]; simp, lh (by rw [HS1.out]; exact W6.out), lh (by rw [HS1.out]; exact HI6.out), E6⟩
       case measure => simp [intOf]; omega
    ·obtain rfl : k = g.length := by omega
     have hcd1 := hW.out.d.2.1
     have hcd2 := hW.out.d.2.2.1
     have WF := lh (WS.fin (hW.out.clipD hW.out.d.clip))
     go_wp2_with fail
     refine (i_Clip Ad _ cd wr hcd1 hcd2).mono ?_
     rintro e w' ⟨rfl, rfl⟩
     go_wp2
     go_ret
     rw [HFIN.out]
     exact ⟨Ad, hs', rfl, WF.out, hE.out⟩
theorem i_writeE (B : Nat) (a : World) (A Av Ar An Aw : Option Addr) (c cv cr cn cw : Nat) (g : Sg.Graph) (v nodes vals : List Int) (r : List (List Int)) (hs : List (Option Addr × Nat)) (w : World)
  (ha : RdN a A g) (hna : Rd a 1 An nodes.length (ints nodes)) (hwa : Rd a 1 Aw vals.length (ints vals)) (hE : Ext a w) (hB : a.heap.size ≤ B) (hBw : B ≤ w.heap.size)
  (ts : List (Th B)) (hS : Sep (Th.own B 3 1 Av v.length cv (ints v) :: Th.ownL B Ar cr r hs :: ts) w) (hV : Sg.validE g ⟨v, r⟩ = true) (hcd : Sg.cellsDiffer g nodes = true) (hlen : nodes.length = vals.length) (hxr : Sg.inRange vals) :
  Calls Tryz.prog 107 #[.agg #[.slice Av v.length cv, .slice Ar r.length cr], .agg #[.slice A g.length c], .slice An nodes.length cn, .slice Aw vals.length cw] w fun e w' => ∃ Ad hs', e = .returned (.slice Ad (Sg.writeS g ⟨v, r⟩ nodes vals).ran.length (Sg.writeS g ⟨v, r⟩ nodes vals).ran.length) ∧
   Sep (Th.own B 3 1 Ad (Sg.writeS g ⟨v, r⟩ nodes vals).ran.length (Sg.writeS g ⟨v, r⟩ nodes vals).ran.length (ints (Sg.writeS g ⟨v, r⟩ nodes vals).ran) :: Th.own B 3 1 Av (Sg.writeS g ⟨v, r⟩ nodes vals).vals.length cv (ints (Sg.writeS g ⟨v, r⟩ nodes vals).vals) :: Th.ownL B Ar cr (Sg.writeS g ⟨v, r⟩ nodes vals).reads hs' :: ts) w' ∧ Ext a w' :=
 i_writeG B a A Av Ar An Aw c cv cr cn cw g v nodes vals r hs w ha hE hB hBw ts (fun _ e _ => hna.ext e) (fun _ e _ => hwa.ext e) (fun h _ hb => .inl (Rd.lt1 hna h hb)) (fun h _ hb => .inl (Rd.lt1 hwa h hb)) hS hV hcd hlen hxr
end Go.Proofs.YtaklkcjlihdlkaaGreat
