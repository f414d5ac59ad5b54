/- Parts of one proof, joined. The reference's validCells, meaning, deps: contracts. Conditions: bounds on lengths; valid graphs and cells for the meaning. The reference's startEager: its contract. Conditions: valid graphs and cells. -/
import Derived.Test.YteighpaljdlnaaaSpecTwo
import Derived.Test.YteighpaljdlnaaaCore
import Derived.Test.YteighpaljdlnaaaTy
import Derived.Handy
/- The reference's validCells, meaning, deps: contracts. Conditions: bounds on lengths; valid graphs and cells for the meaning. -/
namespace Go.Proofs.Yteighpaljdlnaaa
open Go.RowKit

def CO (g : Sg.Graph) (cells : List Int) (k : Nat) : Bool := (List.range k).all (Sg.cellOk g cells)
theorem CO_succ (g : Sg.Graph) (cells : List Int) (k : Nat) : CO g cells (k + 1) = (CO g cells k && Sg.cellOk g cells k) := by unfold CO; rw [List.range_succ, List.all_append]; simp
theorem CO_bad (g : Sg.Graph) (cells : List Int) (k : Nat) (hk : k < cells.length) (h : Sg.cellOk g cells k = false) : Sg.validC g cells = false := by
 have : (List.range cells.length).all (Sg.cellOk g cells) = false := by
  rw [List.all_eq_false]; exact ⟨k, by rw [List.mem_range]; exact hk, by rw [h]; simp⟩
 unfold Sg.validC; rw [this]; simp
theorem cellOk_at {g : Sg.Graph} {cells : List Int} {k : Nat} {n : Sg.Node} {x : Int} (hn : g[k]? = some n) (hx : cells[k]? = some x) : Sg.cellOk g cells k = (Sg.inR x 0 999 && (decide (n.kind = 0) || decide (x = 0))) := by
 unfold Sg.cellOk Sg.kindAt
 simp [hn, hx]

set_option maxRecDepth 100000 in
set_option maxHeartbeats 1000000 in
theorem s_validCells (A Ac : Option Addr) (c cc : Nat) (g : Sg.Graph) (l : List Int) (w : World) (h : RdN w A g) (hc : Rd w 1 Ac l.length (ints l)) :
  Calls Try.prog 31 #[.agg #[.slice A g.length c], .slice Ac l.length cc] w fun e w' => e = .returned (.bool (Sg.validC g l)) ∧ Ext w w' := by
 have hgl := h.1
 have hll := hc.big
 have e0 := (Ext.rfl' w).al (.cells #[.slice A g.length c] 25)
 have h0 := h.ext e0
 have hc0 := hc.ext e0
 by_cases hlen : l.length = g.length
 case neg =>
  have b1 : ((l.length : Int) != (g.length : Int)) = true := by simp; omega
  have Hb := lh hlen
  clear hlen
  go_enter Try.func31, Try.ntmps31
  go_wp2
  go_ret
  exact ⟨ret_bool (by unfold Sg.validC; simp [Hb.out]), e0⟩
 have b1 : ((l.length : Int) != (g.length : Int)) = false := by simp; omega
 have Hlen := lh hlen
 have HE := lh e0
 clear hlen e0
 go_enter Try.func31, Try.ntmps31
 go_wp2
 go_loop [5] (fun i => ∃ k : Nat, k ≤ l.length ∧ i = .int .i64 k ∧ CO g l k = true) (fun i => l.length - (intOf i).toNat)
 case atStart => exact ⟨0, Nat.zero_le _, rfl, rfl⟩
 case round =>
  obtain ⟨k, hk, rfl, hco⟩ := hrel
  have HC := lh hco
  clear hco
  by_cases hlt : k < l.length
  ·have hkg : k < g.length := by have := Hlen.out; omega
   obtain ⟨⟨nk, nf⟩, b, o, Ap, cp, hn, rfl, hkc, hs, _, _⟩ := h0.at_ hkg
   obtain ⟨bc, oc, x, rfl, hx, hxc⟩ := hc0.at1 hlt
   have hok := lh (cellOk_at hn hx)
   dsimp only at *
   have hb1 := blt hkc
   have hb2 := blt hxc
   clear hn hx
   cases hin : Sg.inR x 0 999
   ·have Hin := lh hin
    clear hin
    go_wp2_with (go_at_call 32; refine (s_inRange _ _ _ _).mono ?_; rintro e w' ⟨rfl, rfl⟩; rw [Hin.out])
    go_ret
    exact ⟨ret_bool (CO_bad g l k hlt (by rw [hok.out, Hin.out]; rfl)).symm, HE.out⟩
   ·have Hin := lh hin
    clear hin
    by_cases hz : nk = 0
    ·have z1 : (nk != 0) = false := by simp [hz]
     have Hz := lh hz
     clear hz
     go_wp2_with (go_at_call 32; refine (s_inRange _ _ _ _).mono ?_; rintro e w' ⟨rfl, rfl⟩; rw [Hin.out])
     go_round
     case rel => exact ⟨k + 1, by omega, by go_num, by rw [CO_succ, HC.out, hok.out, Hin.out, Hz.out]; rfl⟩
     case measure => simp [intOf]; omega
    ·have z1 : (nk != 0) = true := by simp [hz]
     have Hz := lh hz
     clear hz
     by_cases hx0 : x = 0
     ·have z2 : (x != 0) = false := by simp [hx0]
      have Hx := lh hx0
      clear hx0
      go_wp2_with (go_at_call 32; refine (s_inRange _ _ _ _).mono ?_; rintro e w' ⟨rfl, rfl⟩; rw [Hin.out])
      go_round
      case rel => exact ⟨k + 1, by omega, by go_num, by rw [CO_succ, HC.out, hok.out, Hin.out, Hx.out]; simp⟩
      case measure => simp [intOf]; omega
     ·have z2 : (x != 0) = true := by simp [hx0]
      have Hx := lh hx0
      clear hx0
      go_wp2_with (go_at_call 32; refine (s_inRange _ _ _ _).mono ?_; rintro e w' ⟨rfl, rfl⟩; rw [Hin.out])
      go_ret
      exact ⟨ret_bool (CO_bad g l k hlt (by rw [hok.out]; simp [Hz.out, Hx.out])).symm, HE.out⟩
  ·obtain rfl : k = l.length := by omega
   go_wp2
   go_ret
   exact ⟨ret_bool (by unfold Sg.validC; have := HC.out; unfold CO at this; rw [this]; simp [Hlen.out]), HE.out⟩

theorem valAt_cell {g : Sg.Graph} {cells out : List Int} {k : Nat} {n : Sg.Node} {x : Int} (hn : g[k]? = some n) (hx : cells[k]? = some x) (h : n.kind = 0) : Sg.valAt g cells out k = x := by simp [Sg.valAt, hn, hx, h]
theorem valAt_form {g : Sg.Graph} {cells out : List Int} {k : Nat} {n : Sg.Node} (hn : g[k]? = some n) (h : ¬ n.kind = 0) : Sg.valAt g cells out k = (Sg.runF n.f out).1 := by simp [Sg.valAt, hn, h]
theorem depAt_cell {g : Sg.Graph} {v : List Int} {k : Nat} {n : Sg.Node} (hn : g[k]? = some n) (h : n.kind = 0) : Sg.depAt g v k = [] := by simp [Sg.depAt, hn, h]
theorem depAt_form {g : Sg.Graph} {v : List Int} {k : Nat} {n : Sg.Node} (hn : g[k]? = some n) (h : ¬ n.kind = 0) : Sg.depAt g v k = (Sg.runF n.f v).2 := by simp [Sg.depAt, hn, h]

set_option maxRecDepth 100000 in
set_option maxHeartbeats 2000000 in
theorem s_meaning (A Ac : Option Addr) (c cc : Nat) (g : Sg.Graph) (l : List Int) (w : World) (h : RdN w A g) (hc : Rd w 1 Ac l.length (ints l)) (hG : Sg.validG g = true) (hC : Sg.validC g l = true) :
  Calls Try.prog 33 #[.agg #[.slice A g.length c], .slice Ac l.length cc] w fun e w' => ∃ A' c', e = .returned (.slice A' g.length c') ∧ Own w' w.heap.size 3 1 A' g.length c' (ints (Sg.mean g l)) ∧ Ext w w' := by
 have hgl := h.1
 have Hlen := lh (Sg.validC_len hC)
 have e0 := (Ext.rfl' w).al (.cells #[.slice A g.length c] 25)
 have hbox : (w.alloc (.cells #[.slice A g.length c] 25)).cell? ⟨w.heap.size, 0, none⟩ = some (.slice A g.length c) := by simp [go_sem]
 have H := lh h
 have Hc := lh hc
 have HG := lh hG
 have HC := lh hC
 have HE := lh e0
 have HB := lh hbox
 clear h hc hG hC e0 hbox
 go_enter Try.func33, Try.ntmps33
 go_wp2
 go_loopw [5, 6] (fun v i wr => ∃ (k : Nat) (A' : Option Addr) (c' : Nat), k ≤ g.length ∧ i = .int .i64 k ∧ v = .slice A' k c' ∧ Own wr (w.heap.size + 1) 3 1 A' k c' (ints (Sg.meanTo g l k)) ∧ Ext (w.alloc (.cells #[.slice A g.length c] 25)) wr) (fun _ i _ => g.length - (intOf i).toNat)
 case atStart => exact ⟨0, _, _, Nat.zero_le _, rfl, rfl, by have := Own.nw (Ext.rfl' (w.alloc (.cells #[.slice A g.length c] 25))) (w.heap.size + 1) [] #[] rfl (by simp) (by simp); simp only [World.size_alloc] at this; exact this, (Ext.rfl' _).al _⟩
 case round =>
  obtain ⟨k, A', c', hk, rfl, rfl, hown, he⟩ := hrel
  have q0 := he.cellE HB.out
  have hsz := he.size
  simp only [World.size_alloc] at hsz
  have Ho := lh hown
  have He := lh he
  clear hown he
  have hb0 := blt q0
  by_cases hlt : k < g.length
  ·have hkl : k < l.length := by have := Hlen.out; omega
   obtain ⟨⟨nk, nf⟩, b, o, Ap, cp, hn, rfl, hkc, hs, hf, hfl⟩ := (H.out.ext (HE.out.tr He.out)).at_ hlt
   obtain ⟨bc, oc, x, rfl, hx, hxc⟩ := (Hc.out.ext (HE.out.tr He.out)).at1 hkl
   dsimp only at *
   have hb1 := blt hkc
   have hb2 := blt hxc
   by_cases hz : nk = 0
   ·have z1 : (nk != 0) = false := by simp [hz]
    have hv := lh (show Sg.meanTo g l (k + 1) = Sg.meanTo g l k ++ [x] by simp only [Sg.meanTo]; rw [valAt_cell hn hx hz])
    clear hn hx hz
    go_wp2_with (at_builtin; refine wpList_app1 rfl rfl eiInt rfl Ho.out rfl rfl (one_int _ _) (by omega) (by omega) hsz ?_; intro A2 c2 w2 hown2 hg2 hat2)
    have Ho2 := lh hown2
    have Hg2 := lh hg2
    clear hown2 hg2 hat2
    go_wp2
    go_roundw
    case rel => exact ⟨k + 1, A2, c2, by omega, by go_num, rfl, by rw [hv.out]; simpa using Ho2.out, He.out.gr Hg2.out fun g hg => by simpa using (Ho.out.lt hg).1⟩
    case measure => simp [intOf]; omega
   ·have z1 : (nk != 0) = true := by simp [hz]
    have hok := lh (Sg.validG_fok HG.out k hn hz)
    have hran := lh (Sg.meanTo_range HG.out HC.out k hk)
    have hv := lh (show Sg.meanTo g l (k + 1) = Sg.meanTo g l k ++ [(Sg.runF nf (Sg.meanTo g l k)).1] by simp only [Sg.meanTo]; rw [valAt_form hn hz])
    have HR := lh (fun w hf hv => s_run Ap A' cp c' k nf (Sg.meanTo g l k) hok.out hran.out w hf hv)
    have Hf := lh hf
    clear hn hx hz hf
    obtain ⟨rs, hrs⟩ : ∃ rs, rs = Sg.runF nf (Sg.meanTo g l k) := ⟨_, rfl⟩
    rw [← hrs] at hv HR
    have Hrs := lh hrs
    clear hrs
    go_wp2_with fail
    refine (HR.out _ Hf.out Ho.out.rd).mono ?_
    rintro e w1 ⟨A3, c3, rfl, ho3, he3, hx0, hx1⟩
    have q1 := he3.cellE q0
    have Ho1 := lh (Ho.out.ext he3)
    have He1 := lh (He.out.tr he3)
    have hsz1 : w.heap.size + 1 ≤ w1.heap.size := by have := he3.size; omega
    clear ho3 he3
    go_wp2_with (at_builtin; refine wpList_app1 rfl rfl eiInt rfl Ho1.out rfl rfl (one_int _ _) (by omega) (by omega) hsz1 ?_; intro A2 c2 w2 hown2 hg2 hat2)
    have Ho2 := lh hown2
    have Hg2 := lh hg2
    clear hown2 hg2 hat2
    go_wp2
    go_roundw
    case rel => exact ⟨k + 1, A2, c2, by omega, by go_num, rfl, by rw [hv.out]; simpa using Ho2.out, He1.out.gr Hg2.out fun g hg => by simpa using (Ho1.out.lt hg).1⟩
    case measure => simp [intOf]; omega
  ·obtain rfl : k = g.length := by omega
   go_wp2
   go_ret
   exact ⟨A', c', rfl, Ho.out.mono (by omega), HE.out.tr He.out⟩

set_option maxRecDepth 100000 in
set_option maxHeartbeats 1000000 in
theorem s_deps (A Av : Option Addr) (c cv : Nat) (g : Sg.Graph) (v : List Int) (k : Nat) (w : World) (h : RdN w A g) (hv : Rd w 1 Av v.length (ints v)) (hG : Sg.validG g = true) (hk : k < g.length) (hvl : v.length = g.length) (hin : Sg.inRange v) :
  Calls Try.prog 37 #[.agg #[.slice A g.length c], .slice Av v.length cv, .int .i64 k] w fun e w' => ∃ A' c', e = .returned (.slice A' (Sg.depAt g v k).length c') ∧ Own w' w.heap.size 3 1 A' (Sg.depAt g v k).length c' (ints (Sg.depAt g v k)) ∧ Ext w w' := by
 have hgl := h.1
 have e0 := (Ext.rfl' w).al (.cells #[.slice A g.length c] 25)
 obtain ⟨⟨nk, nf⟩, b, o, Ap, cp, hn, rfl, hkc, hs, hf, hfl⟩ := (h.ext e0).at_ hk
 dsimp only at *
 have hb1 := blt hkc
 by_cases hz : nk = 0
 ·have z1 : (nk == 0) = true := by simp [hz]
  have hd := lh (depAt_cell (v := v) hn hz)
  clear hn hz hf h hvl
  go_enter Try.func37, Try.ntmps37
  go_wp2
  go_ret
  rw [hd.out]
  exact ⟨_, _, rfl, Own.nw ((Ext.rfl' w).al _) _ [] #[] rfl (by simp) (by simp), ((Ext.rfl' w).al _).al _⟩
 ·have z1 : (nk == 0) = false := by simp [hz]
  have hok := Sg.validG_fok hG k hn hz
  have hok' : Sg.FOK nf v.length := ⟨hok.good, hok.len, hok.one, fun p hp h1 => by have := hok.reads p hp h1; omega⟩
  have hd := lh (depAt_form (v := v) hn hz)
  have HR := lh (fun w hf hv => s_run Ap Av cp cv v.length nf v hok' hin w hf hv)
  have Hf := lh hf
  have Hv := lh (hv.ext e0)
  clear hn hz hf h hok hok' hv hvl
  go_enter Try.func37, Try.ntmps37
  go_wp2_with fail
  refine (HR.out _ Hf.out Hv.out).mono ?_
  rintro e w1 ⟨A3, c3, rfl, ho3, he3, hx0, hx1⟩
  have Ho3 := lh ho3
  have He3 := lh he3
  clear ho3 he3
  go_wp2
  go_ret
  rw [hd.out]
  exact ⟨_, _, rfl, Ho3.out.mono (by simp), e0.tr He3.out⟩
end Go.Proofs.Yteighpaljdlnaaa

/- The reference's startEager: its contract. Conditions: valid graphs and cells. -/
namespace Go.Proofs.Yteighpaljdlnaaa
open Go.RowKit

theorem depsTo_its (g : Sg.Graph) (v : List Int) (k : Nat) : listIts (Sg.depsTo g v (k + 1)) = listIts (Sg.depsTo g v k) ++ [⟨[], (Sg.depAt g v k).length, ints (Sg.depAt g v k)⟩] := by rw [Sg.depsTo_succ]; simp [listIts]

end Go.Proofs.Yteighpaljdlnaaa
