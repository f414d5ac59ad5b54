/- Copies of states: contracts. Conditions: bounds on lengths. -/
import Derived.Test.YtmkfjnkdaeoppaaGreatTy
import Derived.Test.YtmkfjnkdaeoppaaGreatSepAll
import Derived.Test.YtmkfjnkdaeoppaaGreatLawAll
import Derived.Test.YtmkfjnkdaeoppaaGreatImplPX
import Derived.Test.YtmkfjnkdaeoppaaGreatFactsAll
import Derived.Test.YtmkfjnkdaeoppaaGreatSpecTO
namespace Go.Proofs.YtmkfjnkdaeoppaaGreat
open Go.RowKit

set_option maxHeartbeats 1000000 in
theorem i_copyReads (A : Option Addr) (c : Nat) (ll : List (List Int)) (w : World) (h : RdL w A ll) :
  Calls Tryz.prog 121 #[.slice A ll.length c] w fun e w' => ∃ A' hs, e = .returned (.slice A' ll.length ll.length) ∧ OwnL w' w.heap.size A' ll.length ll hs ∧ Ext w w' := by
 have hb := h.1
 go_enter Tryz.func121, Tryz.ntmps121
 go_wp2_with (at_make; refine wpList_mk rfl rfl eiInts (B := w.heap.size) rfl rfl (by omega) (by omega) (by simp) ?_; intro w1 hown hext)
 rw [made_one _ _ rfl] at hown
 go_loopw [11] (fun i wr => ∃ (k : Nat) (hs : List (Option Addr × Nat)), k ≤ ll.length ∧ i = .int .i64 k ∧ hs.length = k ∧ Ext w wr ∧ InnD wr w.heap.size 3 1 w.heap.size (listIts ll) hs ∧ Own wr w.heap.size 26 1 (some ⟨w.heap.size, 0, none⟩) ll.length ll.length (dcells (listIts ll) hs ++ List.replicate (ll.length - k) (.slice none 0 0))) (fun i _ => ll.length - (intOf i).toNat)
 case atStart => exact ⟨0, [], Nat.zero_le _, rfl, rfl, hext, InnD.nil _ _ _ _ _ _, by rw [dcells_nil]; exact hown⟩
 case round =>
  clear hown hext
  obtain ⟨k, hs, hk, rfl, hlen, he, hinn, hown⟩ := hrel
  have hwr : w.heap.size < wr.heap.size := (hown.lt (g := w.heap.size) rfl).2
  have hdl : (dcells (listIts ll) hs).length = k := by rw [length_dcells (listIts_pre ll) (by simp; omega), hlen, Nat.mul_one]
  by_cases hlt : k < ll.length
  ·obtain ⟨l, b, o, Al, cl, hl, rfl, hc, hr, hll⟩ := (h.ext he).at_ hlt
   have hbw := blt hc
   have HC := lh (fun w h => i_clone Al l.length cl l w h (by omega))
   obtain ⟨y, hy⟩ : ∃ y, (dcells (listIts ll) hs ++ List.replicate (ll.length - k) (.slice none 0 0))[k]? = some y := ⟨_, List.getElem?_eq_getElem (by simp [hdl]; omega)⟩
   have Hy := lh hy
   have Ho := lh hown
   have Hl := lh hl
   have Hinn := lh hinn
   have Hlen := lh hlen
   have Hdl := lh hdl
   clear hy hown hl hinn hlen hdl
   go_wp2_with (go_at_call 120; refine (HC.out _ hr).mono ?_; rintro e w2 ⟨A2, rfl, ho2, he2⟩; have hor := Ho.out.ext he2; have q0 := hor.cell Hy.out; have q1 := hor.free k)
   go_roundw
   case rel =>
    have hat : (listIts ll)[hs.length]? = some ⟨[], l.length, ints l⟩ := by rw [Hlen.out]; exact listIts_at Hl.out
    refine ⟨k + 1, hs ++ [(A2, l.length)], by omega, by go_num, by simp [Hlen.out], (he.tr he2).set (by simp) _, (Hinn.out.snoc he2 (by omega) hwr hat ho2).st _ _, ?_⟩
    rw [dcells_snoc _ hat, show itc ⟨[], l.length, ints l⟩ (A2, l.length) = [.slice A2 l.length l.length] from rfl, ← fill1 _ k ll.length Hdl.out hlt]
    exact hor.st k _
   case measure => simp [intOf]; omega
  ·obtain rfl : k = ll.length := by omega
   rw [Nat.sub_self, List.replicate_zero, List.append_nil] at hown
   have Hfin := lh (hinn.own (eo := 26) (so := 1) (c := ll.length) (by simp [hlen]) (by simpa using hown))
   clear hown hinn hlen hdl
   go_wp2
   go_ret
   exact ⟨_, hs, rfl, Hfin.out, he⟩

set_option maxHeartbeats 1000000 in
theorem s_copyLists (A : Option Addr) (c : Nat) (ll : List (List Int)) (w : World) (h : RdL w A ll) :
  Calls Tryz.prog 125 #[.slice A ll.length c] w fun e w' => ∃ A' c' hs, e = .returned (.slice A' ll.length c') ∧ OwnL w' w.heap.size A' c' ll hs ∧ Ext w w' := by
 have hb := h.1
 have H := lh h
 have O0 := lh (show OwnL (World.alloc w (.cells #[] 26)) w.heap.size (some ⟨w.heap.size, 0, none⟩) 0 (ll.take 0) [] from ⟨by simp, by have := Own.new w 26 1 #[] 0 (Nat.le_refl _) (by unfold maxLen; omega) rfl; simpa [dcells, listIts] using this, by simp [listIts], by simp, by simp⟩)
 have E0 := lh ((Ext.rfl' w).al (.cells #[] 26))
 clear h
 go_enter Tryz.func125, Tryz.ntmps125
 go_wp2_with fail
 go_loopw [3, 4] (fun s i wr => ∃ (k : Nat) (A' : Option Addr) (c' : Nat) (hs : List (Option Addr × Nat)), k ≤ ll.length ∧ s = .slice A' k c' ∧ i = .int .i64 k ∧ Hid (OwnL wr w.heap.size A' c' (ll.take k) hs) ∧ Hid (Ext w wr)) (fun _ i _ => ll.length - (intOf i).toNat)
 case atStart => exact ⟨0, _, _, [], Nat.zero_le _, rfl, rfl, O0, E0⟩
 case round =>
  clear O0 E0
  obtain ⟨k, A', c', hs, hk, rfl, rfl, hO, hE⟩ := hrel
  by_cases hlt : k < ll.length
  ·obtain ⟨l, b, o, Al, cl, hl, rfl, hc, hr, hll⟩ := (H.out.ext hE.out).at_ hlt
   have hbw := blt hc
   have HC := lh (fun w h => s_copyInts Al l.length cl l w h (by omega))
   have Hl := lh hl
   have Hr := lh hr
   have hws := hE.out.size
   clear hl hr
   go_wp2_with fail
   refine (HC.out _ Hr.out).mono ?_
   rintro e w2 ⟨A2, c2, rfl, ho2, he2⟩
   have Ho2 := lh ho2
   have He2 := lh he2
   have hw2 := he2.size
   have hout := lh (show Own w2 w.heap.size 26 1 A' k c' (dcells (listIts (ll.take k)) hs) from by have := hO.out.out.ext he2; simpa [Nat.min_eq_left hk] using this)
   clear ho2 he2 hbw hc
   go_wp2_with (at_builtin; refine wpList_app1 rfl rfl eiInts rfl hout.out rfl rfl (one_slice _ _ _) (by omega) (by omega) (by omega) ?_; intro A9 c9 w9 ho9 hg9 hat9; have Ho9 := lh ho9; have Hg9 := lh hg9; have Ha9 := lh hat9; clear ho9 hg9 hat9)
   go_roundw
   case rel =>
    have hits : listIts (ll.take (k + 1)) = listIts (ll.take k) ++ [⟨[], l.length, ints l⟩] := by
     have := List.take_succ_eq_append_getElem hlt
     obtain ⟨h1, h2⟩ := List.getElem?_eq_some_iff.1 Hl.out
     rw [this, h2]
     simp [listIts]
    refine ⟨k + 1, A9, c9, hs ++ [(A2, c2)], by omega, by simp, by go_num, lh ?_, lh ((hE.out.tr He2.out).gr Hg9.out (fun b hb => by have := (hout.out.lt hb).1; omega))⟩
    unfold OwnL
    rw [hits]
    exact hO.out.snoc He2.out hws (it := ⟨[], l.length, ints l⟩) Ho2.out (by have := Ho9.out; simpa [Nat.min_eq_left hk, itc] using this) Hg9.out Ha9.out
   case measure => simp [intOf]; omega
  ·obtain rfl : k = ll.length := by omega
   have hfin := hO.out
   rw [List.take_length] at hfin
   have Hfin := lh hfin
   clear hfin
   go_wp2
   go_ret
   exact ⟨A', c', hs, rfl, Hfin.out, hE.out⟩


set_option maxRecDepth 100000 in
set_option maxHeartbeats 2000000 in
theorem i_copyOf (Av Ar : Option Addr) (kv kr : Nat) (v : List Int) (r : List (List Int)) (w : World) (hv : Rd w 1 Av v.length (ints v)) (hr : RdL w Ar r) (hvl : v.length ≤ 1048576) :
  Calls Tryz.prog 97 #[.agg #[.slice Av v.length kv, .slice Ar r.length kr]] w fun e w' => ∃ A1 c1 A2 c2 hs, e = .returned (.agg #[.slice A1 v.length c1, .slice A2 r.length c2]) ∧ OwnE w' w.heap.size A1 c1 A2 c2 hs ⟨v, r⟩ ∧ Ext w w' := by
 have E0 := lh (show Ext w (World.alloc (World.alloc w (.cells #[.slice Av v.length kv, .slice Ar r.length kr] 63)) (.cells #[.slice none 0 0, .slice none 0 0] 63)) from ((Ext.rfl' w).al _).al _)
 have b0 := Bx.new (World.alloc w (.cells #[.slice Av v.length kv, .slice Ar r.length kr] 63)) #[.slice none 0 0, .slice none 0 0] 63
 simp only [World.size_alloc] at b0
 have B0 := lh b0
 clear b0
 have q0 : World.cell? (World.alloc (World.alloc w (.cells #[.slice Av v.length kv, .slice Ar r.length kr] 63)) (.cells #[.slice none 0 0, .slice none 0 0] 63)) ⟨w.heap.size, 0, none⟩ = some (.slice Av v.length kv) := by simp [go_sem]
 have q1 : World.cell? (World.alloc (World.alloc w (.cells #[.slice Av v.length kv, .slice Ar r.length kr] 63)) (.cells #[.slice none 0 0, .slice none 0 0] 63)) ⟨w.heap.size, 1, none⟩ = some (.slice Ar r.length kr) := by simp [go_sem]
 have Hv := lh hv
 have Hr := lh hr
 clear hv hr
 go_enter Tryz.func97, Tryz.ntmps97
 go_wp2_with fail
 refine wp_region_held_drew (S := (fun W => W.cell? ⟨w.heap.size, 0, none⟩ = some (.slice Av v.length kv) ∧ W.cell? ⟨w.heap.size, 1, none⟩ = some (.slice Ar r.length kr))) (by kernel_rfl) ?_ (fun hHeld => ?_)
 ·exact ⟨((Ext.rfl' _).dr).cellE q0, ((Ext.rfl' _).dr).cellE q1⟩
 refine ty 0 ?_
 refine ty 1 ?_
 refine ty 3 ?_
 refine ty 4 ?_
 refine rd1 2 rfl fun K hK => ?_
 go_simp
 refine (i_clone Av v.length kv v _ (Hv.out.ext (E0.out.dr)) (by omega)).mono ?_
 rintro e w3 ⟨A1, rfl, ho3, he3⟩
 have E3 := lh ((E0.out.dr).tr he3)
 have O3 := lh (ho3.mono (B' := w.heap.size + 2) (by simp))
 have hz3 : w.heap.size + 2 ≤ w3.heap.size := by have := he3.size; simpa using this
 have B3 := lh ((B0.out.ext ((Ext.rfl' _).dr)).ext he3)
 have q03 := he3.cellE (((Ext.rfl' _).dr).cellE q0)
 have q13 := he3.cellE (((Ext.rfl' _).dr).cellE q1)
 clear ho3 he3 q0 q1 B0
 try go_wp2_with fail
 refine hK.out _ _ (by exact ⟨q03, q13⟩) fun hh2 => ?_; clear hK K hHeld; have hHeld := hh2; clear hh2
 try simp only [Act.put, pu]
 refine rd1 5 rfl fun K hK => ?_
 go_simp
 refine (i_copyReads Ar kr r _ (Hr.out.ext E3.out)).mono ?_
 rintro e w4 ⟨A2, hs, rfl, ho4, he4⟩
 have E4 := lh (E3.out.tr he4)
 have O4 := lh (O3.out.ext he4)
 have R4 := lh (OwnD.mono ho4 (B' := w.heap.size + 2) hz3)
 have D4 := lh (show ∀ b, blk A1 = some b → ¬ fpD A2 hs b from fun b hb hb' => by have h1 := (O3.out.lt hb).2; have h2 := (ho4.lt hb').1; omega)
 have B4 := lh (B3.out.ext he4)
 have q04 := he4.cellE q03
 have q14 := he4.cellE q13
 have f0 := B4.out.free 0
 have f1 := B4.out.free 1
 have bl := B4.out.lt
 have x0 := B4.out.cell (j := 0) rfl
 have x1 := B4.out.cell (j := 1) rfl
 clear ho4 he4 q03 q13 B3
 try go_wp2_with fail
 refine hK.out _ _ (by exact ⟨q04, q14⟩) fun hh2 => ?_; clear hK K hHeld; have hHeld := hh2; clear hh2
 try simp only [Act.put, pu]
 refine ty 6 ?_
 refine rd1 7 rfl fun K hK => ?_
 go_simp
 refine hK.out _ _ (by exact ⟨(co).trans ((co).trans q04), (co).trans ((co).trans q14)⟩) fun hh2 => ?_; clear hK K hHeld; have hHeld := hh2; clear hh2
 try simp only [Act.put]
 refine dn ?_
 go_wp2
 have hz : w.heap.size ≤ w.heap.size + 1 := by omega
 have hS := Mod.set (F := fun b => b = w.heap.size + 1) (Mod.set (F := fun b => b = w.heap.size + 1) (Mod.rfl' (fun b => b = w.heap.size + 1) w4) (p := ⟨w.heap.size + 1, 0, none⟩) (.inl rfl) (.slice A1 v.length v.length)) (p := ⟨w.heap.size + 1, 1, none⟩) (.inl rfl) (.slice A2 r.length r.length)
 have s0 : ∀ u0 u1 : Value, World.cell? (World.setCell (World.setCell w4 ⟨w.heap.size + 1, 0, none⟩ u0) ⟨w.heap.size + 1, 1, none⟩ u1) ⟨w.heap.size + 1, 0, none⟩ = some u0 := fun u0 u1 => ((B4.out.set 0 u0).set 1 u1).cell (j := 0) rfl
 have s1 : ∀ u0 u1 : Value, World.cell? (World.setCell (World.setCell w4 ⟨w.heap.size + 1, 0, none⟩ u0) ⟨w.heap.size + 1, 1, none⟩ u1) ⟨w.heap.size + 1, 1, none⟩ = some u1 := fun u0 u1 => ((B4.out.set 0 u0).set 1 u1).cell (j := 1) rfl
 refine bodyPost_ret (v := .agg #[.slice A1 v.length v.length, .slice A2 r.length r.length]) (by simp [results, Tryz.results97, go_sem, s0, s1]; try rfl) rfl ?_
 exact ⟨A1, v.length, A2, r.length, hs, rfl, ⟨(O4.out.mod hS (fun b hb e => by have := (O4.out.lt hb).1; omega)).mono (by omega), OwnD.mono (OwnD.mod R4.out hS (fun b hb e => by have := (OwnD.lt R4.out hb).1; omega)) (by omega), D4.out⟩, (E4.out.set (p := ⟨w.heap.size + 1, 0, none⟩) hz _).set (p := ⟨w.heap.size + 1, 1, none⟩) hz _⟩

set_option maxRecDepth 100000 in
set_option maxHeartbeats 2000000 in
theorem s_copyEager (Av Ar : Option Addr) (kv kr : Nat) (v : List Int) (r : List (List Int)) (w : World) (hv : Rd w 1 Av v.length (ints v)) (hr : RdL w Ar r) (hvl : v.length ≤ 1048576) :
  Calls Tryz.prog 102 #[.agg #[.slice Av v.length kv, .slice Ar r.length kr]] w fun e w' => ∃ A1 c1 A2 c2 hs, e = .returned (.agg #[.slice A1 v.length c1, .slice A2 r.length c2]) ∧ OwnE w' w.heap.size A1 c1 A2 c2 hs ⟨v, r⟩ ∧ Ext w w' := by
 have E0 := lh (show Ext w (World.alloc (World.alloc w (.cells #[.slice Av v.length kv, .slice Ar r.length kr] 63)) (.cells #[.slice none 0 0, .slice none 0 0] 63)) from ((Ext.rfl' w).al _).al _)
 have b0 := Bx.new (World.alloc w (.cells #[.slice Av v.length kv, .slice Ar r.length kr] 63)) #[.slice none 0 0, .slice none 0 0] 63
 simp only [World.size_alloc] at b0
 have B0 := lh b0
 clear b0
 have q0 : World.cell? (World.alloc (World.alloc w (.cells #[.slice Av v.length kv, .slice Ar r.length kr] 63)) (.cells #[.slice none 0 0, .slice none 0 0] 63)) ⟨w.heap.size, 0, none⟩ = some (.slice Av v.length kv) := by simp [go_sem]
 have q1 : World.cell? (World.alloc (World.alloc w (.cells #[.slice Av v.length kv, .slice Ar r.length kr] 63)) (.cells #[.slice none 0 0, .slice none 0 0] 63)) ⟨w.heap.size, 1, none⟩ = some (.slice Ar r.length kr) := by simp [go_sem]
 have Hv := lh hv
 have Hr := lh hr
 clear hv hr
 go_enter Tryz.func102, Tryz.ntmps102
 go_wp2_with fail
 refine wp_region_held_drew (S := (fun W => W.cell? ⟨w.heap.size, 0, none⟩ = some (.slice Av v.length kv) ∧ W.cell? ⟨w.heap.size, 1, none⟩ = some (.slice Ar r.length kr))) (by kernel_rfl) ?_ (fun hHeld => ?_)
 ·exact ⟨((Ext.rfl' _).dr).cellE q0, ((Ext.rfl' _).dr).cellE q1⟩
 refine ty 0 ?_
 refine ty 1 ?_
 refine ty 3 ?_
 refine ty 4 ?_
 refine rd1 2 rfl fun K hK => ?_
 go_simp
 refine (s_copyInts Av v.length kv v _ (Hv.out.ext (E0.out.dr)) (by omega)).mono ?_
 rintro e w3 ⟨A1, c1, rfl, ho3, he3⟩
 have E3 := lh ((E0.out.dr).tr he3)
 have O3 := lh (ho3.mono (B' := w.heap.size + 2) (by simp))
 have hz3 : w.heap.size + 2 ≤ w3.heap.size := by have := he3.size; simpa using this
 have B3 := lh ((B0.out.ext ((Ext.rfl' _).dr)).ext he3)
 have q03 := he3.cellE (((Ext.rfl' _).dr).cellE q0)
 have q13 := he3.cellE (((Ext.rfl' _).dr).cellE q1)
 clear ho3 he3 q0 q1 B0
 try go_wp2_with fail
 refine hK.out _ _ (by exact ⟨q03, q13⟩) fun hh2 => ?_; clear hK K hHeld; have hHeld := hh2; clear hh2
 try simp only [Act.put, pu]
 refine rd1 5 rfl fun K hK => ?_
 go_simp
 refine (s_copyLists Ar kr r _ (Hr.out.ext E3.out)).mono ?_
 rintro e w4 ⟨A2, c2, hs, rfl, ho4, he4⟩
 have E4 := lh (E3.out.tr he4)
 have O4 := lh (O3.out.ext he4)
 have R4 := lh (OwnD.mono ho4 (B' := w.heap.size + 2) hz3)
 have D4 := lh (show ∀ b, blk A1 = some b → ¬ fpD A2 hs b from fun b hb hb' => by have h1 := (O3.out.lt hb).2; have h2 := (ho4.lt hb').1; omega)
 have B4 := lh (B3.out.ext he4)
 have q04 := he4.cellE q03
 have q14 := he4.cellE q13
 have f0 := B4.out.free 0
 have f1 := B4.out.free 1
 have bl := B4.out.lt
 have x0 := B4.out.cell (j := 0) rfl
 have x1 := B4.out.cell (j := 1) rfl
 clear ho4 he4 q03 q13 B3
 try go_wp2_with fail
 refine hK.out _ _ (by exact ⟨q04, q14⟩) fun hh2 => ?_; clear hK K hHeld; have hHeld := hh2; clear hh2
 try simp only [Act.put, pu]
 refine ty 6 ?_
 refine rd1 7 rfl fun K hK => ?_
 go_simp
 refine hK.out _ _ (by exact ⟨(co).trans ((co).trans q04), (co).trans ((co).trans q14)⟩) fun hh2 => ?_; clear hK K hHeld; have hHeld := hh2; clear hh2
 try simp only [Act.put]
 refine dn ?_
 go_wp2
 have hz : w.heap.size ≤ w.heap.size + 1 := by omega
 have hS := Mod.set (F := fun b => b = w.heap.size + 1) (Mod.set (F := fun b => b = w.heap.size + 1) (Mod.rfl' (fun b => b = w.heap.size + 1) w4) (p := ⟨w.heap.size + 1, 0, none⟩) (.inl rfl) (.slice A1 v.length c1)) (p := ⟨w.heap.size + 1, 1, none⟩) (.inl rfl) (.slice A2 r.length c2)
 have s0 : ∀ u0 u1 : Value, World.cell? (World.setCell (World.setCell w4 ⟨w.heap.size + 1, 0, none⟩ u0) ⟨w.heap.size + 1, 1, none⟩ u1) ⟨w.heap.size + 1, 0, none⟩ = some u0 := fun u0 u1 => ((B4.out.set 0 u0).set 1 u1).cell (j := 0) rfl
 have s1 : ∀ u0 u1 : Value, World.cell? (World.setCell (World.setCell w4 ⟨w.heap.size + 1, 0, none⟩ u0) ⟨w.heap.size + 1, 1, none⟩ u1) ⟨w.heap.size + 1, 1, none⟩ = some u1 := fun u0 u1 => ((B4.out.set 0 u0).set 1 u1).cell (j := 1) rfl
 refine bodyPost_ret (v := .agg #[.slice A1 v.length c1, .slice A2 r.length c2]) (by simp [results, Tryz.results102, go_sem, s0, s1]; try rfl) rfl ?_
 exact ⟨A1, c1, A2, c2, hs, rfl, ⟨(O4.out.mod hS (fun b hb e => by have := (O4.out.lt hb).1; omega)).mono (by omega), OwnD.mono (OwnD.mod R4.out hS (fun b hb e => by have := (OwnD.lt R4.out hb).1; omega)) (by omega), D4.out⟩, (E4.out.set (p := ⟨w.heap.size + 1, 0, none⟩) hz _).set (p := ⟨w.heap.size + 1, 1, none⟩) hz _⟩
end Go.Proofs.YtmkfjnkdaeoppaaGreat
