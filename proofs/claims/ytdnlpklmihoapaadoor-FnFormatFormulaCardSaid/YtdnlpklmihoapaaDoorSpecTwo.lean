/- Parts of one proof, joined. The reference's reckoned and run: contracts. Conditions: formulas that can be run with the values. The reference's mayRead: its contract. Conditions: at most 2^20 parts. The reference's goodReads and validGraph: contracts. Conditions: bounds on lengths. The reference's differing and sameInts: contracts. Conditions: bounds on lengths. The reference's validGraph: its contract. Conditions: none but the reading of the graph. The reference's validEager: its contract. Conditions: none but the reading of the arguments. -/
import Derived.Test.YtdnlpklmihoapaaDoorSpecOne
import Derived.Test.YtdnlpklmihoapaaDoorCore
import Derived.Deep.QuietTactic
import Derived.BigQuiet
import Derived.StillTailTactics
import Derived.Deep.RegionHeld3
/- The reference's reckoned and run: contracts. Conditions: formulas that can be run with the values. -/
namespace Go.Proofs.YtdnlpklmihoapaaDoor
open Go.RowKit



theorem Own.nw {w0 w : World} (e : Ext w0 w) (g : Nat) (l : List Int) (cs : Array Value) (hc : cs.toList = ints l) (hl : l.length ≤ 4194304) (hg : w.heap.size = g) :
  Own (w.alloc (.cells cs 3)) w0.heap.size 3 1 (some ⟨g, 0, none⟩) l.length l.length (ints l) := by
 subst hg
 rw [← hc]
 have : cs.size = l.length := by rw [← Array.length_toList, hc]; simp
 exact Own.new w 3 1 cs l.length e.size (by unfold maxLen; omega) (by omega)

structure Vals (w : World) (A : Option Addr) (n : Nat) (vals : List Int) : Prop where
 rd : Rd w 1 A n (ints vals)
 ran : Sg.inRange vals

theorem rd_at {vals : List Int} {n : Int} {x : Int} (h : vals[n.toNat]? = some x) : Sg.rd vals n = x := by simp [Sg.rd, h]

end Go.Proofs.YtdnlpklmihoapaaDoor

/- The reference's mayRead: its contract. Conditions: at most 2^20 parts. -/
namespace Go.Proofs.YtdnlpklmihoapaaDoor
open Go.RowKit

def MR (f : List Sg.Part) (n : Nat) : List Int := ((List.range n).map Int.ofNat).filter (Sg.hasRead f)
theorem MR_succ (f : List Sg.Part) (n : Nat) : MR f (n + 1) = if Sg.hasRead f n = true then MR f n ++ [(n : Int)] else MR f n := by
 unfold MR
 rw [List.range_succ, List.map_append, List.filter_append]
 by_cases h : Sg.hasRead f n = true
 ·rw [if_pos h]; simp [h]
 ·rw [if_neg h]; simp [h]
theorem MR_len (f : List Sg.Part) (n : Nat) : (MR f n).length ≤ n := by
 unfold MR
 have := List.length_filter_le (Sg.hasRead f) ((List.range n).map Int.ofNat)
 simpa using this
theorem hasRead_cons (p : Sg.Part) (f : List Sg.Part) (n : Int) : Sg.hasRead (p :: f) n = ((p.kind == 1 && p.n == n) || Sg.hasRead f n) := by simp [Sg.hasRead]

set_option maxRecDepth 100000 in
set_option maxHeartbeats 2000000 in
theorem s_mayRead (A : Option Addr) (c : Nat) (f : List Sg.Part) (w : World) (h : Rd w 5 A f.length (parts f)) (hb : f.length ≤ 1048576) :
  Calls Tryd.prog 88 #[.agg #[.slice A f.length c]] w fun e w' => ∃ A' c', e = .returned (.slice A' (Sg.mayRead f).length c') ∧ Own w' w.heap.size 3 1 A' (Sg.mayRead f).length c' (ints (Sg.mayRead f)) ∧ Ext w w' := by
 go_enter Tryd.func88, Tryd.ntmps88
 go_wp2
 have hW1 := (Ext.rfl' w).al (.cells #[.slice A f.length c] 39)
 have hW2 := hW1.al (.cells #[] 3)
 have hown0 := Own.nw hW1 (w.heap.size + 1) [] #[] rfl (by simp) (by simp)
 have hbox : ((w.alloc (.cells #[.slice A f.length c] 39)).alloc (.cells #[] 3)).cell? ⟨w.heap.size, 0, none⟩ = some (.slice A f.length c) := by simp [go_sem]
 have hsz : w.heap.size < ((w.alloc (.cells #[.slice A f.length c] 39)).alloc (.cells #[] 3)).heap.size := by simp; omega
 go_loopw [3, 4] (fun v i wr => ∃ (n : Nat) (A' : Option Addr) (c' : Nat), n ≤ 10 ∧ i = .int .i64 n ∧ v = .slice A' (MR f n).length c' ∧ Own wr w.heap.size 3 1 A' (MR f n).length c' (ints (MR f n)) ∧ Ext w wr ∧ wr.cell? ⟨w.heap.size, 0, none⟩ = some (.slice A f.length c) ∧ blk A' ≠ some w.heap.size) (fun _ i _ => 10 - (intOf i).toNat)
 case atStart =>
  exact ⟨0, some ⟨w.heap.size + 1, 0, none⟩, 0, by omega, rfl, rfl, hown0, hW2, hbox, by simp [blk]⟩
 case round =>
  clear hown0 hbox hW2 hsz
  obtain ⟨n, A', c', hn, rfl, rfl, hown, hext, hbox, hne⟩ := hrel
  have hmr := MR_len f n
  by_cases hlt : n < 10
  ·go_wp2
   go_loop [3, 5] (fun v i => ∃ k : Nat, k ≤ f.length ∧ i = .int .i64 k ∧ v = .slice A' (MR f n).length c' ∧ Sg.hasRead (f.drop k) n = Sg.hasRead f n) (fun _ i => f.length - (intOf i).toNat)
   case atStart => exact ⟨0, Nat.zero_le _, rfl, rfl, rfl⟩
   case round =>
    obtain ⟨k, hk, rfl, rfl, hrd⟩ := hrel
    have Hms := lh (MR_succ f n)
    by_cases hlk : k < f.length
    ·obtain ⟨b, o, p, rfl, hp, hc0, hc1, hc2, hc3, hc4⟩ := (h.ext hext).atP hlk
     rw [drop_cons f k hp, hasRead_cons] at hrd
     obtain ⟨pk, pa, pb, pc, pn⟩ := p
     dsimp only at *
     have Hrd := lh hrd
     clear hrd hp
     by_cases h1 : pk = 1 ∧ pn = n
     ·obtain ⟨rfl, rfl⟩ := h1
      go_wp2_with (at_builtin; refine wpList_app1 rfl rfl eiInt rfl hown rfl rfl (one_int _ _) (by omega) (by omega) hext.size ?_; intro A2 c2 w2 hown2 hg2 hat2)
      have hhr : Sg.hasRead f n = true := by rw [← Hrd.out]; simp
      have e1 := Hms.out
      rw [if_pos hhr] at e1
      go_roundw
      case rel =>
       refine ⟨n + 1, A2, c2, by omega, by go_num, by rw [e1]; simp, by rw [e1]; simpa using hown2, hext.gr hg2 fun g hg => (hown.lt hg).1, ?_, ?_⟩
       ·exact (World.cell?_of_block (hg2.block _ (blt hbox) (fun e => hne e.symm))).trans hbox
       ·rcases hat2 with hat2 | ⟨g, hat2, hg⟩
        ·rw [hat2]; exact hne
        ·rw [hat2]; intro e; injection e with e; have := hext.size; have := blt hbox; omega
      case measure => simp [intOf]; omega
     ·have hnot : (pk == 1 && pn == (n : Int)) = false := by
       rw [Bool.and_eq_false_iff, beq_eq_false_iff_ne, beq_eq_false_iff_ne]; omega
      by_cases h2 : pk = 1
      ·have h3 : ¬ pn = n := fun e => h1 ⟨h2, e⟩
       subst h2
       have hnot' := lh hnot
       clear hnot h1
       go_wp2
       go_round
       case rel => exact ⟨k + 1, by omega, by go_num, rfl, by rw [← Hrd.out, hnot'.out, Bool.false_or]⟩
       case measure => simp [intOf]; omega
      ·have hnot' := lh hnot
       clear hnot h1
       go_wp2
       go_round
       case rel => exact ⟨k + 1, by omega, by omega, by rw [← Hrd.out, hnot'.out, Bool.false_or]⟩
       case measure => simp [intOf]; omega
    ·have hhr : ¬ Sg.hasRead f n = true := by rw [← hrd, List.drop_eq_nil_of_le (by omega)]; simp [Sg.hasRead]
     have e1 := Hms.out
     rw [if_neg hhr] at e1
     have E1 := lh e1
     clear e1 hhr hrd
     go_wp2
     go_roundw
     case rel => exact ⟨n + 1, A', c', by omega, by go_num, by rw [E1.out], by rw [E1.out]; exact hown, hext, hbox, hne⟩
     case measure => simp [intOf]; omega
  ·obtain rfl : n = 10 := by omega
   go_wp2
   go_ret
   exact ⟨A', c', rfl, hown, hext⟩
end Go.Proofs.YtdnlpklmihoapaaDoor

/- The reference's goodReads and validGraph: contracts. Conditions: bounds on lengths. -/
namespace Go.Proofs.YtdnlpklmihoapaaDoor
open Go.RowKit

set_option maxRecDepth 100000 in
set_option maxHeartbeats 2000000 in
theorem s_goodReads (A : Option Addr) (c i : Nat) (g : Sg.Graph) (w : World) (h : RdN w A g) (hi : i < g.length) :
  Calls Tryd.prog 61 #[.agg #[.slice A g.length c], .int .i64 i] w fun e w' => e = .returned (.bool (Sg.goodReads g i)) ∧ Ext w w' := by
 have hgl := h.1
 obtain ⟨n, b, o, Ap, cp, hn, rfl, hk, hs, hf, hfl⟩ := h.at_ hi
 have hbw := blt hk
 have hd : Sg.goodReads g i = (Sg.mayRead n.f).all (Sg.goodRead g i) := by unfold Sg.goodReads; simp [hn]
 have Hd := lh hd
 have hr : ∀ x ∈ Sg.mayRead n.f, 0 ≤ x ∧ x ≤ 9 := fun x hx => Sg.mayRead_range hx
 have Hr := lh hr
 clear hd hn hr
 go_enter Tryd.func61, Tryd.ntmps61
 go_wp2_with fail
 have e0 := (Ext.rfl' w).al (.cells #[.slice (some ⟨b, o, none⟩) g.length c] 30)
 refine (s_mayRead _ _ _ _ (hf.ext e0) hfl).mono ?_
 rintro e w1 ⟨A1, c1, rfl, ho1, he1⟩
 have e1 := e0.tr he1
 have hbox : w1.cell? ⟨w.heap.size, 0, none⟩ = some (.slice (some ⟨b, o, none⟩) g.length c) := he1.cellE (by simp [go_sem])
 generalize Sg.mayRead n.f = L at *
 go_wp2_with fail
 go_loopw [6] (fun k wr => ∃ j : Nat, j ≤ L.length ∧ k = .int .i64 j ∧ Ext w1 wr ∧ (L.drop j).all (Sg.goodRead g i) = L.all (Sg.goodRead g i)) (fun k _ => L.length - (intOf k).toNat)
 case atStart => exact ⟨0, Nat.zero_le _, rfl, Ext.rfl' _, rfl⟩
 case round =>
  obtain ⟨j, hj, rfl, he, hall⟩ := hrel
  have hbx := he.cellE hbox
  clear hbox
  have hLm : L.length ≤ 9223372036854775807 := ho1.rd.big
  by_cases hlt : j < L.length
  ·obtain ⟨bl, ol, x, rfl, hx, hcx⟩ := (ho1.rd.ext he).at1 hlt
   have hxr := Hr.out x (List.mem_of_getElem? hx)
   rw [drop_cons L j hx, List.all_cons] at hall
   have Hall := lh hall
   clear hall hx
   obtain ⟨X, rfl⟩ := Int.eq_ofNat_of_zero_le hxr.1
   by_cases hge : (i : Int) ≤ (X : Int)
   ·have hge' : i ≤ X := by omega
    go_wp2
    go_quiet (fail)
    go_wp2
    go_ret
    refine ⟨ret_bool ?_, e1.tr (he.drN _)⟩
    rw [Hd.out, ← Hall.out]
    have : Sg.goodRead g i X = false := by unfold Sg.goodRead; simp; omega
    rw [this]; rfl
   ·have hlt' : decide ((i : Int) ≤ (X : Int)) = false := by simpa using hge
    have hltN : decide (i ≤ X) = false := by simp; omega
    have hXg : X < g.length := by omega
    obtain ⟨m, b', o', Ap', cp', hm, ha, hkx, _, _, _⟩ := (h.ext (e1.tr he)).at_ hXg
    simp only [Option.some.injEq, Addr.mk.injEq, and_true] at ha
    obtain ⟨rfl, rfl⟩ := ha
    have hka : Sg.kindAt g X = m.kind := by unfold Sg.kindAt; simp [hm]
    have Hka := lh hka
    clear hka hm
    by_cases h2 : m.kind = 2
    ·have h2' : (m.kind == 2) = true := by simp [h2]
     have H2 := lh h2
     clear h2
     go_wp2
     go_quiet (fail)
     go_wp2
     go_ret
     refine ⟨ret_bool ?_, e1.tr (he.drN _)⟩
     rw [Hd.out, ← Hall.out]
     have : Sg.goodRead g i X = false := by unfold Sg.goodRead; rw [Hka.out, H2.out]; simp
     rw [this]; rfl
    ·have h2' : (m.kind == 2) = false := by simp [h2]
     have H2 := lh h2
     clear h2
     go_wp2
     go_quiet (fail)
     go_wp2
     go_roundw
     case rel =>
      refine ⟨j + 1, by omega, by go_num, he.drN _, ?_⟩
      have : Sg.goodRead g i X = true := by unfold Sg.goodRead; rw [Hka.out]; simp; exact ⟨by omega, H2.out⟩
      rw [← Hall.out, this, Bool.true_and]
     case measure => simp [intOf]; omega
  ·have Hall := lh hall
   clear hall
   go_wp2
   go_ret
   refine ⟨ret_bool ?_, e1.tr he⟩
   rw [Hd.out, ← Hall.out, List.drop_eq_nil_of_le (by omega)]; rfl
end Go.Proofs.YtdnlpklmihoapaaDoor

/- The reference's differing and sameInts: contracts. Conditions: bounds on lengths. -/
namespace Go.Proofs.YtdnlpklmihoapaaDoor
open Go.RowKit

def DF (a b : List Int) (k : Nat) : List Int := ((List.range k).filter fun i => a.getD i 0 != b.getD i 0).map Int.ofNat
theorem DF_succ (a b : List Int) (k : Nat) {x y : Int} (hx : a[k]? = some x) (hy : b[k]? = some y) : DF a b (k + 1) = if x = y then DF a b k else DF a b k ++ [(k : Int)] := by
 unfold DF
 rw [List.range_succ, List.filter_append, List.map_append]
 by_cases h : x = y
 ·rw [if_pos h]; simp [hx, hy, h]
 ·rw [if_neg h]; simp [hx, hy, h]
theorem DF_len (a b : List Int) (k : Nat) : (DF a b k).length ≤ k := by
 unfold DF
 have := List.length_filter_le (fun i => a.getD i 0 != b.getD i 0) (List.range k)
 simpa using this

theorem DF_nil (a b : List Int) (h : a.length = b.length) : (DF a b a.length).length = 0 ↔ a = b := by
 rw [List.length_eq_zero_iff]
 unfold DF
 rw [List.map_eq_nil_iff, List.filter_eq_nil_iff]
 constructor
 ·intro hh
  refine List.ext_getElem h fun i h1 h2 => ?_
  have := hh i (by rw [List.mem_range]; exact h1)
  simpa [h1, h2] using this
 ·rintro rfl i _
  simp

end Go.Proofs.YtdnlpklmihoapaaDoor

/- The reference's validGraph: its contract. Conditions: none but the reading of the graph. -/
namespace Go.Proofs.YtdnlpklmihoapaaDoor
open Go.RowKit

def VG (g : Sg.Graph) (k : Nat) : Bool := (List.range k).all (Sg.goodNode g)
theorem VG_succ (g : Sg.Graph) (k : Nat) : VG g (k + 1) = (VG g k && Sg.goodNode g k) := by unfold VG; rw [List.range_succ, List.all_append]; simp
theorem VG_bad (g : Sg.Graph) (k : Nat) (hk : k < g.length) (h : Sg.goodNode g k = false) : Sg.validG g = false := by
 have : (List.range g.length).all (Sg.goodNode g) = false := by
  rw [List.all_eq_false]; exact ⟨k, by rw [List.mem_range]; exact hk, by rw [h]; simp⟩
 unfold Sg.validG; rw [this]; rfl
theorem goodNode_cell {g : Sg.Graph} {k : Nat} {n : Sg.Node} (hn : g[k]? = some n) (h : n.kind = 0) : Sg.goodNode g k = decide (n.f.length = 0) := by
 unfold Sg.goodNode; simp [hn, h]
 cases n.f <;> rfl
theorem goodNode_form {g : Sg.Graph} {k : Nat} {n : Sg.Node} (hn : g[k]? = some n) (h : n.kind = 1 ∨ n.kind = 2) : Sg.goodNode g k = (Sg.validF n.f && Sg.goodReads g k) := by
 unfold Sg.goodNode; simp only [List.getD_eq_getElem?_getD, hn, Option.getD_some]; rw [if_neg (by omega), if_pos h]
theorem goodNode_none {g : Sg.Graph} {k : Nat} {n : Sg.Node} (hn : g[k]? = some n) (h : ¬ n.kind = 0 ∧ ¬ n.kind = 1 ∧ ¬ n.kind = 2) : Sg.goodNode g k = false := by
 unfold Sg.goodNode; simp only [List.getD_eq_getElem?_getD, hn, Option.getD_some]; rw [if_neg h.1, if_neg (by omega)]

set_option maxRecDepth 100000 in
set_option maxHeartbeats 2000000 in
theorem s_validGraph (A : Option Addr) (c : Nat) (g : Sg.Graph) (w : World) (h : RdN w A g) :
  Calls Tryd.prog 27 #[.agg #[.slice A g.length c]] w fun e w' => e = .returned (.bool (Sg.validG g)) ∧ Ext w w' := by
 have hgl := h.1
 go_enter Tryd.func27, Tryd.ntmps27
 go_wp2
 go_loopw [3] (fun i wr => ∃ k : Nat, k ≤ g.length ∧ i = .int .i64 k ∧ Ext w wr ∧ wr.cell? ⟨w.heap.size, 0, none⟩ = some (.slice A g.length c) ∧ VG g k = true) (fun i _ => g.length - (intOf i).toNat)
 case atStart => exact ⟨0, Nat.zero_le _, rfl, (Ext.rfl' w).al _, by simp [go_sem], rfl⟩
 case round =>
  obtain ⟨k, hk, rfl, he, hbox, hvg⟩ := hrel
  have hbw := blt hbox
  have HV := lh hvg
  clear hvg
  by_cases hlt : k < g.length
  ·obtain ⟨⟨nk, nf⟩, b, o, Ap, cp, hn, rfl, hkc, hs, hf, hfl⟩ := (h.ext he).at_ hlt
   dsimp only at *
   have hbb := blt hkc
   have cases : nk = 0 ∨ (nk = 1 ∨ nk = 2) ∨ (¬ nk = 0 ∧ ¬ nk = 1 ∧ ¬ nk = 2) := by omega
   rcases cases with hz | hz | hz
   ·have hg := lh (goodNode_cell hn hz)
    subst hz
    clear hn
    by_cases hl : 0 < nf.length
    ·go_wp2
     go_ret
     exact ⟨ret_bool (by rw [VG_bad g k hlt (by rw [hg.out]; simp; intro e; simp [e] at hl)]), he.al _⟩
    ·go_wp2
     go_roundw
     case rel => exact ⟨k + 1, by omega, by go_num, he.al _, ((Ext.rfl' _).al _).cellE hbox, by rw [VG_succ, HV.out, hg.out]; simp; exact List.length_eq_zero_iff.1 (by omega)⟩
     case measure => simp [intOf]; omega
   ·have hg := lh (goodNode_form hn hz)
    have HG := lh (s_goodReads (some ⟨b, o, none⟩) c k g)
    have HF := lh (s_validFormula Ap cp nf)
    clear hn
    cases hv : Sg.validF nf
    ·have Hv := lh hv
     clear hv
     rcases hz with rfl | rfl
     all_goals
      go_wp2_with (go_at_call 41; refine (HF.out _ (hf.ext ((Ext.rfl' _).al _)) hfl).mono ?_; rintro e w2 ⟨rfl, he2⟩; rw [Hv.out])
      go_ret
      exact ⟨ret_bool (by rw [VG_bad g k hlt (by rw [hg.out, Hv.out]; rfl)]), (he.al _).tr he2⟩
    ·have Hv := lh hv
     clear hv
     cases hr : Sg.goodReads g k
     ·have Hr := lh hr
      clear hr
      rcases hz with rfl | rfl
      all_goals
       go_wp2_with (first
        | (go_at_call 41; refine (HF.out _ (hf.ext ((Ext.rfl' _).al _)) hfl).mono ?_; rintro e w2 ⟨rfl, he2⟩; rw [Hv.out]; have hbx2 := he2.cellE (((Ext.rfl' _).al _).cellE hbox))
        | (go_at_call 61; refine (HG.out _ (h.ext ((he.al _).tr he2)) hlt).mono ?_; rintro e w3 ⟨rfl, he3⟩; rw [Hr.out]))
       go_ret
       exact ⟨ret_bool (by rw [VG_bad g k hlt (by rw [hg.out, Hv.out, Hr.out]; rfl)]), ((he.al _).tr he2).tr he3⟩
     ·have Hr := lh hr
      clear hr
      rcases hz with rfl | rfl
      all_goals
       go_wp2_with (first
        | (go_at_call 41; refine (HF.out _ (hf.ext ((Ext.rfl' _).al _)) hfl).mono ?_; rintro e w2 ⟨rfl, he2⟩; rw [Hv.out]; have hbx2 := he2.cellE (((Ext.rfl' _).al _).cellE hbox))
        | (go_at_call 61; refine (HG.out _ (h.ext ((he.al _).tr he2)) hlt).mono ?_; rintro e w3 ⟨rfl, he3⟩; rw [Hr.out]))
       go_roundw
       case rel => exact ⟨k + 1, by omega, by go_num, ((he.al _).tr he2).tr he3, he3.cellE hbx2, by rw [VG_succ, HV.out, hg.out, Hv.out, Hr.out]; rfl⟩
       case measure => simp [intOf]; omega
   ·have hg := lh (goodNode_none hn hz)
    have z0 : (nk == 0) = false := by rw [beq_eq_false_iff_ne]; omega
    have z1 : (nk == 1) = false := by rw [beq_eq_false_iff_ne]; omega
    have z2 : (nk == 2) = false := by rw [beq_eq_false_iff_ne]; omega
    clear hn hz
    go_wp2
    go_ret
    exact ⟨ret_bool (by rw [VG_bad g k hlt hg.out]), he.al _⟩
  ·obtain rfl : k = g.length := by omega
   have hfin : Sg.validG g = decide (g.length ≤ 10) := by
    unfold Sg.validG; have := HV.out; unfold VG at this; rw [this]; rfl
   have Hfin := lh hfin
   clear hfin
   go_wp2
   go_ret
   exact ⟨ret_bool (by rw [Hfin.out]; simp; omega), he⟩
end Go.Proofs.YtdnlpklmihoapaaDoor

/- The reference's validEager: its contract. Conditions: none but the reading of the arguments. -/
namespace Go.Proofs.YtdnlpklmihoapaaDoor
open Go.RowKit

def RA (g : Sg.Graph) (v : List Int) (r : List (List Int)) (k : Nat) : Bool := (List.range k).all (Sg.rightAt g v r)
theorem RA_succ (g : Sg.Graph) (v : List Int) (r : List (List Int)) (k : Nat) : RA g v r (k + 1) = (RA g v r k && Sg.rightAt g v r k) := by unfold RA; rw [List.range_succ, List.all_append]; simp
theorem RA_bad (g : Sg.Graph) (v : List Int) (r : List (List Int)) (k : Nat) (hk : k < g.length) (h : Sg.rightAt g v r k = false) : Sg.validE g ⟨v, r⟩ = false := by
 have : (List.range g.length).all (Sg.rightAt g v r) = false := by
  rw [List.all_eq_false]; exact ⟨k, by rw [List.mem_range]; exact hk, by rw [h]; simp⟩
 unfold Sg.validE; rw [this]; simp
theorem rightAt_cell {g : Sg.Graph} {v : List Int} {r : List (List Int)} {k : Nat} {n : Sg.Node} {l : List Int} (hn : g[k]? = some n) (hl : r[k]? = some l) (h : n.kind = 0) : Sg.rightAt g v r k = decide ([] = l) := by
 unfold Sg.rightAt; simp [hn, hl, h]
 cases l <;> rfl
theorem rightAt_form {g : Sg.Graph} {v : List Int} {r : List (List Int)} {k : Nat} {n : Sg.Node} {l : List Int} {x : Int} (hn : g[k]? = some n) (hl : r[k]? = some l) (hx : v[k]? = some x) (h : ¬ n.kind = 0) :
  Sg.rightAt g v r k = (decide ((Sg.runF n.f v).1 = x) && decide ((Sg.runF n.f v).2 = l)) := by
 unfold Sg.rightAt; simp [hn, hl, hx, h]

end Go.Proofs.YtdnlpklmihoapaaDoor
