/- Parts of one proof, joined. The program's run with any function value that reads: its contract. Conditions: formulas that can be run; nodes 0..9. The program's run: its contract. Conditions: formulas that can be run; nodes 0..9. The program's run with plain values is the reference's. Conditions: none. The program's size, slices.Equal of ints, and right's function value: contracts. Conditions: bounds on lengths. The program's right: its contract. Conditions: formulas that can be run, values 0..999. -/
import Derived.Test.YtdnlpklmihoapaaGreatDoorTy
import Derived.Test.YtdnlpklmihoapaaGreatDoorImplOne
import Derived.Test.YtdnlpklmihoapaaGreatDoorImplTwo
import Derived.Deep.RegionHeld3
import Derived.Deep.QuietTactic
import Derived.BigQuiet
/- The program's run with any function value that reads: its contract. Conditions: formulas that can be run; nodes 0..9. -/
namespace Go.Proofs.YtdnlpklmihoapaaGreatDoor
open Go.RowKit

theorem nodup_len : ∀ (n : Nat) (l : List Int), l.Nodup → (∀ x ∈ l, 0 ≤ x ∧ x < n) → l.length ≤ n
 | 0, l, _, h => by
  cases l with
  | nil => simp
  | cons x l => have := h x (by simp); omega
 | n + 1, l, hd, h => by
  by_cases hn : (n : Int) ∈ l
  ·have hle := nodup_len n (l.erase n) (hd.erase _) fun x hx => by
    rw [List.Nodup.mem_erase_iff hd] at hx
    have := h x hx.2
    have := hx.1
    omega
   have := List.length_erase_of_mem hn
   omega
  ·have := nodup_len n l hd fun x hx => by
    have h1 := h x hx
    have : x ≠ n := fun e => hn (e ▸ hx)
    omega
   omega

/-- what run's closure keeps: the reads so far (variable B2), the inner function value (variable B1) -/
structure RunInv (B1 B2 fid : Nat) (caps : List Value) {σ : Type} (inv : σ → (Nat → Prop) → World → Prop) (l : List Int) (s : σ) (F : Nat → Prop) (w : World) (F0 : Nat → Prop) (A : Option Addr) (c : Nat) : Prop where
 i : inv s F0 w
 r : w.heap[B2]? = some (.cells #[.slice A l.length c] 25 (0, 0))
 o : Own w (B2 + 1) 3 1 A l.length c (ints l)
 v : w.cell? ⟨B1, 0, none⟩ = some (.func (.func fid) #[] caps.toArray)
 n1 : ¬ F0 B1
 n2 : ¬ F0 B2
 nA : ∀ b, blk A = some b → ¬ F0 b
 nd : l.Nodup
 rg : ∀ x ∈ l, 0 ≤ x ∧ x < (10 : Nat)
 fe : ∀ b, F b ↔ (F0 b ∨ b = B2 ∨ blk A = some b)
def runInv (B1 B2 fid : Nat) (caps : List Value) {σ : Type} (inv : σ → (Nat → Prop) → World → Prop) (t : List Int × σ) (F : Nat → Prop) (w : World) : Prop :=
 ∃ F0 A c, RunInv B1 B2 fid caps inv t.1 t.2 F w F0 A c

theorem cell_of_blk1 {w : World} {b : Nat} {v : Value} {t : Nat} (h : w.heap[b]? = some (.cells #[v] t (0, 0))) : w.cell? ⟨b, 0, none⟩ = some v := by rw [cell_of_row w b 0 _ _ _ h]; rfl
theorem free_of_blk1 {w : World} {b : Nat} {v : Value} {t : Nat} (h : w.heap[b]? = some (.cells #[v] t (0, 0))) : w.frozen? ⟨b, 0, none⟩ = false := by simp [World.frozen?, h]

set_option maxRecDepth 100000 in
set_option maxHeartbeats 2000000 in
theorem i_run1 {fid : Nat} {caps : List Value} {σ : Type} {inv : σ → (Nat → Prop) → World → Prop} {val : σ → Int → Int} {nxt : σ → Int → σ} {dom : Int → Prop} {L : Nat} (C : Clo Tryz.prog fid caps σ inv val nxt dom L)
  (hdom : ∀ n, dom n → 0 ≤ n ∧ n ≤ 9) (B1 B2 : Nat) (h12 : B1 < B2) (hLB : L ≤ B1) (l : List Int) (s : σ) (F : Nat → Prop) (w : World) (n : Int) (F0 : Nat → Prop) (A : Option Addr) (c : Nat) (R : RunInv B1 B2 fid caps inv l s F w F0 A c) (hn : dom n) :
  Calls Tryz.prog 108 #[.int .i64 n, .pointer (some ⟨B2, 0, none⟩), .pointer (some ⟨B1, 0, none⟩)] w fun e w' =>
   e = .returned (.int .i64 (val s n)) ∧ ∃ F', runInv B1 B2 fid caps inv (Sg.once l n, nxt s n) F' w' ∧ Mod F w w' ∧ ∀ b, F' b → F b ∨ w.heap.size ≤ b := by
 have hent := C.ent
 have hr := cell_of_blk1 R.r
 have hfz := free_of_blk1 R.r
 have hv := R.v
 have hl := nodup_len 10 l R.nd R.rg
 have hB2 : B2 < w.heap.size := blt hr
 have hlt1 := blt hv
 have HR := lh R
 have HC := lh C
 have Hn := lh hn
 have Hcon := lh (i_Contains A l.length c l n w R.o.rd)
 clear R C hn
 by_cases hm : n ∈ l
 ·have hd : decide (n ∈ l) = true := by simp [hm]
  have Hd := lh hd
  have Hm := lh hm
  clear hd hm
  go_enter Tryz.func108, Tryz.ntmps108
  go_wp2_with fail
  refine Hcon.out.mono ?_
  rw [Hd.out]
  rintro e w1 ⟨rfl, he1⟩
  have hv1 := he1.cellE hv
  go_wp2_with fail
  refine (HC.out.call s F0 _ n (HC.out.ext _ _ _ _ HR.out.i he1) Hn.out).mono ?_
  rintro e w2 ⟨rfl, F1, hi2, hm2, hF1⟩
  go_wp2_with fail
  go_ret
  have R := HR.out
  have hon : Sg.once l n = l := by unfold Sg.once; rw [if_pos Hm.out]
  have nF1 : ∀ b, b < w.heap.size → ¬ F0 b → ¬ F1 b := fun b hb hn0 hf => (hF1 b hf).elim hn0 fun e => by have := he1.size; omega
  have hAw : ∀ b, blk A = some b → b < w.heap.size := fun b hb => (R.o.lt hb).2
  have hB1F : ¬ F0 B1 := R.n1
  refine ⟨rfl, fun b => F1 b ∨ b = B2 ∨ blk A = some b, ⟨F1, A, c, ?_⟩, ?_, ?_⟩
  ·rw [hon]
   refine ⟨hi2, ?_, ?_, hm2.cellE hv1 hB1F, nF1 _ hlt1 R.n1, nF1 _ hB2 R.n2, fun b hb => nF1 b (hAw b hb) (R.nA b hb), R.nd, R.rg, fun b => Iff.rfl⟩
   ·rw [hm2.block _ (Nat.lt_of_lt_of_le hB2 he1.size) R.n2, he1.block _ hB2]; exact R.r
   ·exact (R.o.ext he1).mod hm2 fun b hb => R.nA b hb
  ·exact (Mod.of he1).tr' (hm2.mono fun b _ hb => (R.fe b).2 (.inl hb))
  ·intro b hb
   rcases hb with hb | hb | hb
   ·rcases hF1 b hb with hb | hb
    ·exact .inl ((R.fe b).2 (.inl hb))
    ·exact .inr (Nat.le_trans he1.size hb)
   ·exact .inl ((R.fe b).2 (.inr (.inl hb)))
   ·exact .inl ((R.fe b).2 (.inr (.inr hb)))
 ·have hd : decide (n ∈ l) = false := by simp [hm]
  have Hd := lh hd
  have Hm := lh hm
  have hne : ¬ B2 = B1 := by omega
  have hne' : ¬ B1 = B2 := by omega
  clear hd hm
  go_enter Tryz.func108, Tryz.ntmps108
  go_wp2_with fail
  refine Hcon.out.mono ?_
  rw [Hd.out]
  rintro e w1 ⟨rfl, he1⟩
  have hv1 := he1.cellE hv
  have hr1 := he1.cellE hr
  have ho1 := HR.out.o.ext he1
  have hw1 := blt hr1
  have hAB : blk A ≠ some B2 := fun e => by have := (HR.out.o.lt e).1; omega
  have hAB1 : blk A ≠ some B1 := fun e => by have := (HR.out.o.lt e).1; omega
  have HAB := lh hAB
  have HAB1 := lh hAB1
  have Hhe1 := lh he1
  clear hr hfz hv hAB hAB1 he1
  go_wp2_with (at_builtin; refine wpList_app1 rfl rfl eiInt rfl ho1 rfl rfl (one_int _ _) (by omega) (by omega) (by omega) ?_; intro A2 c2 w2 ho2 hg2 hat2; have q2 := (World.cell?_of_block (a := ⟨B2, 0, none⟩) (hg2.block B2 hw1 (fun e => HAB.out e.symm))).trans hr1; have q1 := (World.cell?_of_block (a := ⟨B1, 0, none⟩) (hg2.block B1 (by omega) (fun e => HAB1.out e.symm))).trans hv1; have qf : w2.frozen? ⟨B2, 0, none⟩ = false := (World.frozen?_of_block (a := ⟨B2, 0, none⟩) (hg2.block B2 hw1 (fun e => HAB.out e.symm))).trans (free_of_blk1 ((Hhe1.out.block _ hB2).trans HR.out.r)))
  have R := HR.out
  have he1 := Hhe1.out
  obtain ⟨W3, hW3⟩ : ∃ W3, W3 = w2.setCell ⟨B2, 0, none⟩ (.slice A2 (l.length + 1) c2) := ⟨_, rfl⟩
  rw [← hW3]
  have m12 : Mod (fun b => blk A = some b) w1 w2 := ⟨hg2.os, hg2.tape, hg2.output, hg2.size, fun b hb hn => hg2.block b hb fun e => hn e.symm⟩
  have m23 : Mod (fun b => b = B2) w2 W3 := ⟨by rw [hW3]; rfl, by rw [hW3]; rfl, by rw [hW3]; rfl, by rw [hW3]; simp [World.setCell], fun b _ hn => by rw [hW3]; exact Below.heap_setCell _ _ _ _ hn⟩
  have m13 : Mod (fun b => blk A = some b ∨ b = B2) w1 W3 := (m12.mono fun b _ e => .inl e).tr' (m23.mono fun b _ e => .inr e)
  have hi3 := HC.out.md s F0 _ w1 W3 (HC.out.ext _ _ _ _ R.i he1) m13 (fun b hb hG => hG.elim (fun e => R.nA b e hb) (fun e => R.n2 (e ▸ hb))) (fun b hb hG => hG.elim (fun e => by have := (R.o.lt e).1; omega) (fun e => by omega))
  have hold := HC.out.old s F0 w
  have h2h : w2.heap[B2]? = some (.cells #[.slice A l.length c] 25 (0, 0)) := (hg2.block B2 hw1 (fun e => HAB.out e.symm)).trans ((he1.block _ hB2).trans R.r)
  have h3h : W3.heap[B2]? = some (.cells #[.slice A2 (l.length + 1) c2] 25 (0, 0)) := by rw [hW3]; simp [World.setCell, Array.getElem?_modify, h2h]
  have hA2B : blk A2 ≠ some B2 := fun e => by have := (ho2.lt e).1; omega
  have ho3 : Own W3 (B2 + 1) 3 1 A2 (l.length + 1) c2 (ints l ++ [.int .i64 n]) := by rw [hW3]; exact ho2.set hA2B _
  have hv3 : W3.cell? ⟨B1, 0, none⟩ = some (.func (.func fid) #[] caps.toArray) := by rw [hW3, co]; exact q1
  have hnA2 : ∀ b, blk A2 = some b → ¬ F0 b := by
   intro b hb hf
   rcases hat2 with e | ⟨g, e, hg⟩
   ·exact R.nA b (by rw [← e]; exact hb) hf
   ·rw [e] at hb
    injection hb with hb
    have := hold b R.i hf
    have := he1.size
    omega
  have hsz13 := m13.size
  have hsz1 := he1.size
  clear q1 q2 qf hr1 hv1
  refine (HC.out.call s F0 _ n hi3 Hn.out).mono ?_
  rintro e w4 ⟨rfl, F1, hi4, hm4, hF1⟩
  have Hfin := lh (And.intro hi4 (And.intro hm4 hF1))
  clear hi4 hm4 hF1
  go_wp2_with fail
  go_ret
  obtain ⟨hi4, hm4, hF1⟩ := Hfin.out
  have hon : Sg.once l n = l ++ [n] := by unfold Sg.once; rw [if_neg Hm.out]
  have nF1 : ∀ b, b < W3.heap.size → ¬ F0 b → ¬ F1 b := fun b hb hn0 hf => (hF1 b hf).elim hn0 fun e => by omega
  refine ⟨rfl, fun b => F1 b ∨ b = B2 ∨ blk A2 = some b, ⟨F1, A2, c2, ?_⟩, ?_, ?_⟩
  ·rw [hon]
   have hdn := hdom n Hn.out
   refine ⟨hi4, ?_, ?_, hm4.cellE hv3 R.n1, nF1 _ (blt hv3) R.n1, nF1 _ (by omega) R.n2, fun b hb => nF1 b (ho3.lt hb).2 (hnA2 b hb), ?_, ?_, fun b => Iff.rfl⟩
   ·rw [hm4.block _ (by omega) R.n2, h3h]; simp
   ·have := ho3.mod hm4 hnA2
    simpa using this
   ·rw [List.nodup_append]
    exact ⟨R.nd, by simp, fun a ha b hb => by simp at hb; subst hb; exact fun e => Hm.out (e ▸ ha)⟩
   ·intro x hx
    rcases List.mem_append.1 hx with hx | hx
    ·exact R.rg x hx
    ·simp at hx; subst hx; omega
  ·refine (Mod.of he1).tr' ((m13.mono fun b _ hb => (R.fe b).2 (hb.elim (fun e => .inr (.inr e)) (fun e => .inr (.inl e)))).tr' (hm4.mono fun b _ hb => (R.fe b).2 (.inl hb)))
  ·intro b hb
   rcases hb with hb | hb | hb
   ·rcases hF1 b hb with hb | hb
    ·exact .inl ((R.fe b).2 (.inl hb))
    ·exact .inr (by omega)
   ·exact .inl ((R.fe b).2 (.inr (.inl hb)))
   ·rcases hat2 with e | ⟨g, e, hg⟩
    ·exact .inl ((R.fe b).2 (.inr (.inr (by rw [← e]; exact hb))))
    ·rw [e] at hb
     injection hb with hb
     exact .inr (by omega)

theorem run_clo {fid : Nat} {caps : List Value} {σ : Type} {inv : σ → (Nat → Prop) → World → Prop} {val : σ → Int → Int} {nxt : σ → Int → σ} {dom : Int → Prop} {L : Nat} (C : Clo Tryz.prog fid caps σ inv val nxt dom L)
  (hdom : ∀ n, dom n → 0 ≤ n ∧ n ≤ 9) (B1 B2 : Nat) (h12 : B1 < B2) (hLB : L ≤ B1) :
  Clo Tryz.prog 108 [.pointer (some ⟨B2, 0, none⟩), .pointer (some ⟨B1, 0, none⟩)] (List Int × σ) (runInv B1 B2 fid caps inv) (fun t n => val t.2 n) (fun t n => (Sg.once t.1 n, nxt t.2 n)) dom (B1 + 1) where
 ent := ent_of Tryz.func108 rfl (by kernel_rfl)
 call := fun t F w n h hn => by
  obtain ⟨F0, A, c, R⟩ := h
  exact i_run1 C hdom B1 B2 h12 hLB t.1 t.2 F w n F0 A c R hn
 old := fun t F w b h hb => by
  obtain ⟨F0, A, c, R⟩ := h
  rcases (R.fe b).1 hb with hb | hb | hb
  ·exact C.old _ _ _ _ R.i hb
  ·subst hb; exact (Array.getElem?_eq_some_iff.1 R.r).1
  ·exact (R.o.lt hb).2
 md := fun t F G w w' h hm h1 h2 => by
  obtain ⟨F0, A, c, R⟩ := h
  have g1 : ∀ b, F0 b → ¬ G b := fun b hb => h1 b ((R.fe b).2 (.inl hb))
  refine ⟨F0, A, c, C.md _ _ G _ _ R.i hm g1 (fun b hb => h2 b (by omega)), ?_, ?_, hm.cellE R.v (h2 _ (by omega)), R.n1, R.n2, R.nA, R.nd, R.rg, R.fe⟩
  ·rw [hm.block _ (Array.getElem?_eq_some_iff.1 R.r).1 (h1 _ ((R.fe _).2 (.inr (.inl rfl))))]; exact R.r
  ·exact R.o.mod hm fun b hb => h1 b ((R.fe b).2 (.inr (.inr hb)))
 ran := fun t F w n h hn => by
  obtain ⟨F0, A, c, R⟩ := h
  exact C.ran _ _ _ _ R.i hn
end Go.Proofs.YtdnlpklmihoapaaGreatDoor

/- The program's run: its contract. Conditions: formulas that can be run; nodes 0..9. -/
namespace Sg
def runM {σ : Type} (f : List Part) (val : σ → Int → Int) (nxt : σ → Int → σ) (s : σ) : Int × (List Int × σ) :=
 evalM f (fun (t : List Int × σ) n => val t.2 n) (fun t n => (once t.1 n, nxt t.2 n)) f.length ((f.length : Int) - 1) ([], s)
end Sg
namespace Go.Proofs.YtdnlpklmihoapaaGreatDoor
open Go.RowKit

set_option maxRecDepth 100000 in
set_option maxHeartbeats 2000000 in
theorem i_run {fid : Nat} {caps : List Value} {σ : Type} {inv : σ → (Nat → Prop) → World → Prop} {val : σ → Int → Int} {nxt : σ → Int → σ} {dom : Int → Prop} {L : Nat} (C : Clo Tryz.prog fid caps σ inv val nxt dom L)
  (hdom : ∀ n, dom n → 0 ≤ n ∧ n ≤ 9) (Af : Option Addr) (cf : Nat) (f : List Sg.Part) (ok : Sg.FOD f dom) (s : σ) (F : Nat → Prop) (w : World) (hL : L ≤ w.heap.size) (hinv : inv s F w) (hf : Rd w 5 Af f.length (parts f)) (hoff : off F Af) :
  Calls Tryz.prog 79 #[.agg #[.slice Af f.length cf], .func (.func fid) #[] caps.toArray] w fun e w' =>
   ∃ A' F', e = .returned (.tuple #[.int .i64 (Sg.runM f val nxt s).1, .slice A' (Sg.runM f val nxt s).2.1.length (Sg.runM f val nxt s).2.1.length]) ∧
    Own w' w.heap.size 3 1 A' (Sg.runM f val nxt s).2.1.length (Sg.runM f val nxt s).2.1.length (ints (Sg.runM f val nxt s).2.1) ∧
    inv (Sg.runM f val nxt s).2.2 F' w' ∧ Mod F w w' ∧ (∀ b, F' b → F b ∨ w.heap.size ≤ b) ∧ off F' A' ∧ 0 ≤ (Sg.runM f val nxt s).1 ∧ (Sg.runM f val nxt s).1 ≤ 999 := by
 have hlen := ok.len
 have hone := ok.one
 obtain ⟨n, hn⟩ : ∃ n : Nat, n = f.length - 1 := ⟨_, rfl⟩
 have hcast : ((f.length : Int) - 1) = (n : Int) := by omega
 have C' := run_clo C hdom (w.heap.size + 1) (w.heap.size + 1 + 1) (by omega) (by omega)
 have Hev := i_eval C' Af cf f ok f.length
 have hdef : Sg.runM f val nxt s = Sg.evalM f (fun (t : List Int × σ) n => val t.2 n) (fun t n => (Sg.once t.1 n, nxt t.2 n)) f.length n ([], s) := by unfold Sg.runM; rw [hcast]
 rw [hdef]
 generalize hr : Sg.evalM f (fun (t : List Int × σ) n => val t.2 n) (fun t n => (Sg.once t.1 n, nxt t.2 n)) f.length n ([], s) = r at *
 obtain ⟨v, l, s'⟩ := r
 obtain ⟨W0, hW0⟩ : ∃ W0, W0 = ((w.alloc (.cells #[.slice Af f.length cf] 48)).alloc (.cells #[.func (.func fid) #[] caps.toArray] 97)).alloc (.cells #[.slice none 0 0] 25) := ⟨_, rfl⟩
 have e0 : Ext w W0 := by rw [hW0]; exact (((Ext.rfl' w).al _).al _).al _
 have hz0 : W0.heap.size = w.heap.size + 1 + 1 + 1 := by rw [hW0]; simp
 have hq0 : W0.cell? ⟨w.heap.size, 0, none⟩ = some (.slice Af f.length cf) := by rw [hW0]; simp [go_sem]
 have hq1 : W0.cell? ⟨w.heap.size + 1, 0, none⟩ = some (.func (.func fid) #[] caps.toArray) := by rw [hW0]; simp [go_sem]
 have hq2 : W0.heap[w.heap.size + 1 + 1]? = some (.cells #[.slice none 0 0] 25 (0, 0)) := by
  rw [hW0]
  have := heap_alloc_new ((w.alloc (.cells #[.slice Af f.length cf] 48)).alloc (.cells #[.func (.func fid) #[] caps.toArray] 97)) (.cells #[.slice none 0 0] 25)
  simpa using this
 have hold : ∀ b, F b → b < w.heap.size := fun b => C.old s F w b hinv
 have hinit : ∀ W, Ext W0 W → runInv (w.heap.size + 1) (w.heap.size + 1 + 1) fid caps inv ([], s) (fun b => F b ∨ b = w.heap.size + 1 + 1 ∨ blk none = some b) W := by
  intro W e
  refine ⟨F, none, 0, C.ext _ _ _ _ hinv (e0.tr e), ?_, Own.nil _ _ _ _, e.cellE hq1, fun h => ?_, fun h => ?_, fun b h => ?_, List.nodup_nil, fun x hx => ?_, fun b => Iff.rfl⟩
  ·rw [e.block _ (by omega)]; exact hq2
  ·have := hold _ h; omega
  ·have := hold _ h; omega
  ·simp [blk] at h
  ·cases hx
 have Hinit := lh hinit
 have hoffB : off (fun b => F b ∨ b = w.heap.size + 1 + 1 ∨ blk none = some b) Af := by
  intro b hb h
  rcases h with h | h | h
  ·exact hoff b hb h
  ·have hfl : 0 < f.length * 5 := by omega
   obtain ⟨b', o', ha, hcell⟩ := hf.2.2 hfl
   have hlt := blt (hcell 0 _ (List.getElem?_eq_getElem (by rw [hf.1]; exact hfl)))
   rw [ha] at hb
   simp [blk] at hb
   omega
  ·simp [blk] at h
 have HoffB := lh hoffB
 have Hold := lh hold
 have hnB : ¬ (fun b => F b ∨ b = w.heap.size + 1 + 1 ∨ blk none = some b) w.heap.size := by
  intro h
  rcases h with h | h | h
  ·have := hold _ h; omega
  ·omega
  ·simp [blk] at h
 have HnB := lh hnB
 clear hnB
 have He0 := lh e0
 have Hq0 := lh hq0
 clear hinit hoffB hq0 hq1 hq2 hold e0 hz0
 have HC := lh C
 have HI := lh hinv
 have HO := lh hoff
 have Hr := lh hr
 have Hn := lh hn
 have Hc := lh hcast
 have HE := lh Hev
 dsimp only at *
 clear C C' hinv hoff hr hn hcast Hev hdef hdom ok
 go_enter Tryz.func79, Tryz.ntmps79
 go_wp2
 rw [← hW0]
 have HW := lh hW0
 clear hW0
 have q0 := Hq0.out
 go_region_held3 (fun W => W.cell? ⟨w.heap.size, 0, none⟩ = some (.slice Af f.length cf)) (first | exact k1 | go_keep)
  (first
   | (go_at_call 92; refine (i_last Af f.length cf _ hone (by omega)).mono ?_; rintro e w1 ⟨rfl, he1⟩; have e1 := ((Ext.rfl' W0).dr).tr he1; have k1 := e1.cellE q0)
   | (go_at_call 107; rw [Hc.out]; refine (HE.out n ([], s) _ _ (by have := Hn.out; omega) (by have := Hn.out; omega) hlen (Hinit.out _ e1) ((hf.ext He0.out).ext e1) HoffB.out).mono ?_; rw [Hr.out]; rintro e w2 ⟨rfl, ⟨F2, hi2, hm2, hF2⟩, hx0, hx1⟩; have k1 := hm2.cellE k1 HnB.out))
 go_goals
 all_goals
  obtain ⟨F0, A2, c2, R⟩ := hi2
  dsimp only at R
  have hq := cell_of_blk1 R.r
  have hle := R.o.2.1
  have hmx := R.o.2.2.1
  have HR := lh R
  have H2 := lh (And.intro hm2 (And.intro hF2 (And.intro hx0 (And.intro hx1 e1))))
  clear R hm2 hF2 hx0 hx1 e1
  go_wp2_with (go_at_call 29; refine (i_Clip A2 l.length c2 _ hle hmx).mono ?_; rintro e w3 ⟨rfl, hw3⟩; subst hw3)
  go_ret2
  obtain ⟨hm2, hF2, hx0, hx1, e1⟩ := H2.out
  have R := HR.out
  have hsz := e1.size
  have hsz0 : W0.heap.size = w.heap.size + 1 + 1 + 1 := by rw [HW.out]; simp
  have hold := Hold.out
  refine ⟨A2, F0, rfl, R.o.clip.mono (by omega), R.i, ⟨hm2.os.trans (e1.os.trans He0.out.os), hm2.tape.trans (e1.tape.trans He0.out.tape), hm2.output.trans (e1.output.trans He0.out.output), by have := hm2.size; omega, ?_⟩, ?_, R.nA, hx0, hx1⟩
  ·intro b hb hnF
   refine (hm2.block b (by omega) ?_).trans ((e1.block b (by omega)).trans (He0.out.block b hb))
   intro h
   rcases h with h | h | h
   ·exact hnF h
   ·omega
   ·simp [blk] at h
  ·intro b hb
   rcases hF2 b ((R.fe b).2 (.inl hb)) with h | h
   ·rcases h with h | h | h
    ·exact .inl h
    ·exact .inr (by omega)
    ·simp [blk] at h
   ·exact .inr (by omega)
end Go.Proofs.YtdnlpklmihoapaaGreatDoor

/- The program's run with plain values is the reference's. Conditions: none. -/
namespace Sg
theorem evalM_pure (f : List Part) (vals : List Int) : ∀ (k : Nat) (i : Int) (l : List Int),
  evalM f (fun (_ : List Int × Unit) n => rd vals n) (fun t n => (once t.1 n, ())) k i (l, ()) = ((reck f vals k i).1, ((reck f vals k i).2.foldl once l, ())) := by
 intro k
 induction k with
 | zero => intro i l; rfl
 | succ k ih =>
  intro i l
  simp only [evalM, reck]
  generalize f.getD i.toNat default = p
  by_cases h0 : p.kind = 0
  ·simp [h0]
  ·by_cases h1 : p.kind = 1
   ·simp [h1]
   ·by_cases h8 : p.kind = 8
    ·simp [h8, ih, List.foldl_append]
    ·simp [h0, h1, h8, ih, List.foldl_append]
theorem runM_pure (f : List Part) (vals : List Int) : runM f (fun (_ : Unit) n => rd vals n) (fun _ _ => ()) () = ((runF f vals).1, ((runF f vals).2, ())) := by
 unfold runM runF firstOnly
 exact evalM_pure f vals _ _ _
end Sg

/- The program's size, slices.Equal of ints, and right's function value: contracts. Conditions: bounds on lengths. -/
namespace Go.Proofs.YtdnlpklmihoapaaGreatDoor
open Go.RowKit

theorem i_size (A : Option Addr) (n c : Nat) (w : World) : Calls Tryz.prog 41 #[.agg #[.slice A n c]] w fun e w' => e = .returned (.int .i64 n) ∧ Ext w w' := by
 go_enter Tryz.func41, Tryz.ntmps41
 go_wp2
 go_ret
 exact ⟨rfl, (Ext.rfl' w).al _⟩

/-- what right's function value keeps: the values, in a variable at B -/
structure VInv (B : Nat) (Av : Option Addr) (cv : Nat) (v : List Int) (F : Nat → Prop) (w : World) : Prop where
 b : w.cell? ⟨B, 0, none⟩ = some (.slice Av v.length cv)
 r : Rd w 1 Av v.length (ints v)
 e : ∀ b, ¬ F b

theorem Rd.mod0 {F : Nat → Prop} {w w' : World} {size n : Nat} {A : Option Addr} {xs : List Value} (h : Rd w size A n xs) (k : Mod F w w') (hF : 0 < n * size → off F A) : Rd w' size A n xs :=
 ⟨h.1, h.2.1, fun hn => let ⟨b, o, ha, hc⟩ := h.2.2 hn; ⟨b, o, ha, fun j u hu => k.cellE (hc j u hu) (hF hn b (by rw [ha]; rfl))⟩⟩

end Go.Proofs.YtdnlpklmihoapaaGreatDoor

/- The program's right: its contract. Conditions: formulas that can be run, values 0..999. -/
namespace Go.Proofs.YtdnlpklmihoapaaGreatDoor
open Go.RowKit

theorem fod_of {f : List Sg.Part} {k : Nat} (h : Sg.FOK f k) (L : Nat) (hk : k ≤ L) : Sg.FOD f (fun n => 0 ≤ n ∧ n < (L : Int) ∧ n ≤ 9) := by
 refine ⟨h.good, h.len, h.one, fun p hp hk1 => ?_⟩
 obtain ⟨i, hi⟩ := List.getElem?_of_mem hp
 have h1 := h.good i p hi
 have h2 := h.reads p hp hk1
 simp [Sg.goodPart, Sg.alone, Sg.inR, hk1] at h1
 omega

end Go.Proofs.YtdnlpklmihoapaaGreatDoor
