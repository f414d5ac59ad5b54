/- The program's run: its contract. Conditions: formulas that can be run; nodes 0..9. -/
import Derived.Test.YtkkegmimofmhpaaImplI
import Derived.Deep.RegionHeld3
namespace Sg
def runM {σ : Type} (f : List Part) (val : σ → Int → Int) (nxt : σ → Int → σ) (s : σ) : Int × (List Int × σ) :=
  evalM f (fun (t : List Int × σ) n => val t.2 n) (fun t n => (once t.1 n, nxt t.2 n)) f.length ((f.length : Int) - 1) ([], s)
end Sg
namespace Go.Proofs.Ytkkegmimofmhpaa
open Go.RowKit

set_option maxRecDepth 100000 in
set_option maxHeartbeats 2000000 in
theorem i_run {fid : Nat} {caps : List Value} {σ : Type} {inv : σ → (Nat → Prop) → World → Prop} {val : σ → Int → Int} {nxt : σ → Int → σ} {dom : Int → Prop} {L : Nat} (C : Clo Try.prog fid caps σ inv val nxt dom L)
    (hdom : ∀ n, dom n → 0 ≤ n ∧ n ≤ 9) (Af : Option Addr) (cf : Nat) (f : List Sg.Part) (ok : Sg.FOD f dom) (s : σ) (F : Nat → Prop) (w : World) (hL : L ≤ w.heap.size) (hinv : inv s F w) (hf : Rd w 5 Af f.length (parts f)) (hoff : off F Af) :
    Calls Try.prog 133 #[.agg #[.slice Af f.length cf], .func (.func fid) #[] caps.toArray] w fun e w' =>
      ∃ A' F', e = .returned (.tuple #[.int .i64 (Sg.runM f val nxt s).1, .slice A' (Sg.runM f val nxt s).2.1.length (Sg.runM f val nxt s).2.1.length]) ∧
        Own w' w.heap.size 3 1 A' (Sg.runM f val nxt s).2.1.length (Sg.runM f val nxt s).2.1.length (ints (Sg.runM f val nxt s).2.1) ∧
        inv (Sg.runM f val nxt s).2.2 F' w' ∧ Mod F w w' ∧ (∀ b, F' b → F b ∨ w.heap.size ≤ b) ∧ off F' A' ∧ 0 ≤ (Sg.runM f val nxt s).1 ∧ (Sg.runM f val nxt s).1 ≤ 999 := by
  have hlen := ok.len
  have hone := ok.one
  obtain ⟨n, hn⟩ : ∃ n : Nat, n = f.length - 1 := ⟨_, rfl⟩
  have hcast : ((f.length : Int) - 1) = (n : Int) := by omega
  have C' := run_clo C hdom (w.heap.size + 1) (w.heap.size + 1 + 1) (by omega) (by omega)
  have Hev := i_eval C' Af cf f ok f.length
  have hdef : Sg.runM f val nxt s = Sg.evalM f (fun (t : List Int × σ) n => val t.2 n) (fun t n => (Sg.once t.1 n, nxt t.2 n)) f.length n ([], s) := by unfold Sg.runM; rw [hcast]
  rw [hdef]
  generalize hr : Sg.evalM f (fun (t : List Int × σ) n => val t.2 n) (fun t n => (Sg.once t.1 n, nxt t.2 n)) f.length n ([], s) = r at *
  obtain ⟨v, l, s'⟩ := r
  obtain ⟨W0, hW0⟩ : ∃ W0, W0 = ((w.alloc (.cells #[.slice Af f.length cf] 92)).alloc (.cells #[.func (.func fid) #[] caps.toArray] 136)).alloc (.cells #[.slice none 0 0] 26) := ⟨_, rfl⟩
  have e0 : Ext w W0 := by rw [hW0]; exact (((Ext.rfl' w).al _).al _).al _
  have hz0 : W0.heap.size = w.heap.size + 1 + 1 + 1 := by rw [hW0]; simp
  have hq0 : W0.cell? ⟨w.heap.size, 0, none⟩ = some (.slice Af f.length cf) := by rw [hW0]; simp [go_sem]
  have hq1 : W0.cell? ⟨w.heap.size + 1, 0, none⟩ = some (.func (.func fid) #[] caps.toArray) := by rw [hW0]; simp [go_sem]
  have hq2 : W0.heap[w.heap.size + 1 + 1]? = some (.cells #[.slice none 0 0] 26 (0, 0)) := by
    rw [hW0]
    have := heap_alloc_new ((w.alloc (.cells #[.slice Af f.length cf] 92)).alloc (.cells #[.func (.func fid) #[] caps.toArray] 136)) (.cells #[.slice none 0 0] 26)
    simpa using this
  have hold : ∀ b, F b → b < w.heap.size := fun b => C.old s F w b hinv
  have hinit : ∀ W, Ext W0 W → runInv (w.heap.size + 1) (w.heap.size + 1 + 1) fid caps inv ([], s) (fun b => F b ∨ b = w.heap.size + 1 + 1 ∨ blk none = some b) W := by
    intro W e
    refine ⟨F, none, 0, C.ext _ _ _ _ hinv (e0.tr e), ?_, Own.nil _ _ _ _, e.cellE hq1, fun h => ?_, fun h => ?_, fun b h => ?_, List.nodup_nil, fun x hx => ?_, fun b => Iff.rfl⟩
    · rw [e.block _ (by omega)]; exact hq2
    · have := hold _ h; omega
    · have := hold _ h; omega
    · simp [blk] at h
    · cases hx
  have Hinit := Lib.hid hinit
  have hoffB : off (fun b => F b ∨ b = w.heap.size + 1 + 1 ∨ blk none = some b) Af := by
    intro b hb h
    rcases h with h | h | h
    · exact hoff b hb h
    · have hfl : 0 < f.length * 5 := by omega
      obtain ⟨b', o', ha, hcell⟩ := hf.2.2 hfl
      have hlt := blt (hcell 0 _ (List.getElem?_eq_getElem (by rw [hf.1]; exact hfl)))
      rw [ha] at hb
      simp [blk] at hb
      omega
    · simp [blk] at h
  have HoffB := Lib.hid hoffB
  have Hold := Lib.hid hold
  have hnB : ¬ (fun b => F b ∨ b = w.heap.size + 1 + 1 ∨ blk none = some b) w.heap.size := by
    intro h
    rcases h with h | h | h
    · have := hold _ h; omega
    · omega
    · simp [blk] at h
  have HnB := Lib.hid hnB
  clear hnB
  have He0 := Lib.hid e0
  have Hq0 := Lib.hid hq0
  clear hinit hoffB hq0 hq1 hq2 hold e0 hz0
  have HC := Lib.hid C
  have HI := Lib.hid hinv
  have HO := Lib.hid hoff
  have Hr := Lib.hid hr
  have Hn := Lib.hid hn
  have Hc := Lib.hid hcast
  have HE := Lib.hid Hev
  dsimp only at *
  clear C C' hinv hoff hr hn hcast Hev hdef hdom ok
  go_enter Try.func133, Try.ntmps133
  go_wp2
  rw [← hW0]
  have HW := Lib.hid hW0
  clear hW0
  have q0 := Hq0.out
  go_region_held3 (fun W => W.cell? ⟨w.heap.size, 0, none⟩ = some (.slice Af f.length cf)) (first | exact k1 | go_keep)
    (first
      | (go_at_call 168; refine (i_last Af f.length cf _ hone (by omega)).mono ?_; rintro e w1 ⟨rfl, he1⟩; have e1 := ((Ext.rfl' W0).dr).tr he1; have k1 := e1.cellE q0)
      | (go_at_call 167; rw [Hc.out]; refine (HE.out n ([], s) _ _ (by have := Hn.out; omega) (by have := Hn.out; omega) hlen (Hinit.out _ e1) ((hf.ext He0.out).ext e1) HoffB.out).mono ?_; rw [Hr.out]; rintro e w2 ⟨rfl, ⟨F2, hi2, hm2, hF2⟩, hx0, hx1⟩; have k1 := hm2.cellE k1 HnB.out))
  go_goals
  all_goals
    obtain ⟨F0, A2, c2, R⟩ := hi2
    dsimp only at R
    have hq := cell_of_blk1 R.r
    have hle := R.o.2.1
    have hmx := R.o.2.2.1
    have HR := Lib.hid R
    have H2 := Lib.hid (And.intro hm2 (And.intro hF2 (And.intro hx0 (And.intro hx1 e1))))
    clear R hm2 hF2 hx0 hx1 e1
    go_wp2_with (go_at_call 128; refine (i_Clip A2 l.length c2 _ hle hmx).mono ?_; rintro e w3 ⟨rfl, hw3⟩; subst hw3)
    go_ret2
    obtain ⟨hm2, hF2, hx0, hx1, e1⟩ := H2.out
    have R := HR.out
    have hsz := e1.size
    have hsz0 : W0.heap.size = w.heap.size + 1 + 1 + 1 := by rw [HW.out]; simp
    have hold := Hold.out
    refine ⟨A2, F0, rfl, R.o.clip.mono (by omega), R.i, ⟨hm2.os.trans (e1.os.trans He0.out.os), hm2.tape.trans (e1.tape.trans He0.out.tape), hm2.output.trans (e1.output.trans He0.out.output), by have := hm2.size; omega, ?_⟩, ?_, R.nA, hx0, hx1⟩
    · intro b hb hnF
      refine (hm2.block b (by omega) ?_).trans ((e1.block b (by omega)).trans (He0.out.block b hb))
      intro h
      rcases h with h | h | h
      · exact hnF h
      · omega
      · simp [blk] at h
    · intro b hb
      rcases hF2 b ((R.fe b).2 (.inl hb)) with h | h
      · rcases h with h | h | h
        · exact .inl h
        · exact .inr (by omega)
        · simp [blk] at h
      · exact .inr (by omega)
end Go.Proofs.Ytkkegmimofmhpaa
