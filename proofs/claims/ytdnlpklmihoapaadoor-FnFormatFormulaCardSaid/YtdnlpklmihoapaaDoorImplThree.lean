/- Parts of one proof, joined. The program's run with any function value that reads: its contract. Conditions: formulas that can be run; nodes 0..9. The program's run: its contract. Conditions: formulas that can be run; nodes 0..9. The program's run with plain values is the reference's. Conditions: none. The program's size, slices.Equal of ints, and right's function value: contracts. Conditions: bounds on lengths. The program's right: its contract. Conditions: formulas that can be run, values 0..999. -/
import Derived.Test.YtdnlpklmihoapaaDoorTy
import Derived.Test.YtdnlpklmihoapaaDoorImplOne
import Derived.Test.YtdnlpklmihoapaaDoorImplTwo
import Derived.Deep.RegionHeld3
import Derived.Deep.QuietTactic
import Derived.BigQuiet
/- The program's run with any function value that reads: its contract. Conditions: formulas that can be run; nodes 0..9. -/
namespace Go.Proofs.YtdnlpklmihoapaaDoor
open Go.RowKit

theorem nodup_len : ∀ (n : Nat) (l : List Int), l.Nodup → (∀ x ∈ l, 0 ≤ x ∧ x < n) → l.length ≤ n
 | 0, l, _, h => by
  cases l with
  | nil => simp
  | cons x l => have := h x (by simp); omega
 | n + 1, l, hd, h => by
  by_cases hn : (n : Int) ∈ l
  ·have hle := nodup_len n (l.erase n) (hd.erase _) fun x hx => by
    rw [List.Nodup.mem_erase_iff hd] at hx
    have := h x hx.2
    have := hx.1
    omega
   have := List.length_erase_of_mem hn
   omega
  ·have := nodup_len n l hd fun x hx => by
    have h1 := h x hx
    have : x ≠ n := fun e => hn (e ▸ hx)
    omega
   omega

/-- what run's closure keeps: the reads so far (variable B2), the inner function value (variable B1) -/
structure RunInv (B1 B2 fid : Nat) (caps : List Value) {σ : Type} (inv : σ → (Nat → Prop) → World → Prop) (l : List Int) (s : σ) (F : Nat → Prop) (w : World) (F0 : Nat → Prop) (A : Option Addr) (c : Nat) : Prop where
 i : inv s F0 w
 r : w.heap[B2]? = some (.cells #[.slice A l.length c] 25 (0, 0))
 o : Own w (B2 + 1) 3 1 A l.length c (ints l)
 v : w.cell? ⟨B1, 0, none⟩ = some (.func (.func fid) #[] caps.toArray)
 n1 : ¬ F0 B1
 n2 : ¬ F0 B2
 nA : ∀ b, blk A = some b → ¬ F0 b
 nd : l.Nodup
 rg : ∀ x ∈ l, 0 ≤ x ∧ x < (10 : Nat)
 fe : ∀ b, F b ↔ (F0 b ∨ b = B2 ∨ blk A = some b)
def runInv (B1 B2 fid : Nat) (caps : List Value) {σ : Type} (inv : σ → (Nat → Prop) → World → Prop) (t : List Int × σ) (F : Nat → Prop) (w : World) : Prop :=
 ∃ F0 A c, RunInv B1 B2 fid caps inv t.1 t.2 F w F0 A c

theorem cell_of_blk1 {w : World} {b : Nat} {v : Value} {t : Nat} (h : w.heap[b]? = some (.cells #[v] t (0, 0))) : w.cell? ⟨b, 0, none⟩ = some v := by rw [cell_of_row w b 0 _ _ _ h]; rfl
theorem free_of_blk1 {w : World} {b : Nat} {v : Value} {t : Nat} (h : w.heap[b]? = some (.cells #[v] t (0, 0))) : w.frozen? ⟨b, 0, none⟩ = false := by simp [World.frozen?, h]

end Go.Proofs.YtdnlpklmihoapaaDoor

/- The program's run: its contract. Conditions: formulas that can be run; nodes 0..9. -/
namespace Sg
def runM {σ : Type} (f : List Part) (val : σ → Int → Int) (nxt : σ → Int → σ) (s : σ) : Int × (List Int × σ) :=
 evalM f (fun (t : List Int × σ) n => val t.2 n) (fun t n => (once t.1 n, nxt t.2 n)) f.length ((f.length : Int) - 1) ([], s)
end Sg
namespace Go.Proofs.YtdnlpklmihoapaaDoor
open Go.RowKit

end Go.Proofs.YtdnlpklmihoapaaDoor

/- The program's run with plain values is the reference's. Conditions: none. -/
namespace Sg
theorem evalM_pure (f : List Part) (vals : List Int) : ∀ (k : Nat) (i : Int) (l : List Int),
  evalM f (fun (_ : List Int × Unit) n => rd vals n) (fun t n => (once t.1 n, ())) k i (l, ()) = ((reck f vals k i).1, ((reck f vals k i).2.foldl once l, ())) := by
 intro k
 induction k with
 | zero => intro i l; rfl
 | succ k ih =>
  intro i l
  simp only [evalM, reck]
  generalize f.getD i.toNat default = p
  by_cases h0 : p.kind = 0
  ·simp [h0]
  ·by_cases h1 : p.kind = 1
   ·simp [h1]
   ·by_cases h8 : p.kind = 8
    ·simp [h8, ih, List.foldl_append]
    ·simp [h0, h1, h8, ih, List.foldl_append]
theorem runM_pure (f : List Part) (vals : List Int) : runM f (fun (_ : Unit) n => rd vals n) (fun _ _ => ()) () = ((runF f vals).1, ((runF f vals).2, ())) := by
 unfold runM runF firstOnly
 exact evalM_pure f vals _ _ _
end Sg

/- The program's size, slices.Equal of ints, and right's function value: contracts. Conditions: bounds on lengths. -/
namespace Go.Proofs.YtdnlpklmihoapaaDoor
open Go.RowKit

theorem i_size (A : Option Addr) (n c : Nat) (w : World) : Calls Tryd.prog 67 #[.agg #[.slice A n c]] w fun e w' => e = .returned (.int .i64 n) ∧ Ext w w' := by
 go_enter Tryd.func67, Tryd.ntmps67
 go_wp2
 go_ret
 exact ⟨rfl, (Ext.rfl' w).al _⟩

/-- what right's function value keeps: the values, in a variable at B -/
structure VInv (B : Nat) (Av : Option Addr) (cv : Nat) (v : List Int) (F : Nat → Prop) (w : World) : Prop where
 b : w.cell? ⟨B, 0, none⟩ = some (.slice Av v.length cv)
 r : Rd w 1 Av v.length (ints v)
 e : ∀ b, ¬ F b

theorem Rd.mod0 {F : Nat → Prop} {w w' : World} {size n : Nat} {A : Option Addr} {xs : List Value} (h : Rd w size A n xs) (k : Mod F w w') (hF : 0 < n * size → off F A) : Rd w' size A n xs :=
 ⟨h.1, h.2.1, fun hn => let ⟨b, o, ha, hc⟩ := h.2.2 hn; ⟨b, o, ha, fun j u hu => k.cellE (hc j u hu) (hF hn b (by rw [ha]; rfl))⟩⟩

end Go.Proofs.YtdnlpklmihoapaaDoor

/- The program's right: its contract. Conditions: formulas that can be run, values 0..999. -/
namespace Go.Proofs.YtdnlpklmihoapaaDoor
open Go.RowKit

theorem fod_of {f : List Sg.Part} {k : Nat} (h : Sg.FOK f k) (L : Nat) (hk : k ≤ L) : Sg.FOD f (fun n => 0 ≤ n ∧ n < (L : Int) ∧ n ≤ 9) := by
 refine ⟨h.good, h.len, h.one, fun p hp hk1 => ?_⟩
 obtain ⟨i, hi⟩ := List.getElem?_of_mem hp
 have h1 := h.good i p hi
 have h2 := h.reads p hp hk1
 simp [Sg.goodPart, Sg.alone, Sg.inR, hk1] at h1
 omega

end Go.Proofs.YtdnlpklmihoapaaDoor
