/- Library calls of the program's ParseFormula, as its walk wants them. Conditions: the program's variables as they were laid (Ge). -/
import Derived.Test.YtdnlpklmihoapaaDoorTxM
import Derived.Test.YtdnlpklmihoapaaDoorTxJ
import Derived.Test.YtdnlpklmihoapaaDoorImplOne
import Derived.Lib.SlicesS
namespace Sg
open Go
/-- a word's kind, as its place among the words -/
def wordsB : List ByteArray := [⟨#[97, 100, 100]⟩, ⟨#[115, 117, 98]⟩, ⟨#[109, 117, 108]⟩, ⟨#[109, 105, 110]⟩, ⟨#[109, 97, 120]⟩, ⟨#[108, 101, 115, 115]⟩, ⟨#[105, 102]⟩]
theorem wordsB_at {k : Nat} (h : k < 7) : wordsB.getD k ByteArray.empty = ⟨(wordK ((k : Int) + 2)).toArray⟩ := by
 have : k = 0 ∨ k = 1 ∨ k = 2 ∨ k = 3 ∨ k = 4 ∨ k = 5 ∨ k = 6 := by omega
 rcases this with rfl | rfl | rfl | rfl | rfl | rfl | rfl <;> rfl
theorem wordK_inj {j k : Nat} (hj : j < 7) (hk : k < 7) (h : wordK ((j : Int) + 2) = wordK ((k : Int) + 2)) : j = k := by
 have h1 := kindW_word (k := (j : Int) + 2) (by omega) (by omega)
 have h2 := kindW_word (k := (k : Int) + 2) (by omega) (by omega)
 rw [h, h2] at h1
 omega
/-- how the program reads a word -/
def readD (s : Txt) : Option Part := readP decL s
end Sg
namespace Go.Proofs.YtdnlpklmihoapaaDoor
open Go.RowKit
theorem i_Split (s : ByteArray) (w : World) (hs : s.size ≤ 2000000) (hG : Ge w) :
  Calls Tryd.prog 45 #[.string s, .string ⟨#[32]⟩] w fun e w' => ∃ A, e = .returned (.slice A (Sg.splitC 32 (tx s)).length (Sg.splitC 32 (tx s)).length) ∧ Ext w w' ∧ Own w' w.heap.size 9 1 A (Sg.splitC 32 (tx s)).length (Sg.splitC 32 (tx s)).length (strs ((Sg.splitC 32 (tx s)).map ts)) := by
 obtain ⟨m, hm⟩ := hG.max
 have hd : (Lib.splitB ⟨#[32]⟩ 0 (Lib.countB s ⟨#[32]⟩) s) = (Sg.splitC 32 (tx s)).map ts := by
  have h1 := Lib.splitB_data ⟨#[32]⟩ 0 (Lib.countB s ⟨#[32]⟩) s
  have h2 : (Lib.splitB ⟨#[32]⟩ 0 (Lib.countB s ⟨#[32]⟩) s).map tx = Sg.splitC 32 (tx s) := by rw [← Sg.split_eq]; exact h1
  rw [← h2, List.map_map]
  exact (List.map_id' _).symm
 have hl := Lib.splitB_all ⟨#[32]⟩ (by decide) 0 (Lib.countB s ⟨#[32]⟩) s rfl
 rw [hd, List.length_map] at hl
 refine (Tryd.strings_Split s ⟨#[32]⟩ m w (by omega) hm (by decide)).mono ?_
 rintro e w' ⟨rfl, rfl⟩
 rw [hd, ← hl]
 refine ⟨_, rfl, (Ext.rfl' w).al _, ?_⟩
 have hb : (Sg.splitC 32 (tx s)).length ≤ maxLen := by
  have hc := Lib.countB_le ⟨#[32]⟩ (by decide) s.size s (Nat.le_refl _)
  unfold maxLen; omega
 have := (Own.new w (B := w.heap.size) 9 1 (((Sg.splitC 32 (tx s)).map ts).map Value.string).toArray (Sg.splitC 32 (tx s)).length (Nat.le_refl _) hb (by simp))
 simpa [strs] using this
theorem i_IndexW (s : ByteArray) (w : World) (b o c : Nat) (hw : ∀ k : Nat, k < 7 → w.cell? ⟨b, o + k, none⟩ = some (.string (ts (Sg.wordK ((k : Int) + 2))))) :
  Calls Tryd.prog 46 #[.slice (some ⟨b, o, none⟩) 7 c, .string s] w fun e w' => e = .returned (.int .i64 (if Sg.kindW (tx s) = -1 then -1 else Sg.kindW (tx s) - 2)) ∧ w = w' := by
 refine (Tryd.slices_Index_string b o 7 c Sg.wordsB s w (by decide) (by decide) (fun j hj => by rw [Sg.wordsB_at hj]; exact hw j hj)).mono ?_
 rintro e w' ⟨rfl, rfl⟩
 refine ⟨?_, rfl⟩
 rcases Sg.kindW_cases (tx s) with hk | ⟨h2, h8, hs⟩
 ·rw [hk, if_pos rfl, Lib.idxOfS_miss]
  intro j hj e
  rw [Sg.wordsB_at hj] at e
  have : tx s = Sg.wordK ((j : Int) + 2) := by rw [← e]
  rw [this, Sg.kindW_word (by omega) (by omega)] at hk
  omega
 ·obtain ⟨k, hk⟩ : ∃ k : Nat, Sg.kindW (tx s) = (k : Int) + 2 := ⟨(Sg.kindW (tx s) - 2).toNat, by omega⟩
  rw [hk] at hs ⊢
  have hk7 : k < 7 := by omega
  rw [if_neg (by omega), Lib.idxOfS_hit Sg.wordsB 7 k s hk7 (by decide) (by rw [Sg.wordsB_at hk7]; exact tx_inj (by rw [hs])) (fun j hj e => by
   rw [Sg.wordsB_at (by omega)] at e
   have : tx s = Sg.wordK ((j : Int) + 2) := by rw [← e]
   have := Sg.wordK_inj (by omega) hk7 (this.symm.trans hs)
   omega)]
  congr 2
  omega
theorem i_CutR (s : ByteArray) (w : World) :
  Calls Tryd.prog 47 #[.string s, .string ⟨#[114]⟩] w fun e w' => e = .returned (.tuple #[.string (ts (if (tx s).head? = some 114 then (tx s).tail else tx s)), .bool (decide ((tx s).head? = some 114))]) ∧ w = w' := by
 refine (Tryd.strings_CutPrefix s ⟨#[114]⟩ w).mono ?_
 rintro e w' ⟨rfl, rfl⟩
 have h1 : Lib.hasPrefix (tx s) [114] = decide ((tx s).head? = some 114) := by
  unfold Lib.hasPrefix
  cases tx s with
  | nil => rfl
  | cons b r =>
   rw [Bool.eq_iff_iff]
   simp only [List.isPrefixOf, Bool.and_true, beq_iff_eq, decide_eq_true_eq, List.head?_cons, Option.some.injEq]
   exact eq_comm
 have h2 : Lib.trimPrefix (tx s) [114] = if (tx s).head? = some 114 then (tx s).tail else tx s := by
  unfold Lib.trimPrefix
  rw [h1]
  by_cases h : (tx s).head? = some 114
  ·rw [if_pos (by simp [h]), if_pos h]; simp
  ·rw [if_neg (by simp [h]), if_neg h]
 refine ⟨?_, rfl⟩
 show Ending.returned (.tuple #[.string ⟨(Lib.trimPrefix (tx s) [114]).toArray⟩, .bool (Lib.hasPrefix (tx s) [114])]) = _
 rw [h1, h2]
end Go.Proofs.YtdnlpklmihoapaaDoor
