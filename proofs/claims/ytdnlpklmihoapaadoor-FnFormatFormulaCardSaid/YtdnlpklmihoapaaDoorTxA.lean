/- Texts in memory: byte strings and lists of them. Conditions: none. -/
import Derived.Test.YtdnlpklmihoapaaDoorSepAll
import Derived.Test.YtdnlpklmihoapaaDoorCore
import Derived.Test.YtdnlpklmihoapaaDoorPlX
import Derived.Laws.Strings3
namespace Go.Proofs.YtdnlpklmihoapaaDoor
open Go.RowKit

/-- a string's bytes as a plain list -/
abbrev tx (s : ByteArray) : Sg.Txt := s.data.toList
/-- a plain list as a string -/
abbrev ts (l : Sg.Txt) : ByteArray := ⟨l.toArray⟩
theorem tx_ts (l : Sg.Txt) : tx (ts l) = l := rfl
theorem ts_tx (s : ByteArray) : ts (tx s) = s := by cases s; rfl
theorem tx_inj {a b : ByteArray} (h : tx a = tx b) : a = b := by rw [← ts_tx a, ← ts_tx b, h]
theorem tx_size (s : ByteArray) : s.size = (tx s).length := by cases s; rfl
theorem ts_size (l : Sg.Txt) : (ts l).size = l.length := rfl
theorem tx_app (a b : ByteArray) : tx (a ++ b) = tx a ++ tx b := by simp [tx, ByteArray.data_append]
theorem tx_cut (s : ByteArray) (i j : Nat) : tx (s.extract i j) = ((tx s).drop i).take (j - i) := by simp [tx, ByteArray.data_extract]
theorem tx_at (s : ByteArray) (i : Nat) : s[i]? = (tx s)[i]? := by
 by_cases h : i < s.size
 ·rw [ByteArray.getElem?_lt' s i h]
  have h2 : i < (tx s).length := by rw [← tx_size]; exact h
  rw [List.getElem?_eq_getElem h2]
  rfl
 ·rw [ByteArray.getElem?_ge' s i h, List.getElem?_eq_none (by rw [← tx_size]; omega)]
theorem tl_tx (s : ByteArray) : s.toList = tx s := ByteArray.toList_eq s
theorem ts_app (a b : Sg.Txt) : ts a ++ ts b = ts (a ++ b) := tx_inj (tx_app _ _)
theorem ts_inj {a b : Sg.Txt} : ts a = ts b ↔ a = b := ⟨fun h => by rw [← tx_ts a, ← tx_ts b, h], fun h => by rw [h]⟩
/-- a list of strings as cells -/
def strs (ls : List ByteArray) : List Value := ls.map Value.string
@[simp] theorem length_strs (ls : List ByteArray) : (strs ls).length = ls.length := by simp [strs]
theorem strs_at (ls : List ByteArray) (i : Nat) : (strs ls)[i]? = ls[i]?.map Value.string := by simp [strs]
theorem strs_snoc (ls : List ByteArray) (s : ByteArray) : strs ls ++ [.string s] = strs (ls ++ [s]) := by simp [strs]
theorem one_strs (ls : List ByteArray) : ∀ u ∈ strs ls, u.oneCell' = true := by intro u hu; simp only [strs, List.mem_map] at hu; obtain ⟨s, -, rfl⟩ := hu; rfl
theorem one_str (s : ByteArray) : ∀ u ∈ [Value.string s], u.oneCell' = true := by intro u hu; rw [List.mem_singleton] at hu; subst hu; rfl
theorem Rd.lenT {w : World} {A : Option Addr} {n : Nat} {l : List ByteArray} (h : Rd w 1 A n (strs l)) : l.length = n := by have := h.1; simp at this; omega
theorem Rd.atT {w : World} {A : Option Addr} {n : Nat} {l : List ByteArray} (h : Rd w 1 A n (strs l)) {k : Nat} (hk : k < n) :
  ∃ b o s, A = some ⟨b, o, none⟩ ∧ l[k]? = some s ∧ w.cell? ⟨b, o + k, none⟩ = some (.string s) := by
 have hl := h.lenT
 obtain ⟨h1, _, h2⟩ := h
 obtain ⟨b, o, rfl, h3⟩ := h2 (by omega)
 have hx : l[k]? = some l[k] := List.getElem?_eq_getElem (by omega)
 exact ⟨b, o, _, rfl, hx, h3 k _ (by rw [strs_at, hx]; rfl)⟩
theorem eiStr : EI Tryd.prog 71 9 1 16 (.string ByteArray.empty) := ⟨Tryd.underlying71, by kernel_rfl, rfl, by decide⟩
/-- a string cut at two places, from one on, up to one -/
theorem cutS (s : ByteArray) (i j : Int) (h0 : 0 ≤ i) (h1 : i ≤ j) (h2 : j ≤ s.size) (w : World) : (Instr.slice 9 (.string s) (some (.int .i64 i)) (some (.int .i64 j)) none).run Tryd.prog w = .ok (.string (s.extract i.toNat j.toNat)) w :=
 run_slice_string w 9 s .i64 .i64 i j Tryd.underlying9 h0 h1 h2
theorem cutF (s : ByteArray) (i : Int) (h0 : 0 ≤ i) (h1 : i ≤ s.size) (w : World) : (Instr.slice 9 (.string s) (some (.int .i64 i)) none none).run Tryd.prog w = .ok (.string (s.extract i.toNat s.size)) w := by
 rw [run_slice_string_from_if w 9 s .i64 i Tryd.underlying9, if_pos ⟨h0, h1⟩]
end Go.Proofs.YtdnlpklmihoapaaDoor
