/- Lazy states of a valid graph are small. Conditions: those of the statements. -/
import Derived.Test.YtmelggoagbhieaaGreatMarksC
import Derived.Test.YtmelggoagbhieaaGreatLawP
import Derived.Test.YtmelggoagbhieaaGreatLazG0
namespace Go.Proofs.YtmelggoagbhieaaGreat
open Go.RowKit
theorem smallZ_of {g : Sg.Graph} {v v' q q' : List Int} {r : List (List Int)} (h : Sg.validL g ⟨v, r, q⟩ = true) (lv : v'.length = v.length) (lq : q'.length = q.length) : SmallZ ⟨v', r, q'⟩ := by
  obtain ⟨hG, hvl, hrl, hql, _⟩ := Sg.validL_shape h
  have h10 := Sg.validG_len10 hG
  have hv : v.length = g.length := hvl
  have hr : r.length = g.length := hrl
  have hq : q.length = g.length := hql
  have hs : ∀ l ∈ r, l.length ≤ 10 := reads_small h
  have ht := totL_small r 10 hs
  exact ⟨by show v'.length ≤ _; omega, by show r.length ≤ _; omega, fun l hl => Nat.le_trans (hs l hl) (by omega), by show totL r ≤ _; omega, by show q'.length ≤ _; omega⟩
theorem smallZ_nil : SmallZ ⟨[], [], []⟩ := ⟨by simp, by simp, by simp, by simp [totL], by simp⟩
end Go.Proofs.YtmelggoagbhieaaGreat
