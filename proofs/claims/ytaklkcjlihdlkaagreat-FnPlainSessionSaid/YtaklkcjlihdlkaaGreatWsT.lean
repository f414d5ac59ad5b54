/- Laws of the things beside a write's own. Conditions: none. -/
import Derived.Test.YtaklkcjlihdlkaaGreatSepAll
namespace Go.Proofs.YtaklkcjlihdlkaaGreat
open Go.RowKit
section
variable {B N N1 N2 cv cr ec nc cc cd : Nat} {k0 k1 k2 xs : List Value} {Av Ar Ac Ad : Option Addr} {v rn : List Int} {r : List (List Int)} {hs : List (Option Addr × Nat)} {W : World} {ts : List (Th B)}
theorem WS.tsS (h : WS B N N1 N2 k0 k1 k2 Av cv v Ar cr r hs ec Ac nc cc xs Ad cd rn ts W) : Sep ts W := h.2.2.2.2.2.2.2.2.2.2.2.2.2.2
theorem WS.tv (h : WS B N N1 N2 k0 k1 k2 Av cv v Ar cr r hs ec Ac nc cc xs Ad cd rn ts W) {t : Th B} (ht : t ∈ ts) {b : Nat} (hf : t.fp b) (e : blk Av = some b) : False := h.2.2.2.2.2.2.2.2.2.2.2.1 t (by simp [ht]) b e hf
theorem WS.tc (h : WS B N N1 N2 k0 k1 k2 Av cv v Ar cr r hs ec Ac nc cc xs Ad cd rn ts W) {t : Th B} (ht : t ∈ ts) {b : Nat} (hf : t.fp b) (e : blk Ac = some b) : False := h.2.2.2.1 t (by simp [ht]) b e hf
theorem Rd.lt1 {w : World} {A : Option Addr} {n : Nat} {l : List Int} (h : Rd w 1 A n (ints l)) (hn : 0 < n) {b : Nat} (hb : blk A = some b) : b < w.heap.size := by
 obtain ⟨b', o, x, rfl, _, hc⟩ := h.at1 hn
 have : b' = b := by simpa [blk] using hb
 subst this
 exact blt hc
end
end Go.Proofs.YtaklkcjlihdlkaaGreat
