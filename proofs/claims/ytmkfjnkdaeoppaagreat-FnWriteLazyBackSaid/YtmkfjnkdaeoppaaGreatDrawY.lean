/- What holds while arguments of the lazy machine are drawn: the results' boxes, the drawn graph's and state's boxes, the reader. Conditions: none. -/
import Derived.Test.YtmkfjnkdaeoppaaGreatDrawZ
namespace Go.Proofs.YtmkfjnkdaeoppaaGreat
open Go.RowKit

structure DQY (w : World) (R T P : Nat) (A : Option Addr) (c : Nat) (g : Sg.Graph) (Av : Option Addr) (cv : Nat) (v : List Int) (Ar : Option Addr) (cr : Nat) (r : List (List Int)) (Aq : Option Addr) (cq : Nat) (q : List Int) (t : Nat) (W : World) : Prop where
 lb : Bx W w.heap.size [.slice none 0 0]
 lc : Bx W (w.heap.size + 1) [.slice none 0 0, .slice none 0 0, .slice none 0 0]
 gb : Bx W P [.slice A g.length c]
 pb : Bx W (P + 1) [.slice Av v.length cv, .slice Ar r.length cr, .slice Aq q.length cq]
 rd : Rdr W R t
 ex : Ext w W
 ok : ∀ X, Mod (fun b => b ≤ R ∨ b < T ∨ P ≤ b) W X → RdN X A g ∧ Rd X 1 Av v.length (ints v) ∧ RdLC X Ar r ∧ Rd X 1 Aq q.length (ints q)
 hR : R = w.heap.size + 1 + 1
 hT : R < T
 hP : T ≤ P
section
variable {w W W' : World} {R T P c cv cr cq t : Nat} {A Av Ar Aq : Option Addr} {g : Sg.Graph} {v q : List Int} {r : List (List Int)}
theorem DQY.cells (h : DQY w R T P A c g Av cv v Ar cr r Aq cq q t W) : W.cell? ⟨P, 0, none⟩ = some (.slice A g.length c) ∧ W.cell? ⟨P + 1, 0, none⟩ = some (.slice Av v.length cv) ∧ W.cell? ⟨P + 1, 1, none⟩ = some (.slice Ar r.length cr) ∧ W.cell? ⟨P + 1, 2, none⟩ = some (.slice Aq q.length cq) :=
 ⟨h.gb.cell (j := 0) rfl, h.pb.cell (j := 0) rfl, h.pb.cell (j := 1) rfl, h.pb.cell (j := 2) rfl⟩
theorem DQY.size (h : DQY w R T P A c g Av cv v Ar cr r Aq cq q t W) : P + 1 < W.heap.size := h.pb.lt
theorem DQY.ext (h : DQY w R T P A c g Av cv v Ar cr r Aq cq q t W) (e : Ext W W') : DQY w R T P A c g Av cv v Ar cr r Aq cq q t W' :=
 ⟨h.lb.ext e, h.lc.ext e, h.gb.ext e, h.pb.ext e, h.rd.ext e, h.ex.tr e, fun X hX => h.ok X ((Mod.of e).tr' hX), h.hR, h.hT, h.hP⟩
theorem DQY.draw (h : DQY w R T P A c g Av cv v Ar cr r Aq cq q t W) {t' : Nat} (k : Mod (fun b => b = R) W W') (hr : Rdr W' R t') : DQY w R T P A c g Av cv v Ar cr r Aq cq q t' W' := by
 have h1 := h.hR; have h2 := h.hT; have h3 := h.hP
 exact ⟨h.lb.mod k (by omega), h.lc.mod k (by omega), h.gb.mod k (by omega), h.pb.mod k (by omega), hr, Ext.md h.ex k (fun b e => by omega), fun X hX => h.ok X ((k.mono (fun b _ e => by omega)).tr' hX), h1, h2, h3⟩
/-- something of one's own, behind the boxes, grew -/
theorem DQY.grow (h : DQY w R T P A c g Av cv v Ar cr r Aq cq q t W) {A2 : Option Addr} (hg : W.grownBy W' (blk A2)) (hb : ∀ b, blk A2 = some b → P + 2 ≤ b) : DQY w R T P A c g Av cv v Ar cr r Aq cq q t W' := by
 have h1 := h.hR; have h2 := h.hT; have h3 := h.hP
 have m := (Mod.rfl' (fun b => blk A2 = some b) W).gr hg (fun b e => .inl e)
 exact ⟨h.lb.mod m (fun e => by have := hb _ e; omega), h.lc.mod m (fun e => by have := hb _ e; omega), h.gb.mod m (fun e => by have := hb _ e; omega), h.pb.mod m (fun e => by have := hb _ e; omega), h.rd.mod m (fun b e => by have := hb b e; omega), Ext.md h.ex m (fun b e => by have := hb b e; omega), fun X hX => h.ok X ((m.mono (fun b _ e => by have := hb b e; omega)).tr' hX), h1, h2, h3⟩
end
end Go.Proofs.YtmkfjnkdaeoppaaGreat
