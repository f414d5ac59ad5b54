/- Parts of one proof, joined. What the arguments of the laws read as: graphs, states, lists. Conditions: the form's own readings. What the code of a draw reads as. Conditions: the form's own readings. Closed facts of this seat's program. -/
import Derived.Test.YtdnlpklmihoapaaDoorLawAll
import Derived.Deep.Slices
import Derived.Deep.Fields
import Derived.ChangeSame
import Derived.KernelRfl
import Derived.Test.YtdnlpklmihoapaaDoorDrawOne
import Derived.Test.YtdnlpklmihoapaaDoorRows
import Derived.JoinedOf
import Derived.ProofKit
/- What the arguments of the laws read as: graphs, states, lists. Conditions: the form's own readings. -/
namespace Go.Proofs.YtdnlpklmihoapaaDoor
open Go.RowKit Go.ChangeShapes Go.WideShapes Go.Deep

theorem choose_list {α : Type} (n : Nat) (Q : Nat → α → Prop) (h : ∀ i, i < n → ∃ x, Q i x) : ∃ l : List α, l.length = n ∧ ∀ i x, l[i]? = some x → Q i x := by
 induction n with
 | zero => exact ⟨[], rfl, by simp⟩
 | succ n ih =>
  obtain ⟨l, hl, hQ⟩ := ih (fun i hi => h i (by omega))
  obtain ⟨x, hx⟩ := h n (by omega)
  refine ⟨l ++ [x], by simp [hl], fun i y hy => ?_⟩
  by_cases hi : i < n
  ·rw [List.getElem?_append_left (by omega)] at hy
   exact hQ i y hy
  ·have h1 := (List.getElem?_eq_some_iff.1 hy).1
   simp at h1
   obtain rfl : i = n := by omega
   rw [List.getElem?_append_right (by omega), hl] at hy
   simp at hy
   subst hy
   exact hx

section
variable {H : Type} {enc : TypeId × Value → H} {P : Program} {w : World} {base : Nat} {spare : Nat → Bool} {held : Bool}

theorem rd_fields {t : TypeId} {fs : Array Field} {fuel : Nat} {cs : List Value} {x : DataW H × List MemPlace} (hs : P.underlying t = some (.struct fs)) (hone : oneCellFields P fs = true) (hC : P.cellsOf t = fs.size) (h : DataW.trod enc P w base spare held fuel t cs = some x) :
  cs.length = fs.size ∧ ∃ n, ∀ (j : Nat) (f : Field), fs[j]? = some f → ∃ v y, cs[j]? = some v ∧ DataW.trod enc P w base spare held n f.type [v] = some y := by
 obtain ⟨ys, n, _, _, hcl, hyl, hf⟩ := DataW.trod_struct hs h
 refine ⟨by rw [hcl, hC], n, fun j f hj => ?_⟩
 obtain ⟨ho, hk⟩ := hone_of hone j f hj
 have hjl : j < fs.size := (Array.getElem?_eq_some_iff.1 hj).1
 have hv : cs[j]? = some (cs[j]'(by omega)) := List.getElem?_eq_getElem (by omega)
 have h1 := hf j f hj
 rw [ho, hk] at h1
 have hone' : (cs.drop j).take 1 = [cs[j]'(by omega)] := by
  rw [List.drop_eq_getElem_cons (by omega)]
  rfl
 rw [hone'] at h1
 have hys : ys[j]? = some (ys[j]'(by omega)) := List.getElem?_eq_getElem (by omega)
 exact ⟨_, _, hv, h1.trans hys⟩

/-- a slice whose elements have s cells each -/
theorem rd_slice {t e : TypeId} {s fuel : Nat} {cs : List Value} {x : DataW H × List MemPlace} (ht : P.underlying t = some (.slice e)) (hc : P.cellsOf e = s) (h0 : 0 < s) (h : DataW.trod enc P w base spare held fuel t cs = some x) :
  ∃ (A : Option Addr) (len cap n : Nat), cs = [.slice A len cap] ∧ len ≤ maxLen ∧ ∀ i, i < len → ∃ b o cs' y, A = some ⟨b, o, none⟩ ∧ cs'.length = s ∧ (∀ j u, cs'[j]? = some u → w.cell? ⟨b, o + (i * s + j), none⟩ = some u) ∧ DataW.trod enc P w base spare held n e cs' = some y := by
 rcases open_slice ht h with ⟨rfl, _⟩ | ⟨a, len, cap, m, n, D, Pl, rfl, _, hl, hm, hmm, _, hi⟩
 ·exact ⟨none, 0, 0, 0, rfl, by unfold maxLen; omega, fun i hi => by omega⟩
 ·refine ⟨some a, len, cap, n, rfl, Nat.le_trans hl hm, fun i hil => ?_⟩
  have him : i < m := by rw [hmm]; split <;> omega
  obtain ⟨cs', hcs, ht'⟩ := hi i him
  rw [hc] at hcs
  obtain ⟨_, hlen, hat⟩ := World.cells?_some hcs
  have hat' : ∀ j u, cs'[j]? = some u → w.cell? (a.add (i * s + j)) = some u := by
   intro j u hu
   have hj : j < s := by rw [← hlen]; exact (List.getElem?_eq_some_iff.1 hu).1
   have := hat j hj
   rw [hu] at this
   rw [← this]
   congr 1
   unfold Addr.add
   by_cases h1 : i * s = 0 <;> by_cases h2 : j = 0 <;> simp [h1, h2, Nat.add_assoc]
  have hsp : a.spot = none := by
   obtain ⟨cs0, hcs0, _⟩ := hi 0 (by omega)
   rw [hc] at hcs0
   obtain ⟨_, hlen0, hat0⟩ := World.cells?_some hcs0
   have hu0 : cs0[0]? = some (cs0[0]'(by omega)) := List.getElem?_eq_getElem (by omega)
   have := hat0 0 h0
   rw [hu0] at this
   have e : (a.add (0 * s)).add 0 = a := by unfold Addr.add; simp
   rw [e] at this
   exact World.cell?_spot this
  obtain ⟨b, o, sp⟩ := a
  simp only at hsp
  subst hsp
  exact ⟨b, o, cs', _, rfl, hlen, fun j u hu => by have := hat' j u hu; rwa [add0] at this, ht'⟩
end

section
variable {H : Type} {enc : TypeId × Value → H} {w : World} {base : Nat} {spare : Nat → Bool} {held : Bool}
theorem rd_int {n : Nat} {cs : List Value} {x : DataW H × List MemPlace} (h : DataW.trod enc Tryd.prog w base spare held n 3 cs = some x) : ∃ z : Int, cs = [.int .i64 z] := by
 obtain ⟨z, hz, _⟩ := DataW.trod_int Tryd.underlying3 h
 exact ⟨z, hz⟩
theorem rd_ints {n : Nat} {cs : List Value} {x : DataW H × List MemPlace} (h : DataW.trod enc Tryd.prog w base spare held n 25 cs = some x) : ∃ (A : Option Addr) (c : Nat) (l : List Int), cs = [.slice A l.length c] ∧ Rd w 1 A l.length (ints l) := by
 obtain ⟨A, len, cap, m, rfl, hm, hi⟩ := rd_slice Tryd.underlying25 (show Tryd.prog.cellsOf 3 = 1 by kernel_rfl) (by omega) h
 obtain ⟨l, hl, hQ⟩ := choose_list len (fun i z => ∃ b o, A = some ⟨b, o, none⟩ ∧ w.cell? ⟨b, o + i, none⟩ = some (.int .i64 z)) (fun i hil => by
  obtain ⟨b, o, cs', y, ha, _, hat, ht⟩ := hi i hil
  obtain ⟨z, rfl⟩ := rd_int ht
  exact ⟨z, b, o, ha, by have := hat 0 _ rfl; simpa using this⟩)
 subst hl
 refine ⟨A, cap, l, rfl, by simp, hm, fun h0 => ?_⟩
 have hp : 0 < l.length := by omega
 obtain ⟨b, o, ha, _⟩ := hQ 0 _ (List.getElem?_eq_getElem hp)
 refine ⟨b, o, ha, fun j u hu => ?_⟩
 rw [ints_at] at hu
 cases hj : l[j]? with
 | none => simp [hj] at hu
 | some z =>
  simp [hj] at hu
  subst hu
  obtain ⟨b', o', ha', hc⟩ := hQ j z hj
  rw [ha] at ha'
  simp only [Option.some.injEq, Addr.mk.injEq, and_true] at ha'
  obtain ⟨rfl, rfl⟩ := ha'
  exact hc
theorem rd_part {n : Nat} {cs : List Value} {x : DataW H × List MemPlace} (h : DataW.trod enc Tryd.prog w base spare held n 155 cs = some x) : ∃ p : Sg.Part, cs = pcs p := by
 obtain ⟨hl, m, hf⟩ := rd_fields Tryd.underlying155 (by kernel_rfl) (by kernel_rfl) h
 obtain ⟨v0, y0, h0, g0⟩ := hf 0 _ rfl
 obtain ⟨z0, e0⟩ := rd_int g0
 simp only [List.cons.injEq, and_true] at e0
 subst e0
 obtain ⟨v1, y1, h1, g1⟩ := hf 1 _ rfl
 obtain ⟨z1, e1⟩ := rd_int g1
 simp only [List.cons.injEq, and_true] at e1
 subst e1
 obtain ⟨v2, y2, h2, g2⟩ := hf 2 _ rfl
 obtain ⟨z2, e2⟩ := rd_int g2
 simp only [List.cons.injEq, and_true] at e2
 subst e2
 obtain ⟨v3, y3, h3, g3⟩ := hf 3 _ rfl
 obtain ⟨z3, e3⟩ := rd_int g3
 simp only [List.cons.injEq, and_true] at e3
 subst e3
 obtain ⟨v4, y4, h4, g4⟩ := hf 4 _ rfl
 obtain ⟨z4, e4⟩ := rd_int g4
 simp only [List.cons.injEq, and_true] at e4
 subst e4
 refine ⟨⟨z0, z1, z2, z3, z4⟩, ?_⟩
 change cs.length = 5 at hl
 match cs, hl with
 | [c0, c1, c2, c3, c4], _ =>
  simp only [List.getElem?_cons_zero, List.getElem?_cons_succ, Option.some.injEq] at h0 h1 h2 h3 h4
  subst h0 h1 h2 h3 h4
  rfl
theorem rd_parts {n : Nat} {cs : List Value} {x : DataW H × List MemPlace} (h : DataW.trod enc Tryd.prog w base spare held n 97 cs = some x) : ∃ (A : Option Addr) (c : Nat) (f : List Sg.Part), cs = [.slice A f.length c] ∧ Rd w 5 A f.length (parts f) := by
 obtain ⟨A, len, cap, m, rfl, hm, hi⟩ := rd_slice Tryd.underlying97 (show Tryd.prog.cellsOf 155 = 5 by kernel_rfl) (by omega) h
 obtain ⟨l, hl, hQ⟩ := choose_list len (fun i p => ∃ b o, A = some ⟨b, o, none⟩ ∧ ∀ j u, (pcs p)[j]? = some u → w.cell? ⟨b, o + (i * 5 + j), none⟩ = some u) (fun i hil => by
  obtain ⟨b, o, cs', y, ha, _, hat, ht⟩ := hi i hil
  obtain ⟨p, rfl⟩ := rd_part ht
  exact ⟨p, b, o, ha, hat⟩)
 subst hl
 refine ⟨A, cap, l, rfl, by simp, hm, fun h0 => ?_⟩
 have hp : 0 < l.length := by omega
 obtain ⟨b, o, ha, _⟩ := hQ 0 _ (List.getElem?_eq_getElem hp)
 refine ⟨b, o, ha, fun j u hu => ?_⟩
 have hj : j < l.length * 5 := by have := (List.getElem?_eq_some_iff.1 hu).1; simpa using this
 have hq : j / 5 < l.length := by omega
 obtain ⟨b', o', ha', hc⟩ := hQ (j / 5) _ (List.getElem?_eq_getElem hq)
 rw [ha] at ha'
 simp only [Option.some.injEq, Addr.mk.injEq, and_true] at ha'
 obtain ⟨rfl, rfl⟩ := ha'
 have e := at_flat pcs 5 (fun _ => rfl) l (j / 5) (j % 5) (Nat.mod_lt _ (by omega)) (List.getElem?_eq_getElem hq)
 rw [show j / 5 * 5 + j % 5 = j from by omega] at e
 have := hc (j % 5) u (by rw [← e]; exact hu)
 rwa [show j / 5 * 5 + j % 5 = j from by omega] at this
theorem rd_formula {n : Nat} {cs : List Value} {x : DataW H × List MemPlace} (h : DataW.trod enc Tryd.prog w base spare held n 99 cs = some x) : ∃ (A : Option Addr) (c : Nat) (f : List Sg.Part), cs = [.slice A f.length c] ∧ Rd w 5 A f.length (parts f) := by
 obtain ⟨hl, m, hf⟩ := rd_fields Tryd.underlying99 (by kernel_rfl) (by kernel_rfl) h
 obtain ⟨v, y, hv, hy⟩ := hf 0 _ rfl
 obtain ⟨A, c, f, hz, hr⟩ := rd_parts hy
 change cs.length = 1 at hl
 match cs, hl with
 | [c0], _ =>
  simp only [List.getElem?_cons_zero, Option.some.injEq] at hv
  subst hv
  exact ⟨A, c, f, hz, hr⟩
theorem rd_nodes {n : Nat} {cs : List Value} {x : DataW H × List MemPlace} (h : DataW.trod enc Tryd.prog w base spare held n 22 cs = some x) : ∃ (A : Option Addr) (c : Nat) (g : Sg.Graph), cs = [.slice A g.length c] ∧ RdN0 w A g := by
 obtain ⟨A, len, cap, m, rfl, hm, hi⟩ := rd_slice Tryd.underlying22 (show Tryd.prog.cellsOf 101 = 2 by kernel_rfl) (by omega) h
 obtain ⟨l, hl, hQ⟩ := choose_list len (fun i (n : Sg.Node) => ∃ b o Ap cp, A = some ⟨b, o, none⟩ ∧ w.cell? ⟨b, o + i * 2, none⟩ = some (.int .i64 n.kind) ∧
   w.cell? ⟨b, o + i * 2 + 1, none⟩ = some (.slice Ap n.f.length cp) ∧ Rd w 5 Ap n.f.length (parts n.f)) (fun i hil => by
  obtain ⟨b, o, cs', y, ha, hlen, hat, ht⟩ := hi i hil
  obtain ⟨_, m2, hf⟩ := rd_fields Tryd.underlying101 (by kernel_rfl) (by kernel_rfl) ht
  obtain ⟨v0, y0, hv0, hy0⟩ := hf 0 _ rfl
  obtain ⟨v1, y1, hv1, hy1⟩ := hf 1 _ rfl
  obtain ⟨z, hz⟩ := rd_int hy0
  obtain ⟨Ap, cp, f, hf1, hr⟩ := rd_formula hy1
  simp only [List.cons.injEq, and_true] at hz hf1
  subst hz hf1
  refine ⟨⟨z, f⟩, b, o, Ap, cp, ha, ?_, ?_, hr⟩
  ·have := hat 0 _ hv0; simpa using this
  ·have := hat 1 _ hv1; rwa [← Nat.add_assoc] at this)
 subst hl
 exact ⟨A, cap, l, rfl, hm, hQ⟩
variable {r : Reach} {b0 : Nat} {v : Value} {d : DataW H} {ps : List MemPlace}
set_option maxRecDepth 100000 in
theorem arg_ints (hw : Value.okWide Tryd.prog w r b0 25 v) (h : DataW.Trod enc Tryd.prog w base spare held 25 v d ps) : ∃ (A : Option Addr) (c : Nat) (l : List Int), v = .slice A l.length c ∧ Rd w 1 A l.length (ints l) := by
 obtain ⟨A0, n0, c0, rfl⟩ := okWide_slice Tryd.underlying25 hw
 obtain ⟨fuel, hf⟩ := h
 obtain ⟨A, c, l, hc, hr⟩ := rd_ints hf
 simp only [Value.cells, List.cons.injEq, Value.slice.injEq, and_true] at hc
 obtain ⟨rfl, rfl, rfl⟩ := hc
 exact ⟨_, _, l, rfl, hr⟩
set_option maxRecDepth 100000 in
theorem arg_graph (hw : Value.okWide Tryd.prog w r b0 24 v) (h : DataW.Trod enc Tryd.prog w base spare held 24 v d ps) : ∃ (A : Option Addr) (c : Nat) (g : Sg.Graph), v = .agg #[.slice A g.length c] ∧ RdN0 w A g := by
 obtain ⟨cs, rfl, hsz⟩ := okWide_struct Tryd.underlying24 hw
 obtain ⟨cs⟩ := cs
 obtain ⟨fuel, hf⟩ := h
 obtain ⟨hl, m, hf⟩ := rd_fields Tryd.underlying24 (by kernel_rfl) (by kernel_rfl) hf
 obtain ⟨v, y, hv, hy⟩ := hf 0 _ rfl
 obtain ⟨A, c, g, hz, hr⟩ := rd_nodes hy
 change cs[0]? = some v at hv
 change cs.length = 1 at hl
 match cs, hl with
 | [c0], _ =>
  simp only [List.getElem?_cons_zero, Option.some.injEq] at hv
  subst hv
  simp only [List.cons.injEq, and_true] at hz
  subst hz
  exact ⟨A, c, g, rfl, hr⟩
end
end Go.Proofs.YtdnlpklmihoapaaDoor

/- What the code of a draw reads as. Conditions: the form's own readings. -/
namespace Go.Proofs.YtdnlpklmihoapaaDoor
open Go.RowKit Go.ChangeShapes Go.WideShapes Go.Deep
section
variable {H : Type} {enc : TypeId × Value → H} {w : World} {base : Nat} {spare : Nat → Bool} {held : Bool}
theorem rd_u8 {n : Nat} {cs : List Value} {x : DataW H × List MemPlace} (h : DataW.trod enc Tryd.prog w base spare held n 5 cs = some x) : ∃ z : Int, cs = [.int .u8 z] ∧ 0 ≤ z ∧ z ≤ 255 := by
 obtain ⟨z, hz, _, hw⟩ := DataW.trod_int Tryd.underlying5 h
 refine ⟨z, hz, ?_⟩
 simp only [Lit.wf, Bool.and_eq_true, decide_eq_true_eq] at hw
 simp [IntKind.min, IntKind.max, IntKind.signed, IntKind.bits] at hw
 omega
theorem rd_bytes {n : Nat} {cs : List Value} {x : DataW H × List MemPlace} (h : DataW.trod enc Tryd.prog w base spare held n 36 cs = some x) : ∃ (A : Option Addr) (c : Nat) (l : List Int), cs = [.slice A l.length c] ∧ Rd w 1 A l.length (u8s l) ∧ (∀ x ∈ l, 0 ≤ x ∧ x ≤ 255) ∧ l.length ≤ c ∧ c ≤ maxLen := by
 have hcap : ∃ A len cap, cs = [.slice A len cap] ∧ len ≤ cap ∧ cap ≤ maxLen := by
  rcases open_slice Tryd.underlying36 h with ⟨rfl, _⟩ | ⟨a, len, cap, m, n, D, Pl, rfl, _, hl, hm, hmm, _, hi⟩
  ·exact ⟨none, 0, 0, rfl, Nat.le_refl _, by unfold maxLen; omega⟩
  ·exact ⟨some a, len, cap, rfl, hl, hm⟩
 obtain ⟨A, len, cap, m, rfl, hm, hi⟩ := rd_slice Tryd.underlying36 (show Tryd.prog.cellsOf 5 = 1 by kernel_rfl) (by omega) h
 obtain ⟨A1, len1, cap1, he, h1, h2⟩ := hcap
 simp only [List.cons.injEq, Value.slice.injEq, and_true] at he
 obtain ⟨rfl, rfl, rfl⟩ := he
 obtain ⟨l, hl, hQ⟩ := choose_list len (fun i z => (∃ b o, A = some ⟨b, o, none⟩ ∧ w.cell? ⟨b, o + i, none⟩ = some (.int .u8 z)) ∧ 0 ≤ z ∧ z ≤ 255) (fun i hil => by
  obtain ⟨b, o, cs', y, ha, _, hat, ht⟩ := hi i hil
  obtain ⟨z, rfl, hz⟩ := rd_u8 ht
  exact ⟨z, ⟨b, o, ha, by have := hat 0 _ rfl; simpa using this⟩, hz⟩)
 subst hl
 refine ⟨A, cap, l, rfl, ⟨by simp, hm, fun h0 => ?_⟩, fun x hx => ?_, h1, h2⟩
 ·have hp : 0 < l.length := by omega
  obtain ⟨⟨b, o, ha, _⟩, _⟩ := hQ 0 _ (List.getElem?_eq_getElem hp)
  refine ⟨b, o, ha, fun j u hu => ?_⟩
  rw [u8s_at] at hu
  cases hj : l[j]? with
  | none => simp [hj] at hu
  | some z =>
   simp [hj] at hu
   subst hu
   obtain ⟨⟨b', o', ha', hc⟩, _⟩ := hQ j z hj
   rw [ha] at ha'
   simp only [Option.some.injEq, Addr.mk.injEq, and_true] at ha'
   obtain ⟨rfl, rfl⟩ := ha'
   exact hc
 ·obtain ⟨i, hx⟩ := List.getElem?_of_mem hx
  exact (hQ i x hx).2
variable {r : Reach} {b0 : Nat} {v : Value} {d : DataW H} {ps : List MemPlace}
set_option maxRecDepth 100000 in
theorem arg_bytes (hw : Value.okWide Tryd.prog w r b0 36 v) (h : DataW.Trod enc Tryd.prog w base spare held 36 v d ps) : ∃ (A : Option Addr) (c : Nat) (l : List Int), v = .slice A l.length c ∧ Rd w 1 A l.length (u8s l) ∧ (∀ x ∈ l, 0 ≤ x ∧ x ≤ 255) ∧ l.length ≤ c ∧ c ≤ maxLen := by
 obtain ⟨A0, n0, c0, rfl⟩ := okWide_slice Tryd.underlying36 hw
 obtain ⟨fuel, hf⟩ := h
 obtain ⟨A, c, l, hc, hr⟩ := rd_bytes hf
 simp only [Value.cells, List.cons.injEq, Value.slice.injEq, and_true] at hc
 obtain ⟨rfl, rfl, rfl⟩ := hc
 exact ⟨_, _, l, rfl, hr⟩
end
end Go.Proofs.YtdnlpklmihoapaaDoor

/- Closed facts of this seat's program. -/
namespace Go.Proofs.YtdnlpklmihoapaaDoor
open Go.ChangeShapes Go.WideShapes Go.ChangeAt Go.RowKit
theorem p2 : (laidOutB Tryd.prog) = true := by kernel_rfl
theorem p3 : (mapsRowed Tryd.prog) = true := by kernel_rfl
theorem p7 : ((Tryd.prog.stops == [])) = true := by kernel_rfl
theorem p9 : ((Tryd.prog.stopKnobs == [])) = true := by kernel_rfl
theorem p23 : ((Rows.fnExactFormatGraphRow.plainKeys == Tryd.prog.plainKeys)) = true := by kernel_rfl
theorem p25 : (Tryd.prog.stopsHeard) = true := by kernel_rfl
theorem p26 : (Tryd.prog.mayEnter) = true := by kernel_rfl
theorem p27 : ((Rows.fnExactFormatGraphRow.lifted == Tryd.prog.liftsFinal)) = true := by kernel_rfl
theorem p28 : ((Tryd.prog.make == some Rows.fnExactFormatGraphRow.make)) = true := by kernel_rfl
end Go.Proofs.YtdnlpklmihoapaaDoor
