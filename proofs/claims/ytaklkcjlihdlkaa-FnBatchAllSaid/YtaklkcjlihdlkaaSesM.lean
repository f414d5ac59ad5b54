/- Acts and shows in memory; the reference's session box. Conditions: none. -/
import Derived.Test.YtaklkcjlihdlkaaSepAll
import Derived.Test.YtaklkcjlihdlkaaPlS
namespace Go.Proofs.Ytaklkcjlihdlkaa
open Go.RowKit

theorem eiAct : EI Try.prog 26 39 3 24 (.agg #[.int .i64 0, .int .i64 0, .int .i64 0]) := ⟨Try.underlying26, by kernel_rfl, rfl, by decide⟩
theorem eiShow : EI Try.prog 32 35 2 16 (.agg #[.int .i64 0, .int .i64 0]) := ⟨Try.underlying32, by kernel_rfl, rfl, by decide⟩
def acs (a : Sg.Act) : List Value := [.int .i64 a.kind, .int .i64 a.node, .int .i64 a.val]
def acts (l : List Sg.Act) : List Value := l.flatMap acs
abbrev av (a : Sg.Act) : Value := .agg #[.int .i64 a.kind, .int .i64 a.node, .int .i64 a.val]
def shc (s : Sg.Show) : List Value := [.int .i64 s.node, .int .i64 s.val]
def shs (l : List Sg.Show) : List Value := l.flatMap shc
abbrev sv (s : Sg.Show) : Value := .agg #[.int .i64 s.node, .int .i64 s.val]
@[simp] theorem length_acts (l : List Sg.Act) : (acts l).length = l.length * 3 := length_flat acs 3 (fun _ => rfl) l
@[simp] theorem length_shs (l : List Sg.Show) : (shs l).length = l.length * 2 := length_flat shc 2 (fun _ => rfl) l
theorem acts_snoc (l : List Sg.Act) (a : Sg.Act) : acts l ++ acs a = acts (l ++ [a]) := by simp [acts]
theorem shs_snoc (l : List Sg.Show) (s : Sg.Show) : shs l ++ shc s = shs (l ++ [s]) := by simp [shs]
theorem shs_app (l m : List Sg.Show) : shs l ++ shs m = shs (l ++ m) := by simp [shs]
theorem one_acs (a : Sg.Act) : ∀ u ∈ acs a, u.oneCell' = true := by intro u hu; simp [acs] at hu; rcases hu with rfl | rfl | rfl <;> rfl
theorem one_shc (a : Sg.Show) : ∀ u ∈ shc a, u.oneCell' = true := by intro u hu; simp [shc] at hu; rcases hu with rfl | rfl <;> rfl
theorem one_shs (l : List Sg.Show) : ∀ u ∈ shs l, u.oneCell' = true := by intro u hu; unfold shs at hu; rw [List.mem_flatMap] at hu; obtain ⟨s, -, hu⟩ := hu; exact one_shc s u hu
theorem Rd.lenA {w : World} {A : Option Addr} {n : Nat} {l : List Sg.Act} (h : Rd w 3 A n (acts l)) : l.length = n := by have := h.1; simp at this; omega
theorem Rd.lenS {w : World} {A : Option Addr} {n : Nat} {l : List Sg.Show} (h : Rd w 2 A n (shs l)) : l.length = n := by have := h.1; simp at this; omega
theorem Rd.atA {w : World} {A : Option Addr} {n : Nat} {l : List Sg.Act} (h : Rd w 3 A n (acts l)) {k : Nat} (hk : k < n) :
  ∃ b o a, A = some ⟨b, o, none⟩ ∧ l[k]? = some a ∧ w.cell? ⟨b, o + k * 3, none⟩ = some (.int .i64 a.kind) ∧ w.cell? ⟨b, o + k * 3 + 1, none⟩ = some (.int .i64 a.node) ∧ w.cell? ⟨b, o + k * 3 + 2, none⟩ = some (.int .i64 a.val) := by
 have hl := h.lenA
 obtain ⟨h1, _, h2⟩ := h
 obtain ⟨b, o, rfl, h3⟩ := h2 (by omega)
 have hx : l[k]? = some l[k] := List.getElem?_eq_getElem (by omega)
 have hc : ∀ j u, j < 3 → (acs l[k])[j]? = some u → w.cell? ⟨b, o + k * 3 + j, none⟩ = some u := by
  intro j u hj hu
  have := h3 (k * 3 + j) u (by unfold acts; rw [at_flat acs 3 (fun _ => rfl) l k j hj hx]; exact hu)
  rwa [← Nat.add_assoc] at this
 exact ⟨b, o, _, rfl, hx, hc 0 _ (by omega) rfl, hc 1 _ (by omega) rfl, hc 2 _ (by omega) rfl⟩
theorem Rd.atS {w : World} {A : Option Addr} {n : Nat} {l : List Sg.Show} (h : Rd w 2 A n (shs l)) {k : Nat} (hk : k < n) :
  ∃ b o a, A = some ⟨b, o, none⟩ ∧ l[k]? = some a ∧ w.cell? ⟨b, o + k * 2, none⟩ = some (.int .i64 a.node) ∧ w.cell? ⟨b, o + k * 2 + 1, none⟩ = some (.int .i64 a.val) := by
 have hl := h.lenS
 obtain ⟨h1, _, h2⟩ := h
 obtain ⟨b, o, rfl, h3⟩ := h2 (by omega)
 have hx : l[k]? = some l[k] := List.getElem?_eq_getElem (by omega)
 have hc : ∀ j u, j < 2 → (shc l[k])[j]? = some u → w.cell? ⟨b, o + k * 2 + j, none⟩ = some u := by
  intro j u hj hu
  have := h3 (k * 2 + j) u (by unfold shs; rw [at_flat shc 2 (fun _ => rfl) l k j hj hx]; exact hu)
  rwa [← Nat.add_assoc] at this
 exact ⟨b, o, _, rfl, hx, hc 0 _ (by omega) rfl, hc 1 _ (by omega) rfl⟩

/-- the reference's session: its box and its two slices -/
structure SO (w : World) (B Bs : Nat) (A : Option Addr) (c : Nat) (g : Sg.Graph) (x : Sg.Ses) (Ap : Option Addr) (cp : Nat) (As : Option Addr) (cs : Nat) (fl : Int) : Prop where
 bx : Bx w Bs [.slice A g.length c, .int .i64 (x.opn : Int), .slice Ap x.pend.length cp, .slice As x.stop.length cs, .int .i64 fl]
 p : Own w B 3 1 Ap x.pend.length cp (ints x.pend)
 s : Own w B 4 1 As x.stop.length cs (bools x.stop)
 d1 : blk Ap ≠ some Bs
 d2 : blk As ≠ some Bs
 d3 : ∀ b, blk Ap = some b → blk As ≠ some b
 b : B ≤ Bs
section
variable {w w' : World} {B Bs c cp cs : Nat} {A Ap As : Option Addr} {g : Sg.Graph} {x : Sg.Ses} {fl : Int}
theorem SO.ext (h : SO w B Bs A c g x Ap cp As cs fl) (e : Ext w w') : SO w' B Bs A c g x Ap cp As cs fl := ⟨h.bx.ext e, h.p.ext e, h.s.ext e, h.d1, h.d2, h.d3, h.b⟩
/-- what lies above B, but is none of the session's, may change -/
theorem SO.mod {F : Nat → Prop} (h : SO w B Bs A c g x Ap cp As cs fl) (k : Mod F w w') (hF : ∀ b, F b → b ≠ Bs ∧ blk Ap ≠ some b ∧ blk As ≠ some b) : SO w' B Bs A c g x Ap cp As cs fl :=
 ⟨h.bx.mod k (fun e => (hF _ e).1 rfl), h.p.mod k (fun b hb e => (hF b e).2.1 hb), h.s.mod k (fun b hb e => (hF b e).2.2 hb), h.d1, h.d2, h.d3, h.b⟩
end
end Go.Proofs.Ytaklkcjlihdlkaa
