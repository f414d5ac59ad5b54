/- The reference's historyOf and DrawMoveHistory: contracts. Conditions: bounds on the number of draws; the code can be read. -/
import Derived.Test.YteighpaljdlnaaaTy
import Derived.Test.YteighpaljdlnaaaDrawTwo
import Derived.Test.YteighpaljdlnaaaSpecThree
import Derived.Test.YteighpaljdlnaaaSepAll
import Derived.IntWalk
namespace Go.Proofs.Yteighpaljdlnaaa
open Go.RowKit

theorem OwnL.putW {w : World} {B c : Nat} {A : Option Addr} {ll : List (List Int)} {hs : List (Option Addr × Nat)} (k : OwnL w B A c ll hs) {i : Nat} (hi : i < ll.length) (l : List Int) {A0 : Option Addr} {c0 : Nat}
  (own : Own w B 3 1 A0 l.length c0 (ints l)) (hd : ∀ b, blk A0 = some b → ¬ fpD A hs b) {g : Nat} (hA : A = some ⟨g, 0, none⟩) : OwnL (w.setCell ⟨g, i, none⟩ (.slice A0 l.length c0)) B A c (ll.set i l) (hs.set i (A0, c0)) := by
 subst hA
 have hlen : hs.length = ll.length := by have := k.len; simpa using this
 have hits : listIts (ll.set i l) = (listIts ll).set i ⟨[], l.length, ints l⟩ := by simp [listIts, List.map_set]
 have hpre : ∀ x ∈ listIts ll, x.pre = [] := by
  intro x hx
  unfold listIts at hx
  rw [List.mem_map] at hx
  obtain ⟨y, _, rfl⟩ := hx
  rfl
 have hother : ∀ b, b ≠ g → (w.setCell ⟨g, i, none⟩ (.slice A0 l.length c0)).heap[b]? = w.heap[b]? := fun b hb => Below.heap_setCell _ _ _ _ hb
 have hg0 : ∀ b, blk A0 = some b → b ≠ g := fun b hb e => hd b hb (.inl (by subst e; rfl))
 have hin0 : ∀ (j : Nat) (h : Option Addr × Nat), hs[j]? = some h → ∀ b, blk A0 = some b → blk h.1 ≠ some b := fun j h hh b hb e => hd b hb (.inr ⟨h, List.mem_of_getElem? hh, e⟩)
 refine ⟨by simp [hlen], ?_, ?_, ?_, ?_⟩
 ·have h1 := k.out.st i (.slice A0 l.length c0)
  rw [dcells_put (listIts ll) hs i ⟨[], l.length, ints l⟩ A0 c0 hpre rfl (by simpa using hlen) (by simpa using hi)] at h1
  rw [hits]
  simpa using h1
 ·intro j it h hj hh
  rw [hits] at hj
  by_cases hij : j = i
  ·subst hij
   rw [List.getElem?_set_self (by simpa using hi)] at hj
   rw [List.getElem?_set_self (by omega)] at hh
   injection hj with hj
   injection hh with hh
   subst hj
   subst hh
   exact own.keep fun b hb => hother b (hg0 b hb)
  ·rw [List.getElem?_set_ne (fun e => hij e.symm)] at hj hh
   refine (k.inn j it h hj hh).keep fun b hb => hother b (fun e2 => ?_)
   subst e2
   exact k.dio j h hh b rfl hb
 ·intro a b h h' hab hh hh' x hx hx'
  by_cases h1 : a = i
  ·subst h1
   rw [List.getElem?_set_self (by omega)] at hh
   injection hh with hh
   subst hh
   rw [List.getElem?_set_ne (by omega)] at hh'
   exact hin0 b h' hh' x hx hx'
  ·rw [List.getElem?_set_ne (fun e => h1 e.symm)] at hh
   by_cases h2 : b = i
   ·subst h2
    rw [List.getElem?_set_self (by omega)] at hh'
    injection hh' with hh'
    subst hh'
    exact hin0 a h hh x hx' hx
   ·rw [List.getElem?_set_ne (fun e => h2 e.symm)] at hh'
    exact k.dis a b h h' hab hh hh' x hx hx'
 ·intro a h hh b hb hb'
  by_cases h1 : a = i
  ·subst h1
   rw [List.getElem?_set_self (by omega)] at hh
   injection hh with hh
   subst hh
   simp [blk] at hb
   exact hg0 b hb' hb.symm
  ·rw [List.getElem?_set_ne (fun e => h1 e.symm)] at hh
   exact k.dio a h hh b hb hb'

structure HQ (w : World) (R P Q : Nat) (A : Option Addr) (c : Nat) (g : Sg.Graph) (Ah : Option Addr) (ch : Nat) (hs : List (Option Addr × Nat)) (ll : List (List Int)) (hv : List Value) (t : Nat) (W : World) : Prop where
 lb : Bx W w.heap.size [.slice none 0 0]
 mb : Bx W (w.heap.size + 1) [.slice none 0 0, .int .i64 0]
 gb : Bx W P [.slice A g.length c]
 hb : Bx W Q hv
 rd : Rdr W R t
 mo : Mod (fun b => b = R) w W
 ok : ∀ X, Mod (fun b => b < w.heap.size + 2 ∨ P ≤ b) W X → RdN X A g
 ol : OwnL W (P + 1) Ah ch ll hs
 nq : ¬ fpD Ah hs Q
 hR : R < w.heap.size
 hP : w.heap.size + 2 ≤ P
 hQ : P < Q
section
variable {w W W' : World} {R P Q c ch t : Nat} {A Ah : Option Addr} {g : Sg.Graph} {hs : List (Option Addr × Nat)} {ll : List (List Int)} {hv : List Value}
theorem HQ.reads (h : HQ w R P Q A c g Ah ch hs ll hv t W) : RdN W A g := h.ok W (Mod.rfl' _ _)
theorem HQ.ext (h : HQ w R P Q A c g Ah ch hs ll hv t W) (e : Ext W W') : HQ w R P Q A c g Ah ch hs ll hv t W' := ⟨h.lb.ext e, h.mb.ext e, h.gb.ext e, h.hb.ext e, h.rd.ext e, h.mo.tr' (Mod.of e), fun X hX => h.ok X ((Mod.of e).tr' hX), OwnD.ext h.ol e, h.nq, h.hR, h.hP, h.hQ⟩
theorem HQ.draw (h : HQ w R P Q A c g Ah ch hs ll hv t W) {t' : Nat} (k : Mod (fun b => b = R) W W') (hr : Rdr W' R t') : HQ w R P Q A c g Ah ch hs ll hv t' W' := by
 have h1 := h.hR; have h2 := h.hP; have h3 := h.hQ
 exact ⟨h.lb.mod k (by omega), h.mb.mod k (by omega), h.gb.mod k (by omega), h.hb.mod k (by omega), hr, h.mo.tr' k, fun X hX => h.ok X ((k.mono (fun b _ e => .inl (by omega))).tr' hX), OwnD.mod h.ol k (fun b hb e => by have := (OwnD.lt h.ol hb).1; omega), h.nq, h1, h2, h3⟩
/-- a step that turns what lies behind the graph's box, but not the history's box -/
theorem HQ.step (h : HQ w R P Q A c g Ah ch hs ll hv t W) {F : Nat → Prop} {Ah' : Option Addr} {ch' : Nat} {hs' : List (Option Addr × Nat)} {ll' : List (List Int)} (k : Mod F W W') (hF : ∀ b, F b → P < b ∧ b ≠ Q) (ol : OwnL W' (P + 1) Ah' ch' ll' hs') (nq : ¬ fpD Ah' hs' Q) : HQ w R P Q A c g Ah' ch' hs' ll' hv t W' := by
 have h1 := h.hR; have h2 := h.hP; have h3 := h.hQ
 exact ⟨h.lb.mod k (fun e => by have := hF _ e; omega), h.mb.mod k (fun e => by have := hF _ e; omega), h.gb.mod k (fun e => by have := hF _ e; omega), h.hb.mod k (fun e => (hF _ e).2 rfl), h.rd.mod k (fun b e => by have := hF _ e; omega), h.mo.tr k (fun b e => .inr (by have := hF _ e; omega)), fun X hX => h.ok X ((k.mono (fun b _ e => .inr (by have := hF _ e; omega))).tr' hX), ol, nq, h1, h2, h3⟩
theorem HQ.put (h : HQ w R P Q A c g Ah ch hs ll hv t W) (j : Nat) (u : Value) : HQ w R P Q A c g Ah ch hs ll (hv.set j u) t (W.setCell ⟨Q, j, none⟩ u) := by
 have h1 := h.hR; have h2 := h.hP; have h3 := h.hQ
 have m : Mod (fun b => b = Q) W (W.setCell ⟨Q, j, none⟩ u) := Mod.set (F := fun b => b = Q) (Mod.rfl' _ W) (p := ⟨Q, j, none⟩) (.inl rfl) _
 exact ⟨h.lb.mod m (by omega), h.mb.mod m (by omega), h.gb.mod m (by omega), h.hb.set j u, h.rd.mod m (fun b e => by omega), h.mo.tr m (fun b e => .inr (by omega)), fun X hX => h.ok X ((m.mono (fun b _ e => .inr (by omega))).tr' hX), OwnD.set h.ol h.nq u, h.nq, h1, h2, h3⟩
theorem HQ.app (h : HQ w R P Q A c g Ah ch hs ll hv t W) {S : Nat} (hS : ∀ b, fpD Ah hs b → b < S) (hQS : Q < S) {l : List Int} {A8 A9 : Option Addr} {c8 c9 : Nat} (own : Own W S 3 1 A8 l.length c8 (ints l)) (hSW : S ≤ W.heap.size)
  (out : Own W' (P + 1) 26 1 A9 (ll.length + 1) c9 (dcells (listIts ll) hs ++ [.slice A8 l.length c8])) (hg : W.grownBy W' (blk Ah)) (hat : blk A9 = blk Ah ∨ ∃ x, blk A9 = some x ∧ W.heap.size ≤ x) : HQ w R P Q A c g A9 c9 (hs ++ [(A8, c8)]) (ll ++ [l]) hv t W' := by
 have h3 := h.hQ
 have hits : listIts (ll ++ [l]) = listIts ll ++ [⟨[], l.length, ints l⟩] := by simp [listIts]
 have hnq : ¬ fpD A9 (hs ++ [(A8, c8)]) Q := by
  rintro (e | ⟨x, hx, e⟩)
  ·rcases hat with hat | ⟨x, hx, hle⟩
   ·exact h.nq (.inl (by rw [← hat]; exact e))
   ·rw [hx] at e; injection e with e; omega
  ·rcases List.mem_append.1 hx with hx | hx
   ·exact h.nq (.inr ⟨x, hx, e⟩)
   ·rw [List.mem_singleton.1 hx] at e
    have := (own.lt e).1; omega
 refine h.step (F := fun b => blk Ah = some b) ((Mod.rfl' _ W).gr hg (fun b e => .inl e)) (fun b e => ⟨by have := (OwnD.lt h.ol (.inl e)).1; omega, fun e' => h.nq (.inl (by rw [e, e']))⟩) ?_ hnq
 unfold OwnL
 rw [hits]
 exact OwnD.snocM h.ol hS (by omega) (it := ⟨[], l.length, ints l⟩) own (by simpa [itc] using out) hg hat
theorem HQ.set0 (h : HQ w R P Q A c g Ah ch hs ll hv t W) (hl : 0 < ll.length) {S : Nat} (hS : ∀ b, fpD Ah hs b → b < S) (hQS : Q < S) {l : List Int} {A8 : Option Addr} {c8 : Nat} (own : Own W S 3 1 A8 l.length c8 (ints l)) {x : Nat} (hA : Ah = some ⟨x, 0, none⟩) :
  HQ w R P Q A c g Ah ch (hs.set 0 (A8, c8)) (ll.set 0 l) hv t (W.setCell ⟨x, 0, none⟩ (.slice A8 l.length c8)) := by
 have h3 := h.hQ
 have hx : blk Ah = some x := by rw [hA]; rfl
 refine h.step (F := fun b => b = x) (Mod.set (F := fun b => b = x) (Mod.rfl' _ W) (p := ⟨x, 0, none⟩) (.inl rfl) _) (fun b e => ⟨by have := (OwnD.lt h.ol (.inl hx)).1; omega, fun e' => h.nq (.inl (by rw [hx, ← e, e']))⟩)
  (OwnL.putW h.ol hl l (own.mono (by have := (OwnD.lt h.ol (.inl hx)).1; have := hS _ (.inl hx); omega)) (fun b hb e => by have := (own.lt hb).1; have := hS b e; omega) hA) ?_
 rintro (e | ⟨y, hy, e⟩)
 ·exact h.nq (.inl e)
 ·rcases List.mem_or_eq_of_mem_set hy with hy | rfl
  ·exact h.nq (.inr ⟨y, hy, e⟩)
  ·have := (own.lt e).1; omega
end
theorem HQ.start {w w2 : World} {R P c c0 t : Nat} {A A0 : Option Addr} {g : Sg.Graph} {l : List Int} (lb : Bx w2 w.heap.size [.slice none 0 0]) (mb : Bx w2 (w.heap.size + 1) [.slice none 0 0, .int .i64 0]) (gb : Bx w2 P [.slice A g.length c]) (rd : Rdr w2 R t) (mo : Mod (fun b => b = R) w w2)
  (ok : ∀ X, Mod (fun b => b < w.heap.size + 2 ∨ P ≤ b) w2 X → RdN X A g) (own : Own w2 (P + 1) 3 1 A0 l.length c0 (ints l)) (hR : R < w.heap.size) (hP : w.heap.size + 2 ≤ P) :
  HQ w R P (w2.heap.size + 1) A c g (some ⟨w2.heap.size, 0, none⟩) 1 [(A0, c0)] [l] [.slice (some ⟨w2.heap.size, 0, none⟩) 1 1, .int .i64 0] t (World.alloc (World.alloc w2 (.cells #[.slice A0 l.length c0] 26)) (.cells #[.slice (some ⟨w2.heap.size, 0, none⟩) 1 1, .int .i64 0] 44)) := by
 have hPw := gb.lt
 have e1 : Ext w2 (World.alloc w2 (.cells #[.slice A0 l.length c0] 26)) := (Ext.rfl' w2).al _
 have e2 := e1.al (.cells #[.slice (some ⟨w2.heap.size, 0, none⟩) 1 1, .int .i64 0] 44)
 have hb := Bx.new (World.alloc w2 (.cells #[.slice A0 l.length c0] 26)) #[.slice (some ⟨w2.heap.size, 0, none⟩) 1 1, .int .i64 0] 44
 simp only [World.size_alloc] at hb
 have out := (Own.new w2 (B := P + 1) 26 1 #[.slice A0 l.length c0] 1 (by omega) (by unfold maxLen; omega) rfl).al (.cells #[.slice (some ⟨w2.heap.size, 0, none⟩) 1 1, .int .i64 0] 44)
 refine ⟨lb.ext e2, mb.ext e2, gb.ext e2, hb, rd.ext e2, mo.tr' (Mod.of e2), fun X hX => ok X ((Mod.of e2).tr' hX), ⟨by simp, by simpa [listIts, dcells, itc] using out, ?_, ?_, ?_⟩, ?_, hR, hP, by omega⟩
 ·intro i it x hi hx
  cases i with
  | zero =>
   simp [listIts] at hi hx
   subst hi hx
   exact own.ext e2
  | succ i => simp at hx
 ·intro i j x y hij hx hy b hb hb'
  have h1 := (List.getElem?_eq_some_iff.1 hy).1
  simp at h1
  omega
 ·intro i x hx b hb hb'
  have h1 := (List.getElem?_eq_some_iff.1 hx).1
  simp at h1
  subst h1
  simp at hx
  subst hx
  have := (own.lt hb').2
  simp [blk] at hb
  omega
 ·rintro (e | ⟨x, hx, e⟩)
  ·simp [blk] at e
  ·rw [List.mem_singleton.1 hx] at e
   have := (own.lt e).2
   omega
def HisD (R m : Nat) (w : World) (e : Ending) (w' : World) : Prop := ∃ (g : Sg.Graph) (A : Option Addr) (c : Nat) (ll : List (List Int)) (Ah : Option Addr) (ch : Nat) (p : Int), e = .returned (.tuple #[.agg #[.slice A g.length c], .agg #[.slice Ah ll.length ch, .int .i64 p]]) ∧
 2 ≤ g.length ∧ g.length ≤ 10 ∧ ll.length ≤ 10 ∧ (∀ l ∈ ll, l.length ≤ 11) ∧ -1 ≤ p ∧ p ≤ 10 ∧ (∀ X, Mod (fun b => b ≤ R ∨ b < w.heap.size) w' X → RdN X A g ∧ RdL X Ah ll) ∧ Rdr w' R (m + 2000) ∧ Mod (fun b => b = R) w w'

set_option maxRecDepth 100000 in
set_option maxHeartbeats 8000000 in
theorem s_historyOf (R m : Nat) (w : World) (h : Rdr w R m) (hm : m ≤ 500000) :
  Calls Try.prog 44 #[.pointer (some ⟨R, 0, none⟩)] w (HisD R m w) := by
 have hRl := h.lt
 have E0 : Ext w (World.alloc (World.alloc w (.cells #[.slice none 0 0] 25)) (.cells #[.slice none 0 0, .int .i64 0] 44)) := ((Ext.rfl' w).al _).al _
 have H0 := lh (h.ext E0)
 have M0 := lh (Mod.of (F := fun b => b = R) E0)
 have b0 := (Bx.new w #[.slice none 0 0] 25).al (.cells #[.slice none 0 0, .int .i64 0] 44)
 have B0 := lh b0
 have d0 := Bx.new (World.alloc w (.cells #[.slice none 0 0] 25)) #[.slice none 0 0, .int .i64 0] 44
 simp only [World.size_alloc] at d0
 have D0 := lh d0
 clear h E0 b0 d0
 go_enter Try.func44, Try.ntmps44
 go_wp2_with fail
 refine (s_someGraph R m _ H0.out (by omega)).mono ?_
 rintro e w1 ⟨g, A, c, hs, rfl, hk1, hr1, hm1⟩
 have hsz1 := hm1.size
 simp only [World.size_alloc] at hsz1
 have hlo := hk1.lo
 have hhi := hk1.hi
 have OK1 := lh (show ∀ X, Mod (fun b => b < w.heap.size + 2 ∨ w1.heap.size ≤ b) w1 X → RdN X A g from fun X hX =>
  (⟨hk1.own.mod hX (fun b hb e => by have := hk1.own.lt hb; simp only [World.size_alloc] at this; omega), hk1.lo, hk1.hi, hk1.nf⟩ : GOK (World.alloc (World.alloc w (.cells #[.slice none 0 0] 25)) (.cells #[.slice none 0 0, .int .i64 0] 44)).heap.size R A c g hs X).rd)
 have M1 := lh ((M0.out.tr' hm1).al (.cells #[.slice A g.length c] 25))
 have B1 := lh ((B0.out.mod hm1 (by omega)).al (.cells #[.slice A g.length c] 25))
 have D1 := lh ((D0.out.mod hm1 (by omega)).al (.cells #[.slice A g.length c] 25))
 have G1 := lh (Bx.new w1 #[.slice A g.length c] 25)
 have R1 := lh (hr1.ext ((Ext.rfl' w1).al (.cells #[.slice A g.length c] 25)))
 have OK2 := lh (fun X (hX : Mod (fun b => b < w.heap.size + 2 ∨ w1.heap.size ≤ b) (World.alloc w1 (.cells #[.slice A g.length c] 25)) X) => OK1.out X ((Mod.of ((Ext.rfl' w1).al (.cells #[.slice A g.length c] 25))).tr' hX))
 clear hk1 hr1 hm1 M0 B0 D0 H0 OK1
 go_wp2_with fail
 refine (s_goodCells R (m + 1400) A c g _ R1.out (fun X hX => OK2.out X (hX.mono (fun b _ e => .inl (by omega)))) hhi (by omega)).mono ?_
 rintro e w2 ⟨l0, A0, c0, rfl, ho2, hl1, hl2, hr2, hm2⟩
 have hsz2 := hm2.size
 simp only [World.size_alloc] at hsz2 ho2
 have QS := lh (HQ.start (B1.out.mod hm2 (by omega)) (D1.out.mod hm2 (by omega)) (G1.out.mod hm2 (by omega)) hr2 (M1.out.tr' hm2) (fun X hX => OK2.out X ((hm2.mono (fun b _ e => .inl (by omega))).tr' hX)) ho2 hRl hsz1)
 have HL0 := lh (show ∀ l ∈ [l0], l.length ≤ 11 from fun l hl => by rw [List.mem_singleton.1 hl]; omega)
 clear ho2 hr2 hm2 B1 D1 G1 R1 M1 OK2 hl1 hl2
 have hPQ : w1.heap.size < w2.heap.size + 1 := by omega
 generalize hPP : w1.heap.size = P at *
 clear hPP
 go_upto_region 3 with fail
 generalize hWA : (World.alloc (World.alloc w2 (.cells #[.slice A0 l0.length c0] 26)) (.cells #[.slice (some ⟨w2.heap.size, 0, none⟩) 1 1, .int .i64 0] 44)) = w3 at *
 clear hWA
 generalize hQQ : w2.heap.size + 1 = Q at *
 clear hQQ
 have qg := QS.out.gb.cell (j := 0) rfl
 have bg := blt qg
 have qh := QS.out.hb.cell (j := 0) rfl
 have bh := blt qh
 go_wp2_with fail
 have RLx := (Own.new w3 (B := 0) 3 1 #[.int .i64 2, .int .i64 3, .int .i64 1, .int .i64 5, .int .i64 0, .int .i64 9] 6 (Nat.zero_le _) (by unfold maxLen; omega) rfl).rd
 have e3 := (Ext.rfl' w3).al (.cells #[.int .i64 2, .int .i64 3, .int .i64 1, .int .i64 5, .int .i64 0, .int .i64 9] 3)
 refine (s_one R _ _ 6 [2, 3, 1, 5, 0, 9] _ (QS.out.rd.ext e3) RLx (by simp) (by simp) (by intro z hz; simp [blk] at hz; have := QS.out.hR; have := QS.out.hP; have := QS.out.hQ; omega) (by omega)).mono ?_
 rintro e w4 ⟨n0, rfl, hn0, hr4, hm4⟩
 have Q4 := lh ((QS.out.ext e3).draw hm4 hr4)
 obtain ⟨hna, hnb⟩ : 0 ≤ n0 ∧ n0 ≤ 9 := by simp only [List.mem_cons, List.not_mem_nil, or_false] at hn0; omega
 clear RLx e3 hr4 hm4 hn0 qg bg qh bh QS
 go_wp2_with fail
 go_loopw [6] (fun s6 wr => ∃ (n : Int) (Ah : Option Addr) (ch : Nat) (hs : List (Option Addr × Nat)) (ll : List (List Int)) (tt : Nat), s6 = .int .i64 n ∧ 0 ≤ n ∧ n ≤ 9 ∧ 1 ≤ ll.length ∧ (ll.length : Int) + n ≤ 10 ∧ (tt : Int) + 20 * n ≤ m + 1601 ∧ Hid (∀ l ∈ ll, l.length ≤ 11) ∧ Hid (HQ w R P Q A c g Ah ch hs ll [.slice Ah ll.length ch, .int .i64 0] tt wr)) (fun s6 _ => (intOf s6).toNat)
 case atStart => exact ⟨n0, _, _, _, _, _, rfl, hna, hnb, by simp, by simp; omega, by omega, HL0, Q4⟩
 case round =>
  clear Q4 HL0
  obtain ⟨n, Ah, ch, hs, ll, tt, rfl, hn0, hn9, hl1, hln, htt, HLL, Q5⟩ := hrel
  have q5 := Q5.out.gb.cell (j := 0) rfl
  have b5 := blt q5
  have h5 := Q5.out.hb.cell (j := 0) rfl
  have bh5 := blt h5
  have hP5 := Q5.out.hP
  have hQ5 := Q5.out.hQ
  by_cases hn : n > 0
  ·have iw : IntKind.i64.wrap (n - 1) = n - 1 := IntWalk.i64_in _ (by omega)
   have QD := lh (Q5.out.ext ((Ext.rfl' _).dr))
   have hD := QD.out.hb.cell (j := 0) rfl
   have HS5 := lh (show ∀ b, fpD Ah hs b → b < wr.heap.size from fun b hb => (OwnD.lt Q5.out.ol hb).2)
   go_wp2_with fail
   refine wp_region_held_drew (S := (fun W => W.cell? ⟨P, 0, none⟩ = some (.slice A g.length c))) (by kernel_rfl) ?_ (fun hHeld => ?_)
   ·exact (((Ext.rfl' _).dr).cellE q5)
   refine ty 0 ?_
   refine ty 2 ?_
   refine ty 3 ?_
   refine wpAnyH_ready (rs := [1, 4]) (by kernel_rfl) (by simp) ?_
   refine AllReadyH.cons rfl (fun K hK => ?_) ?_
   ·go_simp
    refine hK.out _ _ (by exact (((Ext.rfl' _).dr).cellE q5)) fun hh2 => ?_; clear hK K hHeld; have hHeld := hh2; clear hh2
    try simp only [Act.put, pu]
    refine rd1 4 rfl fun K hK => ?_
    go_simp
    refine (s_goodCells R tt A c g _ QD.out.rd (fun X hX => QD.out.ok X (hX.mono (fun b _ e => .inl (by have := QD.out.hR; omega)))) hhi (by omega)).mono ?_
    rintro e w8 ⟨l8, A8, c8, rfl, ho8, hl81, hl82, hr8, hm8⟩
    have Q8 := lh (QD.out.draw hm8 hr8)
    have O8 := lh ho8
    have q8 := Q8.out.gb.cell (j := 0) rfl
    have b8 := blt q8
    have h8 := Q8.out.hb.cell (j := 0) rfl
    have bh8 := blt h8
    have sz8 := hm8.size
    try simp only [World.size_drew] at sz8
    clear ho8 hr8 hm8
    try go_wp2_with fail
    refine hK.out _ _ (by exact q8) fun hh2 => ?_; clear hK K hHeld; have hHeld := hh2; clear hh2
    try simp only [Act.put, pu]
    refine rd1 5 rfl fun K hK => ?_
    go_simp
    try simp only [pg]
    refine hK.out _ _ (by exact (((Ext.rfl' _).al _).cellE q8)) fun hh2 => ?_; clear hK K hHeld; have hHeld := hh2; clear hh2
    try simp only [Act.put, pu]
    refine rd1 6 rfl fun K hK => ?_
    have OUT := lh (show Own w8 (P + 1) 26 1 Ah ll.length ch (dcells (listIts ll) hs) from by have := Q8.out.ol.out; simpa using this)
    refine held_app1 (cs := [.slice A8 l8.length c8]) rfl rfl eiInts rfl OUT.out rfl rfl (one_slice _ _ _) (by omega) (by omega) (by omega) ?_
    intro A9 c9 w9 ho9 hg9 hat9
    have Q9 := lh (Q8.out.app (S := wr.heap.size) HS5.out bh5 O8.out (by omega) ho9 hg9 hat9)
    have q9 := Q9.out.gb.cell (j := 0) rfl
    have b9 := blt q9
    have h9 := Q9.out.hb.cell (j := 0) rfl
    have bh9 := blt h9
    have f9 := Q9.out.hb.free 0
    clear ho9 hg9 hat9 OUT
    try simp only [pg]
    refine hK.out _ _ (by exact q9) fun hh2 => ?_; clear hK K hHeld; have hHeld := hh2; clear hh2
    try simp only [Act.put, pu]
    refine ty 7 ?_
    refine rd1 8 rfl fun K hK => ?_
    go_simp
    refine hK.out _ _ (by exact ((co).trans q9)) fun hh2 => ?_; clear hK K hHeld; have hHeld := hh2; clear hh2
    try simp only [Act.put]
    refine dn ?_
    go_wp2
    have Q10 := lh (Q9.out.put 0 (.slice A9 (ll.length + 1) c9))
    go_roundw
    case rel => exact ⟨n - 1, A9, c9, hs ++ [(A8, c8)], ll ++ [l8], tt + 20, by go_num, by omega, by omega, by simp, by simp; omega, by omega, lh (fun l hl => by rcases List.mem_append.1 hl with hl | hl; exact HLL.out l hl; rw [List.mem_singleton.1 hl]; omega), lh (by have := Q10.out; simpa using this)⟩
    case measure => simp [intOf]; omega
   refine AllReadyH.cons rfl (fun K hK => ?_) ?_
   ·go_simp
    refine (s_goodCells R tt A c g _ QD.out.rd (fun X hX => QD.out.ok X (hX.mono (fun b _ e => .inl (by have := QD.out.hR; omega)))) hhi (by omega)).mono ?_
    rintro e w8 ⟨l8, A8, c8, rfl, ho8, hl81, hl82, hr8, hm8⟩
    have Q8 := lh (QD.out.draw hm8 hr8)
    have O8 := lh ho8
    have q8 := Q8.out.gb.cell (j := 0) rfl
    have b8 := blt q8
    have h8 := Q8.out.hb.cell (j := 0) rfl
    have bh8 := blt h8
    have sz8 := hm8.size
    try simp only [World.size_drew] at sz8
    clear ho8 hr8 hm8
    try go_wp2_with fail
    refine hK.out _ _ (by exact q8) fun hh2 => ?_; clear hK K hHeld; have hHeld := hh2; clear hh2
    try simp only [Act.put, pu]
    refine wpAnyH_ready (rs := [1, 5]) (by kernel_rfl) (by simp) ?_
    refine AllReadyH.cons rfl (fun K hK => ?_) ?_
    ·go_simp
     refine hK.out _ _ (by exact q8) fun hh2 => ?_; clear hK K hHeld; have hHeld := hh2; clear hh2
     try simp only [Act.put, pu]
     refine rd1 5 rfl fun K hK => ?_
     go_simp
     try simp only [pg]
     refine hK.out _ _ (by exact (((Ext.rfl' _).al _).cellE q8)) fun hh2 => ?_; clear hK K hHeld; have hHeld := hh2; clear hh2
     try simp only [Act.put, pu]
     refine rd1 6 rfl fun K hK => ?_
     have OUT := lh (show Own w8 (P + 1) 26 1 Ah ll.length ch (dcells (listIts ll) hs) from by have := Q8.out.ol.out; simpa using this)
     refine held_app1 (cs := [.slice A8 l8.length c8]) rfl rfl eiInts rfl OUT.out rfl rfl (one_slice _ _ _) (by omega) (by omega) (by omega) ?_
     intro A9 c9 w9 ho9 hg9 hat9
     have Q9 := lh (Q8.out.app (S := wr.heap.size) HS5.out bh5 O8.out (by omega) ho9 hg9 hat9)
     have q9 := Q9.out.gb.cell (j := 0) rfl
     have b9 := blt q9
     have h9 := Q9.out.hb.cell (j := 0) rfl
     have bh9 := blt h9
     have f9 := Q9.out.hb.free 0
     clear ho9 hg9 hat9 OUT
     try simp only [pg]
     refine hK.out _ _ (by exact q9) fun hh2 => ?_; clear hK K hHeld; have hHeld := hh2; clear hh2
     try simp only [Act.put, pu]
     refine ty 7 ?_
     refine rd1 8 rfl fun K hK => ?_
     go_simp
     refine hK.out _ _ (by exact ((co).trans q9)) fun hh2 => ?_; clear hK K hHeld; have hHeld := hh2; clear hh2
     try simp only [Act.put]
     refine dn ?_
     go_wp2
     have Q10 := lh (Q9.out.put 0 (.slice A9 (ll.length + 1) c9))
     go_roundw
     case rel => exact ⟨n - 1, A9, c9, hs ++ [(A8, c8)], ll ++ [l8], tt + 20, by go_num, by omega, by omega, by simp, by simp; omega, by omega, lh (fun l hl => by rcases List.mem_append.1 hl with hl | hl; exact HLL.out l hl; rw [List.mem_singleton.1 hl]; omega), lh (by have := Q10.out; simpa using this)⟩
     case measure => simp [intOf]; omega
    refine AllReadyH.cons rfl (fun K hK => ?_) ?_
    ·go_simp
     try simp only [pg]
     refine hK.out _ _ (by exact (((Ext.rfl' _).al _).cellE q8)) fun hh2 => ?_; clear hK K hHeld; have hHeld := hh2; clear hh2
     try simp only [Act.put, pu]
     refine rd1 1 rfl fun K hK => ?_
     go_simp
     refine hK.out _ _ (by exact (((Ext.rfl' _).al _).cellE q8)) fun hh2 => ?_; clear hK K hHeld; have hHeld := hh2; clear hh2
     try simp only [Act.put, pu]
     refine rd1 6 rfl fun K hK => ?_
     have OUT := lh (show Own w8 (P + 1) 26 1 Ah ll.length ch (dcells (listIts ll) hs) from by have := Q8.out.ol.out; simpa using this)
     refine held_app1 (cs := [.slice A8 l8.length c8]) rfl rfl eiInts rfl OUT.out rfl rfl (one_slice _ _ _) (by omega) (by omega) (by omega) ?_
     intro A9 c9 w9 ho9 hg9 hat9
     have Q9 := lh (Q8.out.app (S := wr.heap.size) HS5.out bh5 O8.out (by omega) ho9 hg9 hat9)
     have q9 := Q9.out.gb.cell (j := 0) rfl
     have b9 := blt q9
     have h9 := Q9.out.hb.cell (j := 0) rfl
     have bh9 := blt h9
     have f9 := Q9.out.hb.free 0
     clear ho9 hg9 hat9 OUT
     try simp only [pg]
     refine hK.out _ _ (by exact q9) fun hh2 => ?_; clear hK K hHeld; have hHeld := hh2; clear hh2
     try simp only [Act.put, pu]
     refine ty 7 ?_
     refine rd1 8 rfl fun K hK => ?_
     go_simp
     refine hK.out _ _ (by exact ((co).trans q9)) fun hh2 => ?_; clear hK K hHeld; have hHeld := hh2; clear hh2
     try simp only [Act.put]
     refine dn ?_
     go_wp2
     have Q10 := lh (Q9.out.put 0 (.slice A9 (ll.length + 1) c9))
     go_roundw
     case rel => exact ⟨n - 1, A9, c9, hs ++ [(A8, c8)], ll ++ [l8], tt + 20, by go_num, by omega, by omega, by simp, by simp; omega, by omega, lh (fun l hl => by rcases List.mem_append.1 hl with hl | hl; exact HLL.out l hl; rw [List.mem_singleton.1 hl]; omega), lh (by have := Q10.out; simpa using this)⟩
     case measure => simp [intOf]; omega
    exact AllReadyH.nil
   exact AllReadyH.nil
  ·obtain rfl : n = 0 := by omega
   have hm5 : (ll.length : Int) ≤ 10 := by omega
   go_wp2_with fail
   refine (s_pick R tt (ll.length : Int) _ Q5.out.rd (by omega) (by omega) (by omega)).mono ?_
   rintro e w6 ⟨p, rfl, hp0, hp1, hr6, hm6⟩
   have hp2 : p ≤ 10 := by omega
   have Q6 := lh (Q5.out.draw hm6 hr6)
   have f6 := Q6.out.hb.free 1
   have h6 := Q6.out.hb.cell (j := 1) rfl
   have bh6 := blt h6
   clear hp1 hr6 hm6 q5 b5 h5 bh5 Q5
   go_upto_region 8 with fail
   have Q7 := lh (Q6.out.put 1 (.int .i64 p))
   simp only [List.set_cons_zero, List.set_cons_succ] at Q7
   clear f6 h6 bh6 Q6
   generalize hW7 : World.setCell w6 ⟨Q, 1, none⟩ (.int .i64 p) = w7 at *
   clear hW7
   go_wp2_with fail
   refine (s_pick R (tt + 1) 16 _ Q7.out.rd (by omega) (by omega) (by omega)).mono ?_
   rintro e w8 ⟨x, rfl, hx0, hx1, hr8, hm8⟩
   have Q8 := lh (Q7.out.draw hm8 hr8)
   clear hx0 hx1 hr8 hm8 Q7
   by_cases h0 : x = 0
   ·have z1 : (x == 0) = true := by simp [h0]
    clear h0
    go_wp2_with fail
    have RLx := (Own.new w8 (B := 0) 3 1 #[.int .i64 (-1), .int .i64 10] 2 (Nat.zero_le _) (by unfold maxLen; omega) rfl).rd
    have e8 := (Ext.rfl' w8).al (.cells #[.int .i64 (-1), .int .i64 10] 3)
    refine (s_one R (tt + 1 + 1) _ 2 [-1, 10] _ (Q8.out.rd.ext e8) RLx (by simp) (by simp) (by intro z hz; simp [blk] at hz; have := Q8.out.hR; have := Q8.out.hb.lt; omega) (by omega)).mono ?_
    rintro e w9 ⟨pp, rfl, hpp, hr9, hm9⟩
    have Q9 := lh ((Q8.out.ext e8).draw hm9 hr9)
    obtain ⟨hpa, hpb⟩ : -1 ≤ pp ∧ pp ≤ 10 := by simp only [List.mem_cons, List.not_mem_nil, or_false] at hpp; omega
    clear RLx e8 hr9 hm9 hpp Q8
    have f9 := Q9.out.hb.free 1
    have h9 := Q9.out.hb.cell (j := 1) rfl
    have bh9 := blt h9
    go_upto_region 13 with fail
    have Q10 := lh (Q9.out.put 1 (.int .i64 pp))
    simp only [List.set_cons_zero, List.set_cons_succ] at Q10
    clear f9 h9 bh9 Q9
    generalize hW9 : World.setCell w9 ⟨Q, 1, none⟩ (.int .i64 pp) = w10 at *
    clear hW9
    have HLE := HLL
    have QE := lh Q10.out
    have e1 := QE.out.gb.cell (j := 0) rfl
    have be1 := blt e1
    have e2 := QE.out.hb.cell (j := 0) rfl
    have be2 := blt e2
    have e3 := QE.out.hb.cell (j := 1) rfl
    have f1 := QE.out.lb.free 0
    have f2 := QE.out.mb.free 0
    have f3 := QE.out.mb.free 1
    have x1 := QE.out.lb.cell (j := 0) rfl
    have x2 := QE.out.mb.cell (j := 0) rfl
    have x3 := QE.out.mb.cell (j := 1) rfl
    have hPE := QE.out.hP
    have bl1 := QE.out.lb.lt
    have bl2 := QE.out.mb.lt
    go_wp2_with fail
    refine wp_region_held_drew (S := (fun W => W.cell? ⟨P, 0, none⟩ = some (.slice A g.length c) ∧ W.cell? ⟨Q, 0, none⟩ = some (.slice Ah ll.length ch) ∧ W.cell? ⟨Q, 1, none⟩ = some (.int .i64 pp))) (by kernel_rfl) ?_ (fun hHeld => ?_)
    ·exact ⟨(((Ext.rfl' _).dr).cellE e1), (((Ext.rfl' _).dr).cellE e2), (((Ext.rfl' _).dr).cellE e3)⟩
    refine ty 0 ?_
    refine ty 1 ?_
    refine rd1 2 rfl fun K hK => ?_
    go_simp
    refine hK.out _ _ (by exact ⟨((co).trans (((Ext.rfl' _).dr).cellE e1)), ((co).trans (((Ext.rfl' _).dr).cellE e2)), ((co).trans (((Ext.rfl' _).dr).cellE e3))⟩) fun hh2 => ?_; clear hK K hHeld; have hHeld := hh2; clear hh2
    try simp only [Act.put]
    refine rd1 3 rfl fun K hK => ?_
    go_simp
    refine hK.out _ _ (by exact ⟨((co).trans ((co).trans ((co).trans (((Ext.rfl' _).dr).cellE e1)))), ((co).trans ((co).trans ((co).trans (((Ext.rfl' _).dr).cellE e2)))), ((co).trans ((co).trans ((co).trans (((Ext.rfl' _).dr).cellE e3))))⟩) fun hh2 => ?_; clear hK K hHeld; have hHeld := hh2; clear hh2
    try simp only [Act.put]
    refine dn ?_
    go_wp2
    have s0 : ∀ u0 u1 u2 : Value, World.cell? (World.setCell (World.setCell (World.setCell w10 ⟨w.heap.size, 0, none⟩ u0) ⟨w.heap.size + 1, 0, none⟩ u1) ⟨w.heap.size + 1, 1, none⟩ u2) ⟨w.heap.size, 0, none⟩ = some u0 := fun u0 u1 u2 => (((QE.out.lb.set 0 u0).oth (show w.heap.size + 1 ≠ w.heap.size by omega) u1).oth (show w.heap.size + 1 ≠ w.heap.size by omega) u2).cell (j := 0) rfl
    have s1 : ∀ u0 u1 u2 : Value, World.cell? (World.setCell (World.setCell (World.setCell w10 ⟨w.heap.size, 0, none⟩ u0) ⟨w.heap.size + 1, 0, none⟩ u1) ⟨w.heap.size + 1, 1, none⟩ u2) ⟨w.heap.size + 1, 0, none⟩ = some u1 := fun u0 u1 u2 => (((QE.out.mb.oth (show w.heap.size ≠ w.heap.size + 1 by omega) u0).set 0 u1).set 1 u2).cell (j := 0) rfl
    have s2 : ∀ u0 u1 u2 : Value, World.cell? (World.setCell (World.setCell (World.setCell w10 ⟨w.heap.size, 0, none⟩ u0) ⟨w.heap.size + 1, 0, none⟩ u1) ⟨w.heap.size + 1, 1, none⟩ u2) ⟨w.heap.size + 1, 1, none⟩ = some u2 := fun u0 u1 u2 => (((QE.out.mb.oth (show w.heap.size ≠ w.heap.size + 1 by omega) u0).set 0 u1).set 1 u2).cell (j := 1) rfl
    have hS : Mod (fun b => b = w.heap.size ∨ b = w.heap.size + 1) w10 (World.drew (World.setCell (World.setCell (World.setCell w10 ⟨w.heap.size, 0, none⟩ (.slice A g.length c)) ⟨w.heap.size + 1, 0, none⟩ (.slice Ah ll.length ch)) ⟨w.heap.size + 1, 1, none⟩ (.int .i64 pp))) := Mod.dr (Mod.set (F := fun b => b = w.heap.size ∨ b = w.heap.size + 1) (Mod.set (F := fun b => b = w.heap.size ∨ b = w.heap.size + 1) (Mod.set (F := fun b => b = w.heap.size ∨ b = w.heap.size + 1) (Mod.rfl' _ _) (p := ⟨w.heap.size, 0, none⟩) (.inl (.inl rfl)) _) (p := ⟨w.heap.size + 1, 0, none⟩) (.inl (.inr rfl)) _) (p := ⟨w.heap.size + 1, 1, none⟩) (.inl (.inr rfl)) _)
    refine bodyPost_ret (v := .tuple #[.agg #[.slice A g.length c], .agg #[.slice Ah ll.length ch, .int .i64 pp]]) (by simp [results, Try.results44, go_sem, s0, s1, s2]; try rfl) rfl ?_
    refine ⟨g, A, c, ll, Ah, ch, pp, rfl, hlo, hhi, by (try simp only [List.length_set]); omega, HLE.out, by omega, by omega, fun X hX => ?_, (QE.out.rd.mod hS (fun b e => by have := QE.out.hR; omega)).more (by omega), QE.out.mo.tr hS (fun b e => .inr (by omega))⟩
    have hX2 := (hS.mono (F' := fun b => b < w.heap.size + 2) (fun b _ e => by omega)).tr' (hX.mono (F' := fun b => b < w.heap.size + 2) (fun b _ e => by have := QE.out.hR; omega))
    exact ⟨QE.out.ok X (hX2.mono (fun b _ e => .inl e)), OwnL.rdL (OwnD.mod QE.out.ol hX2 (fun b hb e => by have := (OwnD.lt QE.out.ol hb).1; omega)) (by (try simp only [List.length_set]); omega) (fun l hl => Nat.le_trans (HLE.out l hl) (by omega))⟩
   ·have z1 : (x == 0) = false := by rw [beq_eq_false_iff_ne]; exact h0
    clear h0
    by_cases h1 : x = 1
    ·have z2 : (x == 1) = true := by simp [h1]
     clear h1
     obtain ⟨bx, rfl, -⟩ := Q8.out.ol.out.at_ (by rw [length_listIts]; omega)
     have hl0 : 0 < ll.length := hl1
     have q8 := Q8.out.gb.cell (j := 0) rfl
     have b8 := blt q8
     have h8 := Q8.out.hb.cell (j := 0) rfl
     have bh8 := blt h8
     have QD := lh (Q8.out.ext ((Ext.rfl' _).dr))
     have HS8 := lh (show ∀ b, fpD (some ⟨bx, 0, none⟩) hs b → b < w8.heap.size from fun b hb => (OwnD.lt Q8.out.ol hb).2)
     go_wp2_with fail
     refine wp_region_held_drew (S := (fun W => W.cell? ⟨P, 0, none⟩ = some (.slice A g.length c) ∧ W.cell? ⟨Q, 0, none⟩ = some (.slice (some ⟨bx, 0, none⟩) ll.length ch))) (by kernel_rfl) ?_ (fun hHeld => ?_)
     ·exact ⟨((Ext.rfl' _).dr).cellE q8, ((Ext.rfl' _).dr).cellE h8⟩
     refine ty 0 ?_
     refine ty 1 ?_
     refine ty 2 ?_
     refine ty 3 ?_
     refine rd1 4 rfl fun K hK => ?_
     go_simp
     refine (s_someCells R (tt + 1 + 1) A c g _ QD.out.rd (fun X hX => QD.out.ok X (hX.mono (fun b _ e => .inl (by have := QD.out.hR; omega)))) hhi (by omega) (by omega)).mono ?_
     rintro e w9 ⟨l9, A9, c9, rfl, ho9, hl91, hl92, hr9, hm9⟩
     have Q9 := lh (QD.out.draw hm9 hr9)
     have O9 := lh ho9
     have q9 := Q9.out.gb.cell (j := 0) rfl
     have b9 := blt q9
     have h9 := Q9.out.hb.cell (j := 0) rfl
     have bh9 := blt h9
     obtain ⟨y9, hy9⟩ : ∃ y, (dcells (listIts ll) hs)[0]? = some y := ⟨_, List.getElem?_eq_getElem (by rw [length_dcells (listIts_pre ll) (Nat.le_of_eq (by have := Q9.out.ol.len; simpa using this))]; have := Q9.out.ol.len; simp at this; omega)⟩
     have c9x := Q9.out.ol.out.cell hy9
     have fx := Q9.out.ol.out.free 0
     have bcx := blt c9x
     have hbQ : bx ≠ Q := fun e => Q9.out.nq (.inl (by rw [← e]; rfl))
     have hbP : P < bx := (OwnD.lt Q9.out.ol (.inl rfl)).1
     have Q10 := lh (Q9.out.set0 (S := w8.heap.size) hl1 HS8.out bh8 O9.out rfl)
     clear ho9 hr9 hm9 hy9
     try go_wp2_with fail
     refine hK.out _ _ (by exact ⟨q9, h9⟩) fun hh2 => ?_; clear hK K hHeld; have hHeld := hh2; clear hh2
     try simp only [Act.put, pu]
     refine ty 5 ?_
     refine rd1 6 rfl fun K hK => ?_
     go_simp
     refine hK.out _ _ (by exact ⟨(co).trans q9, (co).trans h9⟩) fun hh2 => ?_; clear hK K hHeld; have hHeld := hh2; clear hh2
     try simp only [Act.put]
     refine dn ?_
     go_upto_region 13 with fail
     generalize hW9 : World.setCell w9 ⟨bx, 0, none⟩ (.slice A9 l9.length c9) = w10 at *
     clear hW9 c9x fx bcx
     have HLE := lh (show ∀ l ∈ ll.set 0 l9, l.length ≤ 11 from fun l hl => by rcases List.mem_or_eq_of_mem_set hl with hl | rfl; exact HLL.out l hl; exact hl92)
     have hll9 : (ll.set 0 l9).length = ll.length := List.length_set
     have Q11 := lh (show HQ w R P Q A c g (some ⟨bx, 0, none⟩) ch (hs.set 0 (A9, c9)) (ll.set 0 l9) [.slice (some ⟨bx, 0, none⟩) (ll.set 0 l9).length ch, .int .i64 p] (tt + 1 + 1 + 30) w10 from by rw [hll9]; exact Q10.out)
     skip
     have QE := lh Q11.out
     have e1 := QE.out.gb.cell (j := 0) rfl
     have be1 := blt e1
     have e2 := QE.out.hb.cell (j := 0) rfl
     have be2 := blt e2
     have e3 := QE.out.hb.cell (j := 1) rfl
     have f1 := QE.out.lb.free 0
     have f2 := QE.out.mb.free 0
     have f3 := QE.out.mb.free 1
     have x1 := QE.out.lb.cell (j := 0) rfl
     have x2 := QE.out.mb.cell (j := 0) rfl
     have x3 := QE.out.mb.cell (j := 1) rfl
     have hPE := QE.out.hP
     have bl1 := QE.out.lb.lt
     have bl2 := QE.out.mb.lt
     go_wp2_with fail
     refine wp_region_held_drew (S := (fun W => W.cell? ⟨P, 0, none⟩ = some (.slice A g.length c) ∧ W.cell? ⟨Q, 0, none⟩ = some (.slice (some ⟨bx, 0, none⟩) (ll.set 0 l9).length ch) ∧ W.cell? ⟨Q, 1, none⟩ = some (.int .i64 p))) (by kernel_rfl) ?_ (fun hHeld => ?_)
     ·exact ⟨(((Ext.rfl' _).dr).cellE e1), (((Ext.rfl' _).dr).cellE e2), (((Ext.rfl' _).dr).cellE e3)⟩
     refine ty 0 ?_
     refine ty 1 ?_
     refine rd1 2 rfl fun K hK => ?_
     go_simp
     refine hK.out _ _ (by exact ⟨((co).trans (((Ext.rfl' _).dr).cellE e1)), ((co).trans (((Ext.rfl' _).dr).cellE e2)), ((co).trans (((Ext.rfl' _).dr).cellE e3))⟩) fun hh2 => ?_; clear hK K hHeld; have hHeld := hh2; clear hh2
     try simp only [Act.put]
     refine rd1 3 rfl fun K hK => ?_
     go_simp
     refine hK.out _ _ (by exact ⟨((co).trans ((co).trans ((co).trans (((Ext.rfl' _).dr).cellE e1)))), ((co).trans ((co).trans ((co).trans (((Ext.rfl' _).dr).cellE e2)))), ((co).trans ((co).trans ((co).trans (((Ext.rfl' _).dr).cellE e3))))⟩) fun hh2 => ?_; clear hK K hHeld; have hHeld := hh2; clear hh2
     try simp only [Act.put]
     refine dn ?_
     go_wp2
     have s0 : ∀ u0 u1 u2 : Value, World.cell? (World.setCell (World.setCell (World.setCell w10 ⟨w.heap.size, 0, none⟩ u0) ⟨w.heap.size + 1, 0, none⟩ u1) ⟨w.heap.size + 1, 1, none⟩ u2) ⟨w.heap.size, 0, none⟩ = some u0 := fun u0 u1 u2 => (((QE.out.lb.set 0 u0).oth (show w.heap.size + 1 ≠ w.heap.size by omega) u1).oth (show w.heap.size + 1 ≠ w.heap.size by omega) u2).cell (j := 0) rfl
     have s1 : ∀ u0 u1 u2 : Value, World.cell? (World.setCell (World.setCell (World.setCell w10 ⟨w.heap.size, 0, none⟩ u0) ⟨w.heap.size + 1, 0, none⟩ u1) ⟨w.heap.size + 1, 1, none⟩ u2) ⟨w.heap.size + 1, 0, none⟩ = some u1 := fun u0 u1 u2 => (((QE.out.mb.oth (show w.heap.size ≠ w.heap.size + 1 by omega) u0).set 0 u1).set 1 u2).cell (j := 0) rfl
     have s2 : ∀ u0 u1 u2 : Value, World.cell? (World.setCell (World.setCell (World.setCell w10 ⟨w.heap.size, 0, none⟩ u0) ⟨w.heap.size + 1, 0, none⟩ u1) ⟨w.heap.size + 1, 1, none⟩ u2) ⟨w.heap.size + 1, 1, none⟩ = some u2 := fun u0 u1 u2 => (((QE.out.mb.oth (show w.heap.size ≠ w.heap.size + 1 by omega) u0).set 0 u1).set 1 u2).cell (j := 1) rfl
     have hS : Mod (fun b => b = w.heap.size ∨ b = w.heap.size + 1) w10 (World.drew (World.setCell (World.setCell (World.setCell w10 ⟨w.heap.size, 0, none⟩ (.slice A g.length c)) ⟨w.heap.size + 1, 0, none⟩ (.slice (some ⟨bx, 0, none⟩) ll.length ch)) ⟨w.heap.size + 1, 1, none⟩ (.int .i64 p))) := Mod.dr (Mod.set (F := fun b => b = w.heap.size ∨ b = w.heap.size + 1) (Mod.set (F := fun b => b = w.heap.size ∨ b = w.heap.size + 1) (Mod.set (F := fun b => b = w.heap.size ∨ b = w.heap.size + 1) (Mod.rfl' _ _) (p := ⟨w.heap.size, 0, none⟩) (.inl (.inl rfl)) _) (p := ⟨w.heap.size + 1, 0, none⟩) (.inl (.inr rfl)) _) (p := ⟨w.heap.size + 1, 1, none⟩) (.inl (.inr rfl)) _)
     refine bodyPost_ret (v := .tuple #[.agg #[.slice A g.length c], .agg #[.slice (some ⟨bx, 0, none⟩) (ll.set 0 l9).length ch, .int .i64 p]]) (by simp [results, Try.results44, go_sem, s0, s1, s2]; try rfl) rfl ?_
     refine ⟨g, A, c, (ll.set 0 l9), (some ⟨bx, 0, none⟩), ch, p, rfl, hlo, hhi, by (try simp only [List.length_set]); omega, HLE.out, by omega, by omega, fun X hX => ?_, (QE.out.rd.mod hS (fun b e => by have := QE.out.hR; omega)).more (by omega), QE.out.mo.tr hS (fun b e => .inr (by omega))⟩
     have hX2 := (hS.mono (F' := fun b => b < w.heap.size + 2) (fun b _ e => by omega)).tr' (hX.mono (F' := fun b => b < w.heap.size + 2) (fun b _ e => by have := QE.out.hR; omega))
     exact ⟨QE.out.ok X (hX2.mono (fun b _ e => .inl e)), OwnL.rdL (OwnD.mod QE.out.ol hX2 (fun b hb e => by have := (OwnD.lt QE.out.ol hb).1; omega)) (by (try simp only [List.length_set]); omega) (fun l hl => Nat.le_trans (HLE.out l hl) (by omega))⟩
    ·have z2 : (x == 1) = false := by rw [beq_eq_false_iff_ne]; exact h1
     clear h1
     have HLE := HLL
     have QE := lh Q8.out
     have e1 := QE.out.gb.cell (j := 0) rfl
     have be1 := blt e1
     have e2 := QE.out.hb.cell (j := 0) rfl
     have be2 := blt e2
     have e3 := QE.out.hb.cell (j := 1) rfl
     have f1 := QE.out.lb.free 0
     have f2 := QE.out.mb.free 0
     have f3 := QE.out.mb.free 1
     have x1 := QE.out.lb.cell (j := 0) rfl
     have x2 := QE.out.mb.cell (j := 0) rfl
     have x3 := QE.out.mb.cell (j := 1) rfl
     have hPE := QE.out.hP
     have bl1 := QE.out.lb.lt
     have bl2 := QE.out.mb.lt
     go_wp2_with fail
     refine wp_region_held_drew (S := (fun W => W.cell? ⟨P, 0, none⟩ = some (.slice A g.length c) ∧ W.cell? ⟨Q, 0, none⟩ = some (.slice Ah ll.length ch) ∧ W.cell? ⟨Q, 1, none⟩ = some (.int .i64 p))) (by kernel_rfl) ?_ (fun hHeld => ?_)
     ·exact ⟨(((Ext.rfl' _).dr).cellE e1), (((Ext.rfl' _).dr).cellE e2), (((Ext.rfl' _).dr).cellE e3)⟩
     refine ty 0 ?_
     refine ty 1 ?_
     refine rd1 2 rfl fun K hK => ?_
     go_simp
     refine hK.out _ _ (by exact ⟨((co).trans (((Ext.rfl' _).dr).cellE e1)), ((co).trans (((Ext.rfl' _).dr).cellE e2)), ((co).trans (((Ext.rfl' _).dr).cellE e3))⟩) fun hh2 => ?_; clear hK K hHeld; have hHeld := hh2; clear hh2
     try simp only [Act.put]
     refine rd1 3 rfl fun K hK => ?_
     go_simp
     refine hK.out _ _ (by exact ⟨((co).trans ((co).trans ((co).trans (((Ext.rfl' _).dr).cellE e1)))), ((co).trans ((co).trans ((co).trans (((Ext.rfl' _).dr).cellE e2)))), ((co).trans ((co).trans ((co).trans (((Ext.rfl' _).dr).cellE e3))))⟩) fun hh2 => ?_; clear hK K hHeld; have hHeld := hh2; clear hh2
     try simp only [Act.put]
     refine dn ?_
     go_wp2
     have s0 : ∀ u0 u1 u2 : Value, World.cell? (World.setCell (World.setCell (World.setCell w8 ⟨w.heap.size, 0, none⟩ u0) ⟨w.heap.size + 1, 0, none⟩ u1) ⟨w.heap.size + 1, 1, none⟩ u2) ⟨w.heap.size, 0, none⟩ = some u0 := fun u0 u1 u2 => (((QE.out.lb.set 0 u0).oth (show w.heap.size + 1 ≠ w.heap.size by omega) u1).oth (show w.heap.size + 1 ≠ w.heap.size by omega) u2).cell (j := 0) rfl
     have s1 : ∀ u0 u1 u2 : Value, World.cell? (World.setCell (World.setCell (World.setCell w8 ⟨w.heap.size, 0, none⟩ u0) ⟨w.heap.size + 1, 0, none⟩ u1) ⟨w.heap.size + 1, 1, none⟩ u2) ⟨w.heap.size + 1, 0, none⟩ = some u1 := fun u0 u1 u2 => (((QE.out.mb.oth (show w.heap.size ≠ w.heap.size + 1 by omega) u0).set 0 u1).set 1 u2).cell (j := 0) rfl
     have s2 : ∀ u0 u1 u2 : Value, World.cell? (World.setCell (World.setCell (World.setCell w8 ⟨w.heap.size, 0, none⟩ u0) ⟨w.heap.size + 1, 0, none⟩ u1) ⟨w.heap.size + 1, 1, none⟩ u2) ⟨w.heap.size + 1, 1, none⟩ = some u2 := fun u0 u1 u2 => (((QE.out.mb.oth (show w.heap.size ≠ w.heap.size + 1 by omega) u0).set 0 u1).set 1 u2).cell (j := 1) rfl
     have hS : Mod (fun b => b = w.heap.size ∨ b = w.heap.size + 1) w8 (World.drew (World.setCell (World.setCell (World.setCell w8 ⟨w.heap.size, 0, none⟩ (.slice A g.length c)) ⟨w.heap.size + 1, 0, none⟩ (.slice Ah ll.length ch)) ⟨w.heap.size + 1, 1, none⟩ (.int .i64 p))) := Mod.dr (Mod.set (F := fun b => b = w.heap.size ∨ b = w.heap.size + 1) (Mod.set (F := fun b => b = w.heap.size ∨ b = w.heap.size + 1) (Mod.set (F := fun b => b = w.heap.size ∨ b = w.heap.size + 1) (Mod.rfl' _ _) (p := ⟨w.heap.size, 0, none⟩) (.inl (.inl rfl)) _) (p := ⟨w.heap.size + 1, 0, none⟩) (.inl (.inr rfl)) _) (p := ⟨w.heap.size + 1, 1, none⟩) (.inl (.inr rfl)) _)
     refine bodyPost_ret (v := .tuple #[.agg #[.slice A g.length c], .agg #[.slice Ah ll.length ch, .int .i64 p]]) (by simp [results, Try.results44, go_sem, s0, s1, s2]; try rfl) rfl ?_
     refine ⟨g, A, c, ll, Ah, ch, p, rfl, hlo, hhi, by (try simp only [List.length_set]); omega, HLE.out, by omega, by omega, fun X hX => ?_, (QE.out.rd.mod hS (fun b e => by have := QE.out.hR; omega)).more (by omega), QE.out.mo.tr hS (fun b e => .inr (by omega))⟩
     have hX2 := (hS.mono (F' := fun b => b < w.heap.size + 2) (fun b _ e => by omega)).tr' (hX.mono (F' := fun b => b < w.heap.size + 2) (fun b _ e => by have := QE.out.hR; omega))
     exact ⟨QE.out.ok X (hX2.mono (fun b _ e => .inl e)), OwnL.rdL (OwnD.mod QE.out.ol hX2 (fun b hb e => by have := (OwnD.lt QE.out.ol hb).1; omega)) (by (try simp only [List.length_set]); omega) (fun l hl => Nat.le_trans (HLE.out l hl) (by omega))⟩

set_option maxRecDepth 100000 in
set_option maxHeartbeats 4000000 in
theorem s_DrawMoveHistory (A : Option Addr) (c : Nat) (l : List Int) (w : World) (h : Rd w 1 A l.length (u8s l)) (hr : ∀ x ∈ l, 0 ≤ x ∧ x ≤ 255) (hc : l.length ≤ c) (hcm : c ≤ maxLen) :
  Calls Try.prog 15 #[.slice A l.length c] w fun e w' => ∃ (g : Sg.Graph) (Ag : Option Addr) (cg : Nat) (ll : List (List Int)) (Ah : Option Addr) (ch : Nat) (p n : Int), e = .returned (.tuple #[.agg #[.slice Ag g.length cg], .agg #[.slice Ah ll.length ch, .int .i64 p], .int .i64 n]) ∧
   2 ≤ g.length ∧ g.length ≤ 10 ∧ ll.length ≤ 10 ∧ (∀ l ∈ ll, l.length ≤ 11) ∧ -1 ≤ p ∧ p ≤ 10 ∧ -11 ≤ n ∧ n ≤ 11 ∧ RdN w' Ag g ∧ RdL w' Ah ll ∧ Ext w w' := by
 have e0 : Ext w (World.alloc (World.alloc w (.cells #[.slice none 0 0] 25)) (.cells #[.slice none 0 0, .int .i64 0] 44)) := ((Ext.rfl' w).al _).al _
 have HN := lh (s_newReader A c l _ (h.ext e0) hr hc hcm)
 have B0 := lh ((Bx.new w #[.slice none 0 0] 25).al (.cells #[.slice none 0 0, .int .i64 0] 44))
 have d0 := Bx.new (World.alloc w (.cells #[.slice none 0 0] 25)) #[.slice none 0 0, .int .i64 0] 44
 simp only [World.size_alloc] at d0
 have D0 := lh d0
 have E0 := lh e0
 clear h e0 d0
 go_enter Try.func15, Try.ntmps15
 go_wp2_with fail
 refine HN.out.mono ?_
 rintro e w1 ⟨rfl, hr1, he1⟩
 have B1 := lh (B0.out.ext he1)
 have D1 := lh (D0.out.ext he1)
 have E1 := lh (E0.out.tr he1)
 have R1 := lh hr1
 have hw1 := he1.size
 simp only [World.size_alloc] at hw1 hr1
 have hR1 := hr1.lt
 clear hr1 he1 HN B0 D0 E0
 go_wp2_with fail
 refine (s_historyOf _ 0 _ (by have := R1.out; simpa using this) (by omega)).mono ?_
 rintro e w2 ⟨g, Ag, cg, ll, Ah, ch, p, rfl, hg2, hg10, hll, hle, hp0, hp1, hok, hr2, hm2⟩
 have hw2 := hm2.size
 have HLE := lh hle
 have HOK := lh (fun X (hX : Mod (fun b => b ≤ w.heap.size + 2 ∨ b < w1.heap.size ∨ w2.heap.size ≤ b) w2 X) => hok X (hX.mono (fun b hb e => by simp only [World.size_alloc] at *; omega)))
 have B2 := lh (((B1.out.mod hm2 (by (try simp only [World.size_alloc]); omega)).al (.cells #[.slice Ag g.length cg] 25)).al (.cells #[.slice Ah ll.length ch, .int .i64 p] 44))
 have D2 := lh (((D1.out.mod hm2 (by (try simp only [World.size_alloc]); omega)).al (.cells #[.slice Ag g.length cg] 25)).al (.cells #[.slice Ah ll.length ch, .int .i64 p] 44))
 have E2 := lh (((Ext.md E1.out hm2 (fun b e => by (try simp only [World.size_alloc] at e); omega)).al (.cells #[.slice Ag g.length cg] 25)).al (.cells #[.slice Ah ll.length ch, .int .i64 p] 44))
 have G2 := lh ((Bx.new w2 #[.slice Ag g.length cg] 25).al (.cells #[.slice Ah ll.length ch, .int .i64 p] 44))
 have h2x := Bx.new (World.alloc w2 (.cells #[.slice Ag g.length cg] 25)) #[.slice Ah ll.length ch, .int .i64 p] 44
 simp only [World.size_alloc] at h2x
 have H2 := lh h2x
 have R2 := lh (show Rdr (World.alloc (World.alloc w2 (.cells #[.slice Ag g.length cg] 25)) (.cells #[.slice Ah ll.length ch, .int .i64 p] 44)) (w.heap.size + 2) 2000 by have := hr2.ext (((Ext.rfl' w2).al (.cells #[.slice Ag g.length cg] 25)).al (.cells #[.slice Ah ll.length ch, .int .i64 p] 44)); simpa using this)
 have OK2 := lh (fun X (hX : Mod (fun b => b ≤ w.heap.size + 2 ∨ b < w1.heap.size ∨ w2.heap.size ≤ b) (World.alloc (World.alloc w2 (.cells #[.slice Ag g.length cg] 25)) (.cells #[.slice Ah ll.length ch, .int .i64 p] 44)) X) => HOK.out X ((Mod.of (((Ext.rfl' w2).al (.cells #[.slice Ag g.length cg] 25)).al (.cells #[.slice Ah ll.length ch, .int .i64 p] 44))).tr' hX))
 clear hok hr2 hm2 R1 B1 D1 E1 HOK h2x hle
 go_upto_region 3 with fail
 have hs2 : w2.heap.size < (World.alloc (World.alloc w2 (.cells #[.slice Ag g.length cg] 25)) (.cells #[.slice Ah ll.length ch, .int .i64 p] 44)).heap.size := by simp; omega
 generalize (World.alloc (World.alloc w2 (.cells #[.slice Ag g.length cg] 25)) (.cells #[.slice Ah ll.length ch, .int .i64 p] 44)) = w3 at *
 generalize hPP : w2.heap.size = P at *
 clear hPP

 have ed := (Ext.rfl' w3).dr
 have B3 := lh (B2.out.ext ed)
 have D3 := lh (D2.out.ext ed)
 have G3 := lh (G2.out.ext ed)
 have H3 := lh (H2.out.ext ed)
 have R3 := lh (R2.out.ext ed)
 have E3 := lh (E2.out.tr ed)
 have OK3 := lh (fun X (hX : Mod (fun b => b ≤ w.heap.size + 2 ∨ b < w1.heap.size ∨ P ≤ b) _ X) => OK2.out X ((Mod.of ed).tr' hX))
 have g3 := G3.out.cell (j := 0) rfl
 have ha3 := H3.out.cell (j := 0) rfl
 have hb3 := H3.out.cell (j := 1) rfl
 have zg3 := G3.out.lt
 have zh3 := H3.out.lt
 have rl3 := R3.out.lt
 clear ed
 skip
 go_wp2_with fail
 refine wp_region_held_drew (S := (fun W => W.cell? ⟨P, 0, none⟩ = some (.slice Ag g.length cg) ∧ W.cell? ⟨P + 1, 0, none⟩ = some (.slice Ah ll.length ch) ∧ W.cell? ⟨P + 1, 1, none⟩ = some (.int .i64 p))) (by kernel_rfl) ?_ (fun hHeld => ?_)
 ·exact ⟨g3, ha3, hb3⟩
 refine ty 0 ?_
 refine ty 1 ?_
 refine ty 2 ?_
 refine rd1 3 rfl fun K hK => ?_
 go_simp
 refine hK.out _ _ (by exact ⟨((Ext.rfl' _).al _).cellE g3, ((Ext.rfl' _).al _).cellE ha3, ((Ext.rfl' _).al _).cellE hb3⟩) fun hh2 => ?_; clear hK K hHeld; have hHeld := hh2; clear hh2
 try simp only [Act.put, pu]
 refine rd1 4 rfl fun K hK => ?_
 go_simp
 have eL := (Ext.rfl' (World.drew w3)).al (.cells #[.int .i64 (-1), .int .i64 1, .int .i64 0, .int .i64 (-2), .int .i64 2, .int .i64 11, .int .i64 (-11)] 3)
 have B4 := lh (B3.out.ext eL)
 have D4 := lh (D3.out.ext eL)
 have G4 := lh (G3.out.ext eL)
 have H4 := lh (H3.out.ext eL)
 have R4 := lh (R3.out.ext eL)
 have E4 := lh (E3.out.tr eL)
 have OK4 := lh (fun X (hX : Mod (fun b => b ≤ w.heap.size + 2 ∨ b < w1.heap.size ∨ P ≤ b) _ X) => OK3.out X ((Mod.of eL).tr' hX))
 have g4 := G4.out.cell (j := 0) rfl
 have ha4 := H4.out.cell (j := 0) rfl
 have hb4 := H4.out.cell (j := 1) rfl
 have zg4 := G4.out.lt
 have zh4 := H4.out.lt
 have rl4 := R4.out.lt
 have RL := (Own.new (World.drew w3) (B := 0) 3 1 #[.int .i64 (-1), .int .i64 1, .int .i64 0, .int .i64 (-2), .int .i64 2, .int .i64 11, .int .i64 (-11)] 7 (Nat.zero_le _) (by unfold maxLen; omega) rfl).rd
 refine (s_one _ 2000 _ 7 [-1, 1, 0, -2, 2, 11, -11] _ R4.out RL (by simp) (by simp) (by intro z hz; simp [blk] at hz; omega) (by omega)).mono ?_
 rintro e w5 ⟨n, rfl, hn, hr5, hm5⟩
 clear eL RL
 have B5 := lh (B4.out.mod hm5 (by omega))
 have D5 := lh (D4.out.mod hm5 (by omega))
 have G5 := lh (G4.out.mod hm5 (by omega))
 have H5 := lh (H4.out.mod hm5 (by omega))
 have E5 := lh (Ext.md E4.out hm5 (fun b e => by omega))
 have R5 := lh hr5
 have OK5 := lh (fun X (hX : Mod (fun b => b ≤ w.heap.size + 2 ∨ b < w1.heap.size ∨ P ≤ b) _ X) => OK4.out X ((hm5.mono (fun b _ e => .inl (by omega))).tr' hX))
 have g5 := G5.out.cell (j := 0) rfl
 have ha5 := H5.out.cell (j := 0) rfl
 have hb5 := H5.out.cell (j := 1) rfl
 have zg5 := G5.out.lt
 have zh5 := H5.out.lt
 have rl5 := R5.out.lt
 have hnr : -11 ≤ n ∧ n ≤ 11 := by simp only [List.mem_cons, List.not_mem_nil, or_false] at hn; omega
 have f1 := B5.out.free 0
 have x1 := B5.out.cell (j := 0) rfl
 have bl1 := B5.out.lt
 have f2 := D5.out.free 0
 have f3 := D5.out.free 1
 have x2 := D5.out.cell (j := 0) rfl
 have x3 := D5.out.cell (j := 1) rfl
 have bl2 := D5.out.lt
 clear hr5 hm5 hn
 try go_wp2_with fail
 refine hK.out _ _ (by exact ⟨g5, ha5, hb5⟩) fun hh2 => ?_; clear hK K hHeld; have hHeld := hh2; clear hh2
 try simp only [Act.put, pu]
 refine rd1 5 rfl fun K hK => ?_
 go_simp
 refine hK.out _ _ (by exact ⟨((co).trans g5), ((co).trans ha5), ((co).trans hb5)⟩) fun hh2 => ?_; clear hK K hHeld; have hHeld := hh2; clear hh2
 try simp only [Act.put]
 refine rd1 6 rfl fun K hK => ?_
 go_simp
 refine hK.out _ _ (by exact ⟨((co).trans ((co).trans ((co).trans g5))), ((co).trans ((co).trans ((co).trans ha5))), ((co).trans ((co).trans ((co).trans hb5)))⟩) fun hh2 => ?_; clear hK K hHeld; have hHeld := hh2; clear hh2
 try simp only [Act.put]
 refine ty 7 ?_
 refine dn ?_
 go_wp2
 have s0 : ∀ u0 u1 u2 : Value, World.cell? (World.setCell (World.setCell (World.setCell w5 ⟨w.heap.size, 0, none⟩ u0) ⟨w.heap.size + 1, 0, none⟩ u1) ⟨w.heap.size + 1, 1, none⟩ u2) ⟨w.heap.size, 0, none⟩ = some u0 := fun u0 u1 u2 => (((B5.out.set 0 u0).oth (show w.heap.size + 1 ≠ w.heap.size by omega) u1).oth (show w.heap.size + 1 ≠ w.heap.size by omega) u2).cell (j := 0) rfl
 have s1 : ∀ u0 u1 u2 : Value, World.cell? (World.setCell (World.setCell (World.setCell w5 ⟨w.heap.size, 0, none⟩ u0) ⟨w.heap.size + 1, 0, none⟩ u1) ⟨w.heap.size + 1, 1, none⟩ u2) ⟨w.heap.size + 1, 0, none⟩ = some u1 := fun u0 u1 u2 => (((D5.out.oth (show w.heap.size ≠ w.heap.size + 1 by omega) u0).set 0 u1).set 1 u2).cell (j := 0) rfl
 have s2 : ∀ u0 u1 u2 : Value, World.cell? (World.setCell (World.setCell (World.setCell w5 ⟨w.heap.size, 0, none⟩ u0) ⟨w.heap.size + 1, 0, none⟩ u1) ⟨w.heap.size + 1, 1, none⟩ u2) ⟨w.heap.size + 1, 1, none⟩ = some u2 := fun u0 u1 u2 => (((D5.out.oth (show w.heap.size ≠ w.heap.size + 1 by omega) u0).set 0 u1).set 1 u2).cell (j := 1) rfl
 have hS : Mod (fun b => b = w.heap.size ∨ b = w.heap.size + 1) w5 (World.setCell (World.setCell (World.setCell w5 ⟨w.heap.size, 0, none⟩ (.slice Ag g.length cg)) ⟨w.heap.size + 1, 0, none⟩ (.slice Ah ll.length ch)) ⟨w.heap.size + 1, 1, none⟩ (.int .i64 p)) := Mod.set (F := fun b => b = w.heap.size ∨ b = w.heap.size + 1) (Mod.set (F := fun b => b = w.heap.size ∨ b = w.heap.size + 1) (Mod.set (F := fun b => b = w.heap.size ∨ b = w.heap.size + 1) (Mod.rfl' _ _) (p := ⟨w.heap.size, 0, none⟩) (.inl (.inl rfl)) _) (p := ⟨w.heap.size + 1, 0, none⟩) (.inl (.inr rfl)) _) (p := ⟨w.heap.size + 1, 1, none⟩) (.inl (.inr rfl)) _
 refine bodyPost_ret (v := .tuple #[.agg #[.slice Ag g.length cg], .agg #[.slice Ah ll.length ch, .int .i64 p], .int .i64 n]) (by simp [results, Try.results15, go_sem, s0, s1, s2]; try rfl) rfl ?_
 obtain ⟨y1, y2⟩ := OK5.out _ (hS.mono (fun b _ e => .inl (by omega)))
 exact ⟨g, Ag, cg, ll, Ah, ch, p, n, rfl, hg2, hg10, hll, HLE.out, hp0, hp1, hnr.1, hnr.2, y1, y2, Ext.md E5.out hS (fun b e => by omega)⟩
end Go.Proofs.Yteighpaljdlnaaa
