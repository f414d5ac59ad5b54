/- An eager state of the call's own, with the list of what ran and boxes: laws. Conditions: none. -/
import Derived.Test.YtmkfjnkdaeoppaaGreatSepAll
import Derived.Test.YtmkfjnkdaeoppaaGreatHasM
namespace Go.Proofs.YtmkfjnkdaeoppaaGreat
open Go.RowKit

theorem OwnL.put3 {w : World} {B c : Nat} {A : Option Addr} {ll : List (List Int)} {hs : List (Option Addr × Nat)} (k : OwnL w B A c ll hs) {i : Nat} (hi : i < ll.length) (l : List Int) {A0 : Option Addr} {c0 : Nat}
  (own : Own w B 3 1 A0 l.length c0 (ints l)) (hd : ∀ b, blk A0 = some b → ¬ fpD A hs b) {g : Nat} (hA : A = some ⟨g, 0, none⟩) : OwnL (w.setCell ⟨g, i, none⟩ (.slice A0 l.length c0)) B A c (ll.set i l) (hs.set i (A0, c0)) := by
 subst hA
 have hlen : hs.length = ll.length := by have := k.len; simpa using this
 have hits : listIts (ll.set i l) = (listIts ll).set i ⟨[], l.length, ints l⟩ := by simp [listIts, List.map_set]
 have hpre : ∀ x ∈ listIts ll, x.pre = [] := by
  intro x hx
  unfold listIts at hx
  rw [List.mem_map] at hx
  obtain ⟨y, _, rfl⟩ := hx
  rfl
 have hother : ∀ b, b ≠ g → (w.setCell ⟨g, i, none⟩ (.slice A0 l.length c0)).heap[b]? = w.heap[b]? := fun b hb => Below.heap_setCell _ _ _ _ hb
 have hg0 : ∀ b, blk A0 = some b → b ≠ g := fun b hb e => hd b hb (.inl (by subst e; rfl))
 have hin0 : ∀ (j : Nat) (h : Option Addr × Nat), hs[j]? = some h → ∀ b, blk A0 = some b → blk h.1 ≠ some b := fun j h hh b hb e => hd b hb (.inr ⟨h, List.mem_of_getElem? hh, e⟩)
 refine ⟨by simp [hlen], ?_, ?_, ?_, ?_⟩
 ·have h1 := k.out.st i (.slice A0 l.length c0)
  rw [dcells_put (listIts ll) hs i ⟨[], l.length, ints l⟩ A0 c0 hpre rfl (by simpa using hlen) (by simpa using hi)] at h1
  rw [hits]
  simpa using h1
 ·intro j it h hj hh
  rw [hits] at hj
  by_cases hij : j = i
  ·subst hij
   rw [List.getElem?_set_self (by simpa using hi)] at hj
   rw [List.getElem?_set_self (by omega)] at hh
   injection hj with hj
   injection hh with hh
   subst hj
   subst hh
   exact own.keep fun b hb => hother b (hg0 b hb)
  ·rw [List.getElem?_set_ne (fun e => hij e.symm)] at hj hh
   refine (k.inn j it h hj hh).keep fun b hb => hother b (fun e2 => ?_)
   subst e2
   exact k.dio j h hh b rfl hb
 ·intro a b h h' hab hh hh' x hx hx'
  by_cases h1 : a = i
  ·subst h1
   rw [List.getElem?_set_self (by omega)] at hh
   injection hh with hh
   subst hh
   rw [List.getElem?_set_ne (by omega)] at hh'
   exact hin0 b h' hh' x hx hx'
  ·rw [List.getElem?_set_ne (fun e => h1 e.symm)] at hh
   by_cases h2 : b = i
   ·subst h2
    rw [List.getElem?_set_self (by omega)] at hh'
    injection hh' with hh'
    subst hh'
    exact hin0 a h hh x hx' hx
   ·rw [List.getElem?_set_ne (fun e => h2 e.symm)] at hh'
    exact k.dis a b h h' hab hh hh' x hx hx'
 ·intro a h hh b hb hb'
  by_cases h1 : a = i
  ·subst h1
   rw [List.getElem?_set_self (by omega)] at hh
   injection hh with hh
   subst hh
   simp [blk] at hb
   exact hg0 b hb' hb.symm
  ·rw [List.getElem?_set_ne (fun e => h1 e.symm)] at hh
   exact k.dio a h hh b hb hb'

def thE (B L gv cv gr cr : Nat) (hs : List (Option Addr × Nat)) (A : Option Addr) (c : Nat) (ts : List (Th B)) (s : Sg.HS) : List (Th B) :=
 Th.own B 3 1 (some ⟨gv, 0, none⟩) L cv (ints s.vals) :: Th.ownL B (some ⟨gr, 0, none⟩) cr s.reads hs :: Th.own B 3 1 A s.ran.length c (ints s.ran) :: ts
/-- the state s in the world W: its blocks are F, all newer than w0; A, c: the list of what ran -/
structure HQ (w0 : World) (L gv cv gr cr : Nat) (A : Option Addr) (c : Nat) (ts : List (Th w0.heap.size)) (s : Sg.HS) (F : Nat → Prop) (W : World) : Prop where
 old : Ext w0 W
 ex : ∃ hs, Sep (thE w0.heap.size L gv cv gr cr hs A c ts s) W ∧ ∀ b, F b ↔ ∃ t ∈ thE w0.heap.size L gv cv gr cr hs A c ts s, t.fp b
 rl : s.reads.length = L
section
variable {w0 : World} {L gv cv gr cr c : Nat} {A : Option Addr} {ts : List (Th w0.heap.size)} {s : Sg.HS} {F F0 : Nat → Prop} {W W' W0 : World}
theorem HQ.lt (h : HQ w0 L gv cv gr cr A c ts s F W) {b : Nat} (hb : F b) : w0.heap.size ≤ b ∧ b < W.heap.size := by
 obtain ⟨hs, hS, hF⟩ := h.ex
 obtain ⟨x, hx, hxb⟩ := (hF b).1 hb
 exact hS.lt hx hxb
theorem HQ.ext (h : HQ w0 L gv cv gr cr A c ts s F W) (e : Ext W W') : HQ w0 L gv cv gr cr A c ts s F W' := by
 obtain ⟨hs, hS, hF⟩ := h.ex
 exact ⟨h.old.tr e, ⟨hs, hS.ext e, hF⟩, h.rl⟩
theorem HQ.v (h : HQ w0 L gv cv gr cr A c ts s F W) : Own W w0.heap.size 3 1 (some ⟨gv, 0, none⟩) L cv (ints s.vals) := by
 obtain ⟨hs, hS, _⟩ := h.ex
 exact Sep.get hS 0 rfl
theorem HQ.r (h : HQ w0 L gv cv gr cr A c ts s F W) : ∃ hs, OwnL W w0.heap.size (some ⟨gr, 0, none⟩) cr s.reads hs := by
 obtain ⟨hs, hS, _⟩ := h.ex
 exact ⟨hs, Sep.get hS 1 rfl⟩
theorem HQ.o (h : HQ w0 L gv cv gr cr A c ts s F W) : Own W w0.heap.size 3 1 A s.ran.length c (ints s.ran) := by
 obtain ⟨hs, hS, _⟩ := h.ex
 exact Sep.get hS 2 rfl
theorem HQ.t (h : HQ w0 L gv cv gr cr A c ts s F W) {i : Nat} {x : Th w0.heap.size} (hx : ts[i]? = some x) : x.ok W := by
 obtain ⟨hs, hS, _⟩ := h.ex
 exact Sep.get hS (i + 3) (by simpa [thE] using hx)
theorem HQ.vl (h : HQ w0 L gv cv gr cr A c ts s F W) : s.vals.length = L := by have := h.v.1; simpa using this
theorem HQ.Fv (h : HQ w0 L gv cv gr cr A c ts s F W) : F gv := by
 obtain ⟨hs, hS, hF⟩ := h.ex
 exact (hF gv).2 ⟨_, List.mem_of_getElem? (i := 0) rfl, rfl⟩
theorem HQ.Fr (h : HQ w0 L gv cv gr cr A c ts s F W) : F gr := by
 obtain ⟨hs, hS, hF⟩ := h.ex
 exact (hF gr).2 ⟨_, List.mem_of_getElem? (i := 1) rfl, .inl rfl⟩
theorem HQ.ne (h : HQ w0 L gv cv gr cr A c ts s F W) : gv ≠ gr := by
 obtain ⟨hs, hS, hF⟩ := h.ex
 exact fun e => hS.2.1 (Th.ownL w0.heap.size (some ⟨gr, 0, none⟩) cr s.reads hs) (by simp) gv rfl (.inl (by rw [e]; rfl))
theorem HQ.neT (h : HQ w0 L gv cv gr cr A c ts s F W) {i : Nat} {x : Th w0.heap.size} (hx : ts[i]? = some x) {b : Nat} (hb : x.fp b) : b ≠ gv ∧ b ≠ gr ∧ blk A ≠ some b := by
 obtain ⟨hs, hS, hF⟩ := h.ex
 have hm := List.mem_of_getElem? hx
 exact ⟨fun e => hS.2.1 x (by simp [hm]) b (by rw [e]; rfl) hb, fun e => hS.2.2.2.1 x (by simp [hm]) b (.inl (by rw [e]; rfl)) hb, fun e => hS.2.2.2.2.2.1 x (by simp [hm]) b e hb⟩
theorem HQ.val (h : HQ w0 L gv cv gr cr A c ts s F W) {n : Nat} (hn : n < L) : W.cell? ⟨gv, n, none⟩ = some (.int .i64 (s.vals.getD n 0)) ∧ W.frozen? ⟨gv, n, none⟩ = false ∧ gv < W.heap.size := by
 have hx : s.vals[n]? = some (s.vals.getD n 0) := by
  have hl := h.vl
  rw [List.getD_eq_getElem?_getD, List.getElem?_eq_getElem (by omega), Option.getD_some]
 have hc := h.v.cell (j := n) (u := .int .i64 (s.vals.getD n 0)) (by rw [ints_at, hx]; rfl)
 exact ⟨hc, h.v.free n, blt hc⟩
theorem HQ.rds (h : HQ w0 L gv cv gr cr A c ts s F W) {n : Nat} (hn : n < L) : ∃ Al cl, W.cell? ⟨gr, n, none⟩ = some (.slice Al (s.reads.getD n []).length cl) ∧ Rd W 1 Al (s.reads.getD n []).length (ints (s.reads.getD n [])) ∧ W.frozen? ⟨gr, n, none⟩ = false ∧ gr < W.heap.size := by
 obtain ⟨hs, k⟩ := h.r
 have hx : s.reads[n]? = some (s.reads.getD n []) := by
  have hl := h.rl
  rw [List.getD_eq_getElem?_getD, List.getElem?_eq_getElem (by omega), Option.getD_some]
 obtain ⟨a, hh, ho⟩ := k.at_ (listIts_at hx)
 have hc := k.out.cell (j := n) (u := .slice a.1 (s.reads.getD n []).length a.2) (by
  have := at_dcells (listIts_pre s.reads) n 0 (by omega) (listIts_at hx) hh
  rw [Nat.mul_one, Nat.add_zero] at this
  rw [this]; rfl)
 exact ⟨a.1, a.2, hc, ho.rd, k.out.free n, blt hc⟩
/-- one thing is turned -/
theorem HQ.gen {G : Nat → Prop} {hs hs' : List (Option Addr × Nat)} {A' : Option Addr} {c' : Nat} {ts' : List (Th w0.heap.size)} {t : Sg.HS} (h : HQ w0 L gv cv gr cr A c ts s F W) (hS : Sep (thE w0.heap.size L gv cv gr cr hs A c ts s) W) (hF : ∀ b, F b ↔ ∃ t ∈ thE w0.heap.size L gv cv gr cr hs A c ts s, t.fp b)
  (i : Nat) {x x' : Th w0.heap.size} (hx : (thE w0.heap.size L gv cv gr cr hs A c ts s)[i]? = some x) (m : Mod G W W') (hG : ∀ b, G b → x.fp b ∨ W.heap.size ≤ b) (hok : x'.ok W') (hfp : ∀ b, x'.fp b → x.fp b ∨ W.heap.size ≤ b)
  (he : (thE w0.heap.size L gv cv gr cr hs A c ts s).set i x' = thE w0.heap.size L gv cv gr cr hs' A' c' ts' t) (hrl : t.reads.length = L) : ∃ F', HQ w0 L gv cv gr cr A' c' ts' t F' W' ∧ Mod F W W' ∧ ∀ b, F' b → F b ∨ W.heap.size ≤ b := by
 have h1 := hS.set i hx m x' hG hok hfp
 rw [he] at h1
 have hxm := List.mem_of_getElem? hx
 have hsz := h.old.size
 refine ⟨_, ⟨Ext.md h.old m (fun b e => ?_), ⟨hs', h1, fun b => Iff.rfl⟩, hrl⟩, m.mono (fun b hb e => ?_), fun b hb => ?_⟩
 ·rcases hG b e with e2 | e2
  ·exact (hS.lt hxm e2).1
  ·omega
 ·rcases hG b e with e2 | e2
  ·exact (hF b).2 ⟨x, hxm, e2⟩
  ·omega
 ·obtain ⟨y, hy, hyb⟩ := hb
  rw [← he] at hy
  rcases List.mem_or_eq_of_mem_set hy with hy | rfl
  ·exact .inl ((hF b).2 ⟨y, hy, hyb⟩)
  ·rcases hfp b hyb with e2 | e2
   ·exact .inl ((hF b).2 ⟨x, hxm, e2⟩)
   ·exact .inr e2
theorem HQ.setVal (h : HQ w0 L gv cv gr cr A c ts s F W) (n : Nat) (x : Int) : ∃ F', HQ w0 L gv cv gr cr A c ts ⟨s.vals.set n x, s.reads, s.ran⟩ F' (W.setCell ⟨gv, n, none⟩ (.int .i64 x)) ∧ Mod F W (W.setCell ⟨gv, n, none⟩ (.int .i64 x)) ∧ ∀ b, F' b → F b ∨ W.heap.size ≤ b := by
 obtain ⟨hs, hS, hF⟩ := h.ex
 have h1 : Own (W.setCell ⟨gv, n, none⟩ (.int .i64 x)) w0.heap.size 3 1 (some ⟨gv, 0, none⟩) L cv (ints (s.vals.set n x)) := by have := h.v.st n (.int .i64 x); rwa [ints_set] at this
 exact h.gen hS hF 0 (x' := Th.own w0.heap.size 3 1 (some ⟨gv, 0, none⟩) L cv (ints (s.vals.set n x))) rfl (Mod.set (F := fun b => b = gv) (Mod.rfl' _ W) (.inl rfl) _) (fun b e => .inl (by rw [e]; rfl)) h1 (fun b e => .inl e) (hs' := hs) rfl h.rl
/-- a box gets other cells -/
theorem HQ.setT (h : HQ w0 L gv cv gr cr A c ts s F W) {i b j : Nat} {cs : List Value} (hx : ts[i]? = some (Th.box w0.heap.size b cs)) (u : Value) : ∃ F', HQ w0 L gv cv gr cr A c (ts.set i (Th.box w0.heap.size b (cs.set j u))) s F' (W.setCell ⟨b, j, none⟩ u) ∧ Mod F W (W.setCell ⟨b, j, none⟩ u) ∧ ∀ x, F' x → F x ∨ W.heap.size ≤ x := by
 obtain ⟨hs, hS, hF⟩ := h.ex
 have hok := h.t hx
 refine h.gen hS hF (i + 3) (x := Th.box w0.heap.size b cs) (x' := Th.box w0.heap.size b (cs.set j u)) (by simpa [thE] using hx) (Mod.set (F := fun x => x = b) (Mod.rfl' _ W) (.inl rfl) _) (fun x e => .inl e) ⟨hok.1.set j u, hok.2⟩ (fun x e => .inl e) (hs' := hs) (by simp [thE]) h.rl
/-- a node got new reads -/
theorem HQ.put (h : HQ w0 L gv cv gr cr A c ts s F W) {n : Nat} (hn : n < L) (l : List Int) {A0 : Option Addr} {c0 : Nat} (own : Own W w0.heap.size 3 1 A0 l.length c0 (ints l)) (hd : off F A0) :
  ∃ F', HQ w0 L gv cv gr cr A c ts ⟨s.vals, s.reads.set n l, s.ran⟩ F' (W.setCell ⟨gr, n, none⟩ (.slice A0 l.length c0)) ∧ Mod F W (W.setCell ⟨gr, n, none⟩ (.slice A0 l.length c0)) ∧ ∀ b, F' b → F b ∨ blk A0 = some b := by
 obtain ⟨hs, hS, hF⟩ := h.ex
 have hr : OwnL W w0.heap.size (some ⟨gr, 0, none⟩) cr s.reads hs := Sep.get hS 1 rfl
 have hrF : ∀ b, fpD (some ⟨gr, 0, none⟩) hs b → F b := fun b hb => (hF b).2 ⟨_, List.mem_of_getElem? (i := 1) rfl, hb⟩
 have h2 := hr.put3 (by rw [h.rl]; exact hn) l own (fun b hb e => hd b hb (hrF b e)) rfl
 have m : Mod (fun b => b = gr) W (W.setCell ⟨gr, n, none⟩ (.slice A0 l.length c0)) := Mod.set (F := fun b => b = gr) (Mod.rfl' _ W) (.inl rfl) _
 have hfp : ∀ b, fpD (some ⟨gr, 0, none⟩) (hs.set n (A0, c0)) b → fpD (some ⟨gr, 0, none⟩) hs b ∨ blk A0 = some b := by
  rintro b (hb | ⟨x, hx, hb⟩)
  ·exact .inl (.inl hb)
  ·rcases List.mem_or_eq_of_mem_set hx with hx | rfl
   ·exact .inl (.inr ⟨x, hx, hb⟩)
   ·exact .inr hb
 have d1 := hS.2.1
 have d2 := hS.2.2.2.1
 have nv : gv ≠ gr := h.ne
 have nA : ∀ y ∈ thE w0.heap.size L gv cv gr cr hs A c ts s, ∀ b, y.fp b → blk A0 ≠ some b := fun y hy b hb e => hd b e ((hF b).2 ⟨y, hy, hb⟩)
 refine ⟨fun b => ∃ y ∈ thE w0.heap.size L gv cv gr cr (hs.set n (A0, c0)) A c ts ⟨s.vals, s.reads.set n l, s.ran⟩, y.fp b, ⟨Ext.md h.old m (fun b e => by rw [e]; exact (h.lt h.Fr).1), ⟨hs.set n (A0, c0), ?_, fun b => Iff.rfl⟩, by simpa using h.rl⟩, m.mono (fun b _ e => by rw [e]; exact h.Fr), ?_⟩
 ·have hS1 := hS.2.2
  refine ⟨(Th.own w0.heap.size 3 1 (some ⟨gv, 0, none⟩) L cv (ints s.vals)).fr _ _ hS.1 (fun b hb => m.block b (Sep.lt hS (t := Th.own w0.heap.size 3 1 (some ⟨gv, 0, none⟩) L cv (ints s.vals)) (by simp [thE]) hb).2 (fun e => nv (by have : blk (some ⟨gv, 0, none⟩) = some b := hb; simp [blk] at this; omega))), ?_, h2, ?_, ?_⟩
  ·intro y hy b hb hb'
   rcases List.mem_cons.1 hy with rfl | hy
   ·rcases hfp b hb' with e | e
    ·exact d1 (Th.ownL w0.heap.size (some ⟨gr, 0, none⟩) cr s.reads hs) (by simp) b hb e
    ·exact nA _ (List.mem_of_getElem? (i := 0) rfl) b hb e
   ·exact d1 y (List.mem_cons_of_mem _ hy) b hb hb'
  ·intro y hy b hb hb'
   rcases hfp b hb with e | e
   ·exact d2 y hy b e hb'
   ·exact nA y (List.mem_cons_of_mem _ (List.mem_cons_of_mem _ hy)) b hb' e
  ·exact hS1.2.2.fr fun y hy b hb => m.block b (hS1.2.2.lt hy hb).2 (fun e => d2 y hy gr (.inl rfl) (by subst e; exact hb))
 ·rintro b ⟨y, hy, hb⟩
  rcases List.mem_cons.1 hy with rfl | hy
  ·exact .inl ((hF b).2 ⟨_, List.mem_of_getElem? (i := 0) rfl, hb⟩)
  ·rcases List.mem_cons.1 hy with rfl | hy
   ·rcases hfp b hb with e | e
    ·exact .inl (hrF b e)
    ·exact .inr e
   ·exact .inl ((hF b).2 ⟨y, List.mem_cons_of_mem _ (List.mem_cons_of_mem _ hy), hb⟩)
/-- one more has run: the list -/
theorem HQ.addR (h : HQ w0 L gv cv gr cr A c ts s F W) (n : Int) {A2 : Option Addr} {c2 : Nat} (ho : Own W' w0.heap.size 3 1 A2 (s.ran.length + 1) c2 (ints s.ran ++ [.int .i64 n])) (hg : W.grownBy W' (blk A)) (hat : blk A2 = blk A ∨ ∃ g, blk A2 = some g ∧ W.heap.size ≤ g) :
  ∃ F', HQ w0 L gv cv gr cr A2 c2 ts ⟨s.vals, s.reads, s.ran ++ [n]⟩ F' W' ∧ Mod F W W' ∧ ∀ b, F' b → F b ∨ W.heap.size ≤ b := by
 obtain ⟨hs, hS, hF⟩ := h.ex
 have m1 : Mod (fun b => blk A = some b) W W' := ⟨hg.os, hg.tape, hg.output, hg.size, fun b hb hn => hg.block b hb fun e => hn e.symm⟩
 refine h.gen hS hF 2 (x' := Th.own w0.heap.size 3 1 A2 (s.ran.length + 1) c2 (ints s.ran ++ [Value.int .i64 n])) rfl m1 (fun b e => .inl e) ho (fun b hb => ?_) (hs' := hs) (by simp [thE, ints]) h.rl
 rcases hat with hat | ⟨g, hg1, hg2⟩
 ·exact .inl (show blk A = some b by rw [← hat]; exact hb)
 ·have hb' : blk A2 = some b := hb
  rw [hg1] at hb'
  injection hb' with hb'
  exact .inr (by omega)
end
end Go.Proofs.YtmkfjnkdaeoppaaGreat
