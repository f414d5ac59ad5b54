/- Calls that may turn some blocks of what was there; function values that read. Conditions: none. -/
import Derived.Test.YtkkegmimofmhpaaGraph
namespace Go.Proofs.Ytkkegmimofmhpaa
open Go.RowKit

/-- whatever was there is as it was, but for the blocks of F -/
structure Mod (F : Nat → Prop) (w w' : World) : Prop where
  os : w'.os = w.os
  tape : w'.tape = w.tape
  output : w'.output = w.output
  size : w.heap.size ≤ w'.heap.size
  block : ∀ b, b < w.heap.size → ¬ F b → w'.heap[b]? = w.heap[b]?

theorem Mod.of {F : Nat → Prop} {w w' : World} (h : Ext w w') : Mod F w w' := ⟨h.os, h.tape, h.output, h.size, fun b hb _ => h.block b hb⟩
theorem Mod.ext {F : Nat → Prop} {w w' : World} (h : Mod F w w') (hF : ∀ b, ¬ F b) : Ext w w' := ⟨h.os, h.tape, h.output, h.size, fun b hb => h.block b hb (hF b)⟩
theorem Mod.rfl' (F : Nat → Prop) (w : World) : Mod F w w := Mod.of (Ext.rfl' w)
theorem Mod.tr {F F' : Nat → Prop} {a b c : World} (h : Mod F a b) (k : Mod F' b c) (hF : ∀ x, F' x → F x ∨ a.heap.size ≤ x) : Mod F a c :=
  ⟨k.os.trans h.os, k.tape.trans h.tape, k.output.trans h.output, Nat.le_trans h.size k.size, fun x hx hn =>
    (k.block x (Nat.lt_of_lt_of_le hx h.size) (fun e => (hF x e).elim hn (fun e => by omega))).trans (h.block x hx hn)⟩
theorem Mod.tr' {F : Nat → Prop} {a b c : World} (h : Mod F a b) (k : Mod F b c) : Mod F a c := h.tr k fun _ e => .inl e
theorem Mod.mono {F F' : Nat → Prop} {w w' : World} (h : Mod F w w') (hF : ∀ b, b < w.heap.size → F b → F' b) : Mod F' w w' :=
  ⟨h.os, h.tape, h.output, h.size, fun b hb hn => h.block b hb fun e => hn (hF b hb e)⟩
theorem Mod.cellE {F : Nat → Prop} {w w' : World} (h : Mod F w w') {b o : Nat} {u : Value} (hc : w.cell? ⟨b, o, none⟩ = some u) (hF : ¬ F b) : w'.cell? ⟨b, o, none⟩ = some u :=
  (World.cell?_of_block (a := ⟨b, o, none⟩) (h.block b (blt hc) hF)).trans hc
/-- the slice's block is none of F -/
def off (F : Nat → Prop) (A : Option Addr) : Prop := ∀ b, blk A = some b → ¬ F b
theorem Rd.mod {F : Nat → Prop} {w w' : World} {size n : Nat} {A : Option Addr} {xs : List Value} (h : Rd w size A n xs) (k : Mod F w w') (hF : off F A) : Rd w' size A n xs :=
  ⟨h.1, h.2.1, fun hn => let ⟨b, o, ha, hc⟩ := h.2.2 hn; ⟨b, o, ha, fun j u hu => k.cellE (hc j u hu) (hF b (by rw [ha]; rfl))⟩⟩
theorem Own.mod {F : Nat → Prop} {w w' : World} {B e size n c : Nat} {A : Option Addr} {xs : List Value} (h : Own w B e size A n c xs) (k : Mod F w w') (hF : off F A) : Own w' B e size A n c xs :=
  h.keep fun g hg => k.block g (h.lt hg).2 (hF g hg)
theorem bcellM {F : Nat → Prop} {W w1 : World} (hb : Mod F W w1) (L : Nat) (hF : ∀ b, F b → b < L) : (∀ b o, L ≤ b → b < W.heap.size → w1.cell? ⟨b, o, none⟩ = W.cell? ⟨b, o, none⟩) :=
  fun b _ hL h => World.cell?_of_block (hb.block b h fun e => by have := hF b e; omega)

theorem ent_of {P : Program} {fid : Nat} {fn : Func} {c : Code} (h : P.funcs[fid]? = some fn) (hb : fn.body = some c) (hn : (fn.name == "runtime.NumGoroutine") = false) (args : Array Value) (w : World) :
    (callFunc fid args).run P w = .ok (.enter fid args) w := by
  have hn' : ¬ fn.name = "runtime.NumGoroutine" := by simpa using hn
  simp [callFunc, program, h, hb, hn', Sem.run_bind, Result.andThen, Sem.run]

/-- a function value that reads a node: its number fid and what it has captured; states σ with their blocks -/
structure Clo (P : Program) (fid : Nat) (caps : List Value) (σ : Type) (inv : σ → (Nat → Prop) → World → Prop) (val : σ → Int → Int) (nxt : σ → Int → σ) (dom : Int → Prop) (L : Nat) : Prop where
  ent : ∀ (args : Array Value) (w : World), (callFunc fid args).run P w = .ok (.enter fid args) w
  call : ∀ (s : σ) (F : Nat → Prop) (w : World) (n : Int), inv s F w → dom n → Calls P fid ((.int .i64 n :: caps).toArray) w fun e w' =>
    e = .returned (.int .i64 (val s n)) ∧ ∃ F', inv (nxt s n) F' w' ∧ Mod F w w' ∧ ∀ b, F' b → F b ∨ w.heap.size ≤ b
  old : ∀ (s : σ) (F : Nat → Prop) (w : World) (b : Nat), inv s F w → F b → b < w.heap.size
  md : ∀ (s : σ) (F G : Nat → Prop) (w w' : World), inv s F w → Mod G w w' → (∀ b, F b → ¬ G b) → (∀ b, b < L → ¬ G b) → inv s F w'
  ran : ∀ (s : σ) (F : Nat → Prop) (w : World) (n : Int), inv s F w → dom n → 0 ≤ val s n ∧ val s n ≤ 999

theorem Clo.ext {P : Program} {fid : Nat} {caps : List Value} {σ : Type} {inv : σ → (Nat → Prop) → World → Prop} {val : σ → Int → Int} {nxt : σ → Int → σ} {dom : Int → Prop} {L : Nat} (C : Clo P fid caps σ inv val nxt dom L)
    (s : σ) (F : Nat → Prop) (w w' : World) (h : inv s F w) (e : Ext w w') : inv s F w' := C.md s F (fun _ => False) w w' h (Mod.of e) (fun _ _ => id) (fun _ _ => id)
end Go.Proofs.Ytkkegmimofmhpaa
namespace Sg
/-- the value of a part, where reading may turn a state; k: fuel -/
def evalM {σ : Type} (f : List Part) (val : σ → Int → Int) (nxt : σ → Int → σ) : Nat → Int → σ → Int × σ
  | 0, _, s => (0, s)
  | k + 1, i, s =>
    let p := f.getD i.toNat default
    if p.kind = 0 then (p.n, s)
    else if p.kind = 1 then (val s p.n, nxt s p.n)
    else
      let x := evalM f val nxt k p.a s
      if p.kind = 8 then evalM f val nxt k (if x.1 = 0 then p.c else p.b) x.2
      else
        let y := evalM f val nxt k p.b x.2
        (joined p.kind x.1 y.1, y.2)
theorem evalM_succ {σ : Type} (f : List Part) (val : σ → Int → Int) (nxt : σ → Int → σ) (k i : Nat) (s : σ) {p : Part} (h : f[i]? = some p) : evalM f val nxt (k + 1) i s =
    if p.kind = 0 then (p.n, s) else if p.kind = 1 then (val s p.n, nxt s p.n) else
      if p.kind = 8 then evalM f val nxt k (if (evalM f val nxt k p.a s).1 = 0 then p.c else p.b) (evalM f val nxt k p.a s).2
      else (joined p.kind (evalM f val nxt k p.a s).1 (evalM f val nxt k p.b (evalM f val nxt k p.a s).2).1, (evalM f val nxt k p.b (evalM f val nxt k p.a s).2).2) := by
  simp [evalM, h]
/-- a formula that can be run: its parts are good, and what it reads is in dom -/
structure FOD (f : List Part) (dom : Int → Prop) : Prop where
  good : ∀ (i : Nat) (p : Part), f[i]? = some p → goodPart p i = true
  len : f.length ≤ 12
  one : 0 < f.length
  reads : ∀ p ∈ f, p.kind = 1 → dom p.n
end Sg
