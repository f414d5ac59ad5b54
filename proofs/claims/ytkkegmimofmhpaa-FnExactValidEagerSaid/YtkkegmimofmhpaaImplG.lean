/- The program's inRange, with the library's ContainsFunc: contracts. Conditions: none. -/
import Derived.Test.YtkkegmimofmhpaaImplC
namespace Go.Proofs.Ytkkegmimofmhpaa
open Go.RowKit

/-- a function value that answers of a number, and turns nothing; inv: what it leans on -/
structure Prd (P : Program) (fid : Nat) (caps : List Value) (inv : World → Prop) (p : Int → Bool) (dom : Int → Prop) : Prop where
  ent : ∀ (args : Array Value) (w : World), (callFunc fid args).run P w = .ok (.enter fid args) w
  call : ∀ (w : World) (n : Int), inv w → dom n → Calls P fid ((.int .i64 n :: caps).toArray) w fun e w' => e = .returned (.bool (p n)) ∧ Ext w w'
  ext : ∀ (w w' : World), inv w → Ext w w' → inv w'

def findFrom (p : Int → Bool) : Nat → List Int → Int
  | _, [] => -1
  | k, x :: l => if p x then k else findFrom p (k + 1) l
theorem findFrom_neg (p : Int → Bool) (l : List Int) (k : Nat) : (0 ≤ findFrom p k l) ↔ l.any p = true := by
  induction l generalizing k with
  | nil => simp [findFrom]
  | cons x l ih =>
    simp only [findFrom, List.any_cons]
    by_cases h : p x = true
    · rw [if_pos h, h]; simp
    · rw [if_neg h, ih]; simp [h]

set_option maxHeartbeats 1000000 in
theorem i_IndexFunc {fid : Nat} {caps : List Value} {inv : World → Prop} {p : Int → Bool} {dom : Int → Prop} (C : Prd Try.prog fid caps inv p dom) (A : Option Addr) (len c : Nat) (l : List Int) (w : World) (h : Rd w 1 A len (ints l)) (hi : inv w) (hd : ∀ x ∈ l, dom x) :
    Calls Try.prog 152 #[.slice A len c, .func (.func fid) #[] caps.toArray] w fun e w' => e = .returned (.int .i64 (findFrom p 0 l)) ∧ Ext w w' := by
  have hm := h.big
  obtain rfl := h.len
  have hent := C.ent
  have HC := Lib.hid C
  have HD := Lib.hid hd
  have HI := Lib.hid hi
  clear C hd hi
  go_enter Try.func152, Try.ntmps152
  go_wp2
  go_loopw [8] (fun i wr => ∃ k : Nat, k ≤ l.length ∧ i = .int .i64 k ∧ Ext w wr ∧ findFrom p k (l.drop k) = findFrom p 0 l) (fun i _ => l.length - (intOf i).toNat)
  case atStart => exact ⟨0, Nat.zero_le _, rfl, Ext.rfl' _, rfl⟩
  case round =>
    obtain ⟨k, hk, rfl, he, hpl⟩ := hrel
    by_cases hlt : k < l.length
    · obtain ⟨b, o, x, rfl, hx, hc⟩ := (h.ext he).at1 hlt
      have hdx := HD.out x (List.mem_of_getElem? hx)
      rw [drop_cons l k hx, findFrom] at hpl
      have H := Lib.hid hpl
      have Hdx := Lib.hid hdx
      clear hpl hx hdx
      cases hp : p x
      · have Hp := Lib.hid hp
        clear hp
        go_wp2_with fail
        refine (HC.out.call _ x (HC.out.ext _ _ HI.out he) Hdx.out).mono ?_
        rw [Hp.out]
        rintro e w1 ⟨rfl, he1⟩
        go_wp2
        go_roundw
        case rel => exact ⟨k + 1, by omega, by go_num, he.tr he1, by rw [← H.out, if_neg (by rw [Hp.out]; simp)]⟩
        case measure => simp [intOf]; omega
      · have Hp := Lib.hid hp
        clear hp
        go_wp2_with fail
        refine (HC.out.call _ x (HC.out.ext _ _ HI.out he) Hdx.out).mono ?_
        rw [Hp.out]
        rintro e w1 ⟨rfl, he1⟩
        go_wp2
        go_ret
        exact ⟨ret_int (by rw [← H.out, if_pos Hp.out]), he.tr he1⟩
    · have H := Lib.hid hpl
      clear hpl
      go_wp2
      go_ret
      exact ⟨ret_int (by rw [← H.out, List.drop_eq_nil_of_le (by omega)]; rfl), he⟩

theorem i_ContainsFunc {fid : Nat} {caps : List Value} {inv : World → Prop} {p : Int → Bool} {dom : Int → Prop} (C : Prd Try.prog fid caps inv p dom) (A : Option Addr) (len c : Nat) (l : List Int) (w : World) (h : Rd w 1 A len (ints l)) (hi : inv w) (hd : ∀ x ∈ l, dom x) :
    Calls Try.prog 102 #[.slice A len c, .func (.func fid) #[] caps.toArray] w fun e w' => e = .returned (.bool (l.any p)) ∧ Ext w w' := by
  have Hc := Lib.hid (i_IndexFunc C A len c l w h hi hd)
  have Hn := Lib.hid (findFrom_neg p l 0)
  clear C hi hd
  go_enter Try.func102, Try.ntmps102
  go_wp2_with (go_at_call 152; refine Hc.out.mono ?_; rintro e w1 ⟨rfl, he1⟩)
  go_ret
  refine ⟨ret_bool ?_, he1⟩
  rw [Bool.eq_iff_iff, ← Hn.out]
  simp

theorem i_inRange1 (n : Int) (w : World) : Calls Try.prog 139 #[.int .i64 n] w fun e w' => e = .returned (.bool (!Sg.inR n 0 999)) ∧ w = w' := by
  go_enter Try.func139, Try.ntmps139
  go_wp2_with (go_at_call 74; refine (i_in _ _ _ _).mono ?_; rintro e w' ⟨rfl, rfl⟩)
  go_ret
  exact ⟨rfl, rfl⟩
theorem prd_inRange1 : Prd Try.prog 139 [] (fun _ => True) (fun n => !Sg.inR n 0 999) (fun _ => True) where
  ent := ent_of Try.func139 rfl (by kernel_rfl)
  call := fun w n _ _ => (i_inRange1 n w).mono fun e w' ⟨h1, h2⟩ => ⟨h1, by subst h2; exact Ext.rfl' _⟩
  ext := fun _ _ _ _ => trivial

theorem i_inRange (A : Option Addr) (len c : Nat) (l : List Int) (w : World) (h : Rd w 1 A len (ints l)) :
    Calls Try.prog 76 #[.slice A len c] w fun e w' => e = .returned (.bool (l.all fun x => Sg.inR x 0 999)) ∧ Ext w w' := by
  have Hc := Lib.hid (i_ContainsFunc prd_inRange1 A len c l w h trivial (fun _ _ => trivial))
  have hn : (!(l.any fun n => !Sg.inR n 0 999)) = (l.all fun x => Sg.inR x 0 999) := by
    rw [Bool.eq_iff_iff]; simp
  have Hn := Lib.hid hn
  clear hn
  go_enter Try.func76, Try.ntmps76
  go_wp2_with (go_at_call 102; refine Hc.out.mono ?_; rintro e w1 ⟨rfl, he1⟩)
  go_ret
  exact ⟨ret_bool Hn.out, he1⟩
end Go.Proofs.Ytkkegmimofmhpaa
