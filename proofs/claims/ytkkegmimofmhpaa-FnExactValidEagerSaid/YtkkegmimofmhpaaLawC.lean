/- The laws' sizes of graphs and states; the reference's ValidEager: contracts. -/
import Derived.Test.YtkkegmimofmhpaaLawB
import Derived.Test.YtkkegmimofmhpaaSpecJ
namespace Sg
theorem szFrom_neg : ∀ (ns : List Nat) (L : Nat), szFrom ns L = -1 ∨ 0 ≤ szFrom ns L
  | [], L => .inr (by simp [szFrom])
  | n :: r, L => by
    simp only [szFrom]
    split
    · exact .inl rfl
    · exact szFrom_neg r _
theorem szL_neg (ns : List Nat) (L : Nat) : szL ns L = -1 ∨ 0 ≤ szL ns L := by
  unfold szL
  split
  · exact .inl rfl
  · exact szFrom_neg _ _
def szE (v : List Int) (r : List (List Int)) (L : Nat) : Int := if L < v.length then -1 else szL (r.map List.length) (L - v.length)
end Sg
namespace Go.Proofs.Ytkkegmimofmhpaa
open Go.RowKit

theorem l_szGraph (A : Option Addr) (c : Nat) (g : Sg.Graph) (L : Nat) (w : World) (h : RdN0 w A g) (hL : L ≤ 1048576) :
    Calls Try.prog 25 #[.agg #[.slice A g.length c], .int .i64 (L : Int)] w fun e w' => e = .returned (.int .i64 (Sg.szL (g.map (fun n => n.f.length)) L)) ∧ Ext w w' := by
  have HC := Lib.hid (fun w h => l_szNodeS A c g L w h hL)
  rcases Sg.szL_neg (g.map (fun n => n.f.length)) L with hs | hs
  · have Hs := Lib.hid hs
    clear hs
    go_enter Try.func25, Try.ntmps25
    go_wp2_with (go_at_call 79; refine (HC.out _ (h.ext ((Ext.rfl' w).al _))).mono ?_; rintro e w1 ⟨rfl, he1⟩; rw [Hs.out])
    go_ret
    exact ⟨ret_int Hs.out.symm, ((Ext.rfl' w).al _).tr he1⟩
  · obtain ⟨_, _, M, _, hM⟩ := Sg.szL_ok _ _ hs
    have Hs := Lib.hid hM
    clear hs hM
    go_enter Try.func25, Try.ntmps25
    go_wp2_with (go_at_call 79; refine (HC.out _ (h.ext ((Ext.rfl' w).al _))).mono ?_; rintro e w1 ⟨rfl, he1⟩; rw [Hs.out])
    go_ret
    exact ⟨ret_int Hs.out.symm, ((Ext.rfl' w).al _).tr he1⟩

theorem l_szEager (Av Ar : Option Addr) (cv cr : Nat) (v : List Int) (r : List (List Int)) (L : Nat) (w : World) (hv : v.length ≤ 9223372036854775807) (h : RdL0 w Ar r) (hL : L ≤ 1048576) :
    Calls Try.prog 26 #[.agg #[.slice Av v.length cv, .slice Ar r.length cr], .int .i64 (L : Int)] w fun e w' => e = .returned (.int .i64 (Sg.szE v r L)) ∧ Ext w w' := by
  have HC := Lib.hid (fun w => l_szIntS Av v.length cv L w hv hL)
  unfold Sg.szE
  by_cases hl : L < v.length
  · rw [if_pos hl]
    have hs : Sg.szI v.length L = -1 := by unfold Sg.szI; rw [if_pos hl]
    have Hs := Lib.hid hs
    clear hs
    go_enter Try.func26, Try.ntmps26
    go_wp2_with (go_at_call 80; refine (HC.out _).mono ?_; rintro e w1 ⟨rfl, rfl⟩; rw [Hs.out])
    go_ret
    exact ⟨rfl, (Ext.rfl' w).al _⟩
  · rw [if_neg hl]
    have hs : Sg.szI v.length L = ((L - v.length : Nat) : Int) := by unfold Sg.szI; rw [if_neg hl]
    have hK : L - v.length ≤ 1048576 := by omega
    generalize L - v.length = K at *
    have HD := Lib.hid (fun w h => l_szIntSS Ar cr r K w h hK)
    have Hs := Lib.hid hs
    clear hs
    rcases Sg.szL_neg (r.map List.length) K with hs | hs
    · have Hq := Lib.hid hs
      clear hs
      go_enter Try.func26, Try.ntmps26
      go_wp2_with (first
        | (go_at_call 80; refine (HC.out _).mono ?_; rintro e w1 ⟨rfl, rfl⟩; rw [Hs.out])
        | (go_at_call 81; refine (HD.out _ (h.ext ((Ext.rfl' w).al _))).mono ?_; rintro e w2 ⟨rfl, he2⟩; rw [Hq.out]))
      go_ret
      exact ⟨ret_int Hq.out.symm, ((Ext.rfl' w).al _).tr he2⟩
    · obtain ⟨_, _, M, _, hM⟩ := Sg.szL_ok _ _ hs
      have Hq := Lib.hid hM
      clear hs hM
      go_enter Try.func26, Try.ntmps26
      go_wp2_with (first
        | (go_at_call 80; refine (HC.out _).mono ?_; rintro e w1 ⟨rfl, rfl⟩; rw [Hs.out])
        | (go_at_call 81; refine (HD.out _ (h.ext ((Ext.rfl' w).al _))).mono ?_; rintro e w2 ⟨rfl, he2⟩; rw [Hq.out]))
      go_ret
      exact ⟨ret_int Hq.out.symm, ((Ext.rfl' w).al _).tr he2⟩

theorem s_ValidEager (A Av Ar : Option Addr) (c cv cr : Nat) (g : Sg.Graph) (v : List Int) (r : List (List Int)) (w : World) (h : RdN w A g) (hv : Rd w 1 Av v.length (ints v)) (hr : RdL w Ar r) (hvl : v.length ≤ 1048576) :
    Calls Try.prog 27 #[.agg #[.slice A g.length c], .agg #[.slice Av v.length cv, .slice Ar r.length cr]] w fun e w' => e = .returned (.bool (Sg.validE g ⟨v, r⟩)) ∧ Ext w w' := by
  have HC := Lib.hid (fun w h hv hr => s_validEager A Av Ar c cv cr g v r w h hv hr hvl)
  have e0 := ((Ext.rfl' w).al (.cells #[.slice A g.length c] 25)).al (.cells #[.slice Av v.length cv, .slice Ar r.length cr] 31)
  have HE := Lib.hid e0
  clear e0
  go_enter Try.func27, Try.ntmps27
  go_wp2_with (go_at_call 82; refine (HC.out _ (h.ext HE.out) (hv.ext HE.out) (hr.ext HE.out)).mono ?_; rintro e w1 ⟨rfl, he1⟩)
  go_ret
  exact ⟨rfl, HE.out.tr he1⟩
end Go.Proofs.Ytkkegmimofmhpaa
