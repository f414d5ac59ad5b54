/- The laws' marks of lazy states: contracts. Conditions: bounds on lengths. -/
import Derived.Test.YtmelggoagbhieaaGreatMarksAll
import Derived.Test.YtmelggoagbhieaaGreatLawU
namespace Go.Proofs.YtmelggoagbhieaaGreat
open Go.RowKit

structure SmallZ (st : Sg.Lazy) : Prop where
  v : st.vals.length ≤ 1048576
  r : st.reads.length ≤ 1048576
  e : ∀ l ∈ st.reads, l.length ≤ 1048576
  t : totL st.reads ≤ 100000000000
  q : st.cols.length ≤ 1048576

set_option maxHeartbeats 1000000 in
theorem l_markLazy {B : Nat} (Av Ar Aq : Option Addr) (cv cr cq : Nat) (v q : List Int) (r : List (List Int)) (hs : List (Option Addr × Nat)) (k : Int) (w : World) (h : OwnZ w B Av cv Ar cr Aq cq hs ⟨v, r, q⟩)
    (hk : 0 ≤ k) (hb : k + (v.length : Int) + (totL r : Int) + (q.length : Int) ≤ 1000000000000) (hbl : r.length ≤ 1048576) :
    Calls Tryz.prog 38 #[.agg #[.slice Av v.length cv, .slice Ar r.length cr, .slice Aq q.length cq], .int .i64 k] w fun e w' => e = .returned (.int .i64 (k + (v.length : Int) + (totL r : Int) + (q.length : Int))) ∧
      Own w' B 3 1 Av v.length cv (ints (num k v.length)) ∧ OwnL w' B Ar cr (numL (k + (v.length : Int)) r) hs ∧ Own w' B 3 1 Aq q.length cq (ints (num (k + (v.length : Int) + (totL r : Int)) q.length)) ∧ Mod (fpZ Av Ar Aq hs) w w' := by
  have HV := Lib.hid (fun w h => l_markIntS (B := B) Av cv v k w h hk (by omega))
  have HR := Lib.hid (fun w h => l_markIntSS (B := B) Ar cr r hs (k + (v.length : Int)) w h (by omega) (by omega) hbl)
  have HQ := Lib.hid (fun w h => l_markIntS (B := B) Aq cq q (k + (v.length : Int) + (totL r : Int)) w h (by omega) hb)
  have Hz := Lib.hid (h.ext ((Ext.rfl' w).al (.cells #[.slice Av v.length cv, .slice Ar r.length cr, .slice Aq q.length cq] 51)))
  have hnv : blk Av ≠ some w.heap.size := fun e => by have := (h.v.lt e).2; omega
  have hnr : ¬ fpD Ar hs w.heap.size := fun e => by have := (OwnD.lt h.r e).2; omega
  have Hnv := Lib.hid hnv
  have Hnr := Lib.hid hnr
  clear h hnv hnr
  go_enter Tryz.func38, Tryz.ntmps38
  go_wp2_with fail
  refine (HV.out _ Hz.out.v).mono ?_
  rintro e w1 ⟨rfl, ho1, hm1⟩
  have q1 := hm1.cellE (show (w.alloc (.cells #[.slice Av v.length cv, .slice Ar r.length cr, .slice Aq q.length cq] 51)).cell? ⟨w.heap.size, 1, none⟩ = some (.slice Ar r.length cr) by simp [go_sem]) Hnv.out
  have q2 := hm1.cellE (show (w.alloc (.cells #[.slice Av v.length cv, .slice Ar r.length cr, .slice Aq q.length cq] 51)).cell? ⟨w.heap.size, 2, none⟩ = some (.slice Aq q.length cq) by simp [go_sem]) Hnv.out
  have Ho1 := Lib.hid ho1
  have Hm1 := Lib.hid hm1
  clear ho1 hm1
  go_wp2_with fail
  refine (HR.out _ (OwnD.mod Hz.out.r Hm1.out fun b hb e => (Hz.out.d b e).1 hb)).mono ?_
  rintro e w2 ⟨rfl, ho2, hm2⟩
  have q3 := hm2.cellE q2 Hnr.out
  have Ho2 := Lib.hid ho2
  have Hm2 := Lib.hid hm2
  clear ho2 hm2 q1 q2
  go_wp2_with fail
  refine (HQ.out _ ((Hz.out.q.mod Hm1.out fun b hb e => (Hz.out.d b e).2 hb).mod Hm2.out fun b hb e => Hz.out.e b hb e)).mono ?_
  rintro e w3 ⟨rfl, ho3, hm3⟩
  have Ho3 := Lib.hid ho3
  have Hm3 := Lib.hid hm3
  clear ho3 hm3
  go_wp2
  go_ret
  refine ⟨rfl, (Ho1.out.mod Hm2.out fun b hb e => (Hz.out.d b hb).1 e).mod Hm3.out fun b hb e => (Hz.out.d b hb).2 e, OwnD.mod Ho2.out Hm3.out fun b hb e => Hz.out.e b e hb, Ho3.out, ?_⟩
  exact ((((Mod.rfl' _ w).al _).tr (Hm1.out) fun x hx => .inl (.inl hx)).tr Hm2.out fun x hx => .inl (.inr (.inl hx))).tr Hm3.out fun x hx => .inl (.inr (.inr hx))

theorem l_heldLazy (Av Ar Aq : Option Addr) (cv cr cq nv nq : Nat) (r : List (List Int)) (k : Int) (w : World) (hv : Rd w 1 Av nv (ints (num k nv))) (hr : RdL w Ar (numL (k + (nv : Int)) r)) (hq : Rd w 1 Aq nq (ints (num (k + (nv : Int) + (totL r : Int)) nq))) (hk : 0 ≤ k) (hb : k + (nv : Int) + (totL r : Int) + (nq : Int) ≤ 1000000000000) :
    Calls Tryz.prog 40 #[.agg #[.slice Av nv cv, .slice Ar r.length cr, .slice Aq nq cq], .int .i64 k] w fun e w' => e = .returned (.int .i64 (k + (nv : Int) + (totL r : Int) + (nq : Int))) ∧ Ext w w' := by
  have HV := Lib.hid (fun w h => l_heldIntS Av cv nv k w h hk (by omega))
  have HR := Lib.hid (fun w h => l_heldIntSS Ar cr r (k + (nv : Int)) w h (by omega) (by omega))
  have HQ := Lib.hid (fun w h => l_heldIntS Aq cq nq (k + (nv : Int) + (totL r : Int)) w h (by omega) hb)
  have E0 := Lib.hid ((Ext.rfl' w).al (.cells #[.slice Av nv cv, .slice Ar r.length cr, .slice Aq nq cq] 51))
  have h0 : 0 ≤ k + (nv : Int) := by omega
  have h1 : 0 ≤ k + (nv : Int) + (totL r : Int) := by omega
  have h2 : 0 ≤ k + (nv : Int) + (totL r : Int) + (nq : Int) := by omega
  have Hv := Lib.hid hv
  have Hr := Lib.hid hr
  have Hq := Lib.hid hq
  clear hv hr hq
  go_enter Tryz.func40, Tryz.ntmps40
  go_wp2_with fail
  refine (HV.out _ (Hv.out.ext E0.out)).mono ?_
  rintro e w1 ⟨rfl, rfl⟩
  go_wp2_with fail
  refine (HR.out _ (Hr.out.ext E0.out)).mono ?_
  rintro e w1 ⟨rfl, rfl⟩
  go_wp2_with fail
  refine (HQ.out _ (Hq.out.ext E0.out)).mono ?_
  rintro e w1 ⟨rfl, rfl⟩
  go_wp2
  go_ret
  exact ⟨rfl, E0.out⟩
end Go.Proofs.YtmelggoagbhieaaGreat
