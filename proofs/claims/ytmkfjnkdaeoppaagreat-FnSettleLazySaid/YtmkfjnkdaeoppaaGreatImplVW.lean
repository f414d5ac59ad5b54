/- Parts of one proof, joined. The program's nodeValid, with its function value: contracts. Conditions: valid graphs, lists of one length. The program's ValidLazy: its contract. Conditions: bounds on lengths. -/
import Derived.Test.YtmkfjnkdaeoppaaGreatImplS
import Derived.Test.YtmkfjnkdaeoppaaGreatImplPX
import Derived.Test.YtmkfjnkdaeoppaaGreatImplThree
import Derived.Test.YtmkfjnkdaeoppaaGreatModelsA
import Derived.Test.YtmkfjnkdaeoppaaGreatSpecQRS
import Derived.Test.YtmkfjnkdaeoppaaGreatSepAll
/- The program's nodeValid, with its function value: contracts. Conditions: valid graphs, lists of one length. -/
namespace Go.Proofs.YtmkfjnkdaeoppaaGreat
open Go.RowKit

section
variable {g : Sg.Graph} {v q : List Int} {r : List (List Int)} {k : Nat} {nk x qk : Int} {nf : List Sg.Part} {l : List Int}
theorem colAt_cell (hn : g[k]? = some ⟨nk, nf⟩) (hl : r[k]? = some l) (hq : q[k]? = some qk) (h0 : nk = 0) : Sg.colAt g ⟨v, r, q⟩ k = (decide (qk = 0) && l.isEmpty) := by
 unfold Sg.colAt; simp [hn, hl, hq, h0]
theorem colAt_dirty (hn : g[k]? = some ⟨nk, nf⟩) (hl : r[k]? = some l) (hq : q[k]? = some qk) (h0 : nk ≠ 0) (h2 : qk = 2) : Sg.colAt g ⟨v, r, q⟩ k = (l.all (fun x => decide (x ∈ Sg.mayRead nf)) && Sg.distinct l) := by
 unfold Sg.colAt; simp [hn, hl, hq, h0, h2]
theorem colAt_right (hn : g[k]? = some ⟨nk, nf⟩) (hl : r[k]? = some l) (hx : v[k]? = some x) (h0 : nk ≠ 0) : Sg.rightAt g v r k = (decide ((Sg.runF nf v).1 = x) && decide ((Sg.runF nf v).2 = l)) := by
 unfold Sg.rightAt; simp [hn, hl, hx, h0]
theorem colAt_check (hn : g[k]? = some ⟨nk, nf⟩) (hl : r[k]? = some l) (hq : q[k]? = some qk) (hx : v[k]? = some x) (h0 : nk ≠ 0) (h1 : qk = 1) : Sg.colAt g ⟨v, r, q⟩ k = (decide ((Sg.runF nf v).1 = x) && decide ((Sg.runF nf v).2 = l)) := by
 rw [← colAt_right hn hl hx h0]
 unfold Sg.colAt; simp [hn, hq, h0, h1]
theorem colAt_clean (hn : g[k]? = some ⟨nk, nf⟩) (hl : r[k]? = some l) (hq : q[k]? = some qk) (hx : v[k]? = some x) (h0 : nk ≠ 0) (h1 : qk = 0) :
  Sg.colAt g ⟨v, r, q⟩ k = ((decide ((Sg.runF nf v).1 = x) && decide ((Sg.runF nf v).2 = l)) && l.all fun x => Sg.rd q x == 0) := by
 rw [← colAt_right hn hl hx h0]
 unfold Sg.colAt; simp [hn, hl, hq, h0, h1]
theorem colAt_bad (hn : g[k]? = some ⟨nk, nf⟩) (hq : q[k]? = some qk) (h0 : nk ≠ 0) (h2 : qk ≠ 2) (h1 : qk ≠ 1) (h3 : qk ≠ 0) : Sg.colAt g ⟨v, r, q⟩ k = false := by
 unfold Sg.colAt; simp [hn, hq, h0, h1, h2, h3]
end
/-- the first j numbers are in M, and none is there twice -/
def DQ (l M : List Int) (j : Nat) : Bool := (List.range j).all fun i => decide (l.getD i 0 ∈ M) && decide (l.getD i 0 ∉ l.take i)
theorem DQ_succ (l M : List Int) (j : Nat) {x : Int} (h : l[j]? = some x) : DQ l M (j + 1) = (DQ l M j && (decide (x ∈ M) && decide (x ∉ l.take j))) := by
 unfold DQ
 rw [List.range_succ, List.all_append]
 simp [h]
theorem DQ_bad (l M : List Int) (j : Nat) (hj : j < l.length) (h : DQ l M (j + 1) = false) : DQ l M l.length = false := by
 unfold DQ at *
 rw [List.all_eq_false] at *
 obtain ⟨i, hi, h⟩ := h
 exact ⟨i, List.mem_range.2 (by have := List.mem_range.1 hi; omega), h⟩
theorem DQ_all (l M : List Int) : (l.all (fun x => decide (x ∈ M)) && Sg.distinct l) = DQ l M l.length := by
 unfold DQ Sg.distinct
 rw [Bool.eq_iff_iff, Bool.and_eq_true, List.all_eq_true, List.all_eq_true, List.all_eq_true]
 constructor
 ·rintro ⟨h1, h2⟩ i hi
  rw [Bool.and_eq_true]
  refine ⟨?_, h2 i hi⟩
  have hi' := List.mem_range.1 hi
  have := h1 (l[i]) (List.getElem_mem hi')
  simpa [hi'] using this
 ·intro h
  refine ⟨fun x hx => ?_, fun i hi => ?_⟩
  ·obtain ⟨i, hi⟩ := List.getElem?_of_mem hx
   have := h i (List.mem_range.2 (List.getElem?_eq_some_iff.1 hi).1)
   rw [Bool.and_eq_true] at this
   have := this.1
   simpa [hi] using this
  ·have := h i hi
   rw [Bool.and_eq_true] at this
   exact this.2

theorem prd_nodeValid1 (B : Nat) (Aq : Option Addr) (cq n : Nat) (q : List Int) : Prd Tryz.prog 117 [.pointer (some ⟨B, 0, none⟩)] (fun w => w.cell? ⟨B, 2, none⟩ = some (.slice Aq n cq) ∧ Rd w 1 Aq n (ints q)) (fun k => Sg.rd q k != 0) (fun k => 0 ≤ k ∧ k < n) where
 ent := ent_of Tryz.func117 rfl (by kernel_rfl)
 call := fun w k h hk => by
  obtain ⟨h1, h3⟩ := h
  obtain ⟨j, rfl⟩ := Int.eq_ofNat_of_zero_le hk.1
  have hj : j < n := by omega
  have hb := h3.big
  obtain ⟨ba, oa, x, rfl, hx, hcx⟩ := h3.at1 hj
  have HP := lh (show (Sg.rd q j != 0) = (x != 0) by simp [Sg.rd, hx])
  have hb1 := blt h1
  clear hx h3 hk
  go_enter Tryz.func117, Tryz.ntmps117
  go_wp2
  go_ret
  exact ⟨ret_bool (by rw [HP.out]), Ext.rfl' _⟩
 ext := fun _ _ h e => ⟨e.cellE h.1, h.2.ext e⟩

theorem Rd.take {w : World} {A : Option Addr} {n : Nat} {l : List Int} (h : Rd w 1 A n (ints l)) (j : Nat) (hj : j ≤ n) : Rd w 1 A j (ints (l.take j)) := by
 have hl := h.len
 refine ⟨by simp; omega, Nat.le_trans hj h.2.1, fun hn => ?_⟩
 obtain ⟨b, o, ha, hc⟩ := h.2.2 (by omega)
 refine ⟨b, o, ha, fun i u hu => hc i u ?_⟩
 rw [← ints_take, List.getElem?_take] at hu
 split at hu
 ·exact hu
 ·cases hu
theorem vG_len {g : Sg.Graph} (h : Sg.validG g = true) : g.length ≤ 10 := by
 unfold Sg.validG at h
 simp only [Bool.and_eq_true, decide_eq_true_eq] at h
 exact h.2
theorem not_any_rd (q l : List Int) : (!(l.any fun k => Sg.rd q k != 0)) = l.all fun x => Sg.rd q x == 0 := by
 induction l with
 | nil => rfl
 | cons a l ih =>
  rw [List.any_cons, List.all_cons, ← ih, Bool.not_or]
  cases h : (Sg.rd q a == 0) <;> simp_all [bne]

set_option maxRecDepth 100000 in
set_option maxHeartbeats 4000000 in
theorem nv_cell (A Av Ar Aq : Option Addr) (c cv cr cq : Nat) (g : Sg.Graph) (v q : List Int) (r : List (List Int)) (k : Nat) (w : World) (h : RdN w A g) (hv : Rd w 1 Av g.length (ints v)) (hr : RdLC w Ar r) (hq : Rd w 1 Aq g.length (ints q))
  (hrg : r.length = g.length) (hk : k < g.length) (hG : Sg.validG g = true) (_hI : Sg.inRange v) {nk qk : Int} {nf : List Sg.Part} (hn : g[k]? = some ⟨nk, nf⟩) (hqk : q[k]? = some qk) (h0 : nk = 0) :
  Calls Tryz.prog 69 #[.agg #[.slice Av g.length cv, .slice Ar r.length cr, .slice Aq g.length cq], .agg #[.slice A g.length c], .int .i64 k] w fun e w' => e = .returned (.bool (Sg.colAt g ⟨v, r, q⟩ k)) ∧ Ext w w' := by
 have hgl := h.1
 have hg10 := vG_len hG
 have hvl : v.length = g.length := hv.len
 have hql : q.length = g.length := hq.len
 obtain ⟨n', b, o, Ap, cp, hn', rfl, hkc, hs, hf, hfl⟩ := h.at_ hk
 rw [hn] at hn'
 injection hn' with hn'
 subst hn'
 dsimp only at hkc hs hf hfl
 obtain ⟨bq, oq, qk', rfl, hqk', hcq⟩ := hq.at1 hk
 rw [hqk] at hqk'
 injection hqk' with hqk'
 subst hqk'
 obtain ⟨l, br, oR, Al, cl, hl, rfl, hcl, hrl, hl1, hlc, hcm⟩ := hr.at_ (show k < r.length by omega)
 obtain ⟨bv, ov, x, rfl, hx, hcv⟩ := hv.at1 hk
 have hkr : k < r.length := by omega
 have HCL := lh (fun w h => i_cell (some ⟨b, o, none⟩) c g k ⟨nk, nf⟩ w h hn)
 have HS := lh (colAt_cell (v := v) hn hl hqk h0)
 have bl1 := blt hcl
 have bl2 := blt hcq
 have bl3 := blt hkc
 have HZ := lh (show decide (nk = 0) = true by simp [h0])
 have Hcq := lh hcq
 have H := lh h
 have Hv := lh hv
 have Hr := lh hr
 have Hq := lh hq
 have Hl := lh hrl
 have Hf := lh hf
 have Hs := lh hs
 have E0 := lh ((((Ext.rfl' w).al (.cells #[.slice (some ⟨bv, ov, none⟩) g.length cv, .slice (some ⟨br, oR, none⟩) r.length cr, .slice (some ⟨bq, oq, none⟩) g.length cq] 29)).al (.cells #[.slice (some ⟨b, o, none⟩) g.length c] 25)) : Ext w (World.alloc (World.alloc w (.cells #[.slice (some ⟨bv, ov, none⟩) g.length cv, .slice (some ⟨br, oR, none⟩) r.length cr, .slice (some ⟨bq, oq, none⟩) g.length cq] 29)) (.cells #[.slice (some ⟨b, o, none⟩) g.length c] 25)))
 have qlv : World.cell? (World.alloc (World.alloc w (.cells #[.slice (some ⟨bv, ov, none⟩) g.length cv, .slice (some ⟨br, oR, none⟩) r.length cr, .slice (some ⟨bq, oq, none⟩) g.length cq] 29)) (.cells #[.slice (some ⟨b, o, none⟩) g.length c] 25)) ⟨w.heap.size, 0, none⟩ = some (.slice (some ⟨bv, ov, none⟩) g.length cv) := by simp [go_sem]
 have Qlv := lh qlv
 clear qlv
 have qlr : World.cell? (World.alloc (World.alloc w (.cells #[.slice (some ⟨bv, ov, none⟩) g.length cv, .slice (some ⟨br, oR, none⟩) r.length cr, .slice (some ⟨bq, oq, none⟩) g.length cq] 29)) (.cells #[.slice (some ⟨b, o, none⟩) g.length c] 25)) ⟨w.heap.size, 1, none⟩ = some (.slice (some ⟨br, oR, none⟩) r.length cr) := by simp [go_sem]
 have Qlr := lh qlr
 clear qlr
 have qlq : World.cell? (World.alloc (World.alloc w (.cells #[.slice (some ⟨bv, ov, none⟩) g.length cv, .slice (some ⟨br, oR, none⟩) r.length cr, .slice (some ⟨bq, oq, none⟩) g.length cq] 29)) (.cells #[.slice (some ⟨b, o, none⟩) g.length c] 25)) ⟨w.heap.size, 2, none⟩ = some (.slice (some ⟨bq, oq, none⟩) g.length cq) := by simp [go_sem]
 have Qlq := lh qlq
 clear qlq
 have qlg : World.cell? (World.alloc (World.alloc w (.cells #[.slice (some ⟨bv, ov, none⟩) g.length cv, .slice (some ⟨br, oR, none⟩) r.length cr, .slice (some ⟨bq, oq, none⟩) g.length cq] 29)) (.cells #[.slice (some ⟨b, o, none⟩) g.length c] 25)) ⟨w.heap.size + 1, 0, none⟩ = some (.slice (some ⟨b, o, none⟩) g.length c) := by simp [go_sem]
 have Qlg := lh qlg
 clear qlg
 clear hn hqk hl hx hv hr hq h hG _hI hf hs hrl h0 hkc hcv hvl hql hrg hcq
 by_cases hq0 : qk = 0
 ·have z1 : (qk == 0) = true := by simp [hq0]
  have HQ := lh hq0
  clear hq0
  go_enter Tryz.func69, Tryz.ntmps69
  go_wp2_with fail
  refine (HCL.out _ (H.out.ext E0.out)).mono ?_
  rintro e w1 ⟨rfl, he1⟩
  rw [HZ.out]
  have U1 := lh ((Ext.rfl' (World.alloc (World.alloc w (.cells #[.slice (some ⟨bv, ov, none⟩) g.length cv, .slice (some ⟨br, oR, none⟩) r.length cr, .slice (some ⟨bq, oq, none⟩) g.length cq] 29)) (.cells #[.slice (some ⟨b, o, none⟩) g.length c] 25))).tr he1)
  have E1 := lh (E0.out.tr U1.out)
  have lv_1 := U1.out.cellE Qlv.out
  have lr_1 := U1.out.cellE Qlr.out
  have lq_1 := U1.out.cellE Qlq.out
  have lg_1 := U1.out.cellE Qlg.out
  have cq_1 := U1.out.cellE (E0.out.cellE Hcq.out)
  clear he1 
  have blv_1 := blt lv_1
  have blr_1 := blt lr_1
  have blq_1 := blt lq_1
  have blg_1 := blt lg_1
  have bcq_1 := blt cq_1
  go_wp2
  go_ret
  exact ⟨ret_bool (by rw [HS.out, HQ.out]; cases l <;> rfl), E1.out⟩
 ·have z1 : (qk == 0) = false := by simp [hq0]
  have HQ := lh hq0
  clear hq0
  go_enter Tryz.func69, Tryz.ntmps69
  go_wp2_with fail
  refine (HCL.out _ (H.out.ext E0.out)).mono ?_
  rintro e w1 ⟨rfl, he1⟩
  rw [HZ.out]
  have U1 := lh ((Ext.rfl' (World.alloc (World.alloc w (.cells #[.slice (some ⟨bv, ov, none⟩) g.length cv, .slice (some ⟨br, oR, none⟩) r.length cr, .slice (some ⟨bq, oq, none⟩) g.length cq] 29)) (.cells #[.slice (some ⟨b, o, none⟩) g.length c] 25))).tr he1)
  have E1 := lh (E0.out.tr U1.out)
  have lv_1 := U1.out.cellE Qlv.out
  have lr_1 := U1.out.cellE Qlr.out
  have lq_1 := U1.out.cellE Qlq.out
  have lg_1 := U1.out.cellE Qlg.out
  have cq_1 := U1.out.cellE (E0.out.cellE Hcq.out)
  clear he1 
  have blv_1 := blt lv_1
  have blr_1 := blt lr_1
  have blq_1 := blt lq_1
  have blg_1 := blt lg_1
  have bcq_1 := blt cq_1
  go_wp2
  go_ret
  exact ⟨ret_bool (by rw [HS.out]; simp [HQ.out]), E1.out⟩
set_option maxRecDepth 100000 in
set_option maxHeartbeats 4000000 in
theorem nv_bad (A Av Ar Aq : Option Addr) (c cv cr cq : Nat) (g : Sg.Graph) (v q : List Int) (r : List (List Int)) (k : Nat) (w : World) (h : RdN w A g) (hv : Rd w 1 Av g.length (ints v)) (hr : RdLC w Ar r) (hq : Rd w 1 Aq g.length (ints q))
  (hrg : r.length = g.length) (hk : k < g.length) (hG : Sg.validG g = true) (_hI : Sg.inRange v) {nk qk : Int} {nf : List Sg.Part} (hn : g[k]? = some ⟨nk, nf⟩) (hqk : q[k]? = some qk) (h0 : nk ≠ 0) (hb2 : qk ≠ 2) (hb1 : qk ≠ 1) (hb0 : qk ≠ 0) :
  Calls Tryz.prog 69 #[.agg #[.slice Av g.length cv, .slice Ar r.length cr, .slice Aq g.length cq], .agg #[.slice A g.length c], .int .i64 k] w fun e w' => e = .returned (.bool (Sg.colAt g ⟨v, r, q⟩ k)) ∧ Ext w w' := by
 have hgl := h.1
 have hg10 := vG_len hG
 have hvl : v.length = g.length := hv.len
 have hql : q.length = g.length := hq.len
 obtain ⟨n', b, o, Ap, cp, hn', rfl, hkc, hs, hf, hfl⟩ := h.at_ hk
 rw [hn] at hn'
 injection hn' with hn'
 subst hn'
 dsimp only at hkc hs hf hfl
 obtain ⟨bq, oq, qk', rfl, hqk', hcq⟩ := hq.at1 hk
 rw [hqk] at hqk'
 injection hqk' with hqk'
 subst hqk'
 obtain ⟨l, br, oR, Al, cl, hl, rfl, hcl, hrl, hl1, hlc, hcm⟩ := hr.at_ (show k < r.length by omega)
 obtain ⟨bv, ov, x, rfl, hx, hcv⟩ := hv.at1 hk
 have hkr : k < r.length := by omega
 have HCL := lh (fun w h => i_cell (some ⟨b, o, none⟩) c g k ⟨nk, nf⟩ w h hn)
 have HS := lh (colAt_bad (v := v) (r := r) hn hqk h0 hb2 hb1 hb0)
 have bl1 := blt hcl
 have bl2 := blt hcq
 have bl3 := blt hkc
 have HZ := lh (show decide (nk = 0) = false by simp [h0])
 have Hcq := lh hcq
 have z2 : (qk == 2) = false := by simp [hb2]
 have z1 : (qk == 1) = false := by simp [hb1]
 have z0 : (qk == 0) = false := by simp [hb0]
 have H := lh h
 have Hv := lh hv
 have Hr := lh hr
 have Hq := lh hq
 have Hl := lh hrl
 have Hf := lh hf
 have Hs := lh hs
 have E0 := lh ((((Ext.rfl' w).al (.cells #[.slice (some ⟨bv, ov, none⟩) g.length cv, .slice (some ⟨br, oR, none⟩) r.length cr, .slice (some ⟨bq, oq, none⟩) g.length cq] 29)).al (.cells #[.slice (some ⟨b, o, none⟩) g.length c] 25)) : Ext w (World.alloc (World.alloc w (.cells #[.slice (some ⟨bv, ov, none⟩) g.length cv, .slice (some ⟨br, oR, none⟩) r.length cr, .slice (some ⟨bq, oq, none⟩) g.length cq] 29)) (.cells #[.slice (some ⟨b, o, none⟩) g.length c] 25)))
 have qlv : World.cell? (World.alloc (World.alloc w (.cells #[.slice (some ⟨bv, ov, none⟩) g.length cv, .slice (some ⟨br, oR, none⟩) r.length cr, .slice (some ⟨bq, oq, none⟩) g.length cq] 29)) (.cells #[.slice (some ⟨b, o, none⟩) g.length c] 25)) ⟨w.heap.size, 0, none⟩ = some (.slice (some ⟨bv, ov, none⟩) g.length cv) := by simp [go_sem]
 have Qlv := lh qlv
 clear qlv
 have qlr : World.cell? (World.alloc (World.alloc w (.cells #[.slice (some ⟨bv, ov, none⟩) g.length cv, .slice (some ⟨br, oR, none⟩) r.length cr, .slice (some ⟨bq, oq, none⟩) g.length cq] 29)) (.cells #[.slice (some ⟨b, o, none⟩) g.length c] 25)) ⟨w.heap.size, 1, none⟩ = some (.slice (some ⟨br, oR, none⟩) r.length cr) := by simp [go_sem]
 have Qlr := lh qlr
 clear qlr
 have qlq : World.cell? (World.alloc (World.alloc w (.cells #[.slice (some ⟨bv, ov, none⟩) g.length cv, .slice (some ⟨br, oR, none⟩) r.length cr, .slice (some ⟨bq, oq, none⟩) g.length cq] 29)) (.cells #[.slice (some ⟨b, o, none⟩) g.length c] 25)) ⟨w.heap.size, 2, none⟩ = some (.slice (some ⟨bq, oq, none⟩) g.length cq) := by simp [go_sem]
 have Qlq := lh qlq
 clear qlq
 have qlg : World.cell? (World.alloc (World.alloc w (.cells #[.slice (some ⟨bv, ov, none⟩) g.length cv, .slice (some ⟨br, oR, none⟩) r.length cr, .slice (some ⟨bq, oq, none⟩) g.length cq] 29)) (.cells #[.slice (some ⟨b, o, none⟩) g.length c] 25)) ⟨w.heap.size + 1, 0, none⟩ = some (.slice (some ⟨b, o, none⟩) g.length c) := by simp [go_sem]
 have Qlg := lh qlg
 clear qlg
 clear hn hqk hl hx hv hr hq h hG _hI hf hs hrl h0 hkc hcv hvl hql hrg hcq hb2 hb1 hb0
 go_enter Tryz.func69, Tryz.ntmps69
 go_wp2_with fail
 refine (HCL.out _ (H.out.ext E0.out)).mono ?_
 rintro e w1 ⟨rfl, he1⟩
 rw [HZ.out]
 have U1 := lh ((Ext.rfl' (World.alloc (World.alloc w (.cells #[.slice (some ⟨bv, ov, none⟩) g.length cv, .slice (some ⟨br, oR, none⟩) r.length cr, .slice (some ⟨bq, oq, none⟩) g.length cq] 29)) (.cells #[.slice (some ⟨b, o, none⟩) g.length c] 25))).tr he1)
 have E1 := lh (E0.out.tr U1.out)
 have lv_1 := U1.out.cellE Qlv.out
 have lr_1 := U1.out.cellE Qlr.out
 have lq_1 := U1.out.cellE Qlq.out
 have lg_1 := U1.out.cellE Qlg.out
 have cq_1 := U1.out.cellE (E0.out.cellE Hcq.out)
 clear he1 
 have blv_1 := blt lv_1
 have blr_1 := blt lr_1
 have blq_1 := blt lq_1
 have blg_1 := blt lg_1
 have bcq_1 := blt cq_1
 go_wp2
 go_ret
 exact ⟨ret_bool (by rw [HS.out]), E1.out⟩
set_option maxRecDepth 100000 in
set_option maxHeartbeats 4000000 in
theorem nv_check (A Av Ar Aq : Option Addr) (c cv cr cq : Nat) (g : Sg.Graph) (v q : List Int) (r : List (List Int)) (k : Nat) (w : World) (h : RdN w A g) (hv : Rd w 1 Av g.length (ints v)) (hr : RdLC w Ar r) (hq : Rd w 1 Aq g.length (ints q))
  (hrg : r.length = g.length) (hk : k < g.length) (hG : Sg.validG g = true) (hI : Sg.inRange v) {nk qk : Int} {nf : List Sg.Part} (hn : g[k]? = some ⟨nk, nf⟩) (hqk : q[k]? = some qk) (h0 : nk ≠ 0) (hq2 : qk = 1) :
  Calls Tryz.prog 69 #[.agg #[.slice Av g.length cv, .slice Ar r.length cr, .slice Aq g.length cq], .agg #[.slice A g.length c], .int .i64 k] w fun e w' => e = .returned (.bool (Sg.colAt g ⟨v, r, q⟩ k)) ∧ Ext w w' := by
 have hgl := h.1
 have hg10 := vG_len hG
 have hvl : v.length = g.length := hv.len
 have hql : q.length = g.length := hq.len
 obtain ⟨n', b, o, Ap, cp, hn', rfl, hkc, hs, hf, hfl⟩ := h.at_ hk
 rw [hn] at hn'
 injection hn' with hn'
 subst hn'
 dsimp only at hkc hs hf hfl
 obtain ⟨bq, oq, qk', rfl, hqk', hcq⟩ := hq.at1 hk
 rw [hqk] at hqk'
 injection hqk' with hqk'
 subst hqk'
 obtain ⟨l, br, oR, Al, cl, hl, rfl, hcl, hrl, hl1, hlc, hcm⟩ := hr.at_ (show k < r.length by omega)
 obtain ⟨bv, ov, x, rfl, hx, hcv⟩ := hv.at1 hk
 have hkr : k < r.length := by omega
 have HCL := lh (fun w h => i_cell (some ⟨b, o, none⟩) c g k ⟨nk, nf⟩ w h hn)
 have HS := lh (colAt_check hn hl hqk hx h0 hq2)
 have bl1 := blt hcl
 have bl2 := blt hcq
 have bl3 := blt hkc
 have HZ := lh (show decide (nk = 0) = false by simp [h0])
 have Hcq := lh hcq
 have z2 : (qk == 2) = false := by simp [hq2]
 have z1 : (qk == 1) = true := by simp [hq2]
 have z0 : (qk == 0) = false := by simp [hq2]
 have H := lh h
 have Hv := lh hv
 have Hr := lh hr
 have Hq := lh hq
 have Hl := lh hrl
 have Hf := lh hf
 have Hs := lh hs
 have HR := lh (show ∀ (w : World), RdN w (some ⟨b, o, none⟩) g → Rd w 1 (some ⟨bv, ov, none⟩) g.length (ints v) → Rd w 1 Al l.length (ints l) → Calls Tryz.prog 104 #[.agg #[.slice (some ⟨b, o, none⟩) g.length c], .int .i64 k, .slice (some ⟨bv, ov, none⟩) g.length cv, .slice Al l.length cl] w fun e w' => e = .returned (.bool (decide ((Sg.runF nf v).1 = x) && decide ((Sg.runF nf v).2 = l))) ∧ Ext w w' from fun w h1 h2 h3 => by
  have := i_right (some ⟨b, o, none⟩) (some ⟨bv, ov, none⟩) Al c cv cl g v l k ⟨nk, nf⟩ x w h1 (by rw [hvl]; exact h2) h3 hn hx (Sg.validG_fok hG k hn h0) hI
  rw [hvl] at this
  exact this)
 have E0 := lh ((((Ext.rfl' w).al (.cells #[.slice (some ⟨bv, ov, none⟩) g.length cv, .slice (some ⟨br, oR, none⟩) r.length cr, .slice (some ⟨bq, oq, none⟩) g.length cq] 29)).al (.cells #[.slice (some ⟨b, o, none⟩) g.length c] 25)) : Ext w (World.alloc (World.alloc w (.cells #[.slice (some ⟨bv, ov, none⟩) g.length cv, .slice (some ⟨br, oR, none⟩) r.length cr, .slice (some ⟨bq, oq, none⟩) g.length cq] 29)) (.cells #[.slice (some ⟨b, o, none⟩) g.length c] 25)))
 have qlv : World.cell? (World.alloc (World.alloc w (.cells #[.slice (some ⟨bv, ov, none⟩) g.length cv, .slice (some ⟨br, oR, none⟩) r.length cr, .slice (some ⟨bq, oq, none⟩) g.length cq] 29)) (.cells #[.slice (some ⟨b, o, none⟩) g.length c] 25)) ⟨w.heap.size, 0, none⟩ = some (.slice (some ⟨bv, ov, none⟩) g.length cv) := by simp [go_sem]
 have Qlv := lh qlv
 clear qlv
 have qlr : World.cell? (World.alloc (World.alloc w (.cells #[.slice (some ⟨bv, ov, none⟩) g.length cv, .slice (some ⟨br, oR, none⟩) r.length cr, .slice (some ⟨bq, oq, none⟩) g.length cq] 29)) (.cells #[.slice (some ⟨b, o, none⟩) g.length c] 25)) ⟨w.heap.size, 1, none⟩ = some (.slice (some ⟨br, oR, none⟩) r.length cr) := by simp [go_sem]
 have Qlr := lh qlr
 clear qlr
 have qlq : World.cell? (World.alloc (World.alloc w (.cells #[.slice (some ⟨bv, ov, none⟩) g.length cv, .slice (some ⟨br, oR, none⟩) r.length cr, .slice (some ⟨bq, oq, none⟩) g.length cq] 29)) (.cells #[.slice (some ⟨b, o, none⟩) g.length c] 25)) ⟨w.heap.size, 2, none⟩ = some (.slice (some ⟨bq, oq, none⟩) g.length cq) := by simp [go_sem]
 have Qlq := lh qlq
 clear qlq
 have qlg : World.cell? (World.alloc (World.alloc w (.cells #[.slice (some ⟨bv, ov, none⟩) g.length cv, .slice (some ⟨br, oR, none⟩) r.length cr, .slice (some ⟨bq, oq, none⟩) g.length cq] 29)) (.cells #[.slice (some ⟨b, o, none⟩) g.length c] 25)) ⟨w.heap.size + 1, 0, none⟩ = some (.slice (some ⟨b, o, none⟩) g.length c) := by simp [go_sem]
 have Qlg := lh qlg
 clear qlg
 clear hn hqk hl hx hv hr hq h hG hI hf hs hrl h0 hkc hcv hvl hql hrg hcq hq2
 go_enter Tryz.func69, Tryz.ntmps69
 go_wp2_with fail
 refine (HCL.out _ (H.out.ext E0.out)).mono ?_
 rintro e w1 ⟨rfl, he1⟩
 rw [HZ.out]
 have U1 := lh ((Ext.rfl' (World.alloc (World.alloc w (.cells #[.slice (some ⟨bv, ov, none⟩) g.length cv, .slice (some ⟨br, oR, none⟩) r.length cr, .slice (some ⟨bq, oq, none⟩) g.length cq] 29)) (.cells #[.slice (some ⟨b, o, none⟩) g.length c] 25))).tr he1)
 have E1 := lh (E0.out.tr U1.out)
 have lv_1 := U1.out.cellE Qlv.out
 have lr_1 := U1.out.cellE Qlr.out
 have lq_1 := U1.out.cellE Qlq.out
 have lg_1 := U1.out.cellE Qlg.out
 have cq_1 := U1.out.cellE (E0.out.cellE Hcq.out)
 clear he1 
 have blv_1 := blt lv_1
 have blr_1 := blt lr_1
 have blq_1 := blt lq_1
 have blg_1 := blt lg_1
 have bcq_1 := blt cq_1
 go_wp2_with fail
 refine (HR.out _ (H.out.ext E1.out) (Hv.out.ext E1.out) (Hl.out.ext E1.out)).mono ?_
 rintro e w2 ⟨rfl, he2⟩
 have U2 := lh ((Ext.rfl' w1).tr he2)
 have E2 := lh (E1.out.tr U2.out)
 have lv_2 := U2.out.cellE lv_1
 have lr_2 := U2.out.cellE lr_1
 have lq_2 := U2.out.cellE lq_1
 have lg_2 := U2.out.cellE lg_1
 have cq_2 := U2.out.cellE cq_1
 clear he2 lv_1 lr_1 lq_1 lg_1 cq_1 blv_1 blr_1 blq_1 blg_1 bcq_1
 have blv_2 := blt lv_2
 have blr_2 := blt lr_2
 have blq_2 := blt lq_2
 have blg_2 := blt lg_2
 have bcq_2 := blt cq_2
 go_wp2
 go_ret
 exact ⟨ret_bool (by rw [HS.out]), E2.out⟩
set_option maxRecDepth 100000 in
set_option maxHeartbeats 4000000 in
theorem nv_clean (A Av Ar Aq : Option Addr) (c cv cr cq : Nat) (g : Sg.Graph) (v q : List Int) (r : List (List Int)) (k : Nat) (w : World) (h : RdN w A g) (hv : Rd w 1 Av g.length (ints v)) (hr : RdLC w Ar r) (hq : Rd w 1 Aq g.length (ints q))
  (hrg : r.length = g.length) (hk : k < g.length) (hG : Sg.validG g = true) (hI : Sg.inRange v) {nk qk : Int} {nf : List Sg.Part} (hn : g[k]? = some ⟨nk, nf⟩) (hqk : q[k]? = some qk) (h0 : nk ≠ 0) (hq2 : qk = 0) :
  Calls Tryz.prog 69 #[.agg #[.slice Av g.length cv, .slice Ar r.length cr, .slice Aq g.length cq], .agg #[.slice A g.length c], .int .i64 k] w fun e w' => e = .returned (.bool (Sg.colAt g ⟨v, r, q⟩ k)) ∧ Ext w w' := by
 have hgl := h.1
 have hg10 := vG_len hG
 have hvl : v.length = g.length := hv.len
 have hql : q.length = g.length := hq.len
 obtain ⟨n', b, o, Ap, cp, hn', rfl, hkc, hs, hf, hfl⟩ := h.at_ hk
 rw [hn] at hn'
 injection hn' with hn'
 subst hn'
 dsimp only at hkc hs hf hfl
 obtain ⟨bq, oq, qk', rfl, hqk', hcq⟩ := hq.at1 hk
 rw [hqk] at hqk'
 injection hqk' with hqk'
 subst hqk'
 obtain ⟨l, br, oR, Al, cl, hl, rfl, hcl, hrl, hl1, hlc, hcm⟩ := hr.at_ (show k < r.length by omega)
 obtain ⟨bv, ov, x, rfl, hx, hcv⟩ := hv.at1 hk
 have hkr : k < r.length := by omega
 have HCL := lh (fun w h => i_cell (some ⟨b, o, none⟩) c g k ⟨nk, nf⟩ w h hn)
 have HS := lh (colAt_clean hn hl hqk hx h0 hq2)
 have bl1 := blt hcl
 have bl2 := blt hcq
 have bl3 := blt hkc
 have HZ := lh (show decide (nk = 0) = false by simp [h0])
 have Hcq := lh hcq
 have z2 : (qk == 2) = false := by simp [hq2]
 have z1 : (qk == 1) = false := by simp [hq2]
 have z0 : (qk == 0) = true := by simp [hq2]
 have H := lh h
 have Hv := lh hv
 have Hr := lh hr
 have Hq := lh hq
 have Hl := lh hrl
 have Hf := lh hf
 have Hs := lh hs
 have HR := lh (show ∀ (w : World), RdN w (some ⟨b, o, none⟩) g → Rd w 1 (some ⟨bv, ov, none⟩) g.length (ints v) → Rd w 1 Al l.length (ints l) → Calls Tryz.prog 104 #[.agg #[.slice (some ⟨b, o, none⟩) g.length c], .int .i64 k, .slice (some ⟨bv, ov, none⟩) g.length cv, .slice Al l.length cl] w fun e w' => e = .returned (.bool (decide ((Sg.runF nf v).1 = x) && decide ((Sg.runF nf v).2 = l))) ∧ Ext w w' from fun w h1 h2 h3 => by
  have := i_right (some ⟨b, o, none⟩) (some ⟨bv, ov, none⟩) Al c cv cl g v l k ⟨nk, nf⟩ x w h1 (by rw [hvl]; exact h2) h3 hn hx (Sg.validG_fok hG k hn h0) hI
  rw [hvl] at this
  exact this)
 have E0 := lh ((((Ext.rfl' w).al (.cells #[.slice (some ⟨bv, ov, none⟩) g.length cv, .slice (some ⟨br, oR, none⟩) r.length cr, .slice (some ⟨bq, oq, none⟩) g.length cq] 29)).al (.cells #[.slice (some ⟨b, o, none⟩) g.length c] 25)) : Ext w (World.alloc (World.alloc w (.cells #[.slice (some ⟨bv, ov, none⟩) g.length cv, .slice (some ⟨br, oR, none⟩) r.length cr, .slice (some ⟨bq, oq, none⟩) g.length cq] 29)) (.cells #[.slice (some ⟨b, o, none⟩) g.length c] 25)))
 have qlv : World.cell? (World.alloc (World.alloc w (.cells #[.slice (some ⟨bv, ov, none⟩) g.length cv, .slice (some ⟨br, oR, none⟩) r.length cr, .slice (some ⟨bq, oq, none⟩) g.length cq] 29)) (.cells #[.slice (some ⟨b, o, none⟩) g.length c] 25)) ⟨w.heap.size, 0, none⟩ = some (.slice (some ⟨bv, ov, none⟩) g.length cv) := by simp [go_sem]
 have Qlv := lh qlv
 clear qlv
 have qlr : World.cell? (World.alloc (World.alloc w (.cells #[.slice (some ⟨bv, ov, none⟩) g.length cv, .slice (some ⟨br, oR, none⟩) r.length cr, .slice (some ⟨bq, oq, none⟩) g.length cq] 29)) (.cells #[.slice (some ⟨b, o, none⟩) g.length c] 25)) ⟨w.heap.size, 1, none⟩ = some (.slice (some ⟨br, oR, none⟩) r.length cr) := by simp [go_sem]
 have Qlr := lh qlr
 clear qlr
 have qlq : World.cell? (World.alloc (World.alloc w (.cells #[.slice (some ⟨bv, ov, none⟩) g.length cv, .slice (some ⟨br, oR, none⟩) r.length cr, .slice (some ⟨bq, oq, none⟩) g.length cq] 29)) (.cells #[.slice (some ⟨b, o, none⟩) g.length c] 25)) ⟨w.heap.size, 2, none⟩ = some (.slice (some ⟨bq, oq, none⟩) g.length cq) := by simp [go_sem]
 have Qlq := lh qlq
 clear qlq
 have qlg : World.cell? (World.alloc (World.alloc w (.cells #[.slice (some ⟨bv, ov, none⟩) g.length cv, .slice (some ⟨br, oR, none⟩) r.length cr, .slice (some ⟨bq, oq, none⟩) g.length cq] 29)) (.cells #[.slice (some ⟨b, o, none⟩) g.length c] 25)) ⟨w.heap.size + 1, 0, none⟩ = some (.slice (some ⟨b, o, none⟩) g.length c) := by simp [go_sem]
 have Qlg := lh qlg
 clear qlg
 have HDM := lh (show (Sg.runF nf v).2 = l → ∀ x ∈ l, 0 ≤ x ∧ x < (g.length : Int) from fun e x hx => by
  have := Sg.depAt_mem hG (v := v) hk (x := x) (by rw [depAt_form hn h0]; dsimp only; rw [e]; exact hx)
  omega)
 clear hn hqk hl hx hv hr hq h hG hI hf hs hrl h0 hkc hcv hvl hql hrg hcq hq2
 cases hR : (decide ((Sg.runF nf v).1 = x) && decide ((Sg.runF nf v).2 = l))
 ·have HRR := lh hR
  clear hR
  go_enter Tryz.func69, Tryz.ntmps69
  go_wp2_with fail
  refine (HCL.out _ (H.out.ext E0.out)).mono ?_
  rintro e w1 ⟨rfl, he1⟩
  rw [HZ.out]
  have U1 := lh ((Ext.rfl' (World.alloc (World.alloc w (.cells #[.slice (some ⟨bv, ov, none⟩) g.length cv, .slice (some ⟨br, oR, none⟩) r.length cr, .slice (some ⟨bq, oq, none⟩) g.length cq] 29)) (.cells #[.slice (some ⟨b, o, none⟩) g.length c] 25))).tr he1)
  have E1 := lh (E0.out.tr U1.out)
  have lv_1 := U1.out.cellE Qlv.out
  have lr_1 := U1.out.cellE Qlr.out
  have lq_1 := U1.out.cellE Qlq.out
  have lg_1 := U1.out.cellE Qlg.out
  have cq_1 := U1.out.cellE (E0.out.cellE Hcq.out)
  clear he1 
  have blv_1 := blt lv_1
  have blr_1 := blt lr_1
  have blq_1 := blt lq_1
  have blg_1 := blt lg_1
  have bcq_1 := blt cq_1
  go_wp2_with fail
  refine (HR.out _ (H.out.ext E1.out) (Hv.out.ext E1.out) (Hl.out.ext E1.out)).mono ?_
  rintro e w2 ⟨rfl, he2⟩
  rw [HRR.out]
  have U2 := lh ((Ext.rfl' w1).tr he2)
  have E2 := lh (E1.out.tr U2.out)
  have lv_2 := U2.out.cellE lv_1
  have lr_2 := U2.out.cellE lr_1
  have lq_2 := U2.out.cellE lq_1
  have lg_2 := U2.out.cellE lg_1
  have cq_2 := U2.out.cellE cq_1
  clear he2 lv_1 lr_1 lq_1 lg_1 cq_1 blv_1 blr_1 blq_1 blg_1 bcq_1
  have blv_2 := blt lv_2
  have blr_2 := blt lr_2
  have blq_2 := blt lq_2
  have blg_2 := blt lg_2
  have bcq_2 := blt cq_2
  go_wp2
  go_ret
  exact ⟨ret_bool (by rw [HS.out, HRR.out]; rfl), E2.out⟩
 ·have HRR := lh hR
  have HD2 := lh (HDM.out (by simp only [Bool.and_eq_true, decide_eq_true_eq] at hR; exact hR.2))
  clear hR
  go_enter Tryz.func69, Tryz.ntmps69
  go_wp2_with fail
  refine (HCL.out _ (H.out.ext E0.out)).mono ?_
  rintro e w1 ⟨rfl, he1⟩
  rw [HZ.out]
  have U1 := lh ((Ext.rfl' (World.alloc (World.alloc w (.cells #[.slice (some ⟨bv, ov, none⟩) g.length cv, .slice (some ⟨br, oR, none⟩) r.length cr, .slice (some ⟨bq, oq, none⟩) g.length cq] 29)) (.cells #[.slice (some ⟨b, o, none⟩) g.length c] 25))).tr he1)
  have E1 := lh (E0.out.tr U1.out)
  have lv_1 := U1.out.cellE Qlv.out
  have lr_1 := U1.out.cellE Qlr.out
  have lq_1 := U1.out.cellE Qlq.out
  have lg_1 := U1.out.cellE Qlg.out
  have cq_1 := U1.out.cellE (E0.out.cellE Hcq.out)
  clear he1 
  have blv_1 := blt lv_1
  have blr_1 := blt lr_1
  have blq_1 := blt lq_1
  have blg_1 := blt lg_1
  have bcq_1 := blt cq_1
  go_wp2_with fail
  refine (HR.out _ (H.out.ext E1.out) (Hv.out.ext E1.out) (Hl.out.ext E1.out)).mono ?_
  rintro e w2 ⟨rfl, he2⟩
  rw [HRR.out]
  have U2 := lh ((Ext.rfl' w1).tr he2)
  have E2 := lh (E1.out.tr U2.out)
  have lv_2 := U2.out.cellE lv_1
  have lr_2 := U2.out.cellE lr_1
  have lq_2 := U2.out.cellE lq_1
  have lg_2 := U2.out.cellE lg_1
  have cq_2 := U2.out.cellE cq_1
  clear he2 lv_1 lr_1 lq_1 lg_1 cq_1 blv_1 blr_1 blq_1 blg_1 bcq_1
  have blv_2 := blt lv_2
  have blr_2 := blt lr_2
  have blq_2 := blt lq_2
  have blg_2 := blt lg_2
  have bcq_2 := blt cq_2
  go_wp2_with fail
  refine (i_ContainsFunc (prd_nodeValid1 w.heap.size (some ⟨bq, oq, none⟩) cq g.length q) Al l.length cl l _ (Hl.out.ext E2.out) ⟨lq_2, Hq.out.ext E2.out⟩ HD2.out).mono ?_
  rintro e w3 ⟨rfl, he3⟩
  have U3 := lh ((Ext.rfl' w2).tr he3)
  have E3 := lh (E2.out.tr U3.out)
  have lv_3 := U3.out.cellE lv_2
  have lr_3 := U3.out.cellE lr_2
  have lq_3 := U3.out.cellE lq_2
  have lg_3 := U3.out.cellE lg_2
  have cq_3 := U3.out.cellE cq_2
  clear he3 lv_2 lr_2 lq_2 lg_2 cq_2 blv_2 blr_2 blq_2 blg_2 bcq_2
  have blv_3 := blt lv_3
  have blr_3 := blt lr_3
  have blq_3 := blt lq_3
  have blg_3 := blt lg_3
  have bcq_3 := blt cq_3
  go_wp2
  go_ret
  exact ⟨ret_bool (by rw [HS.out, HRR.out, Bool.true_and]; exact not_any_rd q l), E3.out⟩
set_option maxRecDepth 100000 in
set_option maxHeartbeats 4000000 in
theorem nv_dirty (A Av Ar Aq : Option Addr) (c cv cr cq : Nat) (g : Sg.Graph) (v q : List Int) (r : List (List Int)) (k : Nat) (w : World) (h : RdN w A g) (hv : Rd w 1 Av g.length (ints v)) (hr : RdLC w Ar r) (hq : Rd w 1 Aq g.length (ints q))
  (hrg : r.length = g.length) (hk : k < g.length) (hG : Sg.validG g = true) (_hI : Sg.inRange v) {nk qk : Int} {nf : List Sg.Part} (hn : g[k]? = some ⟨nk, nf⟩) (hqk : q[k]? = some qk) (h0 : nk ≠ 0) (hq2 : qk = 2) :
  Calls Tryz.prog 69 #[.agg #[.slice Av g.length cv, .slice Ar r.length cr, .slice Aq g.length cq], .agg #[.slice A g.length c], .int .i64 k] w fun e w' => e = .returned (.bool (Sg.colAt g ⟨v, r, q⟩ k)) ∧ Ext w w' := by
 have hgl := h.1
 have hg10 := vG_len hG
 have hvl : v.length = g.length := hv.len
 have hql : q.length = g.length := hq.len
 obtain ⟨n', b, o, Ap, cp, hn', rfl, hkc, hs, hf, hfl⟩ := h.at_ hk
 rw [hn] at hn'
 injection hn' with hn'
 subst hn'
 dsimp only at hkc hs hf hfl
 obtain ⟨bq, oq, qk', rfl, hqk', hcq⟩ := hq.at1 hk
 rw [hqk] at hqk'
 injection hqk' with hqk'
 subst hqk'
 obtain ⟨l, br, oR, Al, cl, hl, rfl, hcl, hrl, hl1, hlc, hcm⟩ := hr.at_ (show k < r.length by omega)
 obtain ⟨bv, ov, x, rfl, hx, hcv⟩ := hv.at1 hk
 have hkr : k < r.length := by omega
 have HCL := lh (fun w h => i_cell (some ⟨b, o, none⟩) c g k ⟨nk, nf⟩ w h hn)
 have HS := lh (colAt_dirty (v := v) hn hl hqk h0 hq2)
 have bl1 := blt hcl
 have bl2 := blt hcq
 have bl3 := blt hkc
 have HZ := lh (show decide (nk = 0) = false by simp [h0])
 have Hcq := lh hcq
 have z2 : (qk == 2) = true := by simp [hq2]
 have z1 : (qk == 1) = false := by simp [hq2]
 have z0 : (qk == 0) = false := by simp [hq2]
 have HM := lh (fun w h => i_mayRead Ap cp nf w h hfl (fun p hp h1 => by have := (Sg.validG_fok hG k hn h0).read0 p hp h1; omega))
 have H := lh h
 have Hv := lh hv
 have Hr := lh hr
 have Hq := lh hq
 have Hl := lh hrl
 have Hf := lh hf
 have Hs := lh hs
 have E0 := lh ((((Ext.rfl' w).al (.cells #[.slice (some ⟨bv, ov, none⟩) g.length cv, .slice (some ⟨br, oR, none⟩) r.length cr, .slice (some ⟨bq, oq, none⟩) g.length cq] 29)).al (.cells #[.slice (some ⟨b, o, none⟩) g.length c] 25)) : Ext w (World.alloc (World.alloc w (.cells #[.slice (some ⟨bv, ov, none⟩) g.length cv, .slice (some ⟨br, oR, none⟩) r.length cr, .slice (some ⟨bq, oq, none⟩) g.length cq] 29)) (.cells #[.slice (some ⟨b, o, none⟩) g.length c] 25)))
 have qlv : World.cell? (World.alloc (World.alloc w (.cells #[.slice (some ⟨bv, ov, none⟩) g.length cv, .slice (some ⟨br, oR, none⟩) r.length cr, .slice (some ⟨bq, oq, none⟩) g.length cq] 29)) (.cells #[.slice (some ⟨b, o, none⟩) g.length c] 25)) ⟨w.heap.size, 0, none⟩ = some (.slice (some ⟨bv, ov, none⟩) g.length cv) := by simp [go_sem]
 have Qlv := lh qlv
 clear qlv
 have qlr : World.cell? (World.alloc (World.alloc w (.cells #[.slice (some ⟨bv, ov, none⟩) g.length cv, .slice (some ⟨br, oR, none⟩) r.length cr, .slice (some ⟨bq, oq, none⟩) g.length cq] 29)) (.cells #[.slice (some ⟨b, o, none⟩) g.length c] 25)) ⟨w.heap.size, 1, none⟩ = some (.slice (some ⟨br, oR, none⟩) r.length cr) := by simp [go_sem]
 have Qlr := lh qlr
 clear qlr
 have qlq : World.cell? (World.alloc (World.alloc w (.cells #[.slice (some ⟨bv, ov, none⟩) g.length cv, .slice (some ⟨br, oR, none⟩) r.length cr, .slice (some ⟨bq, oq, none⟩) g.length cq] 29)) (.cells #[.slice (some ⟨b, o, none⟩) g.length c] 25)) ⟨w.heap.size, 2, none⟩ = some (.slice (some ⟨bq, oq, none⟩) g.length cq) := by simp [go_sem]
 have Qlq := lh qlq
 clear qlq
 have qlg : World.cell? (World.alloc (World.alloc w (.cells #[.slice (some ⟨bv, ov, none⟩) g.length cv, .slice (some ⟨br, oR, none⟩) r.length cr, .slice (some ⟨bq, oq, none⟩) g.length cq] 29)) (.cells #[.slice (some ⟨b, o, none⟩) g.length c] 25)) ⟨w.heap.size + 1, 0, none⟩ = some (.slice (some ⟨b, o, none⟩) g.length c) := by simp [go_sem]
 have Qlg := lh qlg
 clear qlg
 clear hn hqk hl hx hv hr hq h hG _hI hf hs hrl h0 hkc hcv hvl hql hrg hcq hq2 hfl
 rw [DQ_all] at HS
 generalize Sg.mayRead nf = M at *
 go_enter Tryz.func69, Tryz.ntmps69
 go_wp2_with fail
 refine (HCL.out _ (H.out.ext E0.out)).mono ?_
 rintro e w1 ⟨rfl, he1⟩
 rw [HZ.out]
 have U1 := lh ((Ext.rfl' (World.alloc (World.alloc w (.cells #[.slice (some ⟨bv, ov, none⟩) g.length cv, .slice (some ⟨br, oR, none⟩) r.length cr, .slice (some ⟨bq, oq, none⟩) g.length cq] 29)) (.cells #[.slice (some ⟨b, o, none⟩) g.length c] 25))).tr he1)
 have E1 := lh (E0.out.tr U1.out)
 have lv_1 := U1.out.cellE Qlv.out
 have lr_1 := U1.out.cellE Qlr.out
 have lq_1 := U1.out.cellE Qlq.out
 have lg_1 := U1.out.cellE Qlg.out
 have cq_1 := U1.out.cellE (E0.out.cellE Hcq.out)
 have fs_1 := U1.out.cellE (E0.out.cellE Hs.out)
 clear he1 
 have blv_1 := blt lv_1
 have blr_1 := blt lr_1
 have blq_1 := blt lq_1
 have blg_1 := blt lg_1
 have bcq_1 := blt cq_1
 have bfs_1 := blt fs_1
 go_wp2_with fail
 refine (HM.out _ (Hf.out.ext E1.out)).mono ?_
 rintro e w2 ⟨Am, cm, rfl, hom, he2⟩
 have Hom := lh hom.rd
 clear hom
 have U2 := lh ((Ext.rfl' w1).tr he2)
 have E2 := lh (E1.out.tr U2.out)
 clear he2 lv_1 lr_1 lq_1 lg_1 cq_1 fs_1 blv_1 blr_1 blq_1 blg_1 bcq_1 bfs_1
 go_wp2
 go_loopw [47] (fun i wr => ∃ j : Nat, j ≤ l.length ∧ i = .int .i64 j ∧ Ext w2 wr ∧ DQ l M j = true) (fun i _ => l.length - (intOf i).toNat)
 case atStart => exact ⟨0, Nat.zero_le _, rfl, Ext.rfl' _, rfl⟩
 case round =>
  obtain ⟨j, hj, rfl, he, hdq⟩ := hrel
  have Hdq := lh hdq
  have EE := lh (E2.out.tr he)
  have HE := lh he
  clear hdq he
  by_cases hlt : j < l.length
  ·obtain ⟨ba, oa, y, rfl, hy, hcy⟩ := (Hl.out.ext EE.out).at1 hlt
   have HT := lh ((Hl.out.ext EE.out).take j (by omega))
   have HN := lh (DQ_succ l M j hy)
   have HB := lh (DQ_bad l M j hlt)
   have by1 := blt hcy
   have hjc : j ≤ cl := by omega
   clear hy
   cases hm : decide (y ∈ M)
   ·have Hm := lh hm
    clear hm
    go_wp2_with fail
    refine (i_Contains Am M.length cm M y _ (Hom.out.ext HE.out)).mono ?_
    rintro e wa ⟨rfl, hea⟩
    rw [Hm.out]
    go_wp2
    go_ret
    exact ⟨ret_bool (by rw [HS.out, HB.out (by rw [HN.out, Hm.out]; simp)]), (EE.out.tr hea)⟩
   ·cases hm2 : decide (y ∈ l.take j)
    ·have Hm := lh hm
     have Hm2 := lh hm2
     clear hm hm2
     go_wp2_with fail
     refine (i_Contains Am M.length cm M y _ (Hom.out.ext HE.out)).mono ?_
     rintro e wa ⟨rfl, hea⟩
     rw [Hm.out]
     go_wp2_with fail
     refine (i_Contains (some ⟨ba, oa, none⟩) j cl (l.take j) y _ (HT.out.ext hea)).mono ?_
     rintro e wb ⟨rfl, heb⟩
     rw [Hm2.out]
     go_wp2
     go_roundw
     case rel => exact ⟨j + 1, by omega, by go_num, (HE.out.tr hea).tr heb, by rw [HN.out, Hdq.out, Hm.out, decide_not, Hm2.out]; rfl⟩
     case measure => simp [intOf]; omega
    ·have Hm := lh hm
     have Hm2 := lh hm2
     clear hm hm2
     go_wp2_with fail
     refine (i_Contains Am M.length cm M y _ (Hom.out.ext HE.out)).mono ?_
     rintro e wa ⟨rfl, hea⟩
     rw [Hm.out]
     go_wp2_with fail
     refine (i_Contains (some ⟨ba, oa, none⟩) j cl (l.take j) y _ (HT.out.ext hea)).mono ?_
     rintro e wb ⟨rfl, heb⟩
     rw [Hm2.out]
     go_wp2
     go_ret
     exact ⟨ret_bool (by rw [HS.out, HB.out (by rw [HN.out, Hm.out, decide_not, Hm2.out]; simp)]), ((EE.out.tr hea).tr heb)⟩
  ·obtain rfl : j = l.length := by omega
   go_wp2
   go_ret
   exact ⟨ret_bool (by rw [HS.out, Hdq.out]), EE.out⟩

theorem i_nodeValid (A Av Ar Aq : Option Addr) (c cv cr cq : Nat) (g : Sg.Graph) (v q : List Int) (r : List (List Int)) (k : Nat) (w : World) (h : RdN w A g) (hv : Rd w 1 Av g.length (ints v)) (hr : RdLC w Ar r) (hq : Rd w 1 Aq g.length (ints q))
  (hrg : r.length = g.length) (hk : k < g.length) (hG : Sg.validG g = true) (hI : Sg.inRange v) :
  Calls Tryz.prog 69 #[.agg #[.slice Av g.length cv, .slice Ar r.length cr, .slice Aq g.length cq], .agg #[.slice A g.length c], .int .i64 k] w fun e w' => e = .returned (.bool (Sg.colAt g ⟨v, r, q⟩ k)) ∧ Ext w w' := by
 have hql : q.length = g.length := hq.len
 obtain ⟨⟨nk, nf⟩, hn⟩ : ∃ n, g[k]? = some n := ⟨_, List.getElem?_eq_getElem hk⟩
 obtain ⟨qk, hqk⟩ : ∃ x, q[k]? = some x := ⟨_, List.getElem?_eq_getElem (by omega)⟩
 by_cases h0 : nk = 0
 ·exact nv_cell A Av Ar Aq c cv cr cq g v q r k w h hv hr hq hrg hk hG hI hn hqk h0
 ·by_cases h2 : qk = 2
  ·exact nv_dirty A Av Ar Aq c cv cr cq g v q r k w h hv hr hq hrg hk hG hI hn hqk h0 h2
  ·by_cases h1 : qk = 1
   ·exact nv_check A Av Ar Aq c cv cr cq g v q r k w h hv hr hq hrg hk hG hI hn hqk h0 h1
   ·by_cases h3 : qk = 0
    ·exact nv_clean A Av Ar Aq c cv cr cq g v q r k w h hv hr hq hrg hk hG hI hn hqk h0 h3
    ·exact nv_bad A Av Ar Aq c cv cr cq g v q r k w h hv hr hq hrg hk hG hI hn hqk h0 h2 h1 h3
end Go.Proofs.YtmkfjnkdaeoppaaGreat

/- The program's ValidLazy: its contract. Conditions: bounds on lengths. -/
namespace Go.Proofs.YtmkfjnkdaeoppaaGreat
open Go.RowKit

def CV (g : Sg.Graph) (st : Sg.Lazy) (k : Nat) : Bool := (List.range k).all (Sg.colAt g st)
theorem CV_succ (g : Sg.Graph) (st : Sg.Lazy) (k : Nat) : CV g st (k + 1) = (CV g st k && Sg.colAt g st k) := by unfold CV; rw [List.range_succ, List.all_append]; simp
theorem CV_bad (g : Sg.Graph) (st : Sg.Lazy) (k : Nat) (hk : k < g.length) (h : Sg.colAt g st k = false) : Sg.validL g st = false := by
 unfold Sg.validL
 have : (List.range g.length).all (Sg.colAt g st) = false := by
  rw [List.all_eq_false]
  exact ⟨k, List.mem_range.2 hk, by rw [h]; simp⟩
 rw [this, Bool.and_false]

set_option maxRecDepth 100000 in
set_option maxHeartbeats 4000000 in
theorem i_ValidLazy (A Av Ar Aq : Option Addr) (c cv cr cq : Nat) (g : Sg.Graph) (v q : List Int) (r : List (List Int)) (w : World) (h : RdN w A g) (hv : Rd w 1 Av v.length (ints v)) (hr : RdLC w Ar r) (hq : Rd w 1 Aq q.length (ints q)) (_hvl : v.length ≤ 1048576) (_hql : q.length ≤ 1048576) :
  Calls Tryz.prog 21 #[.agg #[.slice A g.length c], .agg #[.slice Av v.length cv, .slice Ar r.length cr, .slice Aq q.length cq]] w fun e w' => e = .returned (.bool (Sg.validL g ⟨v, r, q⟩)) ∧ Ext w w' := by
 have hgl := h.1
 have hrl := hr.1
 have HSZ := lh (i_size A g.length c)
 have HVG := lh (i_ValidGraph A c g)
 have HAI := lh (i_inRange Av v.length cv v)
 have H := lh h
 have Hv := lh hv
 have Hr := lh hr
 have Hq := lh hq
 clear h hv hr hq
 have E0 := lh ((((Ext.rfl' w).al (.cells #[.slice A g.length c] 25)).al (.cells #[.slice Av v.length cv, .slice Ar r.length cr, .slice Aq q.length cq] 29)) : Ext w (World.alloc (World.alloc w (.cells #[.slice A g.length c] 25)) (.cells #[.slice Av v.length cv, .slice Ar r.length cr, .slice Aq q.length cq] 29)))
 have qlg : World.cell? (World.alloc (World.alloc w (.cells #[.slice A g.length c] 25)) (.cells #[.slice Av v.length cv, .slice Ar r.length cr, .slice Aq q.length cq] 29)) ⟨w.heap.size, 0, none⟩ = some (.slice A g.length c) := by simp [go_sem]
 have Qlg := lh qlg
 clear qlg
 have qlv : World.cell? (World.alloc (World.alloc w (.cells #[.slice A g.length c] 25)) (.cells #[.slice Av v.length cv, .slice Ar r.length cr, .slice Aq q.length cq] 29)) ⟨w.heap.size + 1, 0, none⟩ = some (.slice Av v.length cv) := by simp [go_sem]
 have Qlv := lh qlv
 clear qlv
 have qlr : World.cell? (World.alloc (World.alloc w (.cells #[.slice A g.length c] 25)) (.cells #[.slice Av v.length cv, .slice Ar r.length cr, .slice Aq q.length cq] 29)) ⟨w.heap.size + 1, 1, none⟩ = some (.slice Ar r.length cr) := by simp [go_sem]
 have Qlr := lh qlr
 clear qlr
 have qlq : World.cell? (World.alloc (World.alloc w (.cells #[.slice A g.length c] 25)) (.cells #[.slice Av v.length cv, .slice Ar r.length cr, .slice Aq q.length cq] 29)) ⟨w.heap.size + 1, 2, none⟩ = some (.slice Aq q.length cq) := by simp [go_sem]
 have Qlq := lh qlq
 clear qlq
 cases hG : Sg.validG g
 ·have HG := lh hG
  clear hG
  go_enter Tryz.func21, Tryz.ntmps21
  go_wp2_with fail
  refine (HSZ.out _).mono ?_
  rintro e w1 ⟨rfl, he1⟩
  have U1 := lh ((Ext.rfl' (World.alloc (World.alloc w (.cells #[.slice A g.length c] 25)) (.cells #[.slice Av v.length cv, .slice Ar r.length cr, .slice Aq q.length cq] 29))).tr he1)
  have E1 := lh (E0.out.tr U1.out)
  have lg_1 := U1.out.cellE Qlg.out
  have lv_1 := U1.out.cellE Qlv.out
  have lr_1 := U1.out.cellE Qlr.out
  have lq_1 := U1.out.cellE Qlq.out
  clear he1 
  have blg_1 := blt lg_1
  have blv_1 := blt lv_1
  have blr_1 := blt lr_1
  have blq_1 := blt lq_1
  go_wp2_with fail
  refine (HVG.out _ (H.out.ext E1.out)).mono ?_
  rintro e w2 ⟨rfl, he2⟩
  rw [HG.out]
  have U2 := lh ((Ext.rfl' w1).tr he2)
  have E2 := lh (E1.out.tr U2.out)
  have lg_2 := U2.out.cellE lg_1
  have lv_2 := U2.out.cellE lv_1
  have lr_2 := U2.out.cellE lr_1
  have lq_2 := U2.out.cellE lq_1
  clear he2 lg_1 lv_1 lr_1 lq_1 blg_1 blv_1 blr_1 blq_1
  have blg_2 := blt lg_2
  have blv_2 := blt lv_2
  have blr_2 := blt lr_2
  have blq_2 := blt lq_2
  go_wp2
  go_ret
  exact ⟨ret_bool (by unfold Sg.validL Sg.shapeL; rw [HG.out]; rfl), E2.out⟩
 have HG := lh hG
 clear hG
 by_cases hvg : v.length = g.length
 case neg =>
  have b2 : ((v.length : Int) != (g.length : Int)) = true := by simp; omega
  have Hb := lh hvg
  clear hvg
  go_enter Tryz.func21, Tryz.ntmps21
  go_wp2_with fail
  refine (HSZ.out _).mono ?_
  rintro e w1 ⟨rfl, he1⟩
  have U1 := lh ((Ext.rfl' (World.alloc (World.alloc w (.cells #[.slice A g.length c] 25)) (.cells #[.slice Av v.length cv, .slice Ar r.length cr, .slice Aq q.length cq] 29))).tr he1)
  have E1 := lh (E0.out.tr U1.out)
  have lg_1 := U1.out.cellE Qlg.out
  have lv_1 := U1.out.cellE Qlv.out
  have lr_1 := U1.out.cellE Qlr.out
  have lq_1 := U1.out.cellE Qlq.out
  clear he1 
  have blg_1 := blt lg_1
  have blv_1 := blt lv_1
  have blr_1 := blt lr_1
  have blq_1 := blt lq_1
  go_wp2_with fail
  refine (HVG.out _ (H.out.ext E1.out)).mono ?_
  rintro e w2 ⟨rfl, he2⟩
  rw [HG.out]
  have U2 := lh ((Ext.rfl' w1).tr he2)
  have E2 := lh (E1.out.tr U2.out)
  have lg_2 := U2.out.cellE lg_1
  have lv_2 := U2.out.cellE lv_1
  have lr_2 := U2.out.cellE lr_1
  have lq_2 := U2.out.cellE lq_1
  clear he2 lg_1 lv_1 lr_1 lq_1 blg_1 blv_1 blr_1 blq_1
  have blg_2 := blt lg_2
  have blv_2 := blt lv_2
  have blr_2 := blt lr_2
  have blq_2 := blt lq_2
  go_wp2
  go_ret
  exact ⟨ret_bool (by unfold Sg.validL Sg.shapeL; simp [Hb.out]), E2.out⟩
 have b2 : ((v.length : Int) != (g.length : Int)) = false := by simp; omega
 have Hvg := lh hvg
 clear hvg
 by_cases hrg : r.length = g.length
 case neg =>
  have b3 : ((r.length : Int) != (g.length : Int)) = true := by simp; omega
  have Hb := lh hrg
  clear hrg
  go_enter Tryz.func21, Tryz.ntmps21
  go_wp2_with fail
  refine (HSZ.out _).mono ?_
  rintro e w1 ⟨rfl, he1⟩
  have U1 := lh ((Ext.rfl' (World.alloc (World.alloc w (.cells #[.slice A g.length c] 25)) (.cells #[.slice Av v.length cv, .slice Ar r.length cr, .slice Aq q.length cq] 29))).tr he1)
  have E1 := lh (E0.out.tr U1.out)
  have lg_1 := U1.out.cellE Qlg.out
  have lv_1 := U1.out.cellE Qlv.out
  have lr_1 := U1.out.cellE Qlr.out
  have lq_1 := U1.out.cellE Qlq.out
  clear he1 
  have blg_1 := blt lg_1
  have blv_1 := blt lv_1
  have blr_1 := blt lr_1
  have blq_1 := blt lq_1
  go_wp2_with fail
  refine (HVG.out _ (H.out.ext E1.out)).mono ?_
  rintro e w2 ⟨rfl, he2⟩
  rw [HG.out]
  have U2 := lh ((Ext.rfl' w1).tr he2)
  have E2 := lh (E1.out.tr U2.out)
  have lg_2 := U2.out.cellE lg_1
  have lv_2 := U2.out.cellE lv_1
  have lr_2 := U2.out.cellE lr_1
  have lq_2 := U2.out.cellE lq_1
  clear he2 lg_1 lv_1 lr_1 lq_1 blg_1 blv_1 blr_1 blq_1
  have blg_2 := blt lg_2
  have blv_2 := blt lv_2
  have blr_2 := blt lr_2
  have blq_2 := blt lq_2
  go_wp2
  go_ret
  exact ⟨ret_bool (by unfold Sg.validL Sg.shapeL; simp [Hb.out]), E2.out⟩
 have b3 : ((r.length : Int) != (g.length : Int)) = false := by simp; omega
 have Hrg := lh hrg
 clear hrg
 by_cases hqg : q.length = g.length
 case neg =>
  have b4 : ((q.length : Int) != (g.length : Int)) = true := by simp; omega
  have Hb := lh hqg
  clear hqg
  go_enter Tryz.func21, Tryz.ntmps21
  go_wp2_with fail
  refine (HSZ.out _).mono ?_
  rintro e w1 ⟨rfl, he1⟩
  have U1 := lh ((Ext.rfl' (World.alloc (World.alloc w (.cells #[.slice A g.length c] 25)) (.cells #[.slice Av v.length cv, .slice Ar r.length cr, .slice Aq q.length cq] 29))).tr he1)
  have E1 := lh (E0.out.tr U1.out)
  have lg_1 := U1.out.cellE Qlg.out
  have lv_1 := U1.out.cellE Qlv.out
  have lr_1 := U1.out.cellE Qlr.out
  have lq_1 := U1.out.cellE Qlq.out
  clear he1 
  have blg_1 := blt lg_1
  have blv_1 := blt lv_1
  have blr_1 := blt lr_1
  have blq_1 := blt lq_1
  go_wp2_with fail
  refine (HVG.out _ (H.out.ext E1.out)).mono ?_
  rintro e w2 ⟨rfl, he2⟩
  rw [HG.out]
  have U2 := lh ((Ext.rfl' w1).tr he2)
  have E2 := lh (E1.out.tr U2.out)
  have lg_2 := U2.out.cellE lg_1
  have lv_2 := U2.out.cellE lv_1
  have lr_2 := U2.out.cellE lr_1
  have lq_2 := U2.out.cellE lq_1
  clear he2 lg_1 lv_1 lr_1 lq_1 blg_1 blv_1 blr_1 blq_1
  have blg_2 := blt lg_2
  have blv_2 := blt lv_2
  have blr_2 := blt lr_2
  have blq_2 := blt lq_2
  go_wp2
  go_ret
  exact ⟨ret_bool (by unfold Sg.validL Sg.shapeL; simp [Hb.out]), E2.out⟩
 have b4 : ((q.length : Int) != (g.length : Int)) = false := by simp; omega
 have Hqg := lh hqg
 clear hqg
 cases hI : (v.all fun x => Sg.inR x 0 999)
 ·have HI := lh hI
  clear hI
  go_enter Tryz.func21, Tryz.ntmps21
  go_wp2_with fail
  refine (HSZ.out _).mono ?_
  rintro e w1 ⟨rfl, he1⟩
  have U1 := lh ((Ext.rfl' (World.alloc (World.alloc w (.cells #[.slice A g.length c] 25)) (.cells #[.slice Av v.length cv, .slice Ar r.length cr, .slice Aq q.length cq] 29))).tr he1)
  have E1 := lh (E0.out.tr U1.out)
  have lg_1 := U1.out.cellE Qlg.out
  have lv_1 := U1.out.cellE Qlv.out
  have lr_1 := U1.out.cellE Qlr.out
  have lq_1 := U1.out.cellE Qlq.out
  clear he1 
  have blg_1 := blt lg_1
  have blv_1 := blt lv_1
  have blr_1 := blt lr_1
  have blq_1 := blt lq_1
  go_wp2_with fail
  refine (HVG.out _ (H.out.ext E1.out)).mono ?_
  rintro e w2 ⟨rfl, he2⟩
  rw [HG.out]
  have U2 := lh ((Ext.rfl' w1).tr he2)
  have E2 := lh (E1.out.tr U2.out)
  have lg_2 := U2.out.cellE lg_1
  have lv_2 := U2.out.cellE lv_1
  have lr_2 := U2.out.cellE lr_1
  have lq_2 := U2.out.cellE lq_1
  clear he2 lg_1 lv_1 lr_1 lq_1 blg_1 blv_1 blr_1 blq_1
  have blg_2 := blt lg_2
  have blv_2 := blt lv_2
  have blr_2 := blt lr_2
  have blq_2 := blt lq_2
  go_wp2_with fail
  refine (HAI.out _ (Hv.out.ext E2.out)).mono ?_
  rintro e w3 ⟨rfl, he3⟩
  rw [HI.out]
  have U3 := lh ((Ext.rfl' w2).tr he3)
  have E3 := lh (E2.out.tr U3.out)
  have lg_3 := U3.out.cellE lg_2
  have lv_3 := U3.out.cellE lv_2
  have lr_3 := U3.out.cellE lr_2
  have lq_3 := U3.out.cellE lq_2
  clear he3 lg_2 lv_2 lr_2 lq_2 blg_2 blv_2 blr_2 blq_2
  have blg_3 := blt lg_3
  have blv_3 := blt lv_3
  have blr_3 := blt lr_3
  have blq_3 := blt lq_3
  go_wp2
  go_ret
  exact ⟨ret_bool (by unfold Sg.validL Sg.shapeL; unfold Sg.inR999; rw [HI.out]; simp), E3.out⟩
 have HI := lh hI
 clear hI
 have HC := lh (fun (k : Nat) (w : World) (hk : k < g.length) (h : RdN w A g) (hv0 : Rd w 1 Av g.length (ints v)) (hr : RdLC w Ar r) (hq0 : Rd w 1 Aq g.length (ints q)) => i_nodeValid A Av Ar Aq c cv cr cq g v q r k w h hv0 hr hq0 Hrg.out hk HG.out (Sg.inR999_range HI.out))
 go_enter Tryz.func21, Tryz.ntmps21
 go_wp2_with fail
 refine (HSZ.out _).mono ?_
 rintro e w1 ⟨rfl, he1⟩
 have U1 := lh ((Ext.rfl' (World.alloc (World.alloc w (.cells #[.slice A g.length c] 25)) (.cells #[.slice Av v.length cv, .slice Ar r.length cr, .slice Aq q.length cq] 29))).tr he1)
 have E1 := lh (E0.out.tr U1.out)
 have lg_1 := U1.out.cellE Qlg.out
 have lv_1 := U1.out.cellE Qlv.out
 have lr_1 := U1.out.cellE Qlr.out
 have lq_1 := U1.out.cellE Qlq.out
 clear he1 
 have blg_1 := blt lg_1
 have blv_1 := blt lv_1
 have blr_1 := blt lr_1
 have blq_1 := blt lq_1
 go_wp2_with fail
 refine (HVG.out _ (H.out.ext E1.out)).mono ?_
 rintro e w2 ⟨rfl, he2⟩
 rw [HG.out]
 have U2 := lh ((Ext.rfl' w1).tr he2)
 have E2 := lh (E1.out.tr U2.out)
 have lg_2 := U2.out.cellE lg_1
 have lv_2 := U2.out.cellE lv_1
 have lr_2 := U2.out.cellE lr_1
 have lq_2 := U2.out.cellE lq_1
 clear he2 lg_1 lv_1 lr_1 lq_1 blg_1 blv_1 blr_1 blq_1
 have blg_2 := blt lg_2
 have blv_2 := blt lv_2
 have blr_2 := blt lr_2
 have blq_2 := blt lq_2
 go_wp2_with fail
 refine (HAI.out _ (Hv.out.ext E2.out)).mono ?_
 rintro e w3 ⟨rfl, he3⟩
 rw [HI.out]
 have U3 := lh ((Ext.rfl' w2).tr he3)
 have E3 := lh (E2.out.tr U3.out)
 have lg_3 := U3.out.cellE lg_2
 have lv_3 := U3.out.cellE lv_2
 have lr_3 := U3.out.cellE lr_2
 have lq_3 := U3.out.cellE lq_2
 clear he3 lg_2 lv_2 lr_2 lq_2 blg_2 blv_2 blr_2 blq_2
 have blg_3 := blt lg_3
 have blv_3 := blt lv_3
 have blr_3 := blt lr_3
 have blq_3 := blt lq_3
 go_wp2
 go_loopw [42] (fun i wr => ∃ k : Nat, k ≤ g.length ∧ i = .int .i64 k ∧ Ext w3 wr ∧ CV g ⟨v, r, q⟩ k = true) (fun i _ => g.length - (intOf i).toNat)
 case atStart => exact ⟨0, Nat.zero_le _, rfl, Ext.rfl' _, rfl⟩
 case round =>
  obtain ⟨k, hk, rfl, he, hra⟩ := hrel
  have HR := lh hra
  have lg_r := he.cellE lg_3
  have lv_r := he.cellE lv_3
  have lr_r := he.cellE lr_3
  have lq_r := he.cellE lq_3
  have d1 := blt lg_r
  have d2 := blt lv_r
  have ee := lh (E3.out.tr he)
  have HE := lh he
  clear hra he lg_3 lv_3 lr_3 lq_3
  by_cases hlt : k < g.length
  ·have HCk := HC.out k wr hlt (H.out.ext ee.out) (by have := Hv.out.ext ee.out; rwa [Hvg.out] at this) (Hr.out.ext ee.out) (by have := Hq.out.ext ee.out; rwa [Hqg.out] at this)
   have HCk : Calls Tryz.prog 69 #[.agg #[.slice Av v.length cv, .slice Ar r.length cr, .slice Aq q.length cq], .agg #[.slice A g.length c], .int .i64 k] wr fun e w' => e = .returned (.bool (Sg.colAt g ⟨v, r, q⟩ k)) ∧ Ext wr w' := by rw [Hvg.out, Hqg.out]; exact HCk
   have HCK := lh HCk
   clear HCk
   cases hg : Sg.colAt g ⟨v, r, q⟩ k
   ·have Hg := lh hg
    clear hg
    go_wp2_with (go_at_call 69; refine HCK.out.mono ?_; rintro e w9 ⟨rfl, he9⟩; rw [Hg.out])
    go_ret
    exact ⟨ret_bool (by rw [CV_bad g _ k hlt Hg.out]), ee.out.tr he9⟩
   ·have Hg := lh hg
    clear hg
    go_wp2_with (go_at_call 69; refine HCK.out.mono ?_; rintro e w9 ⟨rfl, he9⟩; rw [Hg.out])
    go_roundw
    case rel => exact ⟨k + 1, by omega, by go_num, HE.out.tr he9, by rw [CV_succ, HR.out, Hg.out]; rfl⟩
    case measure => simp [intOf]; omega
  ·obtain rfl : k = g.length := by omega
   have hfin : Sg.validL g ⟨v, r, q⟩ = true := by
    unfold Sg.validL Sg.shapeL Sg.inR999
    have := HR.out
    unfold CV at this
    simp only [this, HG.out, HI.out, Hvg.out, Hrg.out, Hqg.out, decide_true, Bool.and_self]
   have Hfin := lh hfin
   clear hfin
   go_wp2
   go_ret
   exact ⟨ret_bool (by rw [Hfin.out]), ee.out⟩
end Go.Proofs.YtmkfjnkdaeoppaaGreat
