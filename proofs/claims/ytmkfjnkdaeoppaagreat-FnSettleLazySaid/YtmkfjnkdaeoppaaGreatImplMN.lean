/- Parts of one proof, joined. The program's ValidEager: its contract. Conditions: bounds on lengths. The program's ValidEager: its contract. Conditions: bounds on lengths. -/
import Derived.Test.YtmkfjnkdaeoppaaGreatTy
import Derived.Test.YtmkfjnkdaeoppaaGreatImplThree
import Derived.Test.YtmkfjnkdaeoppaaGreatImplTwo
import Derived.Test.YtmkfjnkdaeoppaaGreatSpecTwo
import Derived.Deep.QuietTactic
import Derived.BigQuiet
/- The program's ValidEager: its contract. Conditions: bounds on lengths. -/
namespace Go.Proofs.YtmkfjnkdaeoppaaGreat
open Go.RowKit

set_option maxRecDepth 100000 in
set_option maxHeartbeats 1000000 in
theorem ve_bad1 (A Av Ar : Option Addr) (c cv cr : Nat) (g : Sg.Graph) (v : List Int) (r : List (List Int)) (w : World) (h : RdN w A g) (hv : Rd w 1 Av v.length (ints v)) (hr : RdL w Ar r) (hG : Sg.validG g = false) :
  Calls Tryz.prog 57 #[.agg #[.slice A g.length c], .agg #[.slice Av v.length cv, .slice Ar r.length cr]] w fun e w' => e = .returned (.bool (Sg.validE g ⟨v, r⟩)) ∧ Ext w w' := by
 have hgl := h.1
 have hrl := hr.1
 have hvl := hv.big
 have HVG := lh (i_ValidGraph A c g)
 have HAI := lh (i_inRange Av v.length cv v)
 have e0 := ((Ext.rfl' w).al (.cells #[.slice A g.length c] 25)).al (.cells #[.slice Av v.length cv, .slice Ar r.length cr] 63)
 have q1 : ((w.alloc (.cells #[.slice A g.length c] 25)).alloc (.cells #[.slice Av v.length cv, .slice Ar r.length cr] 63)).drew.cell? ⟨w.heap.size, 0, none⟩ = some (.slice A g.length c) := by simp [go_sem]
 have q2 : ((w.alloc (.cells #[.slice A g.length c] 25)).alloc (.cells #[.slice Av v.length cv, .slice Ar r.length cr] 63)).drew.cell? ⟨w.heap.size + 1, 0, none⟩ = some (.slice Av v.length cv) := by simp [go_sem]
 have q3 : ((w.alloc (.cells #[.slice A g.length c] 25)).alloc (.cells #[.slice Av v.length cv, .slice Ar r.length cr] 63)).drew.cell? ⟨w.heap.size + 1, 1, none⟩ = some (.slice Ar r.length cr) := by simp [go_sem]
 have Q1 := lh q1
 have Q2 := lh q2
 have Q3 := lh q3
 clear q1 q2 q3
 have HG := lh hG
 clear hG
 go_enter Tryz.func57, Tryz.ntmps57
 go_wp2_with fail
 refine wp_region_held_drew (S := (fun W => W.cell? ⟨w.heap.size, 0, none⟩ = some (.slice A g.length c) ∧ W.cell? ⟨w.heap.size + 1, 0, none⟩ = some (.slice Av v.length cv) ∧ W.cell? ⟨w.heap.size + 1, 1, none⟩ = some (.slice Ar r.length cr))) (by kernel_rfl) ?_ (fun hHeld => ?_)
 ·exact ⟨Q1.out, Q2.out, Q3.out⟩
 refine ty 0 ?_
 refine rd1 1 rfl fun K hK => ?_
 go_simp
 refine (HVG.out _ (h.ext e0.dr)).mono ?_; rintro e w1 ⟨rfl, he1⟩; rw [HG.out]; have e1 := (e0.dr).tr he1; have k1 := he1.cellE Q1.out; have k2 := he1.cellE Q2.out; have k3 := he1.cellE Q3.out
 try go_wp2_with fail
 refine hK.out _ _ (by exact ⟨k1, k2, k3⟩) fun hh2 => ?_; clear hK K hHeld; have hHeld := hh2; clear hh2
 try simp only [Act.put, pu]
 refine ty 2 ?_
 refine ty 3 ?_
 refine tn 4 ?_
 refine tn 5 ?_
 refine tn 6 ?_
 refine tn 7 ?_
 refine tn 8 ?_
 refine tn 9 ?_
 refine ty 10 ?_
 refine ty 11 ?_
 refine tn 12 ?_
 refine tn 13 ?_
 refine tn 14 ?_
 refine tn 15 ?_
 refine tn 16 ?_
 refine tn 17 ?_
 refine ty 18 ?_
 refine ty 19 ?_
 refine tn 20 ?_
 refine tn 21 ?_
 refine tn 22 ?_
 refine tn 23 ?_
 refine ty 24 ?_
 refine dn ?_
 go_wp2
 go_ret
 exact ⟨ret_bool (by unfold Sg.validE; rw [HG.out]; rfl), e1⟩


set_option maxRecDepth 100000 in
set_option maxHeartbeats 1000000 in
theorem ve_bad2 (A Av Ar : Option Addr) (c cv cr : Nat) (g : Sg.Graph) (v : List Int) (r : List (List Int)) (w : World) (h : RdN w A g) (hv : Rd w 1 Av v.length (ints v)) (hr : RdL w Ar r) (hG : Sg.validG g = true) (hvg : ¬ v.length = g.length) :
  Calls Tryz.prog 57 #[.agg #[.slice A g.length c], .agg #[.slice Av v.length cv, .slice Ar r.length cr]] w fun e w' => e = .returned (.bool (Sg.validE g ⟨v, r⟩)) ∧ Ext w w' := by
 have hgl := h.1
 have hrl := hr.1
 have hvl := hv.big
 have HVG := lh (i_ValidGraph A c g)
 have HAI := lh (i_inRange Av v.length cv v)
 have e0 := ((Ext.rfl' w).al (.cells #[.slice A g.length c] 25)).al (.cells #[.slice Av v.length cv, .slice Ar r.length cr] 63)
 have q1 : ((w.alloc (.cells #[.slice A g.length c] 25)).alloc (.cells #[.slice Av v.length cv, .slice Ar r.length cr] 63)).drew.cell? ⟨w.heap.size, 0, none⟩ = some (.slice A g.length c) := by simp [go_sem]
 have q2 : ((w.alloc (.cells #[.slice A g.length c] 25)).alloc (.cells #[.slice Av v.length cv, .slice Ar r.length cr] 63)).drew.cell? ⟨w.heap.size + 1, 0, none⟩ = some (.slice Av v.length cv) := by simp [go_sem]
 have q3 : ((w.alloc (.cells #[.slice A g.length c] 25)).alloc (.cells #[.slice Av v.length cv, .slice Ar r.length cr] 63)).drew.cell? ⟨w.heap.size + 1, 1, none⟩ = some (.slice Ar r.length cr) := by simp [go_sem]
 have Q1 := lh q1
 have Q2 := lh q2
 have Q3 := lh q3
 clear q1 q2 q3
 have b1 : ((v.length : Int) != (g.length : Int)) = true := by simp; omega
 have HG := lh hG
 have Hb := lh hvg
 clear hG hvg
 go_enter Tryz.func57, Tryz.ntmps57
 go_wp2_with fail
 refine wp_region_held_drew (S := (fun W => W.cell? ⟨w.heap.size, 0, none⟩ = some (.slice A g.length c) ∧ W.cell? ⟨w.heap.size + 1, 0, none⟩ = some (.slice Av v.length cv) ∧ W.cell? ⟨w.heap.size + 1, 1, none⟩ = some (.slice Ar r.length cr))) (by kernel_rfl) ?_ (fun hHeld => ?_)
 ·exact ⟨Q1.out, Q2.out, Q3.out⟩
 refine ty 0 ?_
 refine rd1 1 rfl fun K hK => ?_
 go_simp
 refine (HVG.out _ (h.ext e0.dr)).mono ?_; rintro e w1 ⟨rfl, he1⟩; rw [HG.out]; have e1 := (e0.dr).tr he1; have k1 := he1.cellE Q1.out; have k2 := he1.cellE Q2.out; have k3 := he1.cellE Q3.out
 try go_wp2_with fail
 refine hK.out _ _ (by exact ⟨k1, k2, k3⟩) fun hh2 => ?_; clear hK K hHeld; have hHeld := hh2; clear hh2
 try simp only [Act.put, pu]
 refine ty 2 ?_
 refine ty 3 ?_
 refine ty 4 ?_
 refine ty 5 ?_
 refine ty 6 ?_
 refine ty 7 ?_
 refine rd1 8 rfl fun K hK => ?_
 go_simp
 refine (i_size A g.length c _).mono ?_; rintro e w2 ⟨rfl, he2⟩; have e1 := e1.tr he2; have k1 := he2.cellE k1; have k2 := he2.cellE k2; have k3 := he2.cellE k3
 try go_wp2_with fail
 refine hK.out _ _ (by exact ⟨k1, k2, k3⟩) fun hh2 => ?_; clear hK K hHeld; have hHeld := hh2; clear hh2
 try simp only [Act.put, pu]
 refine ty 9 ?_
 refine ty 10 ?_
 refine ty 11 ?_
 refine tn 12 ?_
 refine tn 13 ?_
 refine tn 14 ?_
 refine tn 15 ?_
 refine tn 16 ?_
 refine tn 17 ?_
 refine ty 18 ?_
 refine ty 19 ?_
 refine tn 20 ?_
 refine tn 21 ?_
 refine tn 22 ?_
 refine tn 23 ?_
 refine ty 24 ?_
 refine dn ?_
 go_wp2
 go_ret
 exact ⟨ret_bool (by unfold Sg.validE; simp [Hb.out]), e1⟩

set_option maxRecDepth 100000 in
set_option maxHeartbeats 1000000 in
theorem ve_bad3 (A Av Ar : Option Addr) (c cv cr : Nat) (g : Sg.Graph) (v : List Int) (r : List (List Int)) (w : World) (h : RdN w A g) (hv : Rd w 1 Av v.length (ints v)) (hr : RdL w Ar r) (hG : Sg.validG g = true) (hvg : v.length = g.length) (hrg : ¬ r.length = g.length) :
  Calls Tryz.prog 57 #[.agg #[.slice A g.length c], .agg #[.slice Av v.length cv, .slice Ar r.length cr]] w fun e w' => e = .returned (.bool (Sg.validE g ⟨v, r⟩)) ∧ Ext w w' := by
 have hgl := h.1
 have hrl := hr.1
 have hvl := hv.big
 have HVG := lh (i_ValidGraph A c g)
 have HAI := lh (i_inRange Av v.length cv v)
 have e0 := ((Ext.rfl' w).al (.cells #[.slice A g.length c] 25)).al (.cells #[.slice Av v.length cv, .slice Ar r.length cr] 63)
 have q1 : ((w.alloc (.cells #[.slice A g.length c] 25)).alloc (.cells #[.slice Av v.length cv, .slice Ar r.length cr] 63)).drew.cell? ⟨w.heap.size, 0, none⟩ = some (.slice A g.length c) := by simp [go_sem]
 have q2 : ((w.alloc (.cells #[.slice A g.length c] 25)).alloc (.cells #[.slice Av v.length cv, .slice Ar r.length cr] 63)).drew.cell? ⟨w.heap.size + 1, 0, none⟩ = some (.slice Av v.length cv) := by simp [go_sem]
 have q3 : ((w.alloc (.cells #[.slice A g.length c] 25)).alloc (.cells #[.slice Av v.length cv, .slice Ar r.length cr] 63)).drew.cell? ⟨w.heap.size + 1, 1, none⟩ = some (.slice Ar r.length cr) := by simp [go_sem]
 have Q1 := lh q1
 have Q2 := lh q2
 have Q3 := lh q3
 clear q1 q2 q3
 have b1 : ((v.length : Int) != (g.length : Int)) = false := by simp; omega
 have b2 : ((r.length : Int) != (g.length : Int)) = true := by simp; omega
 have HG := lh hG
 have Hb := lh hrg
 clear hG hvg hrg
 go_enter Tryz.func57, Tryz.ntmps57
 go_wp2_with fail
 refine wp_region_held_drew (S := (fun W => W.cell? ⟨w.heap.size, 0, none⟩ = some (.slice A g.length c) ∧ W.cell? ⟨w.heap.size + 1, 0, none⟩ = some (.slice Av v.length cv) ∧ W.cell? ⟨w.heap.size + 1, 1, none⟩ = some (.slice Ar r.length cr))) (by kernel_rfl) ?_ (fun hHeld => ?_)
 ·exact ⟨Q1.out, Q2.out, Q3.out⟩
 refine ty 0 ?_
 refine rd1 1 rfl fun K hK => ?_
 go_simp
 refine (HVG.out _ (h.ext e0.dr)).mono ?_; rintro e w1 ⟨rfl, he1⟩; rw [HG.out]; have e1 := (e0.dr).tr he1; have k1 := he1.cellE Q1.out; have k2 := he1.cellE Q2.out; have k3 := he1.cellE Q3.out
 try go_wp2_with fail
 refine hK.out _ _ (by exact ⟨k1, k2, k3⟩) fun hh2 => ?_; clear hK K hHeld; have hHeld := hh2; clear hh2
 try simp only [Act.put, pu]
 refine ty 2 ?_
 refine ty 3 ?_
 refine ty 4 ?_
 refine ty 5 ?_
 refine ty 6 ?_
 refine ty 7 ?_
 refine rd1 8 rfl fun K hK => ?_
 go_simp
 refine (i_size A g.length c _).mono ?_; rintro e w2 ⟨rfl, he2⟩; have e1 := e1.tr he2; have k1 := he2.cellE k1; have k2 := he2.cellE k2; have k3 := he2.cellE k3
 try go_wp2_with fail
 refine hK.out _ _ (by exact ⟨k1, k2, k3⟩) fun hh2 => ?_; clear hK K hHeld; have hHeld := hh2; clear hh2
 try simp only [Act.put, pu]
 refine ty 9 ?_
 refine ty 10 ?_
 refine ty 11 ?_
 refine ty 12 ?_
 refine ty 13 ?_
 refine ty 14 ?_
 refine ty 15 ?_
 refine rd1 16 rfl fun K hK => ?_
 go_simp
 refine (i_size A g.length c _).mono ?_; rintro e w2 ⟨rfl, he2⟩; have e1 := e1.tr he2; have k1 := he2.cellE k1; have k2 := he2.cellE k2; have k3 := he2.cellE k3
 try go_wp2_with fail
 refine hK.out _ _ (by exact ⟨k1, k2, k3⟩) fun hh2 => ?_; clear hK K hHeld; have hHeld := hh2; clear hh2
 try simp only [Act.put, pu]
 refine ty 17 ?_
 refine ty 18 ?_
 refine ty 19 ?_
 refine tn 20 ?_
 refine tn 21 ?_
 refine tn 22 ?_
 refine tn 23 ?_
 refine ty 24 ?_
 refine dn ?_
 go_wp2
 go_ret
 exact ⟨ret_bool (by unfold Sg.validE; simp [Hb.out]), e1⟩

set_option maxRecDepth 100000 in
set_option maxHeartbeats 1000000 in
theorem ve_bad4 (A Av Ar : Option Addr) (c cv cr : Nat) (g : Sg.Graph) (v : List Int) (r : List (List Int)) (w : World) (h : RdN w A g) (hv : Rd w 1 Av v.length (ints v)) (hr : RdL w Ar r) (hG : Sg.validG g = true) (hvg : v.length = g.length) (hrg : r.length = g.length) (hI : (v.all fun x => Sg.inR x 0 999) = false) :
  Calls Tryz.prog 57 #[.agg #[.slice A g.length c], .agg #[.slice Av v.length cv, .slice Ar r.length cr]] w fun e w' => e = .returned (.bool (Sg.validE g ⟨v, r⟩)) ∧ Ext w w' := by
 have hgl := h.1
 have hrl := hr.1
 have hvl := hv.big
 have HVG := lh (i_ValidGraph A c g)
 have HAI := lh (i_inRange Av v.length cv v)
 have e0 := ((Ext.rfl' w).al (.cells #[.slice A g.length c] 25)).al (.cells #[.slice Av v.length cv, .slice Ar r.length cr] 63)
 have q1 : ((w.alloc (.cells #[.slice A g.length c] 25)).alloc (.cells #[.slice Av v.length cv, .slice Ar r.length cr] 63)).drew.cell? ⟨w.heap.size, 0, none⟩ = some (.slice A g.length c) := by simp [go_sem]
 have q2 : ((w.alloc (.cells #[.slice A g.length c] 25)).alloc (.cells #[.slice Av v.length cv, .slice Ar r.length cr] 63)).drew.cell? ⟨w.heap.size + 1, 0, none⟩ = some (.slice Av v.length cv) := by simp [go_sem]
 have q3 : ((w.alloc (.cells #[.slice A g.length c] 25)).alloc (.cells #[.slice Av v.length cv, .slice Ar r.length cr] 63)).drew.cell? ⟨w.heap.size + 1, 1, none⟩ = some (.slice Ar r.length cr) := by simp [go_sem]
 have Q1 := lh q1
 have Q2 := lh q2
 have Q3 := lh q3
 clear q1 q2 q3
 have b1 : ((v.length : Int) != (g.length : Int)) = false := by simp; omega
 have b2 : ((r.length : Int) != (g.length : Int)) = false := by simp; omega
 have HG := lh hG
 have HI := lh hI
 clear hG hvg hrg hI
 go_enter Tryz.func57, Tryz.ntmps57
 go_wp2_with fail
 refine wp_region_held_drew (S := (fun W => W.cell? ⟨w.heap.size, 0, none⟩ = some (.slice A g.length c) ∧ W.cell? ⟨w.heap.size + 1, 0, none⟩ = some (.slice Av v.length cv) ∧ W.cell? ⟨w.heap.size + 1, 1, none⟩ = some (.slice Ar r.length cr))) (by kernel_rfl) ?_ (fun hHeld => ?_)
 ·exact ⟨Q1.out, Q2.out, Q3.out⟩
 refine ty 0 ?_
 refine rd1 1 rfl fun K hK => ?_
 go_simp
 refine (HVG.out _ (h.ext e0.dr)).mono ?_; rintro e w1 ⟨rfl, he1⟩; rw [HG.out]; have e1 := (e0.dr).tr he1; have k1 := he1.cellE Q1.out; have k2 := he1.cellE Q2.out; have k3 := he1.cellE Q3.out
 try go_wp2_with fail
 refine hK.out _ _ (by exact ⟨k1, k2, k3⟩) fun hh2 => ?_; clear hK K hHeld; have hHeld := hh2; clear hh2
 try simp only [Act.put, pu]
 refine ty 2 ?_
 refine ty 3 ?_
 refine ty 4 ?_
 refine ty 5 ?_
 refine ty 6 ?_
 refine ty 7 ?_
 refine rd1 8 rfl fun K hK => ?_
 go_simp
 refine (i_size A g.length c _).mono ?_; rintro e w2 ⟨rfl, he2⟩; have e1 := e1.tr he2; have k1 := he2.cellE k1; have k2 := he2.cellE k2; have k3 := he2.cellE k3
 try go_wp2_with fail
 refine hK.out _ _ (by exact ⟨k1, k2, k3⟩) fun hh2 => ?_; clear hK K hHeld; have hHeld := hh2; clear hh2
 try simp only [Act.put, pu]
 refine ty 9 ?_
 refine ty 10 ?_
 refine ty 11 ?_
 refine ty 12 ?_
 refine ty 13 ?_
 refine ty 14 ?_
 refine ty 15 ?_
 refine rd1 16 rfl fun K hK => ?_
 go_simp
 refine (i_size A g.length c _).mono ?_; rintro e w2 ⟨rfl, he2⟩; have e1 := e1.tr he2; have k1 := he2.cellE k1; have k2 := he2.cellE k2; have k3 := he2.cellE k3
 try go_wp2_with fail
 refine hK.out _ _ (by exact ⟨k1, k2, k3⟩) fun hh2 => ?_; clear hK K hHeld; have hHeld := hh2; clear hh2
 try simp only [Act.put, pu]
 refine ty 17 ?_
 refine ty 18 ?_
 refine ty 19 ?_
 refine ty 20 ?_
 refine ty 21 ?_
 refine rd1 22 rfl fun K hK => ?_
 go_simp
 refine (HAI.out _ (hv.ext e1)).mono ?_; rintro e w3 ⟨rfl, he3⟩; rw [HI.out]; have e1 := e1.tr he3; have k1 := he3.cellE k1; have k2 := he3.cellE k2; have k3 := he3.cellE k3
 try go_wp2_with fail
 refine hK.out _ _ (by exact ⟨k1, k2, k3⟩) fun hh2 => ?_; clear hK K hHeld; have hHeld := hh2; clear hh2
 try simp only [Act.put, pu]
 refine ty 23 ?_
 refine ty 24 ?_
 refine dn ?_
 go_wp2
 go_ret
 exact ⟨ret_bool (by unfold Sg.validE Sg.inR999; rw [HI.out]; simp), e1⟩

end Go.Proofs.YtmkfjnkdaeoppaaGreat

/- The program's ValidEager: its contract. Conditions: bounds on lengths. -/
namespace Go.Proofs.YtmkfjnkdaeoppaaGreat
open Go.RowKit

set_option maxRecDepth 100000 in
set_option maxHeartbeats 4000000 in
theorem ve_main (A Av Ar : Option Addr) (c cv cr : Nat) (g : Sg.Graph) (v : List Int) (r : List (List Int)) (w : World) (h : RdN w A g) (hv : Rd w 1 Av v.length (ints v)) (hr : RdL w Ar r) (hG : Sg.validG g = true) (hvg : v.length = g.length) (hrg : r.length = g.length) (hI : (v.all fun x => Sg.inR x 0 999) = true) :
  Calls Tryz.prog 57 #[.agg #[.slice A g.length c], .agg #[.slice Av v.length cv, .slice Ar r.length cr]] w fun e w' => e = .returned (.bool (Sg.validE g ⟨v, r⟩)) ∧ Ext w w' := by
 have hgl := h.1
 have hrl := hr.1
 have hvl := hv.big
 have HVG := lh (i_ValidGraph A c g)
 have HAI := lh (i_inRange Av v.length cv v)
 have e0 := ((Ext.rfl' w).al (.cells #[.slice A g.length c] 25)).al (.cells #[.slice Av v.length cv, .slice Ar r.length cr] 63)
 have q1 : ((w.alloc (.cells #[.slice A g.length c] 25)).alloc (.cells #[.slice Av v.length cv, .slice Ar r.length cr] 63)).drew.cell? ⟨w.heap.size, 0, none⟩ = some (.slice A g.length c) := by simp [go_sem]
 have q2 : ((w.alloc (.cells #[.slice A g.length c] 25)).alloc (.cells #[.slice Av v.length cv, .slice Ar r.length cr] 63)).drew.cell? ⟨w.heap.size + 1, 0, none⟩ = some (.slice Av v.length cv) := by simp [go_sem]
 have q3 : ((w.alloc (.cells #[.slice A g.length c] 25)).alloc (.cells #[.slice Av v.length cv, .slice Ar r.length cr] 63)).drew.cell? ⟨w.heap.size + 1, 1, none⟩ = some (.slice Ar r.length cr) := by simp [go_sem]
 have Q1 := lh q1
 have Q2 := lh q2
 have Q3 := lh q3
 clear q1 q2 q3
 have b1 : ((v.length : Int) != (g.length : Int)) = false := by simp; omega
 have b2 : ((r.length : Int) != (g.length : Int)) = false := by simp; omega
 have HG := lh hG
 have HI := lh hI
 have Hvg := lh hvg
 have Hrg := lh hrg
 clear hG hvg hrg hI
 go_enter Tryz.func57, Tryz.ntmps57
 go_wp2_with fail
 refine wp_region_held_drew (S := (fun W => W.cell? ⟨w.heap.size, 0, none⟩ = some (.slice A g.length c) ∧ W.cell? ⟨w.heap.size + 1, 0, none⟩ = some (.slice Av v.length cv) ∧ W.cell? ⟨w.heap.size + 1, 1, none⟩ = some (.slice Ar r.length cr))) (by kernel_rfl) ?_ (fun hHeld => ?_)
 ·exact ⟨Q1.out, Q2.out, Q3.out⟩
 refine ty 0 ?_
 refine rd1 1 rfl fun K hK => ?_
 go_simp
 refine (HVG.out _ (h.ext e0.dr)).mono ?_; rintro e w1 ⟨rfl, he1⟩; rw [HG.out]; have e1 := (e0.dr).tr he1; have k1 := he1.cellE Q1.out; have k2 := he1.cellE Q2.out; have k3 := he1.cellE Q3.out
 try go_wp2_with fail
 refine hK.out _ _ (by exact ⟨k1, k2, k3⟩) fun hh2 => ?_; clear hK K hHeld; have hHeld := hh2; clear hh2
 try simp only [Act.put, pu]
 refine ty 2 ?_
 refine ty 3 ?_
 refine ty 4 ?_
 refine ty 5 ?_
 refine ty 6 ?_
 refine ty 7 ?_
 refine rd1 8 rfl fun K hK => ?_
 go_simp
 refine (i_size A g.length c _).mono ?_; rintro e w2 ⟨rfl, he2⟩; have e1 := e1.tr he2; have k1 := he2.cellE k1; have k2 := he2.cellE k2; have k3 := he2.cellE k3
 try go_wp2_with fail
 refine hK.out _ _ (by exact ⟨k1, k2, k3⟩) fun hh2 => ?_; clear hK K hHeld; have hHeld := hh2; clear hh2
 try simp only [Act.put, pu]
 refine ty 9 ?_
 refine ty 10 ?_
 refine ty 11 ?_
 refine ty 12 ?_
 refine ty 13 ?_
 refine ty 14 ?_
 refine ty 15 ?_
 refine rd1 16 rfl fun K hK => ?_
 go_simp
 refine (i_size A g.length c _).mono ?_; rintro e w2 ⟨rfl, he2⟩; have e1 := e1.tr he2; have k1 := he2.cellE k1; have k2 := he2.cellE k2; have k3 := he2.cellE k3
 try go_wp2_with fail
 refine hK.out _ _ (by exact ⟨k1, k2, k3⟩) fun hh2 => ?_; clear hK K hHeld; have hHeld := hh2; clear hh2
 try simp only [Act.put, pu]
 refine ty 17 ?_
 refine ty 18 ?_
 refine ty 19 ?_
 refine ty 20 ?_
 refine ty 21 ?_
 refine rd1 22 rfl fun K hK => ?_
 go_simp
 refine (HAI.out _ (hv.ext e1)).mono ?_; rintro e w3 ⟨rfl, he3⟩; rw [HI.out]; have e1 := e1.tr he3; have k1 := he3.cellE k1; have k2 := he3.cellE k2; have k3 := he3.cellE k3
 try go_wp2_with fail
 refine hK.out _ _ (by exact ⟨k1, k2, k3⟩) fun hh2 => ?_; clear hK K hHeld; have hHeld := hh2; clear hh2
 try simp only [Act.put, pu]
 refine ty 23 ?_
 refine ty 24 ?_
 refine dn ?_
 go_wp2
 clear b1 b2 HVG HAI Q1 Q2 Q3 e0 hHeld
 go_loopw [35] (fun i wr => ∃ k : Nat, k ≤ g.length ∧ i = .int .i64 k ∧ Ext w3 wr ∧ RA g v r k = true) (fun i _ => g.length - (intOf i).toNat)
 case atStart => exact ⟨0, Nat.zero_le _, rfl, Ext.rfl' _, rfl⟩
 case round =>
  obtain ⟨k, hk, rfl, he, hra⟩ := hrel
  have HR := lh hra
  have c1 := he.cellE k1
  have c2 := he.cellE k2
  have c3 := he.cellE k3
  have ee := e1.tr he
  clear hra k1 k2 k3
  by_cases hlt : k < g.length
  ·obtain ⟨⟨nk, nf⟩, b, o, Ap, cp, hn, rfl, hkc, hs, hf, hfl⟩ := (h.ext ee).at_ hlt
   obtain ⟨l, b', o', Al, cl, hl, rfl, hlc, hlr, hll⟩ := (hr.ext ee).at_ (i := k) (by rw [Hrg.out]; exact hlt)
   obtain ⟨bv, ov, x, rfl, hx, hxc⟩ := (hv.ext ee).at1 (k := k) (by rw [Hvg.out]; exact hlt)
   have bw1 := blt c1
   have bw2 := blt c2
   have bw3 := blt hkc
   have bw4 := blt hlc
   have bw5 := blt hxc
   have kr : k < r.length := by rw [Hrg.out]; exact hlt
   have kv : k < v.length := by rw [Hvg.out]; exact hlt
   dsimp only at *
   by_cases hz : nk = 0
   ·have hg := lh (rightAt_cell hn hl hz (v := v))
    have z0 : (nk == 0) = true := by simp [hz]
    have z1 : (nk != 0) = false := by simp [hz]
    clear hn hl hx
    by_cases hleq : [] = l
    ·have d1 : decide ((0 : Int) < (l.length : Int)) = false := by rw [← hleq]; simp
     have d2 : decide (0 < l.length) = false := by rw [← hleq]; simp
     have Hleq := lh hleq
     clear hleq hz
     go_wp2_with fail
     go_quiet (fail)
     go_wp2
     go_roundw
     case rel => exact ⟨k + 1, by omega, by go_num, (he.al _).drN _, by rw [RA_succ, HR.out, hg.out]; simp [Hleq.out]⟩
     case measure => simp [intOf]; omega
    ·have d0 : 0 < l.length := List.length_pos_iff.2 (fun e => hleq e.symm)
     have d1 : decide ((0 : Int) < (l.length : Int)) = true := by simp; omega
     have d2 : decide (0 < l.length) = true := by simp; omega
     have Hleq := lh hleq
     clear hleq hz
     go_wp2_with fail
     go_quiet (fail)
     go_wp2
     go_ret
     exact ⟨ret_bool (by rw [RA_bad g v r k hlt (by rw [hg.out]; simp [Hleq.out])]), (ee.al _).drN _⟩
   ·have hg := lh (rightAt_form hn hl hx hz)
    have z0 : (nk == 0) = false := by simp [hz]
    have z1 : (nk != 0) = true := by simp [hz]
    have hok := Sg.validG_fok HG.out k hn hz
    have hin : Sg.inRange v := Sg.inR999_range HI.out
    have hrt := fun w h hv hl => i_right (some ⟨b, o, none⟩) (some ⟨bv, ov, none⟩) Al c cv cl g v l k ⟨nk, nf⟩ x w h hv hl hn hx hok hin
    dsimp only at hrt
    have HRT := lh hrt
    have e9 : Ext wr ((wr.alloc (.cells #[.int .i64 nk, .slice Ap nf.length cp] 40)).drew) := ((Ext.rfl' wr).al _).dr
    have G1 := lh (e9.cellE c1)
    have G2 := lh (e9.cellE c2)
    have G3 := lh (e9.cellE c3)
    have g4 : ((wr.alloc (.cells #[.int .i64 nk, .slice Ap nf.length cp] 40)).drew).cell? ⟨wr.heap.size, 0, none⟩ = some (.int .i64 nk) := by simp [go_sem]
    have G4 := lh g4
    have G5 := lh (e9.cellE hlc)
    have H9h := lh ((h.ext ee).ext e9)
    have H9v := lh ((hv.ext ee).ext e9)
    have H9l := lh (hlr.ext e9)
    have H9 := lh e9
    have i1 : (0 : Int) ≤ (k : Int) := by omega
    have i2 : (k : Int) < (r.length : Int) := by omega
    clear hn hl hx hok hin hrt e9 g4 hz
    cases hq : (decide ((Sg.runF nf v).1 = x) && decide ((Sg.runF nf v).2 = l))
    ·have Hq := lh hq
     clear hq
     go_wp2_with fail
     refine wp_region_held_drew (S := (fun W => W.cell? ⟨w.heap.size, 0, none⟩ = some (.slice (some ⟨b, o, none⟩) g.length c) ∧ W.cell? ⟨w.heap.size + 1, 0, none⟩ = some (.slice (some ⟨bv, ov, none⟩) v.length cv) ∧ W.cell? ⟨w.heap.size + 1, 1, none⟩ = some (.slice (some ⟨b', o', none⟩) r.length cr) ∧ W.cell? ⟨wr.heap.size, 0, none⟩ = some (.int .i64 nk) ∧ W.cell? ⟨b', o' + k, none⟩ = some (.slice Al l.length cl))) (by kernel_rfl) ?_ (fun hHeld => ?_)
     ·exact ⟨G1.out, G2.out, G3.out, G4.out, G5.out⟩
     refine ty 0 ?_
     refine ty 1 ?_
     refine ty 2 ?_
     refine ty 3 ?_
     refine tn 4 ?_
     refine tn 5 ?_
     refine tn 6 ?_
     refine tn 7 ?_
     refine tn 8 ?_
     refine tn 9 ?_
     refine tn 10 ?_
     refine ty 11 ?_
     refine ty 12 ?_
     refine ty 13 ?_
     refine ty 14 ?_
     refine ty 15 ?_
     refine ty 16 ?_
     refine ty 17 ?_
     refine ty 18 ?_
     refine ty 19 ?_
     refine ty 20 ?_
     refine ty 21 ?_
     refine ty 22 ?_
     refine ty 23 ?_
     refine ty 24 ?_
     refine ty 25 ?_
     refine rd1 26 rfl fun K hK => ?_
     go_simp
     refine (HRT.out _ (H9h.out) (H9v.out) (H9l.out)).mono ?_; rintro e w5 ⟨rfl, he5⟩; rw [Hq.out]
     try go_wp2_with fail
     refine hK.out _ _ (by exact ⟨he5.cellE G1.out, he5.cellE G2.out, he5.cellE G3.out, he5.cellE G4.out, he5.cellE G5.out⟩) fun hh2 => ?_; clear hK K hHeld; have hHeld := hh2; clear hh2
     try simp only [Act.put, pu]
     refine ty 27 ?_
     refine ty 28 ?_
     refine ty 29 ?_
     refine dn ?_
     go_wp2
     go_ret
     exact ⟨ret_bool (by rw [RA_bad g v r k hlt (by rw [hg.out, Hq.out])]), (ee.tr H9.out).tr he5⟩
    ·have Hq := lh hq
     clear hq
     go_wp2_with fail
     refine wp_region_held_drew (S := (fun W => W.cell? ⟨w.heap.size, 0, none⟩ = some (.slice (some ⟨b, o, none⟩) g.length c) ∧ W.cell? ⟨w.heap.size + 1, 0, none⟩ = some (.slice (some ⟨bv, ov, none⟩) v.length cv) ∧ W.cell? ⟨w.heap.size + 1, 1, none⟩ = some (.slice (some ⟨b', o', none⟩) r.length cr) ∧ W.cell? ⟨wr.heap.size, 0, none⟩ = some (.int .i64 nk) ∧ W.cell? ⟨b', o' + k, none⟩ = some (.slice Al l.length cl))) (by kernel_rfl) ?_ (fun hHeld => ?_)
     ·exact ⟨G1.out, G2.out, G3.out, G4.out, G5.out⟩
     refine ty 0 ?_
     refine ty 1 ?_
     refine ty 2 ?_
     refine ty 3 ?_
     refine tn 4 ?_
     refine tn 5 ?_
     refine tn 6 ?_
     refine tn 7 ?_
     refine tn 8 ?_
     refine tn 9 ?_
     refine tn 10 ?_
     refine ty 11 ?_
     refine ty 12 ?_
     refine ty 13 ?_
     refine ty 14 ?_
     refine ty 15 ?_
     refine ty 16 ?_
     refine ty 17 ?_
     refine ty 18 ?_
     refine ty 19 ?_
     refine ty 20 ?_
     refine ty 21 ?_
     refine ty 22 ?_
     refine ty 23 ?_
     refine ty 24 ?_
     refine ty 25 ?_
     refine rd1 26 rfl fun K hK => ?_
     go_simp
     refine (HRT.out _ (H9h.out) (H9v.out) (H9l.out)).mono ?_; rintro e w5 ⟨rfl, he5⟩; rw [Hq.out]
     try go_wp2_with fail
     refine hK.out _ _ (by exact ⟨he5.cellE G1.out, he5.cellE G2.out, he5.cellE G3.out, he5.cellE G4.out, he5.cellE G5.out⟩) fun hh2 => ?_; clear hK K hHeld; have hHeld := hh2; clear hh2
     try simp only [Act.put, pu]
     refine ty 27 ?_
     refine ty 28 ?_
     refine ty 29 ?_
     refine dn ?_
     go_wp2
     go_roundw
     case rel => exact ⟨k + 1, by omega, by go_num, (he.tr H9.out).tr he5, by rw [RA_succ, HR.out, hg.out, Hq.out]; rfl⟩
     case measure => simp [intOf]; omega
  ·obtain rfl : k = g.length := by omega
   have hfin : Sg.validE g ⟨v, r⟩ = true := by
    unfold Sg.validE Sg.inR999
    have := HR.out
    unfold RA at this
    simp only [this, HG.out, HI.out, Hvg.out, Hrg.out, decide_true, Bool.and_self]
   have Hfin := lh hfin
   clear hfin
   go_wp2
   go_ret
   exact ⟨ret_bool (by rw [Hfin.out]), ee⟩

theorem i_ValidEager (A Av Ar : Option Addr) (c cv cr : Nat) (g : Sg.Graph) (v : List Int) (r : List (List Int)) (w : World) (h : RdN w A g) (hv : Rd w 1 Av v.length (ints v)) (hr : RdL w Ar r) :
  Calls Tryz.prog 57 #[.agg #[.slice A g.length c], .agg #[.slice Av v.length cv, .slice Ar r.length cr]] w fun e w' => e = .returned (.bool (Sg.validE g ⟨v, r⟩)) ∧ Ext w w' := by
 cases hG : Sg.validG g
 ·exact ve_bad1 A Av Ar c cv cr g v r w h hv hr hG
 by_cases hvg : v.length = g.length
 case neg => exact ve_bad2 A Av Ar c cv cr g v r w h hv hr hG hvg
 by_cases hrg : r.length = g.length
 case neg => exact ve_bad3 A Av Ar c cv cr g v r w h hv hr hG hvg hrg
 cases hI : (v.all fun x => Sg.inR x 0 999)
 ·exact ve_bad4 A Av Ar c cv cr g v r w h hv hr hG hvg hrg hI
 ·exact ve_main A Av Ar c cv cr g v r w h hv hr hG hvg hrg hI
end Go.Proofs.YtmkfjnkdaeoppaaGreat
