/- Sessions of the program, its small parts: copies of marks, what effects show, which effects are left: contracts. Conditions: bounds on lengths. -/
import Derived.Test.YtaklkcjlihdlkaaGreatSesM
import Derived.Test.YtaklkcjlihdlkaaGreatMeanAll
import Derived.Test.YtaklkcjlihdlkaaGreatImplU
import Derived.Test.YtaklkcjlihdlkaaGreatCellA
import Derived.Lib.SliceRun
namespace Go.Proofs.YtaklkcjlihdlkaaGreat
open Go.RowKit

theorem Sep.iff {B : Nat} {ts : List (Th B)} {W : World} : Sep ts W ↔ (∀ t ∈ ts, t.ok W) ∧ ts.Pairwise (fun t s => ∀ b, t.fp b → ¬ s.fp b) := by
 induction ts with
 | nil => simp [Sep]
 | cons t ts ih =>
  rw [List.pairwise_cons]
  constructor
  ·rintro ⟨h1, h2, h3⟩
   obtain ⟨a, b⟩ := ih.1 h3
   exact ⟨fun x hx => by rcases List.mem_cons.1 hx with rfl | hx; exact h1; exact a x hx, h2, b⟩
  ·rintro ⟨h1, h2, h3⟩
   exact ⟨h1 t (by simp), h2, ih.2 ⟨fun x hx => h1 x (by simp [hx]), h3⟩⟩
theorem Sep.perm {B : Nat} {ts us : List (Th B)} {W : World} (h : Sep ts W) (p : ts.Perm us) : Sep us W := by
 rw [Sep.iff] at h ⊢
 exact ⟨fun t ht => h.1 t (p.mem_iff.2 ht), (p.pairwise_iff (fun {x y} hxy b hy hx => hxy b hx hy)).1 h.2⟩
theorem Sep.sub {B : Nat} {ts us : List (Th B)} {W : World} (h : Sep ts W) (p : us.Sublist ts) : Sep us W := by
 rw [Sep.iff] at h ⊢
 exact ⟨fun t ht => h.1 t (p.mem ht), h.2.sublist p⟩

theorem one_boolsS (l : List Bool) : ∀ u ∈ bools l, u.oneCell' = true := by intro u hu; simp [bools] at hu; rcases hu with ⟨_, rfl⟩ | ⟨_, rfl⟩ <;> rfl
theorem i_ClipB (A : Option Addr) (n c : Nat) (w : World) (h : n ≤ c) (_hm : c ≤ maxLen) : Calls Tryz.prog 130 #[.slice A n c] w fun e w' => e = .returned (.slice A n n) ∧ w = w' := by
 unfold maxLen at _hm
 go_enter Tryz.func130, Tryz.ntmps130
 go_wp2
 go_ret
 exact ⟨rfl, rfl⟩
theorem i_ClipS (A : Option Addr) (n c : Nat) (w : World) (h : n ≤ c) (_hm : c ≤ maxLen) : Calls Tryz.prog 54 #[.slice A n c] w fun e w' => e = .returned (.slice A n n) ∧ w = w' := by
 unfold maxLen at _hm
 go_enter Tryz.func54, Tryz.ntmps54
 go_wp2
 go_ret
 exact ⟨rfl, rfl⟩
theorem i_CloneB (g : Nat) (n c : Nat) (l : List Bool) (w : World) (h : Rd w 1 (some ⟨g, 0, none⟩) n (bools l)) (hb : n ≤ 4194304) :
  Calls Tryz.prog 131 #[.slice (some ⟨g, 0, none⟩) n c] w fun e w' => ∃ A' c', e = .returned (.slice A' n c') ∧ Own w' w.heap.size 4 1 A' n c' (bools l) ∧ Ext w w' := by
 have h0 := Own.new w 4 1 #[] 0 (Nat.le_refl _) (by unfold maxLen; omega) rfl
 have e0 := (Ext.rfl' w).al (.cells #[] 4)
 have hr := h.ext e0
 have HR := lh hr
 have H0 := lh h0
 have E0 := lh e0
 have q : ∀ (w : World) (a : Option Addr) (n c n' c' : Nat), (binOp .eql 72 (.slice a n c) (.slice none n' c')).run Tryz.prog w = .ok (.bool a.isNone) w := fun w a n c n' c' => Lib.run_eql_slice_nil w _ _ a n c n' c' Tryz.underlying72
 clear h h0 e0 hr
 go_enter Tryz.func131, Tryz.ntmps131
 go_wp2_with (at_builtin; refine wpList_appR rfl rfl eiBool rfl H0.out rfl HR.out (one_boolsS _) (by unfold maxLen; omega) (by omega) E0.out.size ?_; intro A2 c2 w2 hown2 hg2 hat2)
 go_ret
 exact ⟨A2, c2, by simp, by simpa using hown2, E0.out.gr hg2 fun x hx => (H0.out.lt hx).1⟩
theorem i_cloneB (g : Nat) (n c : Nat) (l : List Bool) (w : World) (h : Rd w 1 (some ⟨g, 0, none⟩) n (bools l)) (hb : n ≤ 4194304) :
  Calls Tryz.prog 88 #[.slice (some ⟨g, 0, none⟩) n c] w fun e w' => ∃ A', e = .returned (.slice A' n n) ∧ Own w' w.heap.size 4 1 A' n n (bools l) ∧ Ext w w' := by
 have HC := lh (i_CloneB g n c l w h hb)
 clear h
 go_enter Tryz.func88, Tryz.ntmps88
 go_wp2_with fail
 refine HC.out.mono ?_
 rintro e w1 ⟨A1, c1, rfl, ho, he⟩
 have h1 := ho.2.1
 have h2 := ho.2.2.1
 have Ho := lh ho
 clear ho
 go_wp2_with fail
 refine (i_ClipB A1 n c1 w1 h1 h2).mono ?_
 rintro e w' ⟨rfl, rfl⟩
 go_wp2
 go_ret
 exact ⟨A1, rfl, Ho.out.clip, he⟩

def FInv (Bg Bs : Nat) (A As : Option Addr) (c cs : Nat) (g : Sg.Graph) (s : List Bool) (w : World) : Prop :=
 w.cell? ⟨Bg, 0, none⟩ = some (.slice A g.length c) ∧ w.cell? ⟨Bs, 0, none⟩ = some (.slice As s.length cs) ∧ RdN w A g ∧ Rd w 1 As s.length (bools s)
theorem prd_effects1 (Bg Bs : Nat) (A As : Option Addr) (c cs : Nat) (g : Sg.Graph) (s : List Bool) (hs : s.length = g.length) :
  Prd Tryz.prog 87 [.pointer (some ⟨Bg, 0, none⟩), .pointer (some ⟨Bs, 0, none⟩)] (FInv Bg Bs A As c cs g s) (fun k => decide (Sg.kindAt g k = 2) && !(s.getD k.toNat false)) (fun k => 0 ≤ k ∧ k < g.length) where
 ent := ent_of Tryz.func87 rfl (by kernel_rfl)
 call := fun w kk h hk => by
  obtain ⟨h1, h2, h3, h4⟩ := h
  obtain ⟨k, rfl⟩ := Int.eq_ofNat_of_zero_le hk.1
  have hlt : k < g.length := by omega
  have hgl := h3.1
  obtain ⟨⟨nk, nf⟩, b, o, Ap, cp, hn, rfl, hkc, hsc, hf, hfl⟩ := h3.at_ hlt
  dsimp only at *
  obtain ⟨ba, oa, x, rfl, hx, hcx⟩ := h4.atB (show k < s.length by omega)
  have HP := lh (show (decide (Sg.kindAt g (k : Int) = 2) && !(s.getD ((k : Int).toNat) false)) = (decide (nk = 2) && !x) by unfold Sg.kindAt; rw [Int.toNat_natCast]; simp [hn, hx])
  have hb1 := blt h1
  have hb2 := blt h2
  have hs1 : (k : Int) < (s.length : Int) := by omega
  clear hn hx hk h3 h4 hsc hf hfl hs
  by_cases hz : nk = 2
  ·have z1 : (nk == 2) = true := by simp [hz]
   have Hz := lh hz
   clear hz
   go_enter Tryz.func87, Tryz.ntmps87
   go_wp2
   go_ret
   exact ⟨ret_bool (by rw [HP.out, Hz.out]; simp), Ext.rfl' _⟩
  ·have z1 : (nk == 2) = false := by simp [hz]
   have Hz := lh hz
   clear hz
   go_enter Tryz.func87, Tryz.ntmps87
   go_wp2
   go_ret
   exact ⟨ret_bool (by rw [HP.out]; simp [Hz.out]), Ext.rfl' _⟩
 ext := fun _ _ h e => ⟨e.cellE h.1, e.cellE h.2.1, h.2.2.1.ext e, h.2.2.2.ext e⟩
theorem effs_which (g : Sg.Graph) (s : List Bool) : Sg.whichL (fun i => decide (Sg.kindAt g ((i : Nat) : Int) = 2) && !(s.getD ((i : Int).toNat) false)) g.length = Sg.effs g s := by
 unfold Sg.effs
 simp only [Int.toNat_natCast]
theorem i_effects (A As : Option Addr) (c cs : Nat) (g : Sg.Graph) (s : List Bool) (w : World) (h : RdN w A g) (hs : Rd w 1 As s.length (bools s)) (hl : s.length = g.length) :
  Calls Tryz.prog 48 #[.agg #[.slice A g.length c], .slice As s.length cs] w fun e w' => ∃ A1, e = .returned (.slice A1 (Sg.effs g s).length (Sg.effs g s).length) ∧ Own w' w.heap.size 3 1 A1 (Sg.effs g s).length (Sg.effs g s).length (ints (Sg.effs g s)) ∧ Ext w w' := by
 have E0 := lh ((((Ext.rfl' w).al (.cells #[.slice A g.length c] 25)).al (.cells #[.slice As s.length cs] 72)) : Ext w (World.alloc (World.alloc w (.cells #[.slice A g.length c] 25)) (.cells #[.slice As s.length cs] 72)))
 have q0 : World.cell? (World.alloc (World.alloc w (.cells #[.slice A g.length c] 25)) (.cells #[.slice As s.length cs] 72)) ⟨w.heap.size, 0, none⟩ = some (.slice A g.length c) := by simp [go_sem]
 have q1 : World.cell? (World.alloc (World.alloc w (.cells #[.slice A g.length c] 25)) (.cells #[.slice As s.length cs] 72)) ⟨w.heap.size + 1, 0, none⟩ = some (.slice As s.length cs) := by simp [go_sem]
 have hgl : g.length ≤ 1048576 := by have := h.1; omega
 have HI := lh (show FInv w.heap.size (w.heap.size + 1) A As c cs g s (World.alloc (World.alloc w (.cells #[.slice A g.length c] 25)) (.cells #[.slice As s.length cs] 72)) from ⟨q0, q1, h.ext E0.out, hs.ext E0.out⟩)
 have HLE := lh hl
 have HWW := lh (fun (w1 : World) (hi : FInv w.heap.size (w.heap.size + 1) A As c cs g s w1) => i_which (prd_effects1 w.heap.size (w.heap.size + 1) A As c cs g s HLE.out) A g.length c w1 hi (fun k hk => ⟨by omega, by omega⟩) hgl)
 clear h hs q0 q1 hl
 go_enter Tryz.func48, Tryz.ntmps48
 go_wp2_with fail
 refine (HWW.out _ HI.out).mono ?_
 rw [effs_which g s]
 rintro e w1 ⟨A1, rfl, ho, he1⟩
 go_wp2
 go_ret
 exact ⟨A1, rfl, ho.mono (by simp; omega), E0.out.tr he1⟩

set_option maxHeartbeats 1000000 in
theorem i_shows (An Av : Option Addr) (cn cv : Nat) (ns vs : List Int) (w : World) (h : Rd w 1 An ns.length (ints ns)) (hv : Rd w 1 Av vs.length (ints vs)) (hd : ∀ x ∈ ns, 0 ≤ x ∧ x < (vs.length : Int)) (hl : ns.length ≤ 1048576) :
  Calls Tryz.prog 47 #[.slice An ns.length cn, .slice Av vs.length cv] w fun e w' => ∃ A' c', e = .returned (.slice A' (Sg.showL ns vs).length c') ∧ Own w' w.heap.size 61 2 A' (Sg.showL ns vs).length c' (shs (Sg.showL ns vs)) ∧ Ext w w' := by
 have HD := lh (fun x hx => hd x hx)
 have hq : ∀ k x, ns[k]? = some x → Sg.showL (ns.take (k + 1)) vs = Sg.showL (ns.take k) vs ++ [⟨x, Sg.rd vs x⟩] := fun k x hx => by rw [take_snoc ns k hx]; simp [Sg.showL]
 have hL : ∀ k, k ≤ ns.length → (Sg.showL (ns.take k) vs).length = k := fun k hk => by rw [Sg.showL_len, List.length_take]; omega
 have hE : Sg.showL (ns.take ns.length) vs = Sg.showL ns vs := by rw [List.take_length]
 have HQ := lh hq
 have HL := lh hL
 have HE := lh hE
 have hbv := hv.big
 clear hd hq hL hE
 go_enter Tryz.func47, Tryz.ntmps47
 go_wp2
 go_loopw [5, 10] (fun v i wr => ∃ (k : Nat) (A' : Option Addr) (c' : Nat), k ≤ ns.length ∧ i = .int .i64 k ∧ v = .slice A' k c' ∧ Own wr w.heap.size 61 2 A' k c' (shs (Sg.showL (ns.take k) vs)) ∧ Ext w wr) (fun _ i _ => ns.length - (intOf i).toNat)
 case atStart => exact ⟨0, none, 0, Nat.zero_le _, rfl, rfl, Own.nil _ _ _ _, Ext.rfl' _⟩
 case round =>
  obtain ⟨k, A', c', hk, rfl, rfl, hown, hext⟩ := hrel
  by_cases hlt : k < ns.length
  ·obtain ⟨ba, oa, x, rfl, hx, hcx⟩ := (h.ext hext).at1 hlt
   have hx2 := HD.out x (List.mem_of_getElem? hx)
   obtain ⟨j, rfl⟩ := Int.eq_ofNat_of_zero_le hx2.1
   have hj : j < vs.length := by omega
   obtain ⟨bb, ob, y, rfl, hy, hcy⟩ := (hv.ext hext).at1 hj
   have H := lh (HQ.out k j hx)
   have Hy := lh (show Sg.rd vs (j : Int) = y by unfold Sg.rd; simp [hy])
   clear hx hy hx2
   go_wp2_with (at_builtin; refine wpList_app1 rfl rfl eiShow rfl hown rfl rfl (one_shc ⟨j, y⟩) (by omega) (by omega) hext.size ?_; intro A2 c2 w2 hown2 hg2 hat2)
   go_roundw
   case rel => exact ⟨k + 1, A2, c2, by omega, by go_num, by simp, by rw [H.out, Hy.out, ← shs_snoc]; exact hown2, hext.gr hg2 fun g hg => (hown.lt hg).1⟩
   case measure => simp [intOf]; omega
  ·obtain rfl : k = ns.length := by omega
   have e1 := HL.out ns.length (Nat.le_refl _)
   rw [HE.out] at hown e1
   have Ho := lh hown
   have E1 := lh e1
   clear hown e1
   go_wp2
   go_ret
   exact ⟨A', c', by rw [E1.out]; rfl, by rw [E1.out]; exact Ho.out, hext⟩
theorem i_showsN (An Av : Option Addr) (cn cv nn nv : Nat) (ns vs : List Int) (w : World) (hn : ns.length = nn) (hnv : vs.length = nv) (h : Rd w 1 An nn (ints ns)) (hv : Rd w 1 Av nv (ints vs)) (hd : ∀ x ∈ ns, 0 ≤ x ∧ x < (nv : Int)) (hl : nn ≤ 1048576) :
  Calls Tryz.prog 47 #[.slice An nn cn, .slice Av nv cv] w fun e w' => ∃ A' c', e = .returned (.slice A' (Sg.showL ns vs).length c') ∧ Own w' w.heap.size 61 2 A' (Sg.showL ns vs).length c' (shs (Sg.showL ns vs)) ∧ Ext w w' := by
 subst hn hnv
 exact i_shows An Av cn cv ns vs w h hv hd hl
theorem i_MeaningN (A Aa : Option Addr) (c ca : Nat) (g : Sg.Graph) (a : List Int) (w : World) (h : RdN w A g) (ha : Rd w 1 Aa a.length (ints a)) (hG : Sg.validG g = true) (hC : Sg.validC g a = true) :
  Calls Tryz.prog 38 #[.agg #[.slice A g.length c], .slice Aa a.length ca] w fun e w' => ∃ A2, e = .returned (.slice A2 g.length g.length) ∧ Own w' w.heap.size 3 1 A2 g.length g.length (ints (Sg.mean g a)) ∧ Ext w w' := by
 have := i_MeaningOf A Aa c ca g a w h ha hG hC
 rw [show (Sg.mean g a).length = g.length by simp [Sg.mean]] at this
 exact this
end Go.Proofs.YtaklkcjlihdlkaaGreat
