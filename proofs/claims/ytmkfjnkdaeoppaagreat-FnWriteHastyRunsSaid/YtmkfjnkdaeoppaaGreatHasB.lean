/- The hasty machine's tell of the program: its contract. Conditions: a state whose nodes can be run. -/
import Derived.Test.YtmkfjnkdaeoppaaGreatHasA
import Derived.Test.YtmkfjnkdaeoppaaGreatImplB1
import Derived.Test.YtmkfjnkdaeoppaaGreatModelsA
import Derived.Laws.EntriesVeiled
namespace Go.Proofs.YtmkfjnkdaeoppaaGreat
open Go.RowKit

/-- the boxes that tell's function value has captured -/
def tsI (B L gv cv gr cr Br Bg Bo Bt gl cg : Nat) (Ag A : Option Addr) (n c : Nat) : List (Th B) :=
 [Th.box B Br [.slice A n c], Th.box B Bg [.slice Ag gl cg], Th.box B Bo [.slice (some ⟨gv, 0, none⟩) L cv, .slice (some ⟨gr, 0, none⟩) L cr], Th.box B Bt [.func (.func 98) #[] #[.pointer (some ⟨Bg, 0, none⟩), .pointer (some ⟨Bo, 0, none⟩), .pointer (some ⟨Br, 0, none⟩), .pointer (some ⟨Bt, 0, none⟩)]]]
def EH (w0 : World) (L gv cv gr cr Br Bg Bo Bt gl cg : Nat) (Ag : Option Addr) (s : Sg.HS) (F : Nat → Prop) (W : World) : Prop :=
 ∃ A c, HQ w0 L gv cv gr cr A c (tsI w0.heap.size L gv cv gr cr Br Bg Bo Bt gl cg Ag A s.ran.length c) s F W
def EG (w0 : World) (L gv cv gr cr Br Bg Bo Bt gl cg : Nat) (Ag : Option Addr) (s : Sg.HS) (F0 : Nat → Prop) (W0 W : World) : Prop :=
 ∃ F, EH w0 L gv cv gr cr Br Bg Bo Bt gl cg Ag s F W ∧ Mod F0 W0 W ∧ ∀ b, F b → F0 b ∨ W0.heap.size ≤ b
section
variable {w0 : World} {L gv cv gr cr Br Bg Bo Bt gl cg : Nat} {Ag : Option Addr} {s t : Sg.HS} {F F0 F1 : Nat → Prop} {W W' W0 W1 : World}
theorem EH.start (h : EH w0 L gv cv gr cr Br Bg Bo Bt gl cg Ag s F W) : EG w0 L gv cv gr cr Br Bg Bo Bt gl cg Ag s F W W := ⟨F, h, Mod.rfl' _ _, fun _ e => .inl e⟩
theorem EG.tr1 (m : Mod F0 W0 W) (hF : ∀ b, F b → F0 b ∨ W0.heap.size ≤ b) (k : EG w0 L gv cv gr cr Br Bg Bo Bt gl cg Ag t F W W') : EG w0 L gv cv gr cr Br Bg Bo Bt gl cg Ag t F0 W0 W' := by
 obtain ⟨F', h2, m2, hF2⟩ := k
 refine ⟨F', h2, m.tr m2 hF, fun b hb => ?_⟩
 rcases hF2 b hb with e | e
 ·exact hF b e
 ·have := m.size; exact .inr (by omega)
theorem EG.ext (h : EG w0 L gv cv gr cr Br Bg Bo Bt gl cg Ag s F0 W0 W) (e : Ext W W') : EG w0 L gv cv gr cr Br Bg Bo Bt gl cg Ag s F0 W0 W' := by
 obtain ⟨F, ⟨A, c, h⟩, m, hF⟩ := h
 exact ⟨F, ⟨A, c, h.ext e⟩, m.tr' (Mod.of e), hF⟩
theorem EG.cong (h : EG w0 L gv cv gr cr Br Bg Bo Bt gl cg Ag s F0 W0 W) (e : s = t) : EG w0 L gv cv gr cr Br Bg Bo Bt gl cg Ag t F0 W0 W := e ▸ h
/-- steps of ownership, one after the other -/
theorem stepF {P Q : (Nat → Prop) → World → Prop} (h : ∃ F', P F' W ∧ Mod F0 W0 W ∧ ∀ b, F' b → F0 b ∨ W0.heap.size ≤ b) (k : ∀ F', P F' W → ∃ F'', Q F'' W' ∧ Mod F' W W' ∧ ∀ b, F'' b → F' b ∨ W.heap.size ≤ b) :
  ∃ F', Q F' W' ∧ Mod F0 W0 W' ∧ ∀ b, F' b → F0 b ∨ W0.heap.size ≤ b := by
 obtain ⟨F1, h1, m1, hF1⟩ := h
 obtain ⟨F2, h2, m2, hF2⟩ := k F1 h1
 refine ⟨F2, h2, m1.tr m2 hF1, fun b hb => ?_⟩
 rcases hF2 b hb with e | e
 ·exact hF1 b e
 ·have := m1.size; exact .inr (by omega)
/-- after a node ran in place -/
theorem HQ.ranE {A : Option Addr} {c : Nat} {ts : List (Th w0.heap.size)} (h : HQ w0 L gv cv gr cr A c ts s F W) {n : Nat} (hn : n < L) (l : List Int) (x : Int) {A0 : Option Addr} {c0 : Nat} {W2 : World} (e1 : Ext W W1) (own : Own W1 W.heap.size 3 1 A0 l.length c0 (ints l)) (e2 : Ext ((W1.setCell ⟨gr, n, none⟩ (.slice A0 l.length c0)).setCell ⟨gv, n, none⟩ (.int .i64 x)) W2) :
  ∃ F', HQ w0 L gv cv gr cr A c ts ⟨s.vals.set n x, s.reads.set n l, s.ran⟩ F' W2 ∧ Mod F W W2 ∧ ∀ b, F' b → F b ∨ W.heap.size ≤ b := by
 have hw := h.old.size
 obtain ⟨F2, h2, m2, hF2⟩ := (h.ext e1).put hn l (own.mono hw) (fun b hb hf => by have := (own.lt hb).1; have := (h.lt hf).2; omega)
 obtain ⟨F3, h3, m3, hF3⟩ := h2.setVal n x
 refine ⟨F3, h3.ext e2, ?_, fun b hb => ?_⟩
 ·have m12 : Mod F W (W1.setCell ⟨gr, n, none⟩ (.slice A0 l.length c0)) := (Mod.of e1).tr' m2
  exact (m12.tr m3 (fun b hb => (hF2 b hb).imp id (fun e => (own.lt e).1))).tr' (Mod.of e2)
 ·have hs1 := e1.size
  have hs2 := m2.size
  rcases hF3 b hb with e | e
  ·rcases hF2 b e with e | e
   ·exact .inl e
   ·exact .inr (own.lt e).1
  ·exact .inr (by omega)
end

set_option maxRecDepth 100000 in
set_option maxHeartbeats 16000000 in
theorem c_tell (w0 : World) (L gv cv gr cr Br Bg Bo Bt cg : Nat) (Ag : Option Addr) (g : Sg.Graph) (hg : RdN w0 Ag g) (hG : Sg.validG g = true) (hLg : L = g.length) :
  ∀ (f n : Nat) (s : Sg.HS) (F : Nat → Prop) (W : World), 200 < f + s.ran.length → n < L → Sg.HIn g s → EH w0 L gv cv gr cr Br Bg Bo Bt g.length cg Ag s F W →
   Calls Tryz.prog 98 #[.int .i64 n, .pointer (some ⟨Bg, 0, none⟩), .pointer (some ⟨Bo, 0, none⟩), .pointer (some ⟨Br, 0, none⟩), .pointer (some ⟨Bt, 0, none⟩)] W fun e w' =>
    e = .returned (.tuple #[]) ∧ EG w0 L gv cv gr cr Br Bg Bo Bt g.length cg Ag (Sg.hastyS g f n s) F W w' := by
 have hg10 : g.length ≤ 10 := validG_len hG
 have hL10 : L ≤ 10 := by rw [hLg]; exact hg10
 have HG := lh hG
 have HLG := lh hLg
 have HRG := lh hg
 have hent := ent_of (P := Tryz.prog) Tryz.func98 rfl (by kernel_rfl)
 clear hG hLg hg
 intro f
 induction f with
 | zero => intro n s F W hf hn hI; have := hI.m; omega
 | succ f ih =>
  intro n s F W hf hnL hI hS
  have IH := lh ih
  have HI := lh hI
  have S0 := lh hS
  have HT := lh (fun (k : Nat) (hk : k ≤ g.length) => Sg.hastyTo_in HG.out f n s hI k hk)
  obtain ⟨A0, c0, hQ0⟩ := hS
  have g0 := (hQ0.t (i := 1) rfl).1.cell (j := 0) rfl
  have bg0 := blt g0
  clear ih hI hQ0
  go_enter Tryz.func98, Tryz.ntmps98
  go_wp2_with fail
  clear g0 bg0
  go_loopw [10] (fun i wr => ∃ k : Nat, k ≤ g.length ∧ i = .int .i64 k ∧ Hid (EG w0 L gv cv gr cr Br Bg Bo Bt g.length cg Ag (Sg.hastyTo g f n s k) F W wr)) (fun i _ => g.length - (intOf i).toNat)
  case atStart => exact ⟨0, Nat.zero_le _, by first | rfl | simp, lh S0.out.start⟩
  case round =>
   obtain ⟨k, hk, rfl, hT⟩ := hrel
   by_cases hlt : k < g.length
   ·have hkL : k < L := by have := HLG.out; omega
    obtain ⟨hTI, hTR⟩ := HT.out k hk
    have HSN := lh (Sg.hastyTo_succ g f n s k)
    have HFU := lh (fun h => Sg.hastyTo_full (g := g) (f := f) (n := n) (s := s) hk h)
    generalize htt : Sg.hastyTo g f n s k = t at *
    have HTI := lh hTI
    have htm := hTI.m
    obtain ⟨F', hS', hm', hF'⟩ := hT.out
    obtain ⟨A1, c1, hQ⟩ := hS'
    have o0 := (hQ.t (i := 2) rfl).1.cell (j := 0) rfl
    have o1 := (hQ.t (i := 2) rfl).1.cell (j := 1) rfl
    have r0 := (hQ.t (i := 0) rfl).1.cell (j := 0) rfl
    have g0 := (hQ.t (i := 1) rfl).1.cell (j := 0) rfl
    have bo0 := blt o0
    have br0 := blt r0
    have bg0 := blt g0
    obtain ⟨Al, cl, crd, rrd, frd, brd⟩ := hQ.rds hkL
    have RR := lh rrd
    have HQ1 := lh hQ
    have HM := lh (And.intro hm' hF')
    have HCN := lh (fun w h => i_Contains Al (t.reads.getD k []).length cl (t.reads.getD k []) (n : Int) w h)
    have HLL := lh (show Sg.stepH g (Sg.hastyS g f) n t k = if (n : Int) ∈ t.reads.getD k [] ∧ t.ran.length ≠ 200 then (if (Sg.runF (g.getD k default).f t.vals).1 = t.vals.getD k 0 then Sg.ranH g t k else Sg.hastyS g f k (Sg.ranH g t k)) else t from rfl)
    have hrdl : (t.reads.getD k []).length ≤ 4096 := by
     have hr := hQ.rl
     rw [List.getD_eq_getElem?_getD, List.getElem?_eq_getElem (by omega), Option.getD_some]
     exact hTI.i.le _ (List.getElem_mem _)
    clear hQ hTI hm' hF' rrd htt
    generalize hl0 : t.reads.getD k [] = l0 at *
    have HL0 := lh hl0
    clear hl0
    by_cases hin : (n : Int) ∈ l0
    ·have HIN := lh hin
     have Hd := lh (show decide ((n : Int) ∈ l0) = true from decide_eq_true hin)
     clear hin
     go_wp2_with fail
     refine (HCN.out _ RR.out).mono ?_
     rw [Hd.out]
     rintro e w2 ⟨rfl, he2⟩
     have E2 := lh he2
     have Q2 := lh (HQ1.out.ext he2)
     clear he2 o0 o1 r0 g0 bo0 br0 bg0 crd frd brd
     have o0 := (Q2.out.t (i := 2) rfl).1.cell (j := 0) rfl
     have o1 := (Q2.out.t (i := 2) rfl).1.cell (j := 1) rfl
     have r0 := (Q2.out.t (i := 0) rfl).1.cell (j := 0) rfl
     have bo0 := blt o0
     have br0 := blt r0
     have fr0 := (Q2.out.t (i := 0) rfl).1.free 0
     by_cases h2 : t.ran.length = 200
     ·have z1 : ((t.ran.length : Int) == 200) = true := by rw [beq_iff_eq]; omega
      have H2 := lh h2
      clear h2
      go_wp2
      refine bodyPost_ret (results_none rfl _ _ _) rfl ?_
      exact ⟨rfl, (hT.out.ext E2.out).cong (HFU.out H2.out).symm⟩
     ·have z1 : ((t.ran.length : Int) == 200) = false := by rw [beq_eq_false_iff_ne]; omega
      have H2 := lh h2
      have hlt2 : t.ran.length < 200 := by omega
      have hB2 := Q2.out.old.size
      have HnB := lh (Q2.out.neT (i := 0) (b := Br) rfl rfl)
      clear h2
      go_upto_region 6 with (at_builtin; refine wpList_app1 rfl rfl eiInt rfl Q2.out.o rfl rfl (one_int _ _) (by omega) (by omega) hB2 ?_; intro A2 c2 w9 hown2 hg2 hat2; have U9 := lh (And.intro hown2 (And.intro hg2 hat2)); have hbx := (Q2.out.t (i := 0) rfl).1; have b9 := Bx.keep hbx (hg2.block Br hbx.lt (fun e => HnB.out.2.2 e.symm)); have x9 := b9.cell (j := 0) rfl; have f9 := b9.free 0; have bl9 := b9.lt; clear hown2 hg2 hat2 b9 hbx)
      have hP := stepF (W0 := w2) (F0 := F') (W := w9) (P := fun F' W => HQ w0 L gv cv gr cr A2 c2 (tsI w0.heap.size L gv cv gr cr Br Bg Bo Bt g.length cg Ag A1 t.ran.length c1) ⟨t.vals, t.reads, t.ran ++ [(k : Int)]⟩ F' W) (Q2.out.addR (k : Int) U9.out.1 U9.out.2.1 U9.out.2.2) (fun F' h => h.setT (i := 0) (j := 0) rfl (.slice A2 (t.ran.length + 1) c2))
      obtain ⟨F5, hQ5, hm5, hF5⟩ := hP
      have HQ5 := lh (show HQ w0 L gv cv gr cr A2 c2 (tsI w0.heap.size L gv cv gr cr Br Bg Bo Bt g.length cg Ag A2 (t.ran.length + 1) c2) ⟨t.vals, t.reads, t.ran ++ [(k : Int)]⟩ F5 (World.setCell w9 ⟨Br, 0, none⟩ (.slice A2 (t.ran.length + 1) c2)) from hQ5)
      have HM5 := lh (And.intro ((HM.out.1.tr' (Mod.of E2.out)).tr hm5 HM.out.2) (show ∀ b, F5 b → F b ∨ W.heap.size ≤ b from fun b hb => (hF5 b hb).elim (HM.out.2 b) (fun e => .inr (by have h1 := HM.out.1.size; have h2 := E2.out.size; omega))))
      clear hQ5 hm5 hF5 U9 x9 f9 bl9 o0 o1 r0 bo0 br0 fr0
      generalize World.setCell w9 ⟨Br, 0, none⟩ (.slice A2 (t.ran.length + 1) c2) = w5 at *
      have o0 := (HQ5.out.t (i := 2) rfl).1.cell (j := 0) rfl
      have o1 := (HQ5.out.t (i := 2) rfl).1.cell (j := 1) rfl
      have g0 := (HQ5.out.t (i := 1) rfl).1.cell (j := 0) rfl
      have bo0 := blt o0
      have bg0 := blt g0
      obtain ⟨nd, hnd⟩ : ∃ nd, g[k]? = some nd := ⟨_, List.getElem?_eq_getElem hlt⟩
      have hgd : g.getD k default = nd := by simp [hnd]
      have hk0 : nd.kind ≠ 0 := fun e => by have h9 := HIN.out; rw [← HL0.out, HTI.out.c k nd hnd e] at h9; cases h9
      have HNX := lh (HTI.out.ran HG.out hlt (by rw [HL0.out]; exact HIN.out) H2.out)
      have HRH := lh (show Sg.ranH g t k = ⟨t.vals.set k (Sg.runF nd.f t.vals).1, t.reads.set k (Sg.runF nd.f t.vals).2, t.ran ++ [(k : Int)]⟩ by unfold Sg.ranH; rw [hgd])
      have hvl5 : t.vals.length = L := HQ5.out.vl
      have hrl5 : t.reads.length = L := HQ5.out.rl
      obtain ⟨hs5, hr5⟩ := HQ5.out.r
      have hRE := i_runE w0.heap.size Ag cg gv cv gr cr g t.vals t.reads hs5 k nd w5 (HRG.out.ext HQ5.out.old) (by rw [hvl5]; exact HQ5.out.v) hr5 HQ5.out.ne hnd (by omega) (by omega) (Sg.validG_fok HG.out k hnd hk0) HTI.out.n
      rw [hvl5, hrl5] at hRE
      have HST := HLL.out
      rw [if_pos ⟨HIN.out, H2.out⟩, hgd] at HST
      generalize t.vals.getD k 0 = y0 at *
      have HRE := lh hRE
      have HST := lh HST
      clear hRE hr5 hvl5 hrl5 hgd hnd hk0
      go_wp2_with fail
      refine HRE.out.mono ?_
      rintro e w6 ⟨rfl, A6, w61, he61, ho6, he62⟩
      have hP6 := HQ5.out.ranE hkL (Sg.runF nd.f t.vals).2 (Sg.runF nd.f t.vals).1 he61 ho6 he62
      obtain ⟨F6, hQ6, hm6, hF6⟩ := hP6
      have h6 : EG w0 L gv cv gr cr Br Bg Bo Bt g.length cg Ag (Sg.ranH g t k) F W w6 := by
       rw [HRH.out]
       refine EG.tr1 HM5.out.1 HM5.out.2 ⟨F6, ⟨A2, c2, ?_⟩, hm6, hF6⟩
       have hl : (t.ran ++ [(k : Int)]).length = t.ran.length + 1 := by simp
       show HQ w0 L gv cv gr cr A2 c2 (tsI w0.heap.size L gv cv gr cr Br Bg Bo Bt g.length cg Ag A2 (t.ran ++ [(k : Int)]).length c2) _ F6 w6
       rw [hl]
       exact hQ6
      have H6 := lh h6
      clear hQ6 hm6 hF6 h6 he61 ho6 he62 o0 o1 g0 bo0 bg0 HQ5 HM5
      by_cases hv : (Sg.runF nd.f t.vals).1 = y0
      ·have z2 : ((Sg.runF nd.f t.vals).1 != y0) = false := by simp [hv]
       have HV := lh hv
       clear hv
       go_wp2_with fail
       go_roundw
       case rel => exact ⟨k + 1, by omega, by go_num, lh (by rw [HSN.out, HST.out, if_pos HV.out]; exact H6.out)⟩
       case measure => simp [intOf]; omega
      ·have z2 : ((Sg.runF nd.f t.vals).1 != y0) = true := by simp [hv]
       have HV := lh hv
       clear hv
       obtain ⟨F6, hS6, hm6, hF6⟩ := H6.out
       have HS6 := lh (And.intro hS6 (And.intro hm6 hF6))
       obtain ⟨A7, c7, hQ7⟩ := hS6
       have t0 := (hQ7.t (i := 3) rfl).1.cell (j := 0) rfl
       have bt0 := blt t0
       have hrn : (Sg.ranH g t k).ran.length = t.ran.length + 1 := by rw [HRH.out]; simp
       have HRN := lh hrn
       clear hm6 hF6 hQ7 hrn
       go_wp2_with fail
       refine (IH.out k (Sg.ranH g t k) F6 w6 (by have := HRN.out; omega) hkL HNX.out HS6.out.1).mono ?_
       rintro e w7 ⟨rfl, hG7⟩
       have G7 := lh hG7
       clear hG7 t0 bt0
       go_wp2_with fail
       go_roundw
       case rel => exact ⟨k + 1, by omega, by go_num, lh (by rw [HSN.out, HST.out, if_neg HV.out]; exact EG.tr1 HS6.out.2.1 HS6.out.2.2 G7.out)⟩
       case measure => simp [intOf]; omega
    ·have HIN := lh hin
     have Hd := lh (show decide ((n : Int) ∈ l0) = false from decide_eq_false hin)
     clear hin
     go_wp2_with fail
     refine (HCN.out _ RR.out).mono ?_
     rw [Hd.out]
     rintro e w2 ⟨rfl, he2⟩
     have E2 := lh he2
     clear he2 o0 o1 r0 g0 bo0 br0 bg0 crd frd brd
     go_wp2_with fail
     go_roundw
     case rel => exact ⟨k + 1, by omega, by go_num, lh (by rw [HSN.out, HLL.out, if_neg (fun h => HIN.out h.1)]; exact hT.out.ext E2.out)⟩
     case measure => simp [intOf]; omega
   ·obtain rfl : k = g.length := by omega
    go_wp2
    go_end0
    exact ⟨rfl, hT.out.cong (Sg.hastyTo_all g f n s)⟩
end Go.Proofs.YtmkfjnkdaeoppaaGreat
