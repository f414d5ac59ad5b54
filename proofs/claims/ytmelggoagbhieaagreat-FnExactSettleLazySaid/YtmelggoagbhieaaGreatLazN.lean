/- The reference's update: its contract. Conditions: a valid state. -/
import Derived.Test.YtmelggoagbhieaaGreatLazM
import Derived.Test.YtmelggoagbhieaaGreatLazTwo
import Derived.Deep.CutBlock
namespace Go.Proofs.YtmelggoagbhieaaGreat
open Go.RowKit

/-- what stands ahead of the list of what ran -/
def preS (bn on gl cg L gv cv gr cr gq cq : Nat) : List Value := [.slice (some ⟨bn, on, none⟩) gl cg, .slice (some ⟨gv, 0, none⟩) L cv, .slice (some ⟨gr, 0, none⟩) L cr, .slice (some ⟨gq, 0, none⟩) L cq]
theorem LS.preC {w0 : World} {L gv cv gr cr gq cq Bl : Nat} {pre : List Value} {s : Sg.LR} {F : Nat → Prop} {W : World} (h : LS w0 L gv cv gr cr gq cq Bl pre s F W) {j : Nat} {u : Value} (hj : pre[j]? = some u) : W.cell? ⟨Bl, j, none⟩ = some u ∧ Bl < W.heap.size := by
  obtain ⟨A, c, hB, _⟩ := h.box
  refine ⟨hB.cell ?_, hB.lt⟩
  rw [List.getElem?_append_left (List.getElem?_eq_some_iff.1 hj).1]
  exact hj

set_option maxRecDepth 100000 in
set_option maxHeartbeats 16000000 in
theorem c_update (w0 : World) (L gv cv gr cr gq cq Bl cg bn on : Nat) (g : Sg.Graph) (hg : RdN w0 (some ⟨bn, on, none⟩) g) (hG : Sg.validG g = true) (hLg : L = g.length) :
    ∀ (f n : Nat) (s : Sg.LR) (F : Nat → Prop) (W : World), n < f → n < L → Sg.validL g s.st = true → s.ran.length + 10 * f ≤ 1000000 → LS w0 L gv cv gr cr gq cq Bl (preS bn on L cg L gv cv gr cr gq cq) s F W →
      Calls Tryz.prog 106 #[.pointer (some ⟨Bl, 0, none⟩), .int .i64 n] W fun e w' =>
        e = .returned (.tuple #[]) ∧ LG w0 L gv cv gr cr gq cq Bl (preS bn on L cg L gv cv gr cr gq cq) (Sg.cleanS g f n s) F W w' := by
  have hL10 : L ≤ 10 := by rw [hLg]; exact Sg.validG_len10 hG
  have HG := Lib.hid hG
  have HLG := Lib.hid hLg
  have HRG := Lib.hid hg
  have hgl10 : g.length ≤ 10 := Sg.validG_len10 hG
  clear hG hLg hg
  intro f
  induction f with
  | zero => intro n s F W hn; omega
  | succ f ih =>
    intro n s F W hn hnL hV hR hS
    have HV := Lib.hid hV
    have hc : Sg.Cleans g (Sg.cleanS g f) n := fun k t hk hkg ht => Sg.cleanS_cleaned HG.out f k t (by omega) hkg ht
    have HC := Lib.hid hc
    have hI : InnerS w0 L gv cv gr cr gq cq Bl (preS bn on L cg L gv cv gr cr gq cq) (Sg.cleanS g f) (Sg.Cleaned g (fun _ => True) s) n := by
      intro k t F' W' h0 h1 h2 h4
      have hr := h2.ran_len
      have := ih k.toNat t F' W' (by omega) (by omega) h2.ok (by omega) h4
      rwa [Int.toNat_of_nonneg h0] at this
    have HI := Lib.hid hI
    have hIc : ∀ (k : Int) (t : Sg.LR), 0 ≤ k → k < (n : Int) → Sg.Cleaned g (fun _ => True) s t → Sg.Cleaned g (fun _ => True) s (Sg.cleanS g f k t) := by
      intro k t h0 h1 h2
      have hlg := HLG.out
      have hcl := HC.out k.toNat t (by omega) (by omega) h2.ok
      rw [Int.toNat_of_nonneg h0] at hcl
      exact Sg.Cleaned.trans HV.out h2 (hcl.1.mono fun _ _ => trivial)
    have HIC := Lib.hid hIc
    have hng : n < g.length := by have := HLG.out; omega
    obtain ⟨nd, hnd⟩ : ∃ nd, g[n]? = some nd := ⟨_, List.getElem?_eq_getElem hng⟩
    have HND := Lib.hid hnd
    have S1 := Lib.hid hS
    have hold := hS.old.size
    clear ih hI hIc hc hV hS hnd
    obtain ⟨p2, bp2⟩ := S1.out.preC (j := 3) rfl
    obtain ⟨cq0, fq0, bq0⟩ := S1.out.col hnL
    go_enter Tryz.func106, Tryz.ntmps106
    go_upto_if 16 with fail
    go_cut [] (fun wx => Hid (LG w0 L gv cv gr cr gq cq Bl (preS bn on L cg L gv cv gr cr gq cq) (Sg.checkS (Sg.cleanS g f) n s) F W wx))
    case first =>
      by_cases h1 : Sg.colOf s n = 1
      · have y1 : (Sg.colOf s n == 1) = true := by simp [h1]
        have H1 := Lib.hid h1
        obtain ⟨p1, bp1⟩ := S1.out.preC (j := 2) rfl
        obtain ⟨Al, cl, cr0, rr0, fr0, br0⟩ := S1.out.rds hnL
        have hlen : (Sg.rdsOf s n).length ≤ 10 := by
          have hx : Sg.rdsOf s n ∈ s.st.reads := by
            have hl := S1.out.rl
            unfold Sg.rdsOf
            rw [List.getD_eq_getElem?_getD, List.getElem?_eq_getElem (by omega), Option.getD_some]
            exact List.getElem_mem _
          exact reads_small HV.out _ hx
        have HAH := Lib.hid (fun x (hx : x ∈ Sg.rdsOf s n) => Sg.ahead_of HV.out n x hx)
        have HCK := Lib.hid (show Sg.checkS (Sg.cleanS g f) n s = if Sg.colOf (Sg.loopS (Sg.cleanS g f) n (Sg.rdsOf s n) s) n = 1 then Sg.setCol (Sg.loopS (Sg.cleanS g f) n (Sg.rdsOf s n) s) n 0 else Sg.loopS (Sg.cleanS g f) n (Sg.rdsOf s n) s by unfold Sg.checkS; rw [if_pos H1.out])
        generalize hrd : Sg.rdsOf s n = l at *
        have RR := Lib.hid rr0
        clear h1 hrd rr0
        go_wp2_with fail
        refine (s_copyInts Al l.length cl l _ RR.out (by omega)).mono ?_
        rintro e w2 ⟨A3, c3, rfl, ho3, he3⟩
        have O3 := Lib.hid ho3
        have E3 := Lib.hid he3
        have S2 := Lib.hid (S1.out.ext he3)
        have OF := Lib.hid (show off F A3 from fun b hb hf => by have := (O3.out.lt hb).1; have := (S1.out.lt hf).2; omega)
        clear ho3 he3 p1 bp1 p2 bp2 cr0 fr0 br0 cq0 fq0 bq0
        go_upto_block 0 with fail
        go_cut [] (fun wx => Hid (LG w0 L gv cv gr cr gq cq Bl (preS bn on L cg L gv cv gr cr gq cq) (Sg.loopS (Sg.cleanS g f) n l s) F w2 wx))
        case first =>
          have HLP := Lib.hid (fun (k : Nat) => (Sg.loopS_cleaned (g := g) (c := Sg.cleanS g f) (n := n) (by have := HLG.out; omega) HC.out (l.take k) (fun x hx => HAH.out x (List.mem_of_mem_take hx)) s HV.out (fun _ => True) (fun _ _ _ _ => trivial)).1)
          have HTK := Lib.hid (fun (k : Nat) (x : Int) (h : l[k]? = some x) => show l.take (k + 1) = l.take k ++ [x] by obtain ⟨hk, he⟩ := List.getElem?_eq_some_iff.1 h; rw [List.take_succ_eq_append_getElem hk, he])
          have HEN := Lib.hid (List.take_length (l := l))
          have HRR := Lib.hid (fun (k : Nat) => Sg.loopS_rest (Sg.cleanS g f) n l k s)
          go_wp2_with fail
          go_loopw [5] (fun i wr => ∃ k : Nat, k ≤ l.length ∧ i = .int .i64 k ∧ Hid (LG w0 L gv cv gr cr gq cq Bl (preS bn on L cg L gv cv gr cr gq cq) (Sg.loopS (Sg.cleanS g f) n (l.take k) s) F w2 wr)) (fun i _ => l.length - (intOf i).toNat)
          case atStart => exact ⟨0, Nat.zero_le _, rfl, Lib.hid (by rw [List.take_zero]; exact S2.out.start)⟩
          case round =>
            obtain ⟨k, hk, rfl, hT⟩ := hrel
            by_cases hlt : k < l.length
            · obtain ⟨b, o, x, hA3, hx, hcx⟩ := (O3.out.mod hT.out.m OF.out).rd.at1 hlt
              subst hA3
              have hxr := HAH.out x (List.mem_of_getElem? hx)
              have HT := Lib.hid (HTK.out k x hx)
              have hCL := HLP.out k
              have HVT := Lib.hid hCL
              obtain ⟨m, rfl⟩ := Int.eq_ofNat_of_zero_le hxr.1
              have hmn : m < n := by omega
              have HST := Lib.hid (Sg.loopS_snoc (Sg.cleanS g f) n (l.take k) (m : Int) s)
              have HRK := Lib.hid (HRR.out k)
              have bcx := blt hcx
              generalize htt : Sg.loopS (Sg.cleanS g f) n (l.take k) s = t at *
              obtain ⟨F', hS', hm', hF'⟩ := hT.out
              obtain ⟨p3, bp3⟩ := hS'.preC (j := 3) rfl
              obtain ⟨cq1, fq1, bq1⟩ := hS'.col hnL
              have HS' := Lib.hid (And.intro hS' (And.intro hm' hF'))
              clear hx hxr hCL htt hS' hm' hF'
              by_cases h2 : Sg.colOf t n = 1
              · have y2 : (Sg.colOf t n == 1) = true := by simp [h2]
                have H2 := Lib.hid h2
                clear h2
                go_wp2_with fail
                refine (HI.out (m : Int) t F' wr (by omega) (by omega) HVT.out HS'.out.1).mono ?_
                rintro e w4 ⟨rfl, hG4⟩
                have G4 := Lib.hid hG4
                clear hG4
                go_wp2
                go_roundw
                case rel => exact ⟨k + 1, by omega, by go_num, Lib.hid (by
                  rw [HT.out, HST.out, if_pos H2.out]
                  exact LG.tr1 HS'.out.2.1 HS'.out.2.2 G4.out)⟩
                case measure => simp [intOf]; omega
              · have y2 : (Sg.colOf t n == 1) = false := by simp [h2]
                have H2 := Lib.hid h2
                clear h2
                go_wp2_with fail
                go_meet
                exact Lib.hid (by rw [HRK.out H2.out]; exact hT.out)
            · obtain rfl : k = l.length := by omega
              go_wp2_with fail
              go_meet
              exact Lib.hid (by have := hT.out; rw [HEN.out] at this; exact this)
        case rest =>
          have T2 := Lib.hid (hcut.out.pr E3.out)
          clear S2 OF O3
          generalize Sg.loopS (Sg.cleanS g f) n l s = t at *
          obtain ⟨F', hS', hm', hF'⟩ := T2.out
          obtain ⟨p3, bp3⟩ := hS'.preC (j := 3) rfl
          obtain ⟨cq1, fq1, bq1⟩ := hS'.col hnL
          have HS' := Lib.hid (And.intro hS' (And.intro hm' hF'))
          clear hS' hm' hF' hcut
          by_cases h2 : Sg.colOf t n = 1
          · have y2 : (Sg.colOf t n == 1) = true := by simp [h2]
            have H2 := Lib.hid h2
            clear h2
            go_wp2_with fail
            go_meet
            exact Lib.hid (by rw [HCK.out, if_pos H2.out]; exact LG.tr1 HS'.out.2.1 HS'.out.2.2 (HS'.out.1.setCol n 0))
          · have y2 : (Sg.colOf t n == 1) = false := by simp [h2]
            have H2 := Lib.hid h2
            clear h2
            go_wp2_with fail
            go_meet
            exact Lib.hid (by rw [HCK.out, if_neg H2.out]; exact T2.out)
      · have y1 : (Sg.colOf s n == 1) = false := by simp [h1]
        have H1 := Lib.hid h1
        clear h1
        go_wp2_with fail
        go_meet
        exact Lib.hid (by unfold Sg.checkS; rw [if_neg H1.out]; exact S1.out.start)
    case rest =>
      obtain ⟨hCt, hCc⟩ := Sg.checkS_cleaned HND.out HC.out s HV.out
      have HFIN := Lib.hid (show Sg.cleanS g (f + 1) (n : Int) s = if Sg.colOf (Sg.checkS (Sg.cleanS g f) n s) n = 2 then Sg.finishL (Sg.runC g (Sg.cleanS g f) n (Sg.checkS (Sg.cleanS g f) n s)).2.2 n (Sg.runC g (Sg.cleanS g f) n (Sg.checkS (Sg.cleanS g f) n s)).1 (Sg.runC g (Sg.cleanS g f) n (Sg.checkS (Sg.cleanS g f) n s)).2.1 else Sg.checkS (Sg.cleanS g f) n s by simp only [Sg.cleanS, Int.toNat_natCast])
      have T1 := Lib.hid hcut.out
      clear hcut p2 bp2 cq0 fq0 bq0
      generalize Sg.checkS (Sg.cleanS g f) n s = t at *
      have HCT := Lib.hid hCt
      obtain ⟨F', hS', hm', hF'⟩ := T1.out
      obtain ⟨p2, bp2⟩ := hS'.preC (j := 3) rfl
      obtain ⟨p0, bp0⟩ := hS'.preC (j := 0) rfl
      obtain ⟨cq1, fq1, bq1⟩ := hS'.col hnL
      have HS' := Lib.hid (And.intro hS' (And.intro hm' hF'))
      clear hCt hS' hm' hF'
      rcases hCc with h2 | h2
      · have y2 : (Sg.colOf t n == 2) = false := by simp [h2]
        have H2 := Lib.hid h2
        clear h2
        go_wp2
        go_end0
        exact ⟨rfl, T1.out.cong (by rw [HFIN.out, if_neg (by rw [H2.out]; decide)])⟩
      · have y2 : (Sg.colOf t n == 2) = true := by simp [h2]
        have H2 := Lib.hid h2
        have HVT := Lib.hid HCT.out.ok
        have hk0 : nd.kind ≠ 0 := fun e => by have := (((Sg.validL_iff.1 HVT.out).2 n nd HND.out).cell e).1; unfold Sg.colOf at h2; omega
        have hFOD := Sg.node_fod HG.out HND.out hk0
        obtain ⟨nd', b, o, Ap, cp, hn', hAe, hkc, hsl, hf, hfl⟩ := HRG.out.at_ hng
        rw [HND.out] at hn'
        injection hn' with hn'
        subst hn'
        obtain ⟨rfl, rfl⟩ : b = bn ∧ o = on := by simp only [Option.some.injEq, Addr.mk.injEq, and_true] at hAe; exact ⟨hAe.1.symm, hAe.2.symm⟩
        have hsl1 := HS'.out.1.old.cellE hsl
        have bsl1 := blt hsl1
        have hfl12 := hFOD.len
        have hfl1 := hFOD.one
        have hfin : g.length ≤ 10 := hgl10
        have HR := s_look w0 L gv cv gr cr gq cq Bl cg b o n Ap cp L nd.f (Sg.cleanS g f) (Sg.Cleaned g (fun _ => True) s) hFOD hnL hnL (by omega) hsl hf HI.out HIC.out (fun t k h => Sg.val999 h.ok k) nd.f.length (nd.f.length - 1) t F' wc (by omega) (by omega) (by omega) (HCT.out.mono (fun _ _ => trivial)) HS'.out.1
        have hrc := Sg.runC_look g (Sg.cleanS g f) n t
        rw [Sg.getD_of HND.out] at hrc
        have hcast : ((nd.f.length : Int) - 1) = ((nd.f.length - 1 : Nat) : Int) := by omega
        rw [hcast] at hrc
        have HRC := Sg.runC_cleaned HG.out HND.out hk0 HC.out t HVT.out
        have HFI := HFIN.out
        rw [if_pos h2] at HFI
        rw [hrc] at HFI HRC
        have hll := Sg.lookS_len nd.f (Sg.cleanS g f) nd.f.length ((nd.f.length - 1 : Nat) : Int) t
        have hpow : 2 ^ nd.f.length ≤ 2 ^ 12 := Nat.pow_le_pow_right (by omega) hfl12
        have hidx : IntKind.i64.wrap ((nd.f.length : Int) - 1) = ((nd.f.length - 1 : Nat) : Int) := by rw [IntWalk.i64_in _ (by omega)]; exact hcast
        generalize Sg.lookS nd.f (Sg.cleanS g f) nd.f.length ((nd.f.length - 1 : Nat) : Int) t = R at *
        obtain ⟨X, l, u⟩ := R
        dsimp only at HR HRC HFI hll
        have HFI := Lib.hid HFI
        have HR := Lib.hid HR
        have hmay := Sg.run_may HG.out HND.out hk0 u.st.vals
        rw [← HRC.2.2.1] at hmay
        have HLR := Lib.hid (show ∀ x ∈ Sg.firstOnly l, 0 ≤ x ∧ x < (n : Int) from fun x hx => Sg.may_lt HG.out HND.out hk0 (hmay.1 x hx))
        have hll2 : (Sg.firstOnly l).length ≤ 10 := nodup_len 10 (Sg.firstOnly l) hmay.2 (fun x hx => by have := HLR.out x hx; omega)
        have HUO := Lib.hid HRC.1.ok
        have hl4096 : l.length ≤ 4096 := by omega
        clear hFOD hrc HRC hmay hkc hf h2 hpow hll hcast hsl
        go_wp2_with fail
        refine HR.out.mono ?_
        rintro e w5 ⟨A', c', F2, rfl, ho5, hS5, hm5, hF5, hof, hX, hCI⟩
        dsimp only at ho5 hS5 hCI hX
        have O5 := Lib.hid ho5
        have S5 := Lib.hid hS5
        have M5 := Lib.hid (HS'.out.2.1.tr hm5 HS'.out.2.2)
        have hsz5 := hm5.size
        have hszc := HS'.out.2.1.size
        have F5 := Lib.hid (show ∀ x, F2 x → F x ∨ W.heap.size ≤ x from fun x hx => (hF5 x hx).elim (HS'.out.2.2 x) (fun e => .inr (by omega)))
        have OF5 := Lib.hid hof
        have hran := hCI.ran_len
        obtain ⟨p1, p2', p3, p4, p5, p6⟩ := hS5.ne_vr
        obtain ⟨Ab, cb, hBx, hOb, hnb, hFbb⟩ := hS5.box
        have x4 := hBx.cell (j := 4) rfl
        have bx4 := hBx.lt
        have BX5 := Lib.hid hBx
        have OB5 := Lib.hid hOb
        have hB0 := hS5.old.size
        have hrun : u.ran.length ≤ 1000000 := by omega
        clear ho5 hS5 hm5 hF5 hof hCI HR hsl1 bsl1 p0 bp0 p2 bp2 cq1 fq1 bq1 hBx hOb hX
        go_upto_region 11 with (at_builtin; refine wpList_app1 rfl rfl eiInt rfl OB5.out rfl rfl (one_int _ _) (by omega) (by omega) hB0 ?_; intro A2 c2 w9 hown2 hg2 hat2; have U9 := Lib.hid (And.intro hown2 (And.intro hg2 hat2)); have hx9 := (hg2.block Bl bx4 (fun e => hnb e.symm)); have b9 := BX5.out.keep hx9; have x9 := b9.cell (j := 4) rfl; have f9 := b9.free 4; have bl9 := b9.lt; clear hown2 hg2 hat2 hx9 b9)
        have hG6 : LG w0 L gv cv gr cr gq cq Bl (preS b o L cg L gv cv gr cr gq cq) ⟨u.st, u.ran ++ [(n : Int)]⟩ F2 w5 (World.setCell w9 ⟨Bl, 4, none⟩ (.slice A2 (u.ran.length + 1) c2)) := S5.out.addR n BX5.out U9.out.1 U9.out.2.1 U9.out.2.2
        have hA5 : ∀ b, blk Ab = some b → F2 b := hFbb
        have m6 : Mod F2 w5 (World.setCell w9 ⟨Bl, 4, none⟩ (.slice A2 (u.ran.length + 1) c2)) := hG6.m
        have O7 := Lib.hid (O5.out.mod m6 OF5.out)
        have G6 := Lib.hid (LG.tr1 M5.out F5.out hG6)
        clear hG6 m6 hA5 x4 bx4 x9 f9 bl9 U9 hnb hFbb BX5 OB5 O5 OF5 M5 F5 S5
        generalize World.setCell w9 ⟨Bl, 4, none⟩ (.slice A2 (u.ran.length + 1) c2) = w6 at *
        obtain ⟨F6, hS6, hm6, hF6⟩ := G6.out
        obtain ⟨k2, bk2⟩ := hS6.preC (j := 2) rfl
        obtain ⟨Al, cl, cr6, _, fr6, br6⟩ := hS6.rds hnL
        have HS6 := Lib.hid (And.intro hS6 (And.intro hm6 hF6))
        clear hS6 hm6 hF6 w9
        refine wp_region_held_drew (S := (fun W => W.cell? ⟨Bl, 2, none⟩ = some (.slice (some ⟨gr, 0, none⟩) L cr))) (by kernel_rfl) ?_ (fun hHeld => ?_)
        · exact ((Ext.rfl' _).dr).cellE k2
        refine wpAnyH_take (i := 0) (v := ?_) (by simp only [List.getElem?_toArray, List.getElem?_cons_zero]; rfl) (by kernel_rfl) (by kernel_rfl) (by kernel_rfl) (by exact fun _ _ _ h => h) (Or.inl ⟨by kernel_rfl, ?_⟩) (by assumption) ?_
        rotate_left
        · intro w hSw; (try dsimp only at hSw); go_simp; try with_reducible rfl
        try simp only [Act.put, List.setIfInBounds_toArray, List.set_cons_zero, List.set_cons_succ]
        refine wpAnyH_take (i := 1) (v := ?_) (by simp only [List.getElem?_toArray, List.getElem?_cons_succ, List.getElem?_cons_zero]; rfl) (by kernel_rfl) (by kernel_rfl) (by kernel_rfl) (by exact fun _ _ _ h => h) (Or.inl ⟨by kernel_rfl, ?_⟩) (by assumption) ?_
        rotate_left
        · intro w hSw; (try dsimp only at hSw); go_simp; try with_reducible rfl
        try simp only [Act.put, List.setIfInBounds_toArray, List.set_cons_zero, List.set_cons_succ]
        refine wpAnyH_take (i := 2) (v := ?_) (by simp only [List.getElem?_toArray, List.getElem?_cons_succ, List.getElem?_cons_zero]; rfl) (by kernel_rfl) (by kernel_rfl) (by kernel_rfl) (by exact fun _ _ _ h => h) (Or.inl ⟨by kernel_rfl, ?_⟩) (by assumption) ?_
        rotate_left
        · intro w hSw; (try dsimp only at hSw); go_simp; try with_reducible rfl
        try simp only [Act.put, List.setIfInBounds_toArray, List.set_cons_zero, List.set_cons_succ]
        refine wpAnyH_take (i := 3) (v := ?_) (by simp only [List.getElem?_toArray, List.getElem?_cons_succ, List.getElem?_cons_zero]; rfl) (by kernel_rfl) (by kernel_rfl) (by kernel_rfl) (by exact fun _ _ _ h => h) (Or.inl ⟨by kernel_rfl, ?_⟩) (by assumption) ?_
        rotate_left
        · intro w hSw; (try dsimp only at hSw); go_simp; try with_reducible rfl
        try simp only [Act.put, List.setIfInBounds_toArray, List.set_cons_zero, List.set_cons_succ]
        refine wpAnyH_take (i := 4) (v := ?_) (by simp only [List.getElem?_toArray, List.getElem?_cons_succ, List.getElem?_cons_zero]; rfl) (by kernel_rfl) (by kernel_rfl) (by kernel_rfl) (by exact fun _ _ _ h => h) (Or.inl ⟨by kernel_rfl, ?_⟩) (by assumption) ?_
        rotate_left
        · intro w hSw; (try dsimp only at hSw); go_simp; try with_reducible rfl
        try simp only [Act.put, List.setIfInBounds_toArray, List.set_cons_zero, List.set_cons_succ]
        refine wpAnyH_take (i := 5) (v := ?_) (by simp only [List.getElem?_toArray, List.getElem?_cons_succ, List.getElem?_cons_zero]; rfl) (by kernel_rfl) (by kernel_rfl) (by kernel_rfl) (by exact fun _ _ _ h => h) (Or.inl ⟨by kernel_rfl, ?_⟩) (by assumption) ?_
        rotate_left
        · intro w hSw; (try dsimp only at hSw); go_simp; try with_reducible rfl
        try simp only [Act.put, List.setIfInBounds_toArray, List.set_cons_zero, List.set_cons_succ]
        refine wpAnyH_take (i := 6) (v := ?_) (by simp only [List.getElem?_toArray, List.getElem?_cons_succ, List.getElem?_cons_zero]; rfl) (by kernel_rfl) (by kernel_rfl) (by kernel_rfl) (by exact fun _ _ _ h => h) (Or.inl ⟨by kernel_rfl, ?_⟩) (by assumption) ?_
        rotate_left
        · intro w hSw; (try dsimp only at hSw); go_simp; try with_reducible rfl
        try simp only [Act.put, List.setIfInBounds_toArray, List.set_cons_zero, List.set_cons_succ]
        refine wpAnyH_ready (rs := [7]) (by kernel_rfl) (by simp) ?_
        refine AllReadyH.cons rfl (fun K hK => ?_) AllReadyH.nil
        go_simp
        refine (s_firstOnly A' l.length c' l _ (O7.out.rd.ext ((Ext.rfl' _).dr)) (by omega)).mono ?_
        rintro e w7 ⟨A7, c7, rfl, ho7, he7⟩
        have E7 := Lib.hid ((Ext.rfl' w6).dr.tr he7)
        have P7 := Lib.hid (ho7.mono (B' := w6.heap.size) (by simp))
        have k7 := E7.out.cellE k2
        have cr7 := E7.out.cellE cr6
        have fr7 : w7.frozen? ⟨gr, n, none⟩ = false := (E7.out.frozen (p := ⟨gr, n, none⟩) br6).trans fr6
        have br7 := blt cr7
        have bk7 := blt k7
        clear ho7 he7 cr6 fr6 br6
        try go_wp2_with fail
        refine hK.out _ _ ?_ (fun hHeld2 => ?_)
        · exact k7
        clear hK K hHeld
        have hHeld := hHeld2
        clear hHeld2
        try simp only [Act.put, List.setIfInBounds_toArray, List.set_cons_zero, List.set_cons_succ]
        refine wpAnyH_take (i := 8) (v := ?_) (by simp only [List.getElem?_toArray, List.getElem?_cons_succ, List.getElem?_cons_zero]; rfl) (by kernel_rfl) (by kernel_rfl) (by kernel_rfl) (by exact fun _ _ _ h => h) (Or.inl ⟨by kernel_rfl, ?_⟩) (by assumption) ?_
        rotate_left
        · intro w hSw; (try dsimp only at hSw); go_simp; try with_reducible rfl
        try simp only [Act.put, List.setIfInBounds_toArray, List.set_cons_zero, List.set_cons_succ]
        refine wpAnyH_ready (rs := [9]) (by kernel_rfl) (by simp) ?_
        refine AllReadyH.cons rfl (fun K hK => ?_) AllReadyH.nil
        go_simp
        refine hK.out _ _ ?_ (fun hHeld2 => ?_)
        · exact (World.cell?_setCell_other _ _ _ _ (by intro e; injection e; omega)).trans k7
        clear hK K hHeld
        have hHeld := hHeld2
        clear hHeld2
        try simp only [Act.put]
        refine wpAnyH_done (by kernel_rfl) ?_ _
        
        obtain ⟨F7, hS7, hm7, hF7⟩ := (HS6.out.1.ext E7.out).put hnL (Sg.firstOnly l) (P7.out.mono HS6.out.1.old.size) (fun x hx hf => by have := (P7.out.lt hx).1; have := (HS6.out.1.lt hf).2; omega)
        have G7 := Lib.hid (show LG w0 L gv cv gr cr gq cq Bl (preS b o L cg L gv cv gr cr gq cq) ⟨⟨u.st.vals, u.st.reads.set n (Sg.firstOnly l), u.st.cols⟩, u.ran ++ [(n : Int)]⟩ F W _ from
          LG.tr1 HS6.out.2.1 HS6.out.2.2 ⟨F7, hS7, ((Mod.of E7.out).tr' (hm7.mono (F' := F6) (fun x _ e => by rw [e]; exact HS6.out.1.Fr))), fun x hx => (hF7 x hx).elim (fun e => .inl e) (fun e => .inr (P7.out.lt e).1)⟩)
        clear hS7 hm7 hF7 k2 bk2 k7 bk7 cr7 fr7 br7 P7 E7 HS6 G6 O7 hHeld
        generalize World.setCell w7 ⟨gr, n, none⟩ (.slice A7 (Sg.firstOnly l).length c7) = w8 at *
        obtain ⟨F8, hS8, hm8, hF8⟩ := G7.out
        obtain ⟨k3, bk3⟩ := hS8.preC (j := 3) rfl
        obtain ⟨cq8, fq8, bq8⟩ := hS8.col hnL
        have hG9 := LG.tr1 hm8 hF8 (hS8.setCol n 0)
        dsimp only at hG9
        have G9 := Lib.hid hG9
        clear hS8 hm8 hF8 hG9
        go_upto_region 13 with fail
        clear k3 bk3 cq8 fq8 bq8
        generalize World.setCell w8 ⟨gq, n, none⟩ (.int .i64 0) = w10 at *
        obtain ⟨F9, hS9, hm9, hF9⟩ := G9.out
        obtain ⟨k1, bk1⟩ := hS9.preC (j := 1) rfl
        obtain ⟨cv9, fv9, bv9⟩ := hS9.val hnL
        have hvv : Sg.valOf ⟨⟨u.st.vals, u.st.reads.set n (Sg.firstOnly l), u.st.cols.set n 0⟩, u.ran ++ [(n : Int)]⟩ n = Sg.valOf u n := rfl
        rw [hvv] at cv9
        have HS9 := Lib.hid (And.intro hS9 (And.intro hm9 hF9))
        clear hS9 hm9 hF9 hvv
        go_upto_if 127 with fail
        by_cases hxv : X = Sg.valOf u n
        · have y3 : (X != Sg.valOf u n) = false := by simp [hxv]
          have HXV := Lib.hid hxv
          clear hxv
          go_wp2
          go_end0
          exact ⟨rfl, by rw [HFI.out]; unfold Sg.finishL; rw [if_pos HXV.out]; exact G9.out⟩
        · have y3 : (X != Sg.valOf u n) = true := by simp [hxv]
          have HXV := Lib.hid hxv
          clear hxv
          go_upto_region 15 with fail
          have G10 := Lib.hid (LG.tr1 HS9.out.2.1 HS9.out.2.2 (HS9.out.1.setVal n X))
          clear k1 bk1 cv9 fv9 bv9
          generalize World.setCell w10 ⟨gv, n, none⟩ (.int .i64 X) = w11 at *
          obtain ⟨F11, hS11, hm11, hF11⟩ := G10.out
          dsimp only at hS11
          obtain ⟨k0, bk0⟩ := hS11.preC (j := 0) rfl
          obtain ⟨k1, bk1⟩ := hS11.preC (j := 1) rfl
          obtain ⟨k2, bk2⟩ := hS11.preC (j := 2) rfl
          obtain ⟨k3, bk3⟩ := hS11.preC (j := 3) rfl
          have HS11 := Lib.hid (And.intro hS11 (And.intro hm11 hF11))
          have D11 := Lib.hid (hS11.ext ((Ext.rfl' w11).dr))
          clear hS11 hm11 hF11
          go_still_tail 9, (by kernel_rfl)
          change wpList _ _ _ _ _ (World.drew w11)
          have hrl : (u.st.reads.set n (Sg.firstOnly l)).length = L := D11.out.rl
          have hql : (u.st.cols.set n 0).length = L := D11.out.ql
          have HT := s_spoil w0.heap.size n gq (some ⟨b, o, none⟩) (some ⟨gv, 0, none⟩) (some ⟨gr, 0, none⟩) cg L cv cr cq (u.st.cols.set n 0) (u.st.reads.set n (Sg.firstOnly l)) (World.drew w11) (Sg.ahead_set (Sg.ahead_of HUO.out) HLR.out) (by rw [hrl, hql]) (by omega) (by omega)
            (fun x hx => by
              rcases List.mem_or_eq_of_mem_set hx with hx | rfl
              · exact Sg.cols_range HUO.out x hx
              · omega)
            (D11.out.rdL (by omega) (fun x hx => by
              rcases List.mem_or_eq_of_mem_set hx with hx | rfl
              · exact Nat.le_trans (reads_small HUO.out x hx) (by omega)
              · omega)) (by rw [hql]; exact D11.out.q)
          rw [hrl, hql] at HT
          have HT := Lib.hid HT
          clear hrl hql k0 bk0 k1 bk1 k2 bk2 k3 bk3
          go_wp2_with fail
          refine HT.out.mono ?_
          rintro e wa ⟨rfl, hq2, hm2⟩
          have Q2 := Lib.hid hq2
          have M2 := Lib.hid hm2
          clear hq2 hm2
          go_wp2
          go_end0
          exact ⟨rfl, by rw [HFI.out]; unfold Sg.finishL; rw [if_neg HXV.out]; exact (LG.tr1 HS11.out.2.1 HS11.out.2.2 ((LS.start HS11.out.1).ext ((Ext.rfl' w11).dr))).tr (fun F' hS' => hS'.turnQ _ M2.out Q2.out)⟩
end Go.Proofs.YtmelggoagbhieaaGreat
