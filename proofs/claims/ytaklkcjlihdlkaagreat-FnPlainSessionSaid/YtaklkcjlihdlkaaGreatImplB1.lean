/- The program's run of a node in an eager state: its contract. Conditions: formulas that can be run. -/
import Derived.Test.YtaklkcjlihdlkaaGreatTy
import Derived.Test.YtaklkcjlihdlkaaGreatSepAll
import Derived.Test.YtaklkcjlihdlkaaGreatImplThree
import Derived.Test.YtaklkcjlihdlkaaGreatImplPX
import Derived.Test.YtaklkcjlihdlkaaGreatModelsA
import Derived.Deep.QuietTactic
import Derived.BigQuiet
namespace Go.Proofs.YtaklkcjlihdlkaaGreat
open Go.RowKit

theorem runE_clo (B : Nat) (Av : Option Addr) (cv : Nat) (v : List Int) (L : Nat) (hB : B < L) (hA : 0 < v.length → ∀ b, blk Av = some b → b < L) (hv : Sg.inRange v) :
  Clo Tryz.prog 167 [.pointer (some ⟨B, 0, none⟩)] Unit (fun _ => VInv B Av cv v) (fun _ n => Sg.rd v n) (fun _ _ => ()) (fun n => 0 ≤ n ∧ n < v.length ∧ n ≤ 9) L where
 ent := ent_of Tryz.func167 rfl (by kernel_rfl)
 call := fun s F w n h hn => by
  obtain ⟨hb, hr, he⟩ := h
  obtain ⟨hn0, hn1, hn2⟩ := hn
  obtain ⟨k, rfl⟩ : ∃ k : Nat, n = k := ⟨n.toNat, by omega⟩
  obtain ⟨ba, oa, x, rfl, hx, hcx⟩ := hr.at1 (show k < v.length by omega)
  have Hx := lh hx
  have HI := lh (And.intro hb (And.intro hr he))
  have hr0 := hr.big
  clear hx hr he
  go_enter Tryz.func167, Tryz.ntmps167
  go_wp2
  go_ret
  refine ⟨by simp [Sg.rd, Hx.out], F, ⟨HI.out.1, HI.out.2.1, HI.out.2.2⟩, Mod.rfl' _ _, fun b hb => .inl hb⟩
 old := fun s F w b h hb => absurd hb (h.e b)
 md := fun s F G w w' h hm h1 h2 => ⟨hm.cellE h.b (h2 _ hB), h.r.mod0 hm (fun h0 b hb => h2 b (hA (by omega) b hb)), h.e⟩
 ran := fun s F w n h hn => by
  have : n.toNat < v.length := by omega
  have hm := hv (v[n.toNat]) (List.getElem_mem this)
  simp only [Sg.rd, List.getD_eq_getElem?_getD, List.getElem?_eq_getElem this, Option.getD_some]
  exact hm

set_option maxRecDepth 100000 in
set_option maxHeartbeats 4000000 in
theorem i_runE (B : Nat) (A : Option Addr) (c gv cv gr cr : Nat) (g : Sg.Graph) (v : List Int) (r : List (List Int)) (hs : List (Option Addr × Nat)) (k : Nat) (n : Sg.Node) (w : World) (h : RdN w A g) (hv : Own w B 3 1 (some ⟨gv, 0, none⟩) v.length cv (ints v)) (hr : OwnL w B (some ⟨gr, 0, none⟩) cr r hs) (hne : gv ≠ gr)
  (hn : g[k]? = some n) (hk : k < v.length) (hkr : k < r.length) (hok : Sg.FOK n.f k) (hin : Sg.inRange v) :
  Calls Tryz.prog 144 #[.agg #[.slice (some ⟨gv, 0, none⟩) v.length cv, .slice (some ⟨gr, 0, none⟩) r.length cr], .agg #[.slice A g.length c], .int .i64 k] w fun e w' => e = .returned (.bool ((Sg.runF n.f v).1 != v.getD k 0)) ∧
   ∃ A0 w1, Ext w w1 ∧ Own w1 w.heap.size 3 1 A0 (Sg.runF n.f v).2.length (Sg.runF n.f v).2.length (ints (Sg.runF n.f v).2) ∧ Ext ((w1.setCell ⟨gr, k, none⟩ (.slice A0 (Sg.runF n.f v).2.length (Sg.runF n.f v).2.length)).setCell ⟨gv, k, none⟩ (.int .i64 (Sg.runF n.f v).1)) w' := by
 have hkg : k < g.length := (List.getElem?_eq_some_iff.1 hn).1
 have hgl := h.1
 have hvl := hv.rd.big
 obtain ⟨⟨nk, nf⟩, b, o, Ap, cp, hn', rfl, hkc, hsl, hf, hfl⟩ := h.at_ hkg
 rw [hn] at hn'
 injection hn' with hn'
 subst hn'
 obtain ⟨x, hx⟩ : ∃ x, v[k]? = some x := ⟨_, List.getElem?_eq_getElem hk⟩
 have hxc := hv.cell (j := k) (u := .int .i64 x) (by rw [ints_at, hx]; rfl)
 have hxf := hv.free k
 have HX := lh (show v.getD k 0 = x by simp [hx])
 obtain ⟨hr0, hhr⟩ : ∃ x, hs[k]? = some x := ⟨_, List.getElem?_eq_getElem (by have := hr.len; simp at this; omega)⟩
 obtain ⟨l0, hl0⟩ : ∃ l0, r[k]? = some l0 := ⟨_, List.getElem?_eq_getElem hkr⟩
 have hrc := hr.out.cell (j := k) (u := .slice hr0.1 l0.length hr0.2) (by
  have := at_dcells (listIts_pre r) k 0 (by omega) (listIts_at hl0) hhr
  rw [Nat.mul_one, Nat.add_zero] at this
  rw [this]; rfl)
 have hrf := hr.out.free k
 have hbv := blt hxc
 have hbr := blt hrc
 have hbs := blt hsl
 dsimp only at *
 have e0 : Ext w (World.alloc (World.alloc w (.cells #[.slice (some ⟨gv, 0, none⟩) v.length cv, .slice (some ⟨gr, 0, none⟩) r.length cr] 118)) (.cells #[.slice (some ⟨b, o, none⟩) g.length c] 25)) := ((Ext.rfl' w).al _).al _
 have C := runE_clo w.heap.size (some ⟨gv, 0, none⟩) cv v (w.heap.size + 1) (by omega) (fun _ b hb => by simp [blk] at hb; omega) hin
 have HR := i_run C (fun n hn => ⟨hn.1, hn.2.2⟩) Ap cp nf (fod_of hok v.length (by omega)) () (fun _ => False)
  (World.alloc (World.alloc w (.cells #[.slice (some ⟨gv, 0, none⟩) v.length cv, .slice (some ⟨gr, 0, none⟩) r.length cr] 118)) (.cells #[.slice (some ⟨b, o, none⟩) g.length c] 25)) (by simp)
  ⟨by simp [go_sem], hv.rd.ext e0, fun _ h => h⟩ (hf.ext e0) (fun _ _ h => h)
 rw [Sg.runM_pure] at HR
 dsimp only at HR
 generalize hX : (Sg.runF nf v).1 = X at *
 generalize hL : (Sg.runF nf v).2 = L at *
 have HR : Calls Tryz.prog 123 #[.agg #[.slice Ap nf.length cp], .func (.func 167) #[] #[.pointer (some ⟨w.heap.size, 0, none⟩)]]
  (World.alloc (World.alloc w (.cells #[.slice (some ⟨gv, 0, none⟩) v.length cv, .slice (some ⟨gr, 0, none⟩) r.length cr] 118)) (.cells #[.slice (some ⟨b, o, none⟩) g.length c] 25)) fun e w' =>
   ∃ A', e = .returned (.tuple #[.int .i64 X, .slice A' L.length L.length]) ∧ Own w' (w.heap.size + 1 + 1) 3 1 A' L.length L.length (ints L) ∧
    Ext (World.alloc (World.alloc w (.cells #[.slice (some ⟨gv, 0, none⟩) v.length cv, .slice (some ⟨gr, 0, none⟩) r.length cr] 118)) (.cells #[.slice (some ⟨b, o, none⟩) g.length c] 25)) w' := by
  refine HR.mono ?_
  rintro e w1 ⟨A', F', rfl, ho, hi, hm, hF, hfo, hx0, hx1⟩
  exact ⟨A', rfl, by simpa using ho, hm.ext fun _ => id⟩
 have HR := lh HR
 have H0 := lh e0
 have k1 := e0.cellE hxc
 have f1 : World.frozen? (World.alloc (World.alloc w (.cells #[.slice (some ⟨gv, 0, none⟩) v.length cv, .slice (some ⟨gr, 0, none⟩) r.length cr] 118)) (.cells #[.slice (some ⟨b, o, none⟩) g.length c] 25)) ⟨gv, k, none⟩ = false := (e0.frozen (p := ⟨gv, k, none⟩) hbv).trans hxf
 have k2 := e0.cellE hrc
 have f2 : World.frozen? (World.alloc (World.alloc w (.cells #[.slice (some ⟨gv, 0, none⟩) v.length cv, .slice (some ⟨gr, 0, none⟩) r.length cr] 118)) (.cells #[.slice (some ⟨b, o, none⟩) g.length c] 25)) ⟨gr, k, none⟩ = false := (e0.frozen (p := ⟨gr, k, none⟩) hbr).trans hrf
 have b0 : World.cell? (World.alloc (World.alloc w (.cells #[.slice (some ⟨gv, 0, none⟩) v.length cv, .slice (some ⟨gr, 0, none⟩) r.length cr] 118)) (.cells #[.slice (some ⟨b, o, none⟩) g.length c] 25)) ⟨w.heap.size, 0, none⟩ = some (.slice (some ⟨gv, 0, none⟩) v.length cv) := by simp [go_sem]
 have b1 : World.cell? (World.alloc (World.alloc w (.cells #[.slice (some ⟨gv, 0, none⟩) v.length cv, .slice (some ⟨gr, 0, none⟩) r.length cr] 118)) (.cells #[.slice (some ⟨b, o, none⟩) g.length c] 25)) ⟨w.heap.size, 1, none⟩ = some (.slice (some ⟨gr, 0, none⟩) r.length cr) := by simp [go_sem]
 have KK := lh (And.intro k1 (And.intro f1 (And.intro k2 (And.intro f2 (And.intro b0 b1)))))
 clear hn hx hok hin C e0 hv hr hf h hX hL hl0 hhr hkc k1 f1 k2 f2 b0 b1 hxc hrc hxf hrf
 go_enter Tryz.func144, Tryz.ntmps144
 go_wp2_with fail
 refine HR.out.mono ?_
 rintro e w1 ⟨A', rfl, ho, he1⟩
 have E1 := lh (H0.out.tr he1)
 have O1 := lh (ho.mono (B' := w.heap.size) (by omega))
 have k1 := he1.cellE KK.out.1
 have f1 : w1.frozen? ⟨gv, k, none⟩ = false := (he1.frozen (p := ⟨gv, k, none⟩) (blt KK.out.1)).trans KK.out.2.1
 have k2 := he1.cellE KK.out.2.2.1
 have f2 : w1.frozen? ⟨gr, k, none⟩ = false := (he1.frozen (p := ⟨gr, k, none⟩) (blt KK.out.2.2.1)).trans KK.out.2.2.2.1
 have b0 := he1.cellE KK.out.2.2.2.2.1
 have b1 := he1.cellE KK.out.2.2.2.2.2
 have bl0 := blt b0
 have bl1 := blt k1
 have bl2 := blt k2
 clear ho he1 KK HR
 go_upto_region 3 with fail
 refine wp_region_held_drew (S := (fun W => W.cell? ⟨w.heap.size, 0, none⟩ = some (.slice (some ⟨gv, 0, none⟩) v.length cv) ∧ W.cell? ⟨w.heap.size, 1, none⟩ = some (.slice (some ⟨gr, 0, none⟩) r.length cr))) (by kernel_rfl) ?_ (fun hHeld => ?_)
 ·exact ⟨((Ext.rfl' _).dr).cellE b0, ((Ext.rfl' _).dr).cellE b1⟩
 refine ty 0 ?_
 refine ty 1 ?_
 refine ty 2 ?_
 refine ty 3 ?_
 refine ty 4 ?_
 refine ty 5 ?_
 refine ty 6 ?_
 refine ty 7 ?_
 refine ty 8 ?_
 refine rd1 9 rfl fun K hK => ?_
 go_simp
 refine hK.out _ _ (by exact ⟨((Ext.rfl' _).dr).cellE ((co).trans b0), ((Ext.rfl' _).dr).cellE ((co).trans b1)⟩) fun hh2 => ?_; clear hK K hHeld; have hHeld := hh2; clear hh2
 try simp only [Act.put]
 refine ty 10 ?_
 refine rd1 11 rfl fun K hK => ?_
 go_simp
 refine hK.out _ _ (by exact ⟨((Ext.rfl' _).dr).cellE ((co).trans ((co).trans b0)), ((Ext.rfl' _).dr).cellE ((co).trans ((co).trans b1))⟩) fun hh2 => ?_; clear hK K hHeld; have hHeld := hh2; clear hh2
 try simp only [Act.put]
 refine dn ?_
 go_wp2
 go_ret
 exact ⟨ret_bool (by rw [HX.out]), A', w1, E1.out, O1.out, by rw [setCell_two w1 _ _ _ _ (fun e => hne e.symm)]; exact (Ext.rfl' _).dr⟩
end Go.Proofs.YtaklkcjlihdlkaaGreat
