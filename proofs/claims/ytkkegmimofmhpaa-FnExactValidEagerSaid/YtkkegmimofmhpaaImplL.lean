/- The program's right: its contract. Conditions: formulas that can be run, values 0..999. -/
import Derived.Test.YtkkegmimofmhpaaImplK
namespace Go.Proofs.Ytkkegmimofmhpaa
open Go.RowKit

theorem fod_of {f : List Sg.Part} {k : Nat} (h : Sg.FOK f k) (L : Nat) (hk : k ≤ L) : Sg.FOD f (fun n => 0 ≤ n ∧ n < (L : Int) ∧ n ≤ 9) := by
  refine ⟨h.good, h.len, h.one, fun p hp hk1 => ?_⟩
  obtain ⟨i, hi⟩ := List.getElem?_of_mem hp
  have h1 := h.good i p hi
  have h2 := h.reads p hp hk1
  simp [Sg.goodPart, Sg.alone, Sg.inR, hk1] at h1
  omega

set_option maxHeartbeats 1000000 in
theorem i_right (A Av Al : Option Addr) (c cv cl : Nat) (g : Sg.Graph) (v l : List Int) (k : Nat) (n : Sg.Node) (x : Int) (w : World) (h : RdN w A g) (hv : Rd w 1 Av v.length (ints v)) (hl : Rd w 1 Al l.length (ints l))
    (hn : g[k]? = some n) (hx : v[k]? = some x) (hok : Sg.FOK n.f k) (hin : Sg.inRange v) :
    Calls Try.prog 77 #[.agg #[.slice A g.length c], .int .i64 k, .slice Av v.length cv, .slice Al l.length cl] w fun e w' =>
      e = .returned (.bool (decide ((Sg.runF n.f v).1 = x) && decide ((Sg.runF n.f v).2 = l))) ∧ Ext w w' := by
  have hkg : k < g.length := (List.getElem?_eq_some_iff.1 hn).1
  have hkv : k < v.length := (List.getElem?_eq_some_iff.1 hx).1
  have hgl := h.1
  have hvl := hv.big
  obtain ⟨⟨nk, nf⟩, b, o, Ap, cp, hn', rfl, hkc, hs, hf, hfl⟩ := h.at_ hkg
  rw [hn] at hn'
  injection hn' with hn'
  subst hn'
  obtain ⟨bv, ov, x', rfl, hx', hxc⟩ := hv.at1 hkv
  rw [hx] at hx'
  injection hx' with hx'
  subst hx'
  dsimp only at *
  have e0 := ((Ext.rfl' w).al (.cells #[.slice (some ⟨b, o, none⟩) g.length c] 25)).al (.cells #[.slice (some ⟨bv, ov, none⟩) v.length cv] 26)
  have hbv := blt hxc
  have C := right_clo (w.heap.size + 1) (some ⟨bv, ov, none⟩) cv v (w.heap.size + 1 + 1) (by omega) (fun _ b hb => by simp [blk] at hb; omega) hin
  have HR := i_run C (fun n hn => ⟨hn.1, hn.2.2⟩) Ap cp nf (fod_of hok v.length (by omega)) () (fun _ => False)
    ((w.alloc (.cells #[.slice (some ⟨b, o, none⟩) g.length c] 25)).alloc (.cells #[.slice (some ⟨bv, ov, none⟩) v.length cv] 26)) (by simp)
    ⟨by simp [go_sem], hv.ext e0, fun _ h => h⟩ (hf.ext e0) (fun _ _ h => h)
  rw [Sg.runM_pure] at HR
  dsimp only at HR
  have HR : Calls Try.prog 133 #[.agg #[.slice Ap nf.length cp], .func (.func 140) #[] #[.pointer (some ⟨w.heap.size + 1, 0, none⟩)]]
    ((w.alloc (.cells #[.slice (some ⟨b, o, none⟩) g.length c] 25)).alloc (.cells #[.slice (some ⟨bv, ov, none⟩) v.length cv] 26)) fun e w' =>
      ∃ A', e = .returned (.tuple #[.int .i64 (Sg.runF nf v).1, .slice A' (Sg.runF nf v).2.length (Sg.runF nf v).2.length]) ∧ Rd w' 1 A' (Sg.runF nf v).2.length (ints (Sg.runF nf v).2) ∧
        Ext ((w.alloc (.cells #[.slice (some ⟨b, o, none⟩) g.length c] 25)).alloc (.cells #[.slice (some ⟨bv, ov, none⟩) v.length cv] 26)) w' := by
    refine HR.mono ?_
    rintro e w1 ⟨A', F', rfl, ho, hi, hm, hF, hfo, hx0, hx1⟩
    exact ⟨A', rfl, ho.rd, hm.ext fun _ => id⟩
  have HR := Lib.hid HR
  have Heq := Lib.hid (fun A c w h => i_Equal A Al c cl (Sg.runF nf v).2 l w h)
  have hbs := blt hs
  have H0 := Lib.hid e0
  have KX := Lib.hid (e0.cellE hxc)
  have KB0 : (((w.alloc (.cells #[.slice (some ⟨b, o, none⟩) g.length c] 25)).alloc (.cells #[.slice (some ⟨bv, ov, none⟩) v.length cv] 26)).cell? ⟨w.heap.size + 1, 0, none⟩ = some (.slice (some ⟨bv, ov, none⟩) v.length cv)) := by simp [go_sem]
  have KB := Lib.hid KB0
  clear KB0
  have HL := Lib.hid hl
  clear hn hx hok hin C e0 hl hv hf h
  by_cases hxe : (Sg.runF nf v).1 = x
  · have hb0 : ((Sg.runF nf v).1 == x) = true := by simp [hxe]
    have Hxe := Lib.hid hxe
    clear hxe
    by_cases hle : (Sg.runF nf v).2 = l
    · have hd : decide ((Sg.runF nf v).2 = l) = true := by simp [hle]
      have Hd := Lib.hid hd
      clear hd hle
      go_enter Try.func77, Try.ntmps77
      go_wp2_with (first
        | (go_at_call 133; refine HR.out.mono ?_; rintro e w1 ⟨A', rfl, ho, he1⟩; have k1 := he1.cellE KB.out; have k2 := he1.cellE KX.out)
        | (go_at_call 141; refine (Heq.out A' _ w1 ho (HL.out.ext (H0.out.tr he1))).mono ?_; rintro e w2 ⟨rfl, he2⟩; rw [Hd.out]))
      go_ret
      exact ⟨ret_bool (by rw [Hd.out]; simp [Hxe.out]), (H0.out.tr he1).tr he2⟩
    · have hd : decide ((Sg.runF nf v).2 = l) = false := by simp [hle]
      have Hd := Lib.hid hd
      clear hd hle
      go_enter Try.func77, Try.ntmps77
      go_wp2_with (first
        | (go_at_call 133; refine HR.out.mono ?_; rintro e w1 ⟨A', rfl, ho, he1⟩; have k1 := he1.cellE KB.out; have k2 := he1.cellE KX.out)
        | (go_at_call 141; refine (Heq.out A' _ w1 ho (HL.out.ext (H0.out.tr he1))).mono ?_; rintro e w2 ⟨rfl, he2⟩; rw [Hd.out]))
      go_ret
      exact ⟨ret_bool (by rw [Hd.out]; simp), (H0.out.tr he1).tr he2⟩
  · have hb0 : ((Sg.runF nf v).1 == x) = false := by simp [hxe]
    have Hxe := Lib.hid hxe
    clear hxe
    go_enter Try.func77, Try.ntmps77
    go_wp2_with (go_at_call 133; refine HR.out.mono ?_; rintro e w1 ⟨A', rfl, ho, he1⟩; have k1 := he1.cellE KB.out; have k2 := he1.cellE KX.out)
    go_ret
    exact ⟨ret_bool (by simp [Hxe.out]), H0.out.tr he1⟩
end Go.Proofs.Ytkkegmimofmhpaa
