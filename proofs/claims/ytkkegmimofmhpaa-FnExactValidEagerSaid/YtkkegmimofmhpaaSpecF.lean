/- The reference's mayRead: its contract. Conditions: at most 2^20 parts. -/
import Derived.Test.YtkkegmimofmhpaaSpecE
namespace Go.Proofs.Ytkkegmimofmhpaa
open Go.RowKit

def MR (f : List Sg.Part) (n : Nat) : List Int := ((List.range n).map Int.ofNat).filter (Sg.hasRead f)
theorem MR_succ (f : List Sg.Part) (n : Nat) : MR f (n + 1) = if Sg.hasRead f n = true then MR f n ++ [(n : Int)] else MR f n := by
  unfold MR
  rw [List.range_succ, List.map_append, List.filter_append]
  by_cases h : Sg.hasRead f n = true
  · rw [if_pos h]; simp [h]
  · rw [if_neg h]; simp [h]
theorem MR_len (f : List Sg.Part) (n : Nat) : (MR f n).length ≤ n := by
  unfold MR
  have := List.length_filter_le (Sg.hasRead f) ((List.range n).map Int.ofNat)
  simpa using this
theorem hasRead_cons (p : Sg.Part) (f : List Sg.Part) (n : Int) : Sg.hasRead (p :: f) n = ((p.kind == 1 && p.n == n) || Sg.hasRead f n) := by simp [Sg.hasRead]

set_option maxRecDepth 100000 in
set_option maxHeartbeats 2000000 in
theorem s_mayRead (A : Option Addr) (c : Nat) (f : List Sg.Part) (w : World) (h : Rd w 5 A f.length (parts f)) (hb : f.length ≤ 1048576) :
    Calls Try.prog 172 #[.agg #[.slice A f.length c]] w fun e w' => ∃ A' c', e = .returned (.slice A' (Sg.mayRead f).length c') ∧ Own w' w.heap.size 3 1 A' (Sg.mayRead f).length c' (ints (Sg.mayRead f)) ∧ Ext w w' := by
  go_enter Try.func172, Try.ntmps172
  go_wp2
  have hW1 := (Ext.rfl' w).al (.cells #[.slice A f.length c] 92)
  have hW2 := hW1.al (.cells #[] 3)
  have hown0 := Own.nw hW1 (w.heap.size + 1) [] #[] rfl (by simp) (by simp)
  have hbox : ((w.alloc (.cells #[.slice A f.length c] 92)).alloc (.cells #[] 3)).cell? ⟨w.heap.size, 0, none⟩ = some (.slice A f.length c) := by simp [go_sem]
  have hsz : w.heap.size < ((w.alloc (.cells #[.slice A f.length c] 92)).alloc (.cells #[] 3)).heap.size := by simp; omega
  go_loopw [3, 4] (fun v i wr => ∃ (n : Nat) (A' : Option Addr) (c' : Nat), n ≤ 10 ∧ i = .int .i64 n ∧ v = .slice A' (MR f n).length c' ∧ Own wr w.heap.size 3 1 A' (MR f n).length c' (ints (MR f n)) ∧ Ext w wr ∧ wr.cell? ⟨w.heap.size, 0, none⟩ = some (.slice A f.length c) ∧ blk A' ≠ some w.heap.size) (fun _ i _ => 10 - (intOf i).toNat)
  case atStart =>
    exact ⟨0, some ⟨w.heap.size + 1, 0, none⟩, 0, by omega, rfl, rfl, hown0, hW2, hbox, by simp [blk]⟩
  case round =>
    clear hown0 hbox hW2 hsz
    obtain ⟨n, A', c', hn, rfl, rfl, hown, hext, hbox, hne⟩ := hrel
    have hmr := MR_len f n
    by_cases hlt : n < 10
    · go_wp2
      go_loop [3, 5] (fun v i => ∃ k : Nat, k ≤ f.length ∧ i = .int .i64 k ∧ v = .slice A' (MR f n).length c' ∧ Sg.hasRead (f.drop k) n = Sg.hasRead f n) (fun _ i => f.length - (intOf i).toNat)
      case atStart => exact ⟨0, Nat.zero_le _, rfl, rfl, rfl⟩
      case round =>
        obtain ⟨k, hk, rfl, rfl, hrd⟩ := hrel
        have Hms := Lib.hid (MR_succ f n)
        by_cases hlk : k < f.length
        · obtain ⟨b, o, p, rfl, hp, hc0, hc1, hc2, hc3, hc4⟩ := (h.ext hext).atP hlk
          rw [drop_cons f k hp, hasRead_cons] at hrd
          obtain ⟨pk, pa, pb, pc, pn⟩ := p
          dsimp only at *
          have Hrd := Lib.hid hrd
          clear hrd hp
          by_cases h1 : pk = 1 ∧ pn = n
          · obtain ⟨rfl, rfl⟩ := h1
            go_wp2_with (at_builtin; refine wpList_app1 rfl rfl eiInt rfl hown rfl rfl (one_int _ _) (by omega) (by omega) hext.size ?_; intro A2 c2 w2 hown2 hg2 hat2)
            have hhr : Sg.hasRead f n = true := by rw [← Hrd.out]; simp
            have e1 := Hms.out
            rw [if_pos hhr] at e1
            go_roundw
            case rel =>
              refine ⟨n + 1, A2, c2, by omega, by go_num, by rw [e1]; simp, by rw [e1]; simpa using hown2, hext.gr hg2 fun g hg => (hown.lt hg).1, ?_, ?_⟩
              · exact (World.cell?_of_block (hg2.block _ (blt hbox) (fun e => hne e.symm))).trans hbox
              · rcases hat2 with hat2 | ⟨g, hat2, hg⟩
                · rw [hat2]; exact hne
                · rw [hat2]; intro e; injection e with e; have := hext.size; have := blt hbox; omega
            case measure => simp [intOf]; omega
          · have hnot : (pk == 1 && pn == (n : Int)) = false := by
              rw [Bool.and_eq_false_iff, beq_eq_false_iff_ne, beq_eq_false_iff_ne]; omega
            by_cases h2 : pk = 1
            · have h3 : ¬ pn = n := fun e => h1 ⟨h2, e⟩
              subst h2
              have hnot' := Lib.hid hnot
              clear hnot h1
              go_wp2
              go_round
              case rel => exact ⟨k + 1, by omega, by go_num, rfl, by rw [← Hrd.out, hnot'.out, Bool.false_or]⟩
              case measure => simp [intOf]; omega
            · have hnot' := Lib.hid hnot
              clear hnot h1
              go_wp2
              go_round
              case rel => exact ⟨k + 1, by omega, by omega, by rw [← Hrd.out, hnot'.out, Bool.false_or]⟩
              case measure => simp [intOf]; omega
        · have hhr : ¬ Sg.hasRead f n = true := by rw [← hrd, List.drop_eq_nil_of_le (by omega)]; simp [Sg.hasRead]
          have e1 := Hms.out
          rw [if_neg hhr] at e1
          have E1 := Lib.hid e1
          clear e1 hhr hrd
          go_wp2
          go_roundw
          case rel => exact ⟨n + 1, A', c', by omega, by go_num, by rw [E1.out], by rw [E1.out]; exact hown, hext, hbox, hne⟩
          case measure => simp [intOf]; omega
    · obtain rfl : n = 10 := by omega
      go_wp2
      go_ret
      exact ⟨A', c', rfl, hown, hext⟩
end Go.Proofs.Ytkkegmimofmhpaa
