/- The program's FormatFormula, in memory: its contract. Conditions: the words' variable and the table of powers of ten are as they were laid; at most 2^20 parts. -/
import Derived.Test.YtdnlpklmihoapaaDoorTxD
import Derived.Test.YtdnlpklmihoapaaDoorTxE
import Derived.Test.YtdnlpklmihoapaaDoorShelf
import Derived.Test.YtdnlpklmihoapaaDoorCore
namespace Go.Proofs.YtdnlpklmihoapaaDoor
open Go.RowKit
/-- what the program's variables hold -/
structure Gl (w : World) : Prop where
 words : ∃ b o c, w.cell? ⟨0, 0, none⟩ = some (.slice (some ⟨b, o, none⟩) 7 c) ∧ ∀ k : Nat, k < 7 → w.cell? ⟨b, o + k, none⟩ = some (.string (ts (Sg.wordK ((k : Int) + 2))))
 tab : Lib.TabIs Tryd.prog w "internal/strconv.uint64pow10" .u64 Lib.pow10Tab
theorem var_ext {w w' : World} (e : Ext w w') {name : String} {cs : Array Value} (h : w.var? Tryd.prog name = some cs) : w'.var? Tryd.prog name = some cs := by
 unfold World.var? at h ⊢
 cases hg : Tryd.prog.globalNamed name with
 | none => rw [hg] at h; cases h
 | some g =>
  rw [hg] at h
  simp only [Option.bind_some] at h ⊢
  rw [e.block g ?_]
  ·exact h
  ·rcases Nat.lt_or_ge g w.heap.size with h' | h'
   ·exact h'
   ·rw [Array.getElem?_eq_none h'] at h; cases h
theorem Gl.ext {w w' : World} (h : Gl w) (e : Ext w w') : Gl w' := by
 obtain ⟨⟨b, o, c, h1, h2⟩, ht⟩ := h
 exact ⟨⟨b, o, c, e.cellE h1, fun k hk => e.cellE (h2 k hk)⟩, var_ext e ht⟩
theorem i_Itoa (n : Nat) (h : n ≤ 999) (w : World) (hg : Gl w) : Calls Tryd.prog 34 #[.int .i64 (n : Int)] w fun e w' => e = .returned (.string (ts (Sg.numT n))) ∧ Ext w w' := by
 refine (Tryd.strconv_Itoa (n : Int) (by omega) (by omega) w hg.tab).mono ?_
 rintro e w' ⟨rfl, k, os, rfl⟩
 rw [Sg.itoa_nat]
 exact ⟨rfl, rfl, rfl, rfl, by simp [Go.Sort.grow, World.drewN], fun b hb => Array.getElem?_append_left hb⟩
theorem ts_cons114 (l : Sg.Txt) : ts (114 :: l) = ts [114] ++ ts l := by rw [ts_app]; rfl
def wordsTo (l : List Sg.Part) (j : Nat) : List ByteArray := (l.take j).map fun p => ts (Sg.partT p)
theorem wordsTo_succ {l : List Sg.Part} {j : Nat} {p : Sg.Part} (h : l[j]? = some p) : wordsTo l (j + 1) = wordsTo l j ++ [ts (Sg.partT p)] := by
 unfold wordsTo
 rw [List.take_add_one, h, List.map_append]
 rfl
theorem wordsTo_all (l : List Sg.Part) : (wordsTo l l.length).map (·.data.toList) = l.map Sg.partT := by
 unfold wordsTo
 rw [List.take_length, List.map_map]
 rfl
theorem i_Join (A : Option Addr) (n c : Nat) (xs : List ByteArray) (w : World) {B : Nat} (h : Own w B 9 1 A n c (strs xs)) (hn : n ≤ 1000) (hl : (Sg.joinC 32 (xs.map (·.data.toList))).length ≤ 100000) :
  Calls Tryd.prog 40 #[.slice A n c, .string ⟨#[32]⟩] w fun e w' => e = .returned (.string (ts (Sg.joinC 32 (xs.map (·.data.toList))))) ∧ Ext w w' := by
 have hxn : xs.length = n := by have := h.rd.lenT; exact this
 by_cases h0 : n = 0
 ·subst h0
  obtain rfl : xs = [] := List.length_eq_zero_iff.1 hxn
  refine (Tryd.strings_Join_none A c ⟨#[32]⟩ w).mono ?_
  rintro e w' ⟨rfl, rfl⟩
  exact ⟨rfl, Ext.rfl' _⟩
 ·obtain ⟨g, rfl, hg⟩ := h.at_ (by omega)
  have hc : ∀ (j : Nat) x, xs[j]? = some x → w.cell? ⟨g, 0 + j, none⟩ = some (.string x) := fun j x hx => by
   rw [Nat.zero_add]; exact h.cell (by rw [strs_at, hx]; rfl)
  subst hxn
  refine (Tryd.strings_Join g 0 c xs ⟨#[32]⟩ w hc (h.lt rfl).2 (by omega) h.2.1 (by unfold Sg.joinC at hl; exact Nat.le_trans hl (by decide))).mono ?_
  rintro e w' ⟨rfl, he⟩
  exact ⟨rfl, he⟩
set_option maxRecDepth 100000 in
set_option maxHeartbeats 2000000 in
theorem i_FormatFormula (A : Option Addr) (c : Nat) (f : List Sg.Part) (w : World) (hG : Gl w) (h : Rd w 5 A f.length (parts f)) (hb : f.length ≤ 1048576) :
  Calls Tryd.prog 15 #[.agg #[.slice A f.length c]] w fun e w' => e = .returned (.string (ts (Sg.fmtF f))) ∧ Ext w w' := by
 have HO := lh fun w' (e : Ext w w') => i_OrderParts A c f w' (h.ext e) hb
 have HG := lh hG
 have hok : ∀ p ∈ Sg.orderF f, Sg.okP p := by
  by_cases hv : Sg.validF f = true
  ·exact Sg.order_ok hv
  ·intro p hp; unfold Sg.orderF at hp; rw [if_neg hv] at hp; cases hp
 have hol : (Sg.orderF f).length ≤ 12 := by
  by_cases hv : Sg.validF f = true
  ·rw [Sg.order_len hv]; exact (Sg.validF_len hv).2
  ·unfold Sg.orderF; rw [if_neg hv]; simp
 have HOK := lh hok
 have HF : Hid (Sg.fmtF f = Sg.joinC 32 ((Sg.orderF f).map Sg.partT)) := lh (by
  by_cases hv : Sg.validF f = true
  ·unfold Sg.fmtF; rw [if_pos hv]
  ·unfold Sg.fmtF Sg.orderF; rw [if_neg hv, if_neg hv]; rfl)
 have HL := lh (Sg.fmtF_len f)
 clear h hG hok
 generalize Sg.orderF f = l at *
 go_enter Tryd.func15, Tryd.ntmps15
 go_wp2_with fail
 refine (HO.out _ ((Ext.rfl' w).al _)).mono ?_
 rintro e w2 ⟨A1, rfl, he, hown⟩
 have EW := lh (((Ext.rfl' w).al _).tr he)
 have HR2 := lh hown.rd
 have HG2 := lh (HG.out.ext EW.out)
 clear he hown HG
 have hfd := fun w => fldF A1 l.length l.length w
 go_wp2_with fail
 clear hfd
 go_loopw [3, 10] (fun s3 s10 wr => ∃ (j : Nat) (A3 : Option Addr) (c3 : Nat), j ≤ l.length ∧ s3 = .slice A3 j c3 ∧ s10 = .int .i64 j ∧ Hid (Ext w2 wr) ∧ Hid (Own wr w2.heap.size 9 1 A3 j c3 (strs (wordsTo l j)))) (fun _ s10 _ => l.length - (intOf s10).toNat)
 case atStart => exact ⟨0, none, 0, Nat.zero_le _, rfl, rfl, lh (Ext.rfl' _), lh (Own.nil _ _ _ _)⟩
 case round =>
  obtain ⟨j, A3, c3, hj, rfl, rfl, E, OW⟩ := hrel
  by_cases hlt : j < l.length
  ·obtain ⟨b, o, p, hAe, hp, h0, h1, h2, h3, h4⟩   := (HR2.out.ext E.out).atP hlt
   subst hAe
   have bh0 := blt h0
   have bh1 := blt h1
   have bh2 := blt h2
   have bh3 := blt h3
   have bh4 := blt h4
   have hjx : (j : Int) < (l.length : Int) := by omega
   have hsz := E.out.size
   have hpo := HOK.out p (List.mem_of_getElem? hp)
   have WS := lh (wordsTo_succ hp)
   have hpl := Sg.partT_len hpo
   clear hp
   obtain ⟨pk, pa, pb, pc, pn⟩ := p
   dsimp only [Sg.okP] at *
   rcases hpo with ⟨rfl | rfl, hn0, hn9⟩ | ⟨hk2, hk8⟩
   ·obtain ⟨n, rfl⟩ := Int.eq_ofNat_of_zero_le hn0
    go_wp2_with fail
    refine (i_Itoa n (by omega) _ (HG2.out.ext (E.out.al _))).mono ?_
    rintro e w4 ⟨rfl, he4⟩
    have E4 := lh ((E.out.al _).tr he4)
    have OW4 := lh ((OW.out.al _).ext he4)
    clear he4 h0 h1 h2 h3 h4 bh0 bh1 bh2 bh3 bh4 E OW
    have hsz4 := E4.out.size
    go_wp2_with (at_builtin; refine wpList_app1 (cs := [.string (ts (Sg.numT n))]) rfl rfl eiStr rfl OW4.out rfl rfl (one_str _) (by omega) (by omega) (by omega) ?_; intro A5 c5 w9 hown2 hg2 hat2)
    go_roundw
    case rel => exact ⟨j + 1, A5, c5, by omega, rfl, by go_num, lh (E4.out.gr hg2 fun x hx => (OW4.out.lt hx).1), lh (by rw [WS.out, ← strs_snoc]; rw [Sg.partT_num]; exact hown2)⟩
    case measure => simp [intOf]; omega
   ·obtain ⟨n, rfl⟩ := Int.eq_ofNat_of_zero_le hn0
    go_wp2_with fail
    refine (i_Itoa n (by omega) _ (HG2.out.ext (E.out.al _))).mono ?_
    rintro e w4 ⟨rfl, he4⟩
    have E4 := lh ((E.out.al _).tr he4)
    have OW4 := lh ((OW.out.al _).ext he4)
    clear he4 h0 h1 h2 h3 h4 bh0 bh1 bh2 bh3 bh4 E OW
    have hsp := ts_fit (a := [114]) (b := Sg.numT n) (by have := Sg.numT_len (n := n) (by omega); simp; omega)
    have hsz4 := E4.out.size
    go_wp2_with (at_builtin; refine wpList_app1 (cs := [.string (ts [114] ++ ts (Sg.numT n))]) rfl rfl eiStr rfl OW4.out rfl rfl (one_str _) (by omega) (by omega) (by omega) ?_; intro A5 c5 w9 hown2 hg2 hat2)
    go_roundw
    case rel => exact ⟨j + 1, A5, c5, by omega, rfl, by go_num, lh (E4.out.gr hg2 fun x hx => (OW4.out.lt hx).1), lh (by rw [WS.out, ← strs_snoc]; rw [Sg.partT_read, ts_cons114]; exact hown2)⟩
    case measure => simp [intOf]; omega
   ·obtain ⟨k, rfl⟩ : ∃ k : Nat, pk = (k : Int) + 2 := ⟨(pk - 2).toNat, by omega⟩
    have hk7 : k < 7 := by omega
    have hne0 : ((k : Int) + 2 == 0) = false := by simp; omega
    have hne1 : ((k : Int) + 2 == 1) = false := by simp; omega
    have ik : IntKind.i64.wrap ((k : Int) + 2 - 2) = (k : Int) := by rw [IntWalk.i64_in _ (by omega)]; omega
    obtain ⟨⟨bw, ow, cw, g0, g1⟩, -⟩ := HG2.out.ext E.out
    have gk := g1 k hk7
    have bg0 := blt g0
    have bgk := blt gk
    have hkx : (k : Int) < 7 := by omega
    clear g1
    have E4 := lh (E.out.al (.cells #[.int .i64 ((k : Int) + 2), .int .i64 pa, .int .i64 pb, .int .i64 pc, .int .i64 pn] 73))
    have OW4 := lh (OW.out.al (.cells #[.int .i64 ((k : Int) + 2), .int .i64 pa, .int .i64 pb, .int .i64 pc, .int .i64 pn] 73))
    have hsz4 := E4.out.size
    go_wp2_with (at_builtin; refine wpList_app1g (g := wr.heap.size + 1) (cs := [.string (ts (Sg.wordK ((k : Int) + 2)))]) rfl rfl eiStr rfl OW4.out rfl (by simp [go_sem]) rfl (one_str _) (by omega) (by omega) (by omega) ?_; intro A5 c5 w9 hown2 hg2 hat2)
    go_roundw
    case rel => exact ⟨j + 1, A5, c5, by omega, rfl, by go_num, lh (E4.out.gr hg2 fun x hx => (OW4.out.lt hx).1), lh (by rw [WS.out, ← strs_snoc]; rw [Sg.partT_word (by omega)]; exact hown2)⟩
    case measure => simp [intOf]; omega
  ·obtain rfl : j = l.length := by omega
   have HJ := lh fun w' (hO : Own w' w2.heap.size 9 1 A3 l.length c3 (strs (wordsTo l l.length))) => i_Join A3 l.length c3 _ w' hO (by omega) (by rw [wordsTo_all, ← HF.out]; have := HL.out; omega)
   go_wp2_with fail
   refine (HJ.out _ OW.out).mono ?_
   rintro e w3 ⟨rfl, he3⟩
   go_wp2
   go_ret
   exact ⟨by rw [HF.out, ← wordsTo_all]; rfl, (EW.out.tr E.out).tr he3⟩
end Go.Proofs.YtdnlpklmihoapaaDoor
