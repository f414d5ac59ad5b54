/- FnExactFormatGraph: for every input the law returns true, and the arguments and the words read as before; the card. Conditions: none. -/
import Derived.Test.YtdnlpklmihoapaaDoorRows
import Derived.Test.YtdnlpklmihoapaaDoorCards
import Derived.Test.YtdnlpklmihoapaaDoorTie
import Derived.Test.YtdnlpklmihoapaaDoorLawFGX
import Derived.Test.YtdnlpklmihoapaaDoorOpenAll
import Derived.Test.YtdnlpklmihoapaaDoorTxV
import Derived.Test.YtdnlpklmihoapaaDoorFactsFG
import Derived.WalkKit
import Derived.ProofKit
import Derived.OpenShut
import Derived.ShutString
import Derived.ChangeVars
import Derived.Below
import Derived.Stop.Joined
import Derived.SevenTiedAt
namespace Go.Proofs.YtdnlpklmihoapaaDoor.fnExactFormatGraphDone
open Go.ChangeShapes Go.WideShapes Go.ChangeAt Go.RowKit

theorem own : ownKnob Tryd.prog.godebug = none := by kernel_rfl
theorem laidOut : laidOutB Tryd.prog = true := by kernel_rfl

/-- The door's own heap meets the condition. -/
theorem door_met (os : Os) (args : Array Value) : laidMetH Tryd.prog Rows.fnExactFormatGraphRow.laid ((World.doorLaid Tryd.prog 4000 os).forCall (fun _ _ => 0) ⟨#[], args, []⟩).memory :=
 laidMetH_of_parts3 (fuel := 8) (laidMet_of_run' 8 (by kernel_rfl) (by kernel_rfl)) (by kernel_rfl) (by kernel_rfl)

set_option maxRecDepth 100000 in
theorem lifted (os : Os) (started : os.Started) (H : Type) (enc : TypeId × Value → H) :
  ReturnsInHanded {} Tryd.checked os 3 .any (fun w args => (Rows.fnExactFormatGraphSpec.pre enc Tryd.prog Tryd.f3 [] false w args ∧ laidMetH Tryd.prog Rows.fnExactFormatGraphRow.laid w) ∧ sizedMet enc Tryd.prog Tryd.f3 (OpenSpec.ofChange Rows.fnExactFormatGraphSpec) false w args)
   (Rows.fnExactFormatGraphSpec.post enc Tryd.prog Tryd.f3 false true false false) := by
 refine returnsInHanded_of_change_and (C := Tryd.checked) (X := fun w _ => laidMetH Tryd.prog Rows.fnExactFormatGraphRow.laid w) (fun _ _ _ hh h => h.of_heap hh) own started (by kernel_rfl) Tryd.func3
  (ChangeSpec.witness_shaped (enc := enc) (C := Tryd.checked) (os := os) (X := fun w _ => laidMetH Tryd.prog Rows.fnExactFormatGraphRow.laid w) false (World.doorLaid Tryd.prog 4000 os) #[.agg #[.slice none 0 0], .slice none 0 0] 8 rfl (World.shaped_of_RefB (by kernel_rfl) (by kernel_rfl)) (by kernel_rfl) (by kernel_rfl) (by kernel_rfl) (door_met os _)) ?_
 intro W base args ds gs before hval0 hW _ _ hL _
 have hval : ∀ (j : Nat) t v, Tryd.f3.params[j]? = some t → args[j]? = some v → Value.okWide Tryd.prog W .any base t v := hval0
 have hW' := hW
 obtain ⟨p, q, hA0, hV, rfl, hfz, hnd⟩ := hW
 have hA : DataW.TrodAll enc Tryd.prog W 0 (fun _ => true) true Tryd.f3.params.toList args.toList ds p := hA0
 rw [Tryd.params3] at hA hval
 obtain ⟨v0, vs0, d0, ds0, p0, q0, hargs, rfl, rfl, h0, r0⟩ := trodAll_cons hA
 obtain ⟨v1, vs1, d1, ds1, p1, q1, rfl, rfl, rfl, h1, r1⟩ := trodAll_cons r0
 obtain ⟨rfl, rfl, rfl⟩ := trodAll_nil r1
 obtain rfl : args = #[v0, v1] := by cases args; simp_all
 obtain ⟨gv, tv, cv, fv, dv, pv, rfl, hgv, htv, hvv, hdv, rfl⟩ := trodVars_one hV
 have lt0 : ∀ x ∈ p0, x.block < W.heap.size := by obtain ⟨m, hm⟩ := h0; exact DataW.trod_lt m _ _ _ hm
 obtain ⟨A0, c0, g0, rfl, w0⟩ := arg_graph (hval 0 24 v0 rfl rfl) h0
 have lt1 : ∀ x ∈ p1, x.block < W.heap.size := by obtain ⟨m, hm⟩ := h1; exact DataW.trod_lt m _ _ _ hm
 obtain ⟨A1, c1, l1, rfl, w1⟩ := arg_ints (hval 1 25 v1 rfl rfl) h1
 have ltv : ∀ x ∈ pv, x.block < W.heap.size := DataW.trod_lt fv _ _ _ hdv
 obtain rfl := Option.some.inj (gWords.symm.trans hgv)
 obtain rfl := Option.some.inj (tWords.symm.trans htv)
 have hcv : ∃ a n c, cv = #[.slice a n c] := by
  rcases DataW.trod_slice Tryd.underlying71 hdv with ⟨hc, _⟩ | ⟨a, len, cap, _, _, _, _, hc, _⟩
  ·exact ⟨none, 0, 0, Array.eq_one_of_toList hc⟩
  ·exact ⟨some a, len, cap, Array.eq_one_of_toList hc⟩
 obtain ⟨av, nv, kv, rfl⟩ := hcv
 have hG : Gl W := gl_of_laid hL (by kernel_rfl) (by simp [Rows.fnExactFormatGraphRow]) (by simp [Rows.fnExactFormatGraphRow])
 clear hA0 hval0
 refine (ex_FnExactFormatGraph _ _ _ _ _ _ W hG w0 w1).mono fun e W' ⟨he, bel⟩ => ?_
 subst he
 have hTv : DataW.Trod enc Tryd.prog W 0 (fun _ => true) true 71 (.slice av nv kv) dv pv := ⟨fv, hdv⟩
 obtain ⟨fv', hdv'⟩ := Below.trod laidOut (by kernel_rfl) (of_decide_eq_true (by kernel_rfl)) hTv bel ltv
 exact ⟨_, rfl, _, _, _, [], _, _, hW', trodAll_mk1 (shut_bool Tryd.underlying4 _), (trodAll_cons_mk (Below.trod laidOut (by kernel_rfl) (of_decide_eq_true (by kernel_rfl)) h0 bel lt0) (trodAll_cons_mk (Below.trod laidOut (by kernel_rfl) (of_decide_eq_true (by kernel_rfl)) h1 bel lt1) trodAll_mk0)),
  trodVars_mk1 gWords tWords (var_ext bel hvv) hdv', bel.frame _, fun h => by cases h⟩

theorem over : Rows.FnExactFormatGraphSaid :=
 OpenClaim.holds_of_wide 3 Tryd.f3 rfl rfl rfl rfl rfl rfl rfl ⟨rfl, rfl, rfl, rfl, rfl⟩ rfl rfl rfl rfl rfl (by kernel_rfl) Tryd.func3 closed
  (of_decide_eq_true (by kernel_rfl)) (by unfold Func.isWrapper; first | (rw [if_pos (by decide +kernel)]; kernel_rfl) | (rw [if_neg (by decide +kernel)]; exact ⟨rfl, rfl⟩))
  (fun os started H enc _ => lifted os started H enc)

/-- the statement -/
theorem proved : Rows.FnExactFormatGraphCardSaid :=
 Claim7.holds_tied_plain_at .later [] [.data, .data, .data, .widerDeep] true (true, "07cf1c7ab0dd8d555c7dd6b7ff3649695b7436dbff433a3e914f001e0cf74113") true
  over (fun _ h => by cases h) (by kernel_rfl) (fun _ h => by cases h) fnExactFormatGraph_row_tie rfl ⟨rfl, rfl⟩ (by kernel_rfl) rfl
  (fun f fn hf hfn => by
   obtain rfl : f = 3 := Option.some.inj ((show Tryd.prog.funcNamed "loop.example/signalgraph/laws.FnExactFormatGraph" = some 3 by kernel_rfl).symm.trans hf) |>.symm
   obtain rfl : fn = Tryd.f3 := (Option.some.inj (Tryd.func3.symm.trans hfn)).symm
   exact ⟨by kernel_rfl, fun j t ht => by
    rw [Tryd.params3] at ht
    have h3 : t = 24 ∨ t = 25 := by
     rcases j with _ | _ | j
     ·exact .inl (by simpa using ht.symm)
     ·exact .inr (by simpa using ht.symm)
     ·simp at ht
    rcases h3 with rfl | rfl
    ·exact (show Tryd.prog.wantsStandIn 24 = false by kernel_rfl)
    ·exact (show Tryd.prog.wantsStandIn 25 = false by kernel_rfl)⟩)
  (by kernel_rfl)
#print axioms proved
end Go.Proofs.YtdnlpklmihoapaaDoor.fnExactFormatGraphDone
