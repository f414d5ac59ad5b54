/- Parts of one proof, joined. Closed facts of a row. FnFormatFormula: for every input the law returns true, and the argument and the words read as before; the card. Conditions: none. -/
import Derived.Test.YtdnlpklmihoapaaDoorOpenAll
import Derived.Test.YtdnlpklmihoapaaDoorRows
import Derived.JoinedOf
import Derived.ProofKit
import Derived.Test.YtdnlpklmihoapaaDoorCards
import Derived.Test.YtdnlpklmihoapaaDoorTie
import Derived.Test.YtdnlpklmihoapaaDoorLawFF
import Derived.Test.YtdnlpklmihoapaaDoorTxVX
import Derived.WalkKit
import Derived.OpenShut
import Derived.ShutString
import Derived.ChangeVars
import Derived.Below
import Derived.Stop.Joined
import Derived.SevenTiedAt
import Derived.Lay
/- Closed facts of a row. -/
namespace Go.Proofs.YtdnlpklmihoapaaDoor.fnFormatFormulaDone
open Go.ChangeShapes Go.WideShapes Go.ChangeAt Go.RowKit
theorem c1 : (Rows.fnFormatFormulaRow.wf (OpenSpec.ofChange Rows.fnFormatFormulaSpec)) = true := by kernel_rfl
theorem c2 : (laidOutB Tryd.prog) = true := p2
theorem c3 : (mapsRowed Tryd.prog) = true := p3
theorem c4 : (Tryd.f4.params.all (Tryd.prog.readableRec ·)) = true := by kernel_rfl
theorem c5 : (namedTie Tryd.prog Rows.fnFormatFormulaRow.named Rows.fnFormatFormulaSpec.vars) = true := by kernel_rfl
theorem c6 : ((Rows.fnFormatFormulaRow.stops == [])) = true := by kernel_rfl
theorem c7 : ((Tryd.prog.stops == [])) = true := p7
theorem c8 : ((Rows.fnFormatFormulaRow.knobs == [])) = true := by kernel_rfl
theorem c9 : ((Tryd.prog.stopKnobs == [])) = true := p9
theorem c10 : ((Rows.fnFormatFormulaRow.inPlace == Tryd.prog.inPlace 4)) = true := by kernel_rfl
theorem c11 : ((Rows.fnFormatFormulaRow.unfollowed == Tryd.prog.unfollowed 4)) = true := by kernel_rfl
theorem c12 : ((Rows.fnFormatFormulaRow.recurses == Tryd.prog.recurses 4)) = true := by kernel_rfl
theorem c13 : ((Rows.fnFormatFormulaRow.named == Tryd.prog.varsNamed 4)) = true := by kernel_rfl
theorem c14 : ((Rows.fnFormatFormulaRow.maps == (Tryd.f4.params.toList ++ Rows.fnFormatFormulaSpec.plain.varTypes Tryd.prog).any (Tryd.prog.mapsRec ·))) = true := by kernel_rfl
theorem c15 : ((Rows.fnFormatFormulaRow.ifaces == (Tryd.f4.params.toList ++ Rows.fnFormatFormulaSpec.plain.varTypes Tryd.prog).any (Tryd.prog.ifacesRec ·))) = true := by kernel_rfl
theorem c16 : ((Rows.fnFormatFormulaRow.mapsOut == Tryd.prog.mapsAmong Tryd.f4.resultTypes.toList)) = true := by kernel_rfl
theorem c17 : ((Rows.fnFormatFormulaRow.loops == (Tryd.f4.params.toList ++ Rows.fnFormatFormulaSpec.plain.varTypes Tryd.prog).any (Tryd.prog.loopsFrom ·))) = true := by kernel_rfl
theorem c18 : ((Rows.fnFormatFormulaRow.wideKeys == (Tryd.f4.params.toList ++ Rows.fnFormatFormulaSpec.plain.varTypes Tryd.prog ++ Tryd.f4.resultTypes.toList).any (Tryd.prog.wideKeysFrom ·))) = true := by kernel_rfl
theorem c19 : (Rows.fnFormatFormulaSpec.vars.all (Tryd.prog.varReadable ·)) = true := by kernel_rfl
theorem c20 : (Tryd.f4.resultTypes.all (fun t => Tryd.prog.readableRec t && decide (t < Tryd.prog.types.size))) = true := by kernel_rfl
theorem c21 : ((Rows.fnFormatFormulaRow.ifacesOut == Tryd.f4.resultTypes.toList.any (Tryd.prog.ifacesRec ·))) = true := by kernel_rfl
theorem c22 : ((Rows.fnFormatFormulaRow.loopsOut == Tryd.f4.resultTypes.toList.any (Tryd.prog.loopsFrom ·))) = true := by kernel_rfl
theorem c23 : ((Rows.fnFormatFormulaRow.plainKeys == Tryd.prog.plainKeys)) = true := p23
theorem c24 : (Rows.fnFormatFormulaRow.shortTexts.isNone) = true := by kernel_rfl
theorem c25 : (Tryd.prog.stopsHeard) = true := p25
theorem c26 : (Tryd.prog.mayEnter) = true := p26
theorem c27 : ((Rows.fnFormatFormulaRow.lifted == Tryd.prog.liftsFinal)) = true := p27
theorem c28 : ((Tryd.prog.make == some Rows.fnFormatFormulaRow.make)) = true := p28
theorem c29 : ((Rows.fnFormatFormulaRow.kinds == (if Rows.fnFormatFormulaRow.domain.isEmpty then [] else Tryd.f4.params.toList.map fun t => match Tryd.prog.underlying t with | some (.int k) => some k | _ => none))) = true := by kernel_rfl
theorem c30 : ((Rows.fnFormatFormulaRow.pinned == Rows.fnFormatFormulaRow.pinnedBy)) = true := by kernel_rfl
theorem c31 : ((Rows.fnFormatFormulaRow.veiled == (Tryd.f4.params.toList ++ Rows.fnFormatFormulaSpec.plain.varTypes Tryd.prog ++ Tryd.f4.resultTypes.toList).any (Tryd.prog.veiledRec ·))) = true := by kernel_rfl
theorem c32 : (Rows.fnFormatFormulaRow.veiledFits Tryd.prog Tryd.f4.params.toList (Tryd.f4.params.toList ++ Rows.fnFormatFormulaSpec.plain.varTypes Tryd.prog ++ Tryd.f4.resultTypes.toList)) = true := by kernel_rfl
theorem and2 {a b : Bool} (h : a = true) (k : b = true) : (a && b) = true := by rw [h, k]; rfl
set_option maxRecDepth 100000 in
theorem closed : joinedFacts Tryd.prog 4 Tryd.f4 Rows.fnFormatFormulaSpec Rows.fnFormatFormulaRow = true := (and2 (and2 (and2 (and2 (and2 (and2 (and2 (and2 (and2 (and2 (and2 (and2 (and2 (and2 (and2 (and2 (and2 (and2 (and2 (and2 (and2 (and2 (and2 (and2 (and2 (and2 (and2 (and2 (and2 (and2 (and2 c1 c2) c3) c4) c5) c6) c7) c8) c9) c10) c11) c12) c13) c14) c15) c16) c17) c18) c19) c20) c21) c22) c23) c24) c25) c26) c27) c28) c29) c30) c31) c32)
end Go.Proofs.YtdnlpklmihoapaaDoor.fnFormatFormulaDone

/- FnFormatFormula: for every input the law returns true, and the argument and the words read as before; the card. Conditions: none. -/
namespace Go.Proofs.YtdnlpklmihoapaaDoor.fnFormatFormulaDone
open Go.ChangeShapes Go.WideShapes Go.ChangeAt Go.RowKit

theorem own : ownKnob Tryd.prog.godebug = none := by kernel_rfl
theorem laidOut : laidOutB Tryd.prog = true := by kernel_rfl

set_option maxRecDepth 100000 in
theorem lifted (os : Os) (started : os.Started) (H : Type) (enc : TypeId × Value → H) :
  ReturnsInHanded {} Tryd.checked os 4 .any (fun w args => (Rows.fnFormatFormulaSpec.pre enc Tryd.prog Tryd.f4 [] false w args ∧ laidMetH Tryd.prog Rows.fnFormatFormulaRow.laid w) ∧ sizedMet enc Tryd.prog Tryd.f4 (OpenSpec.ofChange Rows.fnFormatFormulaSpec) false w args)
   (Rows.fnFormatFormulaSpec.post enc Tryd.prog Tryd.f4 false true false false) := by
 refine returnsInHanded_of_calls own started (by kernel_rfl)
  (ChangeSpec.witness_shaped (enc := enc) (C := Tryd.checked) (os := os) (X := fun w _ => laidMetH Tryd.prog Rows.fnFormatFormulaRow.laid w) false (World.laidAll Tryd.prog os Rows.fnFormatFormulaRow.laid) #[.slice none 0 0] 8 (World.laidAll_os _ _ _)
   (World.shaped_of_ZipB (by kernel_rfl) (by kernel_rfl)) (by kernel_rfl) (by kernel_rfl) (by kernel_rfl)
   (by rw [MakeChecks.laidMetH_plain _ _ _ (by kernel_rfl)]; exact laidMet_laidAll _ (by kernel_rfl) (by kernel_rfl))) ?_
 intro w tape i _ hsh _ hok hpre _
 obtain ⟨_, _, _, fn', hfn', _, _, _, _, hval0⟩ := hok
 obtain rfl : fn' = Tryd.f4 := Option.some.inj (hfn'.symm.trans Tryd.func4)
 obtain ⟨⟨⟨ds, gs, before, hw, _⟩, hx⟩, _⟩ := hpre
 have hW := DataW.Whole.of_heap (w' := w.forCall tape i) (by rfl) hw
 have hL : laidMetH Tryd.prog Rows.fnFormatFormulaRow.laid (w.forCall tape i) := hx.of_heap (by rfl)
 suffices key : Calls Tryd.prog 4 i.args (w.forCall tape i) fun e W' => ∃ v, e = .returned v ∧ Rows.fnFormatFormulaSpec.post enc Tryd.prog Tryd.f4 false true false false (w.forCall tape i) i.args v W' by
  refine key.mono fun e W' ⟨v, he, hp⟩ => ?_
  subst he
  exact ChangeSpec.post_blind hp
 clear hw hx
 generalize hB : w.heap.size = base at hval0
 generalize w.forCall tape i = W at *
 generalize i.args = args at *
 have hval : ∀ (j : Nat) t v, Tryd.f4.params[j]? = some t → args[j]? = some v → Value.okWide Tryd.prog W .any base t v := hval0
 have hW' := hW
 obtain ⟨p, q, hA0, hV, rfl, hfz, hnd⟩ := hW
 have hA : DataW.TrodAll enc Tryd.prog W 0 (fun _ => true) true Tryd.f4.params.toList args.toList ds p := hA0
 rw [Tryd.params4] at hA hval
 obtain ⟨v0, vs0, d0, ds0, p0, q0, hargs, rfl, rfl, h0, r0⟩ := trodAll_cons hA
 obtain ⟨rfl, rfl, rfl⟩ := trodAll_nil r0
 obtain rfl : args = #[v0] := by cases args; simp_all
 obtain ⟨gv, tv, cv, fv, dv, pv, rfl, hgv, htv, hvv, hdv, rfl⟩ := trodVars_one hV
 have lt0 : ∀ x ∈ p0, x.block < W.heap.size := by obtain ⟨m, hm⟩ := h0; exact DataW.trod_lt m _ _ _ hm
 obtain ⟨A0, c0, l0, rfl, w0, hr0, hc0, hm0⟩ := arg_bytes (hval 0 36 v0 rfl rfl) h0
 have ltv : ∀ x ∈ pv, x.block < W.heap.size := DataW.trod_lt fv _ _ _ hdv
 obtain rfl := Option.some.inj (gWords.symm.trans hgv)
 obtain rfl := Option.some.inj (tWords.symm.trans htv)
 have hcv : ∃ a n c, cv = #[.slice a n c] := by
  rcases DataW.trod_slice Tryd.underlying71 hdv with ⟨hc, _⟩ | ⟨a, len, cap, _, _, _, _, hc, _⟩
  ·exact ⟨none, 0, 0, Array.eq_one_of_toList hc⟩
  ·exact ⟨some a, len, cap, Array.eq_one_of_toList hc⟩
 obtain ⟨av, nv, kv, rfl⟩ := hcv
 have hG : Ge W := ge_of_laid hL (by kernel_rfl) (by simp [Rows.fnFormatFormulaRow]) (by simp [Rows.fnFormatFormulaRow]) (by simp [Rows.fnFormatFormulaRow]) (by simp [Rows.fnFormatFormulaRow]) hsh
 clear hA0 hval0
 refine (ex_FnFormatFormula _ _ _ _ hG w0 hr0 hc0 hm0).mono fun e W' ⟨he, bel⟩ => ?_
 subst he
 have hTv : DataW.Trod enc Tryd.prog W 0 (fun _ => true) true 71 (.slice av nv kv) dv pv := ⟨fv, hdv⟩
 obtain ⟨fv', hdv'⟩ := Below.trod laidOut (by kernel_rfl) (of_decide_eq_true (by kernel_rfl)) hTv bel ltv
 exact ⟨_, rfl, _, _, _, [], _, _, hW', trodAll_mk1 (shut_bool Tryd.underlying4 _), (trodAll_cons_mk (Below.trod laidOut (by kernel_rfl) (of_decide_eq_true (by kernel_rfl)) h0 bel lt0) trodAll_mk0),
  trodVars_mk1 gWords tWords (var_ext bel hvv) hdv', bel.frame _, fun h => by cases h⟩

theorem over : Rows.FnFormatFormulaSaid :=
 OpenClaim.holds_of_wide 4 Tryd.f4 rfl rfl rfl rfl rfl rfl rfl ⟨rfl, rfl, rfl, rfl, rfl⟩ rfl rfl rfl rfl rfl (by kernel_rfl) Tryd.func4 closed
  (of_decide_eq_true (by kernel_rfl)) (by unfold Func.isWrapper; first | (rw [if_pos (by decide +kernel)]; kernel_rfl) | (rw [if_neg (by decide +kernel)]; exact ⟨rfl, rfl⟩))
  (fun os started H enc _ => lifted os started H enc)

/-- the statement -/
theorem proved : Rows.FnFormatFormulaCardSaid :=
 Claim7.holds_tied_plain_at .later [] [.data, .data, .data, .data, .sentinel, .sentinel, .widerDeep, .pinned] true (true, "07cf1c7ab0dd8d555c7dd6b7ff3649695b7436dbff433a3e914f001e0cf74113") true
  over (fun _ h => by cases h) (by kernel_rfl) (fun _ h => by cases h) fnFormatFormula_row_tie rfl ⟨rfl, rfl⟩ (by kernel_rfl) rfl
  (fun f fn hf hfn => by
   obtain rfl : f = 4 := Option.some.inj ((show Tryd.prog.funcNamed "loop.example/signalgraph/laws.FnFormatFormula" = some 4 by kernel_rfl).symm.trans hf) |>.symm
   obtain rfl : fn = Tryd.f4 := (Option.some.inj (Tryd.func4.symm.trans hfn)).symm
   exact ⟨by kernel_rfl, fun j t ht => by
    rw [Tryd.params4] at ht
    have h3 : t = 36 := by
     rcases j with _ | j
     ·simpa using ht.symm
     ·simp at ht
    subst h3
    exact (show Tryd.prog.wantsStandIn 36 = false by kernel_rfl)⟩)
  (by kernel_rfl)
#print axioms proved
end Go.Proofs.YtdnlpklmihoapaaDoor.fnFormatFormulaDone
