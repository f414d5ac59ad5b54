/- Parts of one proof, joined. Closed facts of a row. FnParseGraph: for every input the law returns true, and the argument and the words read as before; the card. Conditions: none. -/
import Derived.Test.YtdnlpklmihoapaaGreatDoorOpenAll
import Derived.Test.YtdnlpklmihoapaaGreatDoorRows
import Derived.JoinedOf
import Derived.ProofKit
import Derived.Test.YtdnlpklmihoapaaGreatDoorCards
import Derived.Test.YtdnlpklmihoapaaGreatDoorTie
import Derived.Test.YtdnlpklmihoapaaGreatDoorLawQG
import Derived.Test.YtdnlpklmihoapaaGreatDoorTxVX
import Derived.WalkKit
import Derived.OpenShut
import Derived.ShutString
import Derived.ChangeVars
import Derived.Below
import Derived.Stop.Joined
import Derived.SevenTiedAt
import Derived.Lay
/- Closed facts of a row. -/
namespace Go.Proofs.YtdnlpklmihoapaaGreatDoor.fnParseGraphDone
open Go.ChangeShapes Go.WideShapes Go.ChangeAt Go.RowKit
theorem c1 : (Rows.fnParseGraphRow.wf (OpenSpec.ofChange Rows.fnParseGraphSpec)) = true := by kernel_rfl
theorem c2 : (laidOutB Tryz.prog) = true := p2
theorem c3 : (mapsRowed Tryz.prog) = true := p3
theorem c4 : (Tryz.f4.params.all (Tryz.prog.readableRec ·)) = true := by kernel_rfl
theorem c5 : (namedTie Tryz.prog Rows.fnParseGraphRow.named Rows.fnParseGraphSpec.vars) = true := by kernel_rfl
theorem c6 : ((Rows.fnParseGraphRow.stops == [])) = true := by kernel_rfl
theorem c7 : ((Tryz.prog.stops == [])) = true := p7
theorem c8 : ((Rows.fnParseGraphRow.knobs == [])) = true := by kernel_rfl
theorem c9 : ((Tryz.prog.stopKnobs == [])) = true := p9
theorem c10 : ((Rows.fnParseGraphRow.inPlace == Tryz.prog.inPlace 4)) = true := by kernel_rfl
theorem c11 : ((Rows.fnParseGraphRow.unfollowed == Tryz.prog.unfollowed 4)) = true := by kernel_rfl
theorem c12 : ((Rows.fnParseGraphRow.recurses == Tryz.prog.recurses 4)) = true := by kernel_rfl
theorem c13 : ((Rows.fnParseGraphRow.named == Tryz.prog.varsNamed 4)) = true := by kernel_rfl
theorem c14 : ((Rows.fnParseGraphRow.maps == (Tryz.f4.params.toList ++ Rows.fnParseGraphSpec.plain.varTypes Tryz.prog).any (Tryz.prog.mapsRec ·))) = true := by kernel_rfl
theorem c15 : ((Rows.fnParseGraphRow.ifaces == (Tryz.f4.params.toList ++ Rows.fnParseGraphSpec.plain.varTypes Tryz.prog).any (Tryz.prog.ifacesRec ·))) = true := by kernel_rfl
theorem c16 : ((Rows.fnParseGraphRow.mapsOut == Tryz.prog.mapsAmong Tryz.f4.resultTypes.toList)) = true := by kernel_rfl
theorem c17 : ((Rows.fnParseGraphRow.loops == (Tryz.f4.params.toList ++ Rows.fnParseGraphSpec.plain.varTypes Tryz.prog).any (Tryz.prog.loopsFrom ·))) = true := by kernel_rfl
theorem c18 : ((Rows.fnParseGraphRow.wideKeys == (Tryz.f4.params.toList ++ Rows.fnParseGraphSpec.plain.varTypes Tryz.prog ++ Tryz.f4.resultTypes.toList).any (Tryz.prog.wideKeysFrom ·))) = true := by kernel_rfl
theorem c19 : (Rows.fnParseGraphSpec.vars.all (Tryz.prog.varReadable ·)) = true := by kernel_rfl
theorem c20 : (Tryz.f4.resultTypes.all (fun t => Tryz.prog.readableRec t && decide (t < Tryz.prog.types.size))) = true := by kernel_rfl
theorem c21 : ((Rows.fnParseGraphRow.ifacesOut == Tryz.f4.resultTypes.toList.any (Tryz.prog.ifacesRec ·))) = true := by kernel_rfl
theorem c22 : ((Rows.fnParseGraphRow.loopsOut == Tryz.f4.resultTypes.toList.any (Tryz.prog.loopsFrom ·))) = true := by kernel_rfl
theorem c23 : ((Rows.fnParseGraphRow.plainKeys == Tryz.prog.plainKeys)) = true := p23
theorem c24 : (Rows.fnParseGraphRow.shortTexts.isNone) = true := by kernel_rfl
theorem c25 : (Tryz.prog.stopsHeard) = true := p25
theorem c26 : (Tryz.prog.mayEnter) = true := p26
theorem c27 : ((Rows.fnParseGraphRow.lifted == Tryz.prog.liftsFinal)) = true := p27
theorem c28 : ((Tryz.prog.make == some Rows.fnParseGraphRow.make)) = true := p28
theorem c29 : ((Rows.fnParseGraphRow.kinds == (if Rows.fnParseGraphRow.domain.isEmpty then [] else Tryz.f4.params.toList.map fun t => match Tryz.prog.underlying t with | some (.int k) => some k | _ => none))) = true := by kernel_rfl
theorem c30 : ((Rows.fnParseGraphRow.pinned == Rows.fnParseGraphRow.pinnedBy)) = true := by kernel_rfl
theorem c31 : ((Rows.fnParseGraphRow.veiled == (Tryz.f4.params.toList ++ Rows.fnParseGraphSpec.plain.varTypes Tryz.prog ++ Tryz.f4.resultTypes.toList).any (Tryz.prog.veiledRec ·))) = true := by kernel_rfl
theorem c32 : (Rows.fnParseGraphRow.veiledFits Tryz.prog Tryz.f4.params.toList (Tryz.f4.params.toList ++ Rows.fnParseGraphSpec.plain.varTypes Tryz.prog ++ Tryz.f4.resultTypes.toList)) = true := by kernel_rfl
theorem and2 {a b : Bool} (h : a = true) (k : b = true) : (a && b) = true := by rw [h, k]; rfl
set_option maxRecDepth 100000 in
theorem closed : joinedFacts Tryz.prog 4 Tryz.f4 Rows.fnParseGraphSpec Rows.fnParseGraphRow = true := (and2 (and2 (and2 (and2 (and2 (and2 (and2 (and2 (and2 (and2 (and2 (and2 (and2 (and2 (and2 (and2 (and2 (and2 (and2 (and2 (and2 (and2 (and2 (and2 (and2 (and2 (and2 (and2 (and2 (and2 (and2 c1 c2) c3) c4) c5) c6) c7) c8) c9) c10) c11) c12) c13) c14) c15) c16) c17) c18) c19) c20) c21) c22) c23) c24) c25) c26) c27) c28) c29) c30) c31) c32)
end Go.Proofs.YtdnlpklmihoapaaGreatDoor.fnParseGraphDone

/- FnParseGraph: for every input the law returns true, and the argument and the words read as before; the card. Conditions: none. -/
namespace Go.Proofs.YtdnlpklmihoapaaGreatDoor.fnParseGraphDone
open Go.ChangeShapes Go.WideShapes Go.ChangeAt Go.RowKit

theorem own : ownKnob Tryz.prog.godebug = none := by kernel_rfl
theorem laidOut : laidOutB Tryz.prog = true := by kernel_rfl

set_option maxRecDepth 100000 in
theorem lifted (os : Os) (started : os.Started) (H : Type) (enc : TypeId × Value → H) :
  ReturnsInHanded {} Tryz.checked os 4 .any (fun w args => (Rows.fnParseGraphSpec.pre enc Tryz.prog Tryz.f4 [] false w args ∧ laidMetH Tryz.prog Rows.fnParseGraphRow.laid w) ∧ sizedMet enc Tryz.prog Tryz.f4 (OpenSpec.ofChange Rows.fnParseGraphSpec) false w args)
   (Rows.fnParseGraphSpec.post enc Tryz.prog Tryz.f4 false true false false) := by
 refine returnsInHanded_of_calls own started (by kernel_rfl)
  (ChangeSpec.witness_shaped (enc := enc) (C := Tryz.checked) (os := os) (X := fun w _ => laidMetH Tryz.prog Rows.fnParseGraphRow.laid w) false (World.laidAll Tryz.prog os Rows.fnParseGraphRow.laid) #[.slice none 0 0] 8 (World.laidAll_os _ _ _)
   (World.shaped_of_ZipB (by kernel_rfl) (by kernel_rfl)) (by kernel_rfl) (by kernel_rfl) (by kernel_rfl)
   (by rw [MakeChecks.laidMetH_plain _ _ _ (by kernel_rfl)]; exact laidMet_laidAll _ (by kernel_rfl) (by kernel_rfl))) ?_
 intro w tape i _ hsh _ hok hpre _
 obtain ⟨_, _, _, fn', hfn', _, _, _, _, hval0⟩ := hok
 obtain rfl : fn' = Tryz.f4 := Option.some.inj (hfn'.symm.trans Tryz.func4)
 obtain ⟨⟨⟨ds, gs, before, hw, _⟩, hx⟩, _⟩ := hpre
 have hW := DataW.Whole.of_heap (w' := w.forCall tape i) (by rfl) hw
 have hL : laidMetH Tryz.prog Rows.fnParseGraphRow.laid (w.forCall tape i) := hx.of_heap (by rfl)
 suffices key : Calls Tryz.prog 4 i.args (w.forCall tape i) fun e W' => ∃ v, e = .returned v ∧ Rows.fnParseGraphSpec.post enc Tryz.prog Tryz.f4 false true false false (w.forCall tape i) i.args v W' by
  refine key.mono fun e W' ⟨v, he, hp⟩ => ?_
  subst he
  exact ChangeSpec.post_blind hp
 clear hw hx
 generalize hB : w.heap.size = base at hval0
 generalize w.forCall tape i = W at *
 generalize i.args = args at *
 have hval : ∀ (j : Nat) t v, Tryz.f4.params[j]? = some t → args[j]? = some v → Value.okWide Tryz.prog W .any base t v := hval0
 have hW' := hW
 obtain ⟨p, q, hA0, hV, rfl, hfz, hnd⟩ := hW
 have hA : DataW.TrodAll enc Tryz.prog W 0 (fun _ => true) true Tryz.f4.params.toList args.toList ds p := hA0
 rw [Tryz.params4] at hA hval
 obtain ⟨v0, vs0, d0, ds0, p0, q0, hargs, rfl, rfl, h0, r0⟩ := trodAll_cons hA
 obtain ⟨rfl, rfl, rfl⟩ := trodAll_nil r0
 obtain rfl : args = #[v0] := by cases args; simp_all
 obtain ⟨gv, tv, cv, fv, dv, pv, rfl, hgv, htv, hvv, hdv, rfl⟩ := trodVars_one hV
 have lt0 : ∀ x ∈ p0, x.block < W.heap.size := by obtain ⟨m, hm⟩ := h0; exact DataW.trod_lt m _ _ _ hm
 obtain ⟨A0, c0, l0, rfl, w0, hr0, hc0, hm0⟩ := arg_bytes (hval 0 33 v0 rfl rfl) h0
 have ltv : ∀ x ∈ pv, x.block < W.heap.size := DataW.trod_lt fv _ _ _ hdv
 obtain rfl := Option.some.inj (gWords.symm.trans hgv)
 obtain rfl := Option.some.inj (tWords.symm.trans htv)
 have hcv : ∃ a n c, cv = #[.slice a n c] := by
  rcases DataW.trod_slice Tryz.underlying45 hdv with ⟨hc, _⟩ | ⟨a, len, cap, _, _, _, _, hc, _⟩
  ·exact ⟨none, 0, 0, Array.eq_one_of_toList hc⟩
  ·exact ⟨some a, len, cap, Array.eq_one_of_toList hc⟩
 obtain ⟨av, nv, kv, rfl⟩ := hcv
 have hG : Ge W := ge_of_laid hL (by kernel_rfl) (by simp [Rows.fnParseGraphRow]) (by simp [Rows.fnParseGraphRow]) (by simp [Rows.fnParseGraphRow]) (by simp [Rows.fnParseGraphRow]) hsh
 clear hA0 hval0
 refine (ex_FnParseGraph _ _ _ _ hG w0 hr0 hc0 hm0).mono fun e W' ⟨he, bel⟩ => ?_
 subst he
 have hTv : DataW.Trod enc Tryz.prog W 0 (fun _ => true) true 45 (.slice av nv kv) dv pv := ⟨fv, hdv⟩
 obtain ⟨fv', hdv'⟩ := Below.trod laidOut (by kernel_rfl) (of_decide_eq_true (by kernel_rfl)) hTv bel ltv
 exact ⟨_, rfl, _, _, _, [], _, _, hW', trodAll_mk1 (shut_bool Tryz.underlying4 _), (trodAll_cons_mk (Below.trod laidOut (by kernel_rfl) (of_decide_eq_true (by kernel_rfl)) h0 bel lt0) trodAll_mk0),
  trodVars_mk1 gWords tWords (var_ext bel hvv) hdv', bel.frame _, fun h => by cases h⟩

theorem over : Rows.FnParseGraphSaid :=
 OpenClaim.holds_of_wide 4 Tryz.f4 rfl rfl rfl rfl rfl rfl rfl ⟨rfl, rfl, rfl, rfl, rfl⟩ rfl rfl rfl rfl rfl (by kernel_rfl) Tryz.func4 closed
  (of_decide_eq_true (by kernel_rfl)) (by unfold Func.isWrapper; first | (rw [if_pos (by decide +kernel)]; kernel_rfl) | (rw [if_neg (by decide +kernel)]; exact ⟨rfl, rfl⟩))
  (fun os started H enc _ => lifted os started H enc)

/-- the statement -/
theorem proved : Rows.FnParseGraphCardSaid :=
 Claim7.holds_tied_plain_at .later [] [.data, .data, .data, .data, .sentinel, .sentinel, .widerDeep, .pinned] true (true, "20db880cfefb2b8f46cd7be1fd6904bbac53c203e1cdb6299f66ee8ba53179ed") true
  over (fun _ h => by cases h) (by kernel_rfl) (fun _ h => by cases h) fnParseGraph_row_tie rfl ⟨rfl, rfl⟩ (by kernel_rfl) rfl
  (fun f fn hf hfn => by
   obtain rfl : f = 4 := Option.some.inj ((show Tryz.prog.funcNamed "loop.example/signalgraph/laws.FnParseGraph" = some 4 by kernel_rfl).symm.trans hf) |>.symm
   obtain rfl : fn = Tryz.f4 := (Option.some.inj (Tryz.func4.symm.trans hfn)).symm
   exact ⟨by kernel_rfl, fun j t ht => by
    rw [Tryz.params4] at ht
    have h3 : t = 33 := by
     rcases j with _ | j
     ·simpa using ht.symm
     ·simp at ht
    subst h3
    exact (show Tryz.prog.wantsStandIn 33 = false by kernel_rfl)⟩)
  (by kernel_rfl)
#print axioms proved
end Go.Proofs.YtdnlpklmihoapaaGreatDoor.fnParseGraphDone
