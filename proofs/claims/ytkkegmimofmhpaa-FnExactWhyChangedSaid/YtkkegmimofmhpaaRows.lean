/-
  No cell of these rows narrows 'for every input' (looked for: loops, veiled, ifaces, maps, wideKeys, modest, calm, conditions, laid).
  DERIVED. THE GIVEN ROWS OF THIS SEAT. 11 by the template 'for every input the law returns true; each argument reads behind the call as it read before'; 0 by the template 'total and deterministic' (their statements: YtkkegmimofmhpaaTotals.lean).
  GIVEN WITH THE SEED: the statements are not yours to turn. If you find one false, say at which input.
  Laid BY PROGRAM, IN A SANDBOX (cutbox-rows.mjs): the forced cells as the released guide's own fill.sh prints them over the translation 363610332d5187ff… (all of the seat's roots in one cut). By AI agents, Wed Nov 11 2026. No macro, syntax, notation, axiom, sorry.
-/
import Derived.Test.YtkkegmimofmhpaaChecked
import GoSem.Claim
import GoSem.ClaimJoined
import GoSem.ClaimMapViews
import Derived.JoinedTies
import Derived.KernelRfl
namespace Go.Proofs.Ytkkegmimofmhpaa
/- THE CELL 'sum', in the pinned program and in every row, IS THE sha256 OF THE DUMP (.gsa) THAT YtkkegmimofmhpaaProg.lean LOADS. Nothing in Lean hashes anything: it is a label: what it is worth is what the hold of that sum in a sandbox is worth. -/
noncomputable def Try.pinned : Pinned := { name := "ytkkegmimofmhpaa", sum := "363610332d5187ffdfb5bb5dc6f927e216f4cb2673549606d4f37f6a40c487f2", checked := Try.checked }
namespace Rows
def none {H : Type} : Left H := { results := [], args := [] }

/-- 'laws.FnStartEager': WHATEVER THE INPUT: true; the input reads as it did. -/
def fnStartEagerSpec : ChangeSpec := { name := "fnStartEager", fn := fun _ => fun
  | [d] => { results := [.lit (.bool true)], args := [d] }
  | _ => none }
def fnStartEagerRow : OpenClaim := { program := "ytkkegmimofmhpaa", sum := "363610332d5187ffdfb5bb5dc6f927e216f4cb2673549606d4f37f6a40c487f2", func := "loop.example/signalgraph/laws.FnStartEager", spec := "fnStartEager", unfollowed := true, recurses := true, apart := false }
def FnStartEagerSaid : Prop := fnStartEagerRow.holds Try.pinned (OpenSpec.ofChange fnStartEagerSpec)

/-- ITS FALSE NEIGHBOUR: 'it returns false'. Refute it at one input. -/
def fnStartEagerWrong : ChangeSpec := { name := "fnStartEager", fn := fun _ => fun
  | [d] => { results := [.lit (.bool false)], args := [d] }
  | _ => none }
def FnStartEagerWrongFalsely : Prop := fnStartEagerRow.holds Try.pinned (OpenSpec.ofChange fnStartEagerWrong)

/-- 'laws.FnExactValidEager': WHATEVER THE INPUT: true; the input reads as it did. -/
def fnExactValidEagerSpec : ChangeSpec := { name := "fnExactValidEager", fn := fun _ => fun
  | [d1, d2] => { results := [.lit (.bool true)], args := [d1, d2] }
  | _ => none }
def fnExactValidEagerRow : OpenClaim := { program := "ytkkegmimofmhpaa", sum := "363610332d5187ffdfb5bb5dc6f927e216f4cb2673549606d4f37f6a40c487f2", func := "loop.example/signalgraph/laws.FnExactValidEager", spec := "fnExactValidEager", unfollowed := true, recurses := true, apart := false }
def FnExactValidEagerSaid : Prop := fnExactValidEagerRow.holds Try.pinned (OpenSpec.ofChange fnExactValidEagerSpec)

/-- ITS FALSE NEIGHBOUR: 'it returns false'. Refute it at one input. -/
def fnExactValidEagerWrong : ChangeSpec := { name := "fnExactValidEager", fn := fun _ => fun
  | [d1, d2] => { results := [.lit (.bool false)], args := [d1, d2] }
  | _ => none }
def FnExactValidEagerWrongFalsely : Prop := fnExactValidEagerRow.holds Try.pinned (OpenSpec.ofChange fnExactValidEagerWrong)

/-- 'laws.FnMoveHistory': WHATEVER THE INPUT: true; the input reads as it did. -/
def fnMoveHistorySpec : ChangeSpec := { name := "fnMoveHistory", fn := fun _ => fun
  | [d] => { results := [.lit (.bool true)], args := [d] }
  | _ => none }
def fnMoveHistoryRow : OpenClaim := { program := "ytkkegmimofmhpaa", sum := "363610332d5187ffdfb5bb5dc6f927e216f4cb2673549606d4f37f6a40c487f2", func := "loop.example/signalgraph/laws.FnMoveHistory", spec := "fnMoveHistory", unfollowed := true, recurses := true, apart := false }
def FnMoveHistorySaid : Prop := fnMoveHistoryRow.holds Try.pinned (OpenSpec.ofChange fnMoveHistorySpec)

/-- ITS FALSE NEIGHBOUR: 'it returns false'. Refute it at one input. -/
def fnMoveHistoryWrong : ChangeSpec := { name := "fnMoveHistory", fn := fun _ => fun
  | [d] => { results := [.lit (.bool false)], args := [d] }
  | _ => none }
def FnMoveHistoryWrongFalsely : Prop := fnMoveHistoryRow.holds Try.pinned (OpenSpec.ofChange fnMoveHistoryWrong)

/-- 'laws.FnExactMustRun': WHATEVER THE INPUT: true; the input reads as it did. -/
def fnExactMustRunSpec : ChangeSpec := { name := "fnExactMustRun", fn := fun _ => fun
  | [d1, d2, d3] => { results := [.lit (.bool true)], args := [d1, d2, d3] }
  | _ => none }
def fnExactMustRunRow : OpenClaim := { program := "ytkkegmimofmhpaa", sum := "363610332d5187ffdfb5bb5dc6f927e216f4cb2673549606d4f37f6a40c487f2", func := "loop.example/signalgraph/laws.FnExactMustRun", spec := "fnExactMustRun", unfollowed := true, recurses := true, apart := false }
def FnExactMustRunSaid : Prop := fnExactMustRunRow.holds Try.pinned (OpenSpec.ofChange fnExactMustRunSpec)

/-- ITS FALSE NEIGHBOUR: 'it returns false'. Refute it at one input. -/
def fnExactMustRunWrong : ChangeSpec := { name := "fnExactMustRun", fn := fun _ => fun
  | [d1, d2, d3] => { results := [.lit (.bool false)], args := [d1, d2, d3] }
  | _ => none }
def FnExactMustRunWrongFalsely : Prop := fnExactMustRunRow.holds Try.pinned (OpenSpec.ofChange fnExactMustRunWrong)

/-- 'laws.FnExactStartEager': WHATEVER THE INPUT: true; the input reads as it did. -/
def fnExactStartEagerSpec : ChangeSpec := { name := "fnExactStartEager", fn := fun _ => fun
  | [d1, d2] => { results := [.lit (.bool true)], args := [d1, d2] }
  | _ => none }
def fnExactStartEagerRow : OpenClaim := { program := "ytkkegmimofmhpaa", sum := "363610332d5187ffdfb5bb5dc6f927e216f4cb2673549606d4f37f6a40c487f2", func := "loop.example/signalgraph/laws.FnExactStartEager", spec := "fnExactStartEager", unfollowed := true, recurses := true, apart := false }
def FnExactStartEagerSaid : Prop := fnExactStartEagerRow.holds Try.pinned (OpenSpec.ofChange fnExactStartEagerSpec)

/-- ITS FALSE NEIGHBOUR: 'it returns false'. Refute it at one input. -/
def fnExactStartEagerWrong : ChangeSpec := { name := "fnExactStartEager", fn := fun _ => fun
  | [d1, d2] => { results := [.lit (.bool false)], args := [d1, d2] }
  | _ => none }
def FnExactStartEagerWrongFalsely : Prop := fnExactStartEagerRow.holds Try.pinned (OpenSpec.ofChange fnExactStartEagerWrong)

/-- 'laws.FnBatchAll': WHATEVER THE INPUT: true; the input reads as it did. -/
def fnBatchAllSpec : ChangeSpec := { name := "fnBatchAll", fn := fun _ => fun
  | [d] => { results := [.lit (.bool true)], args := [d] }
  | _ => none }
def fnBatchAllRow : OpenClaim := { program := "ytkkegmimofmhpaa", sum := "363610332d5187ffdfb5bb5dc6f927e216f4cb2673549606d4f37f6a40c487f2", func := "loop.example/signalgraph/laws.FnBatchAll", spec := "fnBatchAll", unfollowed := true, recurses := true, apart := false }
def FnBatchAllSaid : Prop := fnBatchAllRow.holds Try.pinned (OpenSpec.ofChange fnBatchAllSpec)

/-- ITS FALSE NEIGHBOUR: 'it returns false'. Refute it at one input. -/
def fnBatchAllWrong : ChangeSpec := { name := "fnBatchAll", fn := fun _ => fun
  | [d] => { results := [.lit (.bool false)], args := [d] }
  | _ => none }
def FnBatchAllWrongFalsely : Prop := fnBatchAllRow.holds Try.pinned (OpenSpec.ofChange fnBatchAllWrong)

/-- 'laws.FnValidEager': WHATEVER THE INPUT: true; the input reads as it did. -/
def fnValidEagerSpec : ChangeSpec := { name := "fnValidEager", fn := fun _ => fun
  | [d] => { results := [.lit (.bool true)], args := [d] }
  | _ => none }
def fnValidEagerRow : OpenClaim := { program := "ytkkegmimofmhpaa", sum := "363610332d5187ffdfb5bb5dc6f927e216f4cb2673549606d4f37f6a40c487f2", func := "loop.example/signalgraph/laws.FnValidEager", spec := "fnValidEager", unfollowed := true, recurses := true, apart := false }
def FnValidEagerSaid : Prop := fnValidEagerRow.holds Try.pinned (OpenSpec.ofChange fnValidEagerSpec)

/-- ITS FALSE NEIGHBOUR: 'it returns false'. Refute it at one input. -/
def fnValidEagerWrong : ChangeSpec := { name := "fnValidEager", fn := fun _ => fun
  | [d] => { results := [.lit (.bool false)], args := [d] }
  | _ => none }
def FnValidEagerWrongFalsely : Prop := fnValidEagerRow.holds Try.pinned (OpenSpec.ofChange fnValidEagerWrong)

/-- 'laws.FnCellsOf': WHATEVER THE INPUT: true; the input reads as it did. -/
def fnCellsOfSpec : ChangeSpec := { name := "fnCellsOf", fn := fun _ => fun
  | [d] => { results := [.lit (.bool true)], args := [d] }
  | _ => none }
def fnCellsOfRow : OpenClaim := { program := "ytkkegmimofmhpaa", sum := "363610332d5187ffdfb5bb5dc6f927e216f4cb2673549606d4f37f6a40c487f2", func := "loop.example/signalgraph/laws.FnCellsOf", spec := "fnCellsOf", unfollowed := true, recurses := true, apart := false }
def FnCellsOfSaid : Prop := fnCellsOfRow.holds Try.pinned (OpenSpec.ofChange fnCellsOfSpec)

/-- ITS FALSE NEIGHBOUR: 'it returns false'. Refute it at one input. -/
def fnCellsOfWrong : ChangeSpec := { name := "fnCellsOf", fn := fun _ => fun
  | [d] => { results := [.lit (.bool false)], args := [d] }
  | _ => none }
def FnCellsOfWrongFalsely : Prop := fnCellsOfRow.holds Try.pinned (OpenSpec.ofChange fnCellsOfWrong)

/-- 'laws.FnExactValidLazy': WHATEVER THE INPUT: true; the input reads as it did. -/
def fnExactValidLazySpec : ChangeSpec := { name := "fnExactValidLazy", fn := fun _ => fun
  | [d1, d2] => { results := [.lit (.bool true)], args := [d1, d2] }
  | _ => none }
def fnExactValidLazyRow : OpenClaim := { program := "ytkkegmimofmhpaa", sum := "363610332d5187ffdfb5bb5dc6f927e216f4cb2673549606d4f37f6a40c487f2", func := "loop.example/signalgraph/laws.FnExactValidLazy", spec := "fnExactValidLazy", unfollowed := true, recurses := true, apart := false }
def FnExactValidLazySaid : Prop := fnExactValidLazyRow.holds Try.pinned (OpenSpec.ofChange fnExactValidLazySpec)

/-- ITS FALSE NEIGHBOUR: 'it returns false'. Refute it at one input. -/
def fnExactValidLazyWrong : ChangeSpec := { name := "fnExactValidLazy", fn := fun _ => fun
  | [d1, d2] => { results := [.lit (.bool false)], args := [d1, d2] }
  | _ => none }
def FnExactValidLazyWrongFalsely : Prop := fnExactValidLazyRow.holds Try.pinned (OpenSpec.ofChange fnExactValidLazyWrong)

/-- 'laws.FnWhyChanged': WHATEVER THE INPUT: true; the input reads as it did. -/
def fnWhyChangedSpec : ChangeSpec := { name := "fnWhyChanged", fn := fun _ => fun
  | [d] => { results := [.lit (.bool true)], args := [d] }
  | _ => none }
def fnWhyChangedRow : OpenClaim := { program := "ytkkegmimofmhpaa", sum := "363610332d5187ffdfb5bb5dc6f927e216f4cb2673549606d4f37f6a40c487f2", func := "loop.example/signalgraph/laws.FnWhyChanged", spec := "fnWhyChanged", unfollowed := true, recurses := true, apart := false }
def FnWhyChangedSaid : Prop := fnWhyChangedRow.holds Try.pinned (OpenSpec.ofChange fnWhyChangedSpec)

/-- ITS FALSE NEIGHBOUR: 'it returns false'. Refute it at one input. -/
def fnWhyChangedWrong : ChangeSpec := { name := "fnWhyChanged", fn := fun _ => fun
  | [d] => { results := [.lit (.bool false)], args := [d] }
  | _ => none }
def FnWhyChangedWrongFalsely : Prop := fnWhyChangedRow.holds Try.pinned (OpenSpec.ofChange fnWhyChangedWrong)

/-- 'laws.FnExactWhyChanged': WHATEVER THE INPUT: true; the input reads as it did. -/
def fnExactWhyChangedSpec : ChangeSpec := { name := "fnExactWhyChanged", fn := fun _ => fun
  | [d1, d2, d3, d4] => { results := [.lit (.bool true)], args := [d1, d2, d3, d4] }
  | _ => none }
def fnExactWhyChangedRow : OpenClaim := { program := "ytkkegmimofmhpaa", sum := "363610332d5187ffdfb5bb5dc6f927e216f4cb2673549606d4f37f6a40c487f2", func := "loop.example/signalgraph/laws.FnExactWhyChanged", spec := "fnExactWhyChanged", unfollowed := true, recurses := true, apart := false }
def FnExactWhyChangedSaid : Prop := fnExactWhyChangedRow.holds Try.pinned (OpenSpec.ofChange fnExactWhyChangedSpec)

/-- ITS FALSE NEIGHBOUR: 'it returns false'. Refute it at one input. -/
def fnExactWhyChangedWrong : ChangeSpec := { name := "fnExactWhyChanged", fn := fun _ => fun
  | [d1, d2, d3, d4] => { results := [.lit (.bool false)], args := [d1, d2, d3, d4] }
  | _ => none }
def FnExactWhyChangedWrongFalsely : Prop := fnExactWhyChangedRow.holds Try.pinned (OpenSpec.ofChange fnExactWhyChangedWrong)

/- THE SECOND FORM. 'bulk': how many values and letters a reading holds, each counted each time it is reached (what is shared counts as often as it is met; a slice's spare places count too). A statement '..UptoSaid' is the law's where the arguments, and the package variables that the reading takes, are together of bulk at most 1048576: NARROWER than '..Said'. Prove '..Said' where nothing that the law and all that it calls make is longer than what came in: it says more and counts as full. Else prove '..UptoSaid'. A law counts once. -/
mutual
def uptoBulk {H : Type} : DataW H → Nat
  | .lit (.string bytes) => bytes.length + 1
  | .lit _ => 1
  | .nil => 1
  | .ptr d => uptoBulk d + 1
  | .slice elems spare => uptoBulkAll elems + uptoBulkAll spare + 1
  | .agg parts => uptoBulkAll parts + 1
  | .iface _ d => uptoBulk d + 1
  | .map entries => uptoBulkEntries entries + 1
  | .held _ => 1
def uptoBulkAll {H : Type} : List (DataW H) → Nat
  | [] => 0
  | d :: r => uptoBulk d + uptoBulkAll r
def uptoBulkEntries {H : Type} : List (Lit × DataW H) → Nat
  | [] => 0
  | x :: r => uptoBulkEntry x + uptoBulkEntries r
def uptoBulkEntry {H : Type} : Lit × DataW H → Nat
  | (.string bytes, d) => bytes.length + uptoBulk d + 1
  | (_, d) => uptoBulk d + 1
 end
def uptoSmall : (H : Type) → List (DataW H) → Bool := fun _ ds => decide (uptoBulkAll ds ≤ 1048576)
def OpenSpec.upto (s : _root_.Go.ChangeSpec) : _root_.Go.OpenSpec := { _root_.Go.OpenSpec.ofChange s with cond := some uptoSmall }

/-- 'laws.FnStartEager', WHERE WHAT IT READS IS OF BULK AT MOST 1048576: true; the input reads as it did. -/
def fnStartEagerUptoRow : OpenClaim := { program := "ytkkegmimofmhpaa", sum := "363610332d5187ffdfb5bb5dc6f927e216f4cb2673549606d4f37f6a40c487f2", func := "loop.example/signalgraph/laws.FnStartEager", spec := "fnStartEager", unfollowed := true, recurses := true, apart := false, narrowed := true }
def FnStartEagerUptoSaid : Prop := fnStartEagerUptoRow.holds Try.pinned (OpenSpec.upto fnStartEagerSpec)

/-- 'laws.FnExactValidEager', WHERE WHAT IT READS IS OF BULK AT MOST 1048576: true; the input reads as it did. -/
def fnExactValidEagerUptoRow : OpenClaim := { program := "ytkkegmimofmhpaa", sum := "363610332d5187ffdfb5bb5dc6f927e216f4cb2673549606d4f37f6a40c487f2", func := "loop.example/signalgraph/laws.FnExactValidEager", spec := "fnExactValidEager", unfollowed := true, recurses := true, apart := false, narrowed := true }
def FnExactValidEagerUptoSaid : Prop := fnExactValidEagerUptoRow.holds Try.pinned (OpenSpec.upto fnExactValidEagerSpec)

/-- 'laws.FnMoveHistory', WHERE WHAT IT READS IS OF BULK AT MOST 1048576: true; the input reads as it did. -/
def fnMoveHistoryUptoRow : OpenClaim := { program := "ytkkegmimofmhpaa", sum := "363610332d5187ffdfb5bb5dc6f927e216f4cb2673549606d4f37f6a40c487f2", func := "loop.example/signalgraph/laws.FnMoveHistory", spec := "fnMoveHistory", unfollowed := true, recurses := true, apart := false, narrowed := true }
def FnMoveHistoryUptoSaid : Prop := fnMoveHistoryUptoRow.holds Try.pinned (OpenSpec.upto fnMoveHistorySpec)

/-- 'laws.FnExactMustRun', WHERE WHAT IT READS IS OF BULK AT MOST 1048576: true; the input reads as it did. -/
def fnExactMustRunUptoRow : OpenClaim := { program := "ytkkegmimofmhpaa", sum := "363610332d5187ffdfb5bb5dc6f927e216f4cb2673549606d4f37f6a40c487f2", func := "loop.example/signalgraph/laws.FnExactMustRun", spec := "fnExactMustRun", unfollowed := true, recurses := true, apart := false, narrowed := true }
def FnExactMustRunUptoSaid : Prop := fnExactMustRunUptoRow.holds Try.pinned (OpenSpec.upto fnExactMustRunSpec)

/-- 'laws.FnExactStartEager', WHERE WHAT IT READS IS OF BULK AT MOST 1048576: true; the input reads as it did. -/
def fnExactStartEagerUptoRow : OpenClaim := { program := "ytkkegmimofmhpaa", sum := "363610332d5187ffdfb5bb5dc6f927e216f4cb2673549606d4f37f6a40c487f2", func := "loop.example/signalgraph/laws.FnExactStartEager", spec := "fnExactStartEager", unfollowed := true, recurses := true, apart := false, narrowed := true }
def FnExactStartEagerUptoSaid : Prop := fnExactStartEagerUptoRow.holds Try.pinned (OpenSpec.upto fnExactStartEagerSpec)

/-- 'laws.FnBatchAll', WHERE WHAT IT READS IS OF BULK AT MOST 1048576: true; the input reads as it did. -/
def fnBatchAllUptoRow : OpenClaim := { program := "ytkkegmimofmhpaa", sum := "363610332d5187ffdfb5bb5dc6f927e216f4cb2673549606d4f37f6a40c487f2", func := "loop.example/signalgraph/laws.FnBatchAll", spec := "fnBatchAll", unfollowed := true, recurses := true, apart := false, narrowed := true }
def FnBatchAllUptoSaid : Prop := fnBatchAllUptoRow.holds Try.pinned (OpenSpec.upto fnBatchAllSpec)

/-- 'laws.FnValidEager', WHERE WHAT IT READS IS OF BULK AT MOST 1048576: true; the input reads as it did. -/
def fnValidEagerUptoRow : OpenClaim := { program := "ytkkegmimofmhpaa", sum := "363610332d5187ffdfb5bb5dc6f927e216f4cb2673549606d4f37f6a40c487f2", func := "loop.example/signalgraph/laws.FnValidEager", spec := "fnValidEager", unfollowed := true, recurses := true, apart := false, narrowed := true }
def FnValidEagerUptoSaid : Prop := fnValidEagerUptoRow.holds Try.pinned (OpenSpec.upto fnValidEagerSpec)

/-- 'laws.FnCellsOf', WHERE WHAT IT READS IS OF BULK AT MOST 1048576: true; the input reads as it did. -/
def fnCellsOfUptoRow : OpenClaim := { program := "ytkkegmimofmhpaa", sum := "363610332d5187ffdfb5bb5dc6f927e216f4cb2673549606d4f37f6a40c487f2", func := "loop.example/signalgraph/laws.FnCellsOf", spec := "fnCellsOf", unfollowed := true, recurses := true, apart := false, narrowed := true }
def FnCellsOfUptoSaid : Prop := fnCellsOfUptoRow.holds Try.pinned (OpenSpec.upto fnCellsOfSpec)

/-- 'laws.FnExactValidLazy', WHERE WHAT IT READS IS OF BULK AT MOST 1048576: true; the input reads as it did. -/
def fnExactValidLazyUptoRow : OpenClaim := { program := "ytkkegmimofmhpaa", sum := "363610332d5187ffdfb5bb5dc6f927e216f4cb2673549606d4f37f6a40c487f2", func := "loop.example/signalgraph/laws.FnExactValidLazy", spec := "fnExactValidLazy", unfollowed := true, recurses := true, apart := false, narrowed := true }
def FnExactValidLazyUptoSaid : Prop := fnExactValidLazyUptoRow.holds Try.pinned (OpenSpec.upto fnExactValidLazySpec)

/-- 'laws.FnWhyChanged', WHERE WHAT IT READS IS OF BULK AT MOST 1048576: true; the input reads as it did. -/
def fnWhyChangedUptoRow : OpenClaim := { program := "ytkkegmimofmhpaa", sum := "363610332d5187ffdfb5bb5dc6f927e216f4cb2673549606d4f37f6a40c487f2", func := "loop.example/signalgraph/laws.FnWhyChanged", spec := "fnWhyChanged", unfollowed := true, recurses := true, apart := false, narrowed := true }
def FnWhyChangedUptoSaid : Prop := fnWhyChangedUptoRow.holds Try.pinned (OpenSpec.upto fnWhyChangedSpec)

/-- 'laws.FnExactWhyChanged', WHERE WHAT IT READS IS OF BULK AT MOST 1048576: true; the input reads as it did. -/
def fnExactWhyChangedUptoRow : OpenClaim := { program := "ytkkegmimofmhpaa", sum := "363610332d5187ffdfb5bb5dc6f927e216f4cb2673549606d4f37f6a40c487f2", func := "loop.example/signalgraph/laws.FnExactWhyChanged", spec := "fnExactWhyChanged", unfollowed := true, recurses := true, apart := false, narrowed := true }
def FnExactWhyChangedUptoSaid : Prop := fnExactWhyChangedUptoRow.holds Try.pinned (OpenSpec.upto fnExactWhyChangedSpec)

end Rows
end Go.Proofs.Ytkkegmimofmhpaa
