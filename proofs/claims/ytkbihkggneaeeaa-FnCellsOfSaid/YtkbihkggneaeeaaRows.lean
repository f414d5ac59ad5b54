/-
  No cell of these rows narrows 'for every input' (looked for: loops, veiled, ifaces, maps, wideKeys, modest, calm, conditions, laid).
  DERIVED. THE GIVEN ROWS OF THIS SEAT. 5 by the template 'for every input the law returns true; each argument reads behind the call as it read before'; 0 by the template 'total and deterministic' (their statements: YtkbihkggneaeeaaTotals.lean).
  GIVEN WITH THE SEED: the statements are not yours to turn. If you find one false, say at which input.
  Laid BY PROGRAM, IN A SANDBOX (cutbox-rows.mjs): the forced cells as the released guide's own fill.sh prints them over the translation dbe8e988809c8c69… (all of the seat's roots in one cut). By AI agents, Wed Nov 11 2026. No macro, syntax, notation, axiom, sorry.
-/
import Derived.Test.YtkbihkggneaeeaaChecked
import GoSem.Claim
import GoSem.ClaimJoined
import GoSem.ClaimMapViews
import Derived.JoinedTies
import Derived.KernelRfl
namespace Go.Proofs.Ytkbihkggneaeeaa
/- THE CELL 'sum', in the pinned program and in every row, IS THE sha256 OF THE DUMP (.gsa) THAT YtkbihkggneaeeaaProg.lean LOADS. Nothing in Lean hashes anything: it is a label: what it is worth is what the hold of that sum in a sandbox is worth. -/
noncomputable def Try.pinned : Pinned := { name := "ytkbihkggneaeeaa", sum := "dbe8e988809c8c69aabc870ae4ba9d99fca86e85c4492db54d1ddb0b1bccff16", checked := Try.checked }
namespace Rows
def none {H : Type} : Left H := { results := [], args := [] }

/-- 'laws.FnStartEager': WHATEVER THE INPUT: true; the input reads as it did. -/
def fnStartEagerSpec : ChangeSpec := { name := "fnStartEager", fn := fun _ => fun
  | [d] => { results := [.lit (.bool true)], args := [d] }
  | _ => none }
def fnStartEagerRow : OpenClaim := { program := "ytkbihkggneaeeaa", sum := "dbe8e988809c8c69aabc870ae4ba9d99fca86e85c4492db54d1ddb0b1bccff16", func := "loop.example/signalgraph/laws.FnStartEager", spec := "fnStartEager", unfollowed := true, recurses := true, apart := false }
def FnStartEagerSaid : Prop := fnStartEagerRow.holds Try.pinned (OpenSpec.ofChange fnStartEagerSpec)

/-- ITS FALSE NEIGHBOUR: 'it returns false'. Refute it at one input. -/
def fnStartEagerWrong : ChangeSpec := { name := "fnStartEager", fn := fun _ => fun
  | [d] => { results := [.lit (.bool false)], args := [d] }
  | _ => none }
def FnStartEagerWrongFalsely : Prop := fnStartEagerRow.holds Try.pinned (OpenSpec.ofChange fnStartEagerWrong)

/-- 'laws.FnMoveHistory': WHATEVER THE INPUT: true; the input reads as it did. -/
def fnMoveHistorySpec : ChangeSpec := { name := "fnMoveHistory", fn := fun _ => fun
  | [d] => { results := [.lit (.bool true)], args := [d] }
  | _ => none }
def fnMoveHistoryRow : OpenClaim := { program := "ytkbihkggneaeeaa", sum := "dbe8e988809c8c69aabc870ae4ba9d99fca86e85c4492db54d1ddb0b1bccff16", func := "loop.example/signalgraph/laws.FnMoveHistory", spec := "fnMoveHistory", unfollowed := true, recurses := true, apart := false }
def FnMoveHistorySaid : Prop := fnMoveHistoryRow.holds Try.pinned (OpenSpec.ofChange fnMoveHistorySpec)

/-- ITS FALSE NEIGHBOUR: 'it returns false'. Refute it at one input. -/
def fnMoveHistoryWrong : ChangeSpec := { name := "fnMoveHistory", fn := fun _ => fun
  | [d] => { results := [.lit (.bool false)], args := [d] }
  | _ => none }
def FnMoveHistoryWrongFalsely : Prop := fnMoveHistoryRow.holds Try.pinned (OpenSpec.ofChange fnMoveHistoryWrong)

/-- 'laws.FnValidEager': WHATEVER THE INPUT: true; the input reads as it did. -/
def fnValidEagerSpec : ChangeSpec := { name := "fnValidEager", fn := fun _ => fun
  | [d] => { results := [.lit (.bool true)], args := [d] }
  | _ => none }
def fnValidEagerRow : OpenClaim := { program := "ytkbihkggneaeeaa", sum := "dbe8e988809c8c69aabc870ae4ba9d99fca86e85c4492db54d1ddb0b1bccff16", func := "loop.example/signalgraph/laws.FnValidEager", spec := "fnValidEager", unfollowed := true, recurses := true, apart := false }
def FnValidEagerSaid : Prop := fnValidEagerRow.holds Try.pinned (OpenSpec.ofChange fnValidEagerSpec)

/-- ITS FALSE NEIGHBOUR: 'it returns false'. Refute it at one input. -/
def fnValidEagerWrong : ChangeSpec := { name := "fnValidEager", fn := fun _ => fun
  | [d] => { results := [.lit (.bool false)], args := [d] }
  | _ => none }
def FnValidEagerWrongFalsely : Prop := fnValidEagerRow.holds Try.pinned (OpenSpec.ofChange fnValidEagerWrong)

/-- 'laws.FnCellsOf': WHATEVER THE INPUT: true; the input reads as it did. -/
def fnCellsOfSpec : ChangeSpec := { name := "fnCellsOf", fn := fun _ => fun
  | [d] => { results := [.lit (.bool true)], args := [d] }
  | _ => none }
def fnCellsOfRow : OpenClaim := { program := "ytkbihkggneaeeaa", sum := "dbe8e988809c8c69aabc870ae4ba9d99fca86e85c4492db54d1ddb0b1bccff16", func := "loop.example/signalgraph/laws.FnCellsOf", spec := "fnCellsOf", unfollowed := true, recurses := true, apart := false }
def FnCellsOfSaid : Prop := fnCellsOfRow.holds Try.pinned (OpenSpec.ofChange fnCellsOfSpec)

/-- ITS FALSE NEIGHBOUR: 'it returns false'. Refute it at one input. -/
def fnCellsOfWrong : ChangeSpec := { name := "fnCellsOf", fn := fun _ => fun
  | [d] => { results := [.lit (.bool false)], args := [d] }
  | _ => none }
def FnCellsOfWrongFalsely : Prop := fnCellsOfRow.holds Try.pinned (OpenSpec.ofChange fnCellsOfWrong)

/-- 'laws.FnWhyChanged': WHATEVER THE INPUT: true; the input reads as it did. -/
def fnWhyChangedSpec : ChangeSpec := { name := "fnWhyChanged", fn := fun _ => fun
  | [d] => { results := [.lit (.bool true)], args := [d] }
  | _ => none }
def fnWhyChangedRow : OpenClaim := { program := "ytkbihkggneaeeaa", sum := "dbe8e988809c8c69aabc870ae4ba9d99fca86e85c4492db54d1ddb0b1bccff16", func := "loop.example/signalgraph/laws.FnWhyChanged", spec := "fnWhyChanged", unfollowed := true, recurses := true, apart := false }
def FnWhyChangedSaid : Prop := fnWhyChangedRow.holds Try.pinned (OpenSpec.ofChange fnWhyChangedSpec)

/-- ITS FALSE NEIGHBOUR: 'it returns false'. Refute it at one input. -/
def fnWhyChangedWrong : ChangeSpec := { name := "fnWhyChanged", fn := fun _ => fun
  | [d] => { results := [.lit (.bool false)], args := [d] }
  | _ => none }
def FnWhyChangedWrongFalsely : Prop := fnWhyChangedRow.holds Try.pinned (OpenSpec.ofChange fnWhyChangedWrong)

/- THE SECOND FORM. 'bulk': how many values and letters a reading holds, each counted each time it is reached (what is shared counts as often as it is met; a slice's spare places count too). A statement '..UptoSaid' is the law's where the arguments, and the package variables that the reading takes, are together of bulk at most 1048576: NARROWER than '..Said'. Prove '..Said' where nothing that the law and all that it calls make is longer than what came in: it says more and counts as full. Else prove '..UptoSaid'. A law counts once. -/
mutual
def uptoBulk {H : Type} : DataW H → Nat
  | .lit (.string bytes) => bytes.length + 1
  | .lit _ => 1
  | .nil => 1
  | .ptr d => uptoBulk d + 1
  | .slice elems spare => uptoBulkAll elems + uptoBulkAll spare + 1
  | .agg parts => uptoBulkAll parts + 1
  | .iface _ d => uptoBulk d + 1
  | .map entries => uptoBulkEntries entries + 1
  | .held _ => 1
def uptoBulkAll {H : Type} : List (DataW H) → Nat
  | [] => 0
  | d :: r => uptoBulk d + uptoBulkAll r
def uptoBulkEntries {H : Type} : List (Lit × DataW H) → Nat
  | [] => 0
  | x :: r => uptoBulkEntry x + uptoBulkEntries r
def uptoBulkEntry {H : Type} : Lit × DataW H → Nat
  | (.string bytes, d) => bytes.length + uptoBulk d + 1
  | (_, d) => uptoBulk d + 1
 end
def uptoSmall : (H : Type) → List (DataW H) → Bool := fun _ ds => decide (uptoBulkAll ds ≤ 1048576)
def OpenSpec.upto (s : _root_.Go.ChangeSpec) : _root_.Go.OpenSpec := { _root_.Go.OpenSpec.ofChange s with cond := some uptoSmall }

/-- 'laws.FnStartEager', WHERE WHAT IT READS IS OF BULK AT MOST 1048576: true; the input reads as it did. -/
def fnStartEagerUptoRow : OpenClaim := { program := "ytkbihkggneaeeaa", sum := "dbe8e988809c8c69aabc870ae4ba9d99fca86e85c4492db54d1ddb0b1bccff16", func := "loop.example/signalgraph/laws.FnStartEager", spec := "fnStartEager", unfollowed := true, recurses := true, apart := false, narrowed := true }
def FnStartEagerUptoSaid : Prop := fnStartEagerUptoRow.holds Try.pinned (OpenSpec.upto fnStartEagerSpec)

/-- 'laws.FnMoveHistory', WHERE WHAT IT READS IS OF BULK AT MOST 1048576: true; the input reads as it did. -/
def fnMoveHistoryUptoRow : OpenClaim := { program := "ytkbihkggneaeeaa", sum := "dbe8e988809c8c69aabc870ae4ba9d99fca86e85c4492db54d1ddb0b1bccff16", func := "loop.example/signalgraph/laws.FnMoveHistory", spec := "fnMoveHistory", unfollowed := true, recurses := true, apart := false, narrowed := true }
def FnMoveHistoryUptoSaid : Prop := fnMoveHistoryUptoRow.holds Try.pinned (OpenSpec.upto fnMoveHistorySpec)

/-- 'laws.FnValidEager', WHERE WHAT IT READS IS OF BULK AT MOST 1048576: true; the input reads as it did. -/
def fnValidEagerUptoRow : OpenClaim := { program := "ytkbihkggneaeeaa", sum := "dbe8e988809c8c69aabc870ae4ba9d99fca86e85c4492db54d1ddb0b1bccff16", func := "loop.example/signalgraph/laws.FnValidEager", spec := "fnValidEager", unfollowed := true, recurses := true, apart := false, narrowed := true }
def FnValidEagerUptoSaid : Prop := fnValidEagerUptoRow.holds Try.pinned (OpenSpec.upto fnValidEagerSpec)

/-- 'laws.FnCellsOf', WHERE WHAT IT READS IS OF BULK AT MOST 1048576: true; the input reads as it did. -/
def fnCellsOfUptoRow : OpenClaim := { program := "ytkbihkggneaeeaa", sum := "dbe8e988809c8c69aabc870ae4ba9d99fca86e85c4492db54d1ddb0b1bccff16", func := "loop.example/signalgraph/laws.FnCellsOf", spec := "fnCellsOf", unfollowed := true, recurses := true, apart := false, narrowed := true }
def FnCellsOfUptoSaid : Prop := fnCellsOfUptoRow.holds Try.pinned (OpenSpec.upto fnCellsOfSpec)

/-- 'laws.FnWhyChanged', WHERE WHAT IT READS IS OF BULK AT MOST 1048576: true; the input reads as it did. -/
def fnWhyChangedUptoRow : OpenClaim := { program := "ytkbihkggneaeeaa", sum := "dbe8e988809c8c69aabc870ae4ba9d99fca86e85c4492db54d1ddb0b1bccff16", func := "loop.example/signalgraph/laws.FnWhyChanged", spec := "fnWhyChanged", unfollowed := true, recurses := true, apart := false, narrowed := true }
def FnWhyChangedUptoSaid : Prop := fnWhyChangedUptoRow.holds Try.pinned (OpenSpec.upto fnWhyChangedSpec)

end Rows
end Go.Proofs.Ytkbihkggneaeeaa
