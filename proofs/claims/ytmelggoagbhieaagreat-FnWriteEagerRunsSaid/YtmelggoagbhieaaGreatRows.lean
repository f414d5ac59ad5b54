/-
  No cell of these rows narrows 'for every input' (looked for: loops, veiled, ifaces, maps, wideKeys, modest, calm, conditions, laid).
  DERIVED. THE GIVEN ROWS OF THIS SEAT. 12 by the template 'for every input the law returns true; each argument reads behind the call as it read before'; 0 by the template 'total and deterministic' (their statements: YtmelggoagbhieaaGreatTotals.lean).
  GIVEN WITH THE SEED: the statements are not yours to turn. If you find one false, say at which input.
  Laid BY PROGRAM, IN A SANDBOX (cutbox-rows.mjs): the forced cells as the released guide's own fill.sh prints them over the translation 3bb4180ab18b6ef7… (all of the seat's roots in one cut). By AI agents, Wed Nov 11 2026. No macro, syntax, notation, axiom, sorry.
-/
import Derived.Test.YtmelggoagbhieaaGreatChecked
import GoSem.Claim
import GoSem.ClaimJoined
import GoSem.ClaimMapViews
import Derived.JoinedTies
import Derived.KernelRfl
namespace Go.Proofs.YtmelggoagbhieaaGreat
/- THE CELL 'sum', in the pinned program and in every row, IS THE sha256 OF THE DUMP (.gsa) THAT YtmelggoagbhieaaGreatProg.lean LOADS. Nothing in Lean hashes anything: it is a label: what it is worth is what the hold of that sum in a sandbox is worth. -/
noncomputable def Tryz.pinned : Pinned := { name := "ytmelggoagbhieaagreat", sum := "3bb4180ab18b6ef7122c10bab088fe4dcfd3121b5fe0663fff79441e96f0e062", checked := Tryz.checked }
namespace Rows
def none {H : Type} : Left H := { results := [], args := [] }

/-- 'laws.FnWriteEager': WHATEVER THE INPUT: true; the input reads as it did. -/
def fnWriteEagerSpec : ChangeSpec := { name := "fnWriteEager", fn := fun _ => fun
  | [d] => { results := [.lit (.bool true)], args := [d] }
  | _ => none }
def fnWriteEagerRow : OpenClaim := { program := "ytmelggoagbhieaagreat", sum := "3bb4180ab18b6ef7122c10bab088fe4dcfd3121b5fe0663fff79441e96f0e062", func := "loop.example/signalgraph/laws.FnWriteEager", spec := "fnWriteEager", unfollowed := true, recurses := true, apart := false }
def FnWriteEagerSaid : Prop := fnWriteEagerRow.holds Tryz.pinned (OpenSpec.ofChange fnWriteEagerSpec)

/-- ITS FALSE NEIGHBOUR: 'it returns false'. Refute it at one input. -/
def fnWriteEagerWrong : ChangeSpec := { name := "fnWriteEager", fn := fun _ => fun
  | [d] => { results := [.lit (.bool false)], args := [d] }
  | _ => none }
def FnWriteEagerWrongFalsely : Prop := fnWriteEagerRow.holds Tryz.pinned (OpenSpec.ofChange fnWriteEagerWrong)

/-- 'laws.FnWriteEagerRuns': WHATEVER THE INPUT: true; the input reads as it did. -/
def fnWriteEagerRunsSpec : ChangeSpec := { name := "fnWriteEagerRuns", fn := fun _ => fun
  | [d] => { results := [.lit (.bool true)], args := [d] }
  | _ => none }
def fnWriteEagerRunsRow : OpenClaim := { program := "ytmelggoagbhieaagreat", sum := "3bb4180ab18b6ef7122c10bab088fe4dcfd3121b5fe0663fff79441e96f0e062", func := "loop.example/signalgraph/laws.FnWriteEagerRuns", spec := "fnWriteEagerRuns", unfollowed := true, recurses := true, apart := false }
def FnWriteEagerRunsSaid : Prop := fnWriteEagerRunsRow.holds Tryz.pinned (OpenSpec.ofChange fnWriteEagerRunsSpec)

/-- ITS FALSE NEIGHBOUR: 'it returns false'. Refute it at one input. -/
def fnWriteEagerRunsWrong : ChangeSpec := { name := "fnWriteEagerRuns", fn := fun _ => fun
  | [d] => { results := [.lit (.bool false)], args := [d] }
  | _ => none }
def FnWriteEagerRunsWrongFalsely : Prop := fnWriteEagerRunsRow.holds Tryz.pinned (OpenSpec.ofChange fnWriteEagerRunsWrong)

/-- 'laws.FnExactReadLazy': WHATEVER THE INPUT: true; the input reads as it did. -/
def fnExactReadLazySpec : ChangeSpec := { name := "fnExactReadLazy", fn := fun _ => fun
  | [d1, d2, d3] => { results := [.lit (.bool true)], args := [d1, d2, d3] }
  | _ => none }
def fnExactReadLazyRow : OpenClaim := { program := "ytmelggoagbhieaagreat", sum := "3bb4180ab18b6ef7122c10bab088fe4dcfd3121b5fe0663fff79441e96f0e062", func := "loop.example/signalgraph/laws.FnExactReadLazy", spec := "fnExactReadLazy", unfollowed := true, recurses := true, apart := false }
def FnExactReadLazySaid : Prop := fnExactReadLazyRow.holds Tryz.pinned (OpenSpec.ofChange fnExactReadLazySpec)

/-- ITS FALSE NEIGHBOUR: 'it returns false'. Refute it at one input. -/
def fnExactReadLazyWrong : ChangeSpec := { name := "fnExactReadLazy", fn := fun _ => fun
  | [d1, d2, d3] => { results := [.lit (.bool false)], args := [d1, d2, d3] }
  | _ => none }
def FnExactReadLazyWrongFalsely : Prop := fnExactReadLazyRow.holds Tryz.pinned (OpenSpec.ofChange fnExactReadLazyWrong)

/-- 'laws.FnExactReadAll': WHATEVER THE INPUT: true; the input reads as it did. -/
def fnExactReadAllSpec : ChangeSpec := { name := "fnExactReadAll", fn := fun _ => fun
  | [d1, d2, d3] => { results := [.lit (.bool true)], args := [d1, d2, d3] }
  | _ => none }
def fnExactReadAllRow : OpenClaim := { program := "ytmelggoagbhieaagreat", sum := "3bb4180ab18b6ef7122c10bab088fe4dcfd3121b5fe0663fff79441e96f0e062", func := "loop.example/signalgraph/laws.FnExactReadAll", spec := "fnExactReadAll", unfollowed := true, recurses := true, apart := false }
def FnExactReadAllSaid : Prop := fnExactReadAllRow.holds Tryz.pinned (OpenSpec.ofChange fnExactReadAllSpec)

/-- ITS FALSE NEIGHBOUR: 'it returns false'. Refute it at one input. -/
def fnExactReadAllWrong : ChangeSpec := { name := "fnExactReadAll", fn := fun _ => fun
  | [d1, d2, d3] => { results := [.lit (.bool false)], args := [d1, d2, d3] }
  | _ => none }
def FnExactReadAllWrongFalsely : Prop := fnExactReadAllRow.holds Tryz.pinned (OpenSpec.ofChange fnExactReadAllWrong)

/-- 'laws.FnExactSettleLazy': WHATEVER THE INPUT: true; the input reads as it did. -/
def fnExactSettleLazySpec : ChangeSpec := { name := "fnExactSettleLazy", fn := fun _ => fun
  | [d1, d2] => { results := [.lit (.bool true)], args := [d1, d2] }
  | _ => none }
def fnExactSettleLazyRow : OpenClaim := { program := "ytmelggoagbhieaagreat", sum := "3bb4180ab18b6ef7122c10bab088fe4dcfd3121b5fe0663fff79441e96f0e062", func := "loop.example/signalgraph/laws.FnExactSettleLazy", spec := "fnExactSettleLazy", unfollowed := true, recurses := true, apart := false }
def FnExactSettleLazySaid : Prop := fnExactSettleLazyRow.holds Tryz.pinned (OpenSpec.ofChange fnExactSettleLazySpec)

/-- ITS FALSE NEIGHBOUR: 'it returns false'. Refute it at one input. -/
def fnExactSettleLazyWrong : ChangeSpec := { name := "fnExactSettleLazy", fn := fun _ => fun
  | [d1, d2] => { results := [.lit (.bool false)], args := [d1, d2] }
  | _ => none }
def FnExactSettleLazyWrongFalsely : Prop := fnExactSettleLazyRow.holds Tryz.pinned (OpenSpec.ofChange fnExactSettleLazyWrong)

/-- 'laws.FnExactWriteHasty': WHATEVER THE INPUT: true; the input reads as it did. -/
def fnExactWriteHastySpec : ChangeSpec := { name := "fnExactWriteHasty", fn := fun _ => fun
  | [d1, d2, d3, d4] => { results := [.lit (.bool true)], args := [d1, d2, d3, d4] }
  | _ => none }
def fnExactWriteHastyRow : OpenClaim := { program := "ytmelggoagbhieaagreat", sum := "3bb4180ab18b6ef7122c10bab088fe4dcfd3121b5fe0663fff79441e96f0e062", func := "loop.example/signalgraph/laws.FnExactWriteHasty", spec := "fnExactWriteHasty", unfollowed := true, recurses := true, apart := false }
def FnExactWriteHastySaid : Prop := fnExactWriteHastyRow.holds Tryz.pinned (OpenSpec.ofChange fnExactWriteHastySpec)

/-- ITS FALSE NEIGHBOUR: 'it returns false'. Refute it at one input. -/
def fnExactWriteHastyWrong : ChangeSpec := { name := "fnExactWriteHasty", fn := fun _ => fun
  | [d1, d2, d3, d4] => { results := [.lit (.bool false)], args := [d1, d2, d3, d4] }
  | _ => none }
def FnExactWriteHastyWrongFalsely : Prop := fnExactWriteHastyRow.holds Tryz.pinned (OpenSpec.ofChange fnExactWriteHastyWrong)

/-- 'laws.FnExactMoveHistory': WHATEVER THE INPUT: true; the input reads as it did. -/
def fnExactMoveHistorySpec : ChangeSpec := { name := "fnExactMoveHistory", fn := fun _ => fun
  | [d1, d2, d3] => { results := [.lit (.bool true)], args := [d1, d2, d3] }
  | _ => none }
def fnExactMoveHistoryRow : OpenClaim := { program := "ytmelggoagbhieaagreat", sum := "3bb4180ab18b6ef7122c10bab088fe4dcfd3121b5fe0663fff79441e96f0e062", func := "loop.example/signalgraph/laws.FnExactMoveHistory", spec := "fnExactMoveHistory", unfollowed := true, recurses := true, apart := false }
def FnExactMoveHistorySaid : Prop := fnExactMoveHistoryRow.holds Tryz.pinned (OpenSpec.ofChange fnExactMoveHistorySpec)

/-- ITS FALSE NEIGHBOUR: 'it returns false'. Refute it at one input. -/
def fnExactMoveHistoryWrong : ChangeSpec := { name := "fnExactMoveHistory", fn := fun _ => fun
  | [d1, d2, d3] => { results := [.lit (.bool false)], args := [d1, d2, d3] }
  | _ => none }
def FnExactMoveHistoryWrongFalsely : Prop := fnExactMoveHistoryRow.holds Tryz.pinned (OpenSpec.ofChange fnExactMoveHistoryWrong)

/-- 'laws.FnStaleOf': WHATEVER THE INPUT: true; the input reads as it did. -/
def fnStaleOfSpec : ChangeSpec := { name := "fnStaleOf", fn := fun _ => fun
  | [d] => { results := [.lit (.bool true)], args := [d] }
  | _ => none }
def fnStaleOfRow : OpenClaim := { program := "ytmelggoagbhieaagreat", sum := "3bb4180ab18b6ef7122c10bab088fe4dcfd3121b5fe0663fff79441e96f0e062", func := "loop.example/signalgraph/laws.FnStaleOf", spec := "fnStaleOf", unfollowed := true, recurses := true, apart := false }
def FnStaleOfSaid : Prop := fnStaleOfRow.holds Tryz.pinned (OpenSpec.ofChange fnStaleOfSpec)

/-- ITS FALSE NEIGHBOUR: 'it returns false'. Refute it at one input. -/
def fnStaleOfWrong : ChangeSpec := { name := "fnStaleOf", fn := fun _ => fun
  | [d] => { results := [.lit (.bool false)], args := [d] }
  | _ => none }
def FnStaleOfWrongFalsely : Prop := fnStaleOfRow.holds Tryz.pinned (OpenSpec.ofChange fnStaleOfWrong)

/-- 'laws.FnReadLazy': WHATEVER THE INPUT: true; the input reads as it did. -/
def fnReadLazySpec : ChangeSpec := { name := "fnReadLazy", fn := fun _ => fun
  | [d] => { results := [.lit (.bool true)], args := [d] }
  | _ => none }
def fnReadLazyRow : OpenClaim := { program := "ytmelggoagbhieaagreat", sum := "3bb4180ab18b6ef7122c10bab088fe4dcfd3121b5fe0663fff79441e96f0e062", func := "loop.example/signalgraph/laws.FnReadLazy", spec := "fnReadLazy", unfollowed := true, recurses := true, apart := false }
def FnReadLazySaid : Prop := fnReadLazyRow.holds Tryz.pinned (OpenSpec.ofChange fnReadLazySpec)

/-- ITS FALSE NEIGHBOUR: 'it returns false'. Refute it at one input. -/
def fnReadLazyWrong : ChangeSpec := { name := "fnReadLazy", fn := fun _ => fun
  | [d] => { results := [.lit (.bool false)], args := [d] }
  | _ => none }
def FnReadLazyWrongFalsely : Prop := fnReadLazyRow.holds Tryz.pinned (OpenSpec.ofChange fnReadLazyWrong)

/-- 'laws.FnReadLazyTwice': WHATEVER THE INPUT: true; the input reads as it did. -/
def fnReadLazyTwiceSpec : ChangeSpec := { name := "fnReadLazyTwice", fn := fun _ => fun
  | [d] => { results := [.lit (.bool true)], args := [d] }
  | _ => none }
def fnReadLazyTwiceRow : OpenClaim := { program := "ytmelggoagbhieaagreat", sum := "3bb4180ab18b6ef7122c10bab088fe4dcfd3121b5fe0663fff79441e96f0e062", func := "loop.example/signalgraph/laws.FnReadLazyTwice", spec := "fnReadLazyTwice", unfollowed := true, recurses := true, apart := false }
def FnReadLazyTwiceSaid : Prop := fnReadLazyTwiceRow.holds Tryz.pinned (OpenSpec.ofChange fnReadLazyTwiceSpec)

/-- ITS FALSE NEIGHBOUR: 'it returns false'. Refute it at one input. -/
def fnReadLazyTwiceWrong : ChangeSpec := { name := "fnReadLazyTwice", fn := fun _ => fun
  | [d] => { results := [.lit (.bool false)], args := [d] }
  | _ => none }
def FnReadLazyTwiceWrongFalsely : Prop := fnReadLazyTwiceRow.holds Tryz.pinned (OpenSpec.ofChange fnReadLazyTwiceWrong)

/-- 'laws.FnReadLazyRuns': WHATEVER THE INPUT: true; the input reads as it did. -/
def fnReadLazyRunsSpec : ChangeSpec := { name := "fnReadLazyRuns", fn := fun _ => fun
  | [d] => { results := [.lit (.bool true)], args := [d] }
  | _ => none }
def fnReadLazyRunsRow : OpenClaim := { program := "ytmelggoagbhieaagreat", sum := "3bb4180ab18b6ef7122c10bab088fe4dcfd3121b5fe0663fff79441e96f0e062", func := "loop.example/signalgraph/laws.FnReadLazyRuns", spec := "fnReadLazyRuns", unfollowed := true, recurses := true, apart := false }
def FnReadLazyRunsSaid : Prop := fnReadLazyRunsRow.holds Tryz.pinned (OpenSpec.ofChange fnReadLazyRunsSpec)

/-- ITS FALSE NEIGHBOUR: 'it returns false'. Refute it at one input. -/
def fnReadLazyRunsWrong : ChangeSpec := { name := "fnReadLazyRuns", fn := fun _ => fun
  | [d] => { results := [.lit (.bool false)], args := [d] }
  | _ => none }
def FnReadLazyRunsWrongFalsely : Prop := fnReadLazyRunsRow.holds Tryz.pinned (OpenSpec.ofChange fnReadLazyRunsWrong)

/-- 'laws.FnForgetNode': WHATEVER THE INPUT: true; the input reads as it did. -/
def fnForgetNodeSpec : ChangeSpec := { name := "fnForgetNode", fn := fun _ => fun
  | [d] => { results := [.lit (.bool true)], args := [d] }
  | _ => none }
def fnForgetNodeRow : OpenClaim := { program := "ytmelggoagbhieaagreat", sum := "3bb4180ab18b6ef7122c10bab088fe4dcfd3121b5fe0663fff79441e96f0e062", func := "loop.example/signalgraph/laws.FnForgetNode", spec := "fnForgetNode", unfollowed := true, recurses := true, apart := false }
def FnForgetNodeSaid : Prop := fnForgetNodeRow.holds Tryz.pinned (OpenSpec.ofChange fnForgetNodeSpec)

/-- ITS FALSE NEIGHBOUR: 'it returns false'. Refute it at one input. -/
def fnForgetNodeWrong : ChangeSpec := { name := "fnForgetNode", fn := fun _ => fun
  | [d] => { results := [.lit (.bool false)], args := [d] }
  | _ => none }
def FnForgetNodeWrongFalsely : Prop := fnForgetNodeRow.holds Tryz.pinned (OpenSpec.ofChange fnForgetNodeWrong)

/- THE SECOND FORM. 'bulk': how many values and letters a reading holds, each counted each time it is reached (what is shared counts as often as it is met; a slice's spare places count too). A statement '..UptoSaid' is the law's where the arguments, and the package variables that the reading takes, are together of bulk at most 1048576: NARROWER than '..Said'. Prove '..Said' where nothing that the law and all that it calls make is longer than what came in: it says more and counts as full. Else prove '..UptoSaid'. A law counts once. -/
mutual
def uptoBulk {H : Type} : DataW H → Nat
  | .lit (.string bytes) => bytes.length + 1
  | .lit _ => 1
  | .nil => 1
  | .ptr d => uptoBulk d + 1
  | .slice elems spare => uptoBulkAll elems + uptoBulkAll spare + 1
  | .agg parts => uptoBulkAll parts + 1
  | .iface _ d => uptoBulk d + 1
  | .map entries => uptoBulkEntries entries + 1
  | .held _ => 1
def uptoBulkAll {H : Type} : List (DataW H) → Nat
  | [] => 0
  | d :: r => uptoBulk d + uptoBulkAll r
def uptoBulkEntries {H : Type} : List (Lit × DataW H) → Nat
  | [] => 0
  | x :: r => uptoBulkEntry x + uptoBulkEntries r
def uptoBulkEntry {H : Type} : Lit × DataW H → Nat
  | (.string bytes, d) => bytes.length + uptoBulk d + 1
  | (_, d) => uptoBulk d + 1
 end
def uptoSmall : (H : Type) → List (DataW H) → Bool := fun _ ds => decide (uptoBulkAll ds ≤ 1048576)
def OpenSpec.upto (s : _root_.Go.ChangeSpec) : _root_.Go.OpenSpec := { _root_.Go.OpenSpec.ofChange s with cond := some uptoSmall }

/-- 'laws.FnWriteEager', WHERE WHAT IT READS IS OF BULK AT MOST 1048576: true; the input reads as it did. -/
def fnWriteEagerUptoRow : OpenClaim := { program := "ytmelggoagbhieaagreat", sum := "3bb4180ab18b6ef7122c10bab088fe4dcfd3121b5fe0663fff79441e96f0e062", func := "loop.example/signalgraph/laws.FnWriteEager", spec := "fnWriteEager", unfollowed := true, recurses := true, apart := false, narrowed := true }
def FnWriteEagerUptoSaid : Prop := fnWriteEagerUptoRow.holds Tryz.pinned (OpenSpec.upto fnWriteEagerSpec)

/-- 'laws.FnWriteEagerRuns', WHERE WHAT IT READS IS OF BULK AT MOST 1048576: true; the input reads as it did. -/
def fnWriteEagerRunsUptoRow : OpenClaim := { program := "ytmelggoagbhieaagreat", sum := "3bb4180ab18b6ef7122c10bab088fe4dcfd3121b5fe0663fff79441e96f0e062", func := "loop.example/signalgraph/laws.FnWriteEagerRuns", spec := "fnWriteEagerRuns", unfollowed := true, recurses := true, apart := false, narrowed := true }
def FnWriteEagerRunsUptoSaid : Prop := fnWriteEagerRunsUptoRow.holds Tryz.pinned (OpenSpec.upto fnWriteEagerRunsSpec)

/-- 'laws.FnExactReadLazy', WHERE WHAT IT READS IS OF BULK AT MOST 1048576: true; the input reads as it did. -/
def fnExactReadLazyUptoRow : OpenClaim := { program := "ytmelggoagbhieaagreat", sum := "3bb4180ab18b6ef7122c10bab088fe4dcfd3121b5fe0663fff79441e96f0e062", func := "loop.example/signalgraph/laws.FnExactReadLazy", spec := "fnExactReadLazy", unfollowed := true, recurses := true, apart := false, narrowed := true }
def FnExactReadLazyUptoSaid : Prop := fnExactReadLazyUptoRow.holds Tryz.pinned (OpenSpec.upto fnExactReadLazySpec)

/-- 'laws.FnExactReadAll', WHERE WHAT IT READS IS OF BULK AT MOST 1048576: true; the input reads as it did. -/
def fnExactReadAllUptoRow : OpenClaim := { program := "ytmelggoagbhieaagreat", sum := "3bb4180ab18b6ef7122c10bab088fe4dcfd3121b5fe0663fff79441e96f0e062", func := "loop.example/signalgraph/laws.FnExactReadAll", spec := "fnExactReadAll", unfollowed := true, recurses := true, apart := false, narrowed := true }
def FnExactReadAllUptoSaid : Prop := fnExactReadAllUptoRow.holds Tryz.pinned (OpenSpec.upto fnExactReadAllSpec)

/-- 'laws.FnExactSettleLazy', WHERE WHAT IT READS IS OF BULK AT MOST 1048576: true; the input reads as it did. -/
def fnExactSettleLazyUptoRow : OpenClaim := { program := "ytmelggoagbhieaagreat", sum := "3bb4180ab18b6ef7122c10bab088fe4dcfd3121b5fe0663fff79441e96f0e062", func := "loop.example/signalgraph/laws.FnExactSettleLazy", spec := "fnExactSettleLazy", unfollowed := true, recurses := true, apart := false, narrowed := true }
def FnExactSettleLazyUptoSaid : Prop := fnExactSettleLazyUptoRow.holds Tryz.pinned (OpenSpec.upto fnExactSettleLazySpec)

/-- 'laws.FnExactWriteHasty', WHERE WHAT IT READS IS OF BULK AT MOST 1048576: true; the input reads as it did. -/
def fnExactWriteHastyUptoRow : OpenClaim := { program := "ytmelggoagbhieaagreat", sum := "3bb4180ab18b6ef7122c10bab088fe4dcfd3121b5fe0663fff79441e96f0e062", func := "loop.example/signalgraph/laws.FnExactWriteHasty", spec := "fnExactWriteHasty", unfollowed := true, recurses := true, apart := false, narrowed := true }
def FnExactWriteHastyUptoSaid : Prop := fnExactWriteHastyUptoRow.holds Tryz.pinned (OpenSpec.upto fnExactWriteHastySpec)

/-- 'laws.FnExactMoveHistory', WHERE WHAT IT READS IS OF BULK AT MOST 1048576: true; the input reads as it did. -/
def fnExactMoveHistoryUptoRow : OpenClaim := { program := "ytmelggoagbhieaagreat", sum := "3bb4180ab18b6ef7122c10bab088fe4dcfd3121b5fe0663fff79441e96f0e062", func := "loop.example/signalgraph/laws.FnExactMoveHistory", spec := "fnExactMoveHistory", unfollowed := true, recurses := true, apart := false, narrowed := true }
def FnExactMoveHistoryUptoSaid : Prop := fnExactMoveHistoryUptoRow.holds Tryz.pinned (OpenSpec.upto fnExactMoveHistorySpec)

/-- 'laws.FnStaleOf', WHERE WHAT IT READS IS OF BULK AT MOST 1048576: true; the input reads as it did. -/
def fnStaleOfUptoRow : OpenClaim := { program := "ytmelggoagbhieaagreat", sum := "3bb4180ab18b6ef7122c10bab088fe4dcfd3121b5fe0663fff79441e96f0e062", func := "loop.example/signalgraph/laws.FnStaleOf", spec := "fnStaleOf", unfollowed := true, recurses := true, apart := false, narrowed := true }
def FnStaleOfUptoSaid : Prop := fnStaleOfUptoRow.holds Tryz.pinned (OpenSpec.upto fnStaleOfSpec)

/-- 'laws.FnReadLazy', WHERE WHAT IT READS IS OF BULK AT MOST 1048576: true; the input reads as it did. -/
def fnReadLazyUptoRow : OpenClaim := { program := "ytmelggoagbhieaagreat", sum := "3bb4180ab18b6ef7122c10bab088fe4dcfd3121b5fe0663fff79441e96f0e062", func := "loop.example/signalgraph/laws.FnReadLazy", spec := "fnReadLazy", unfollowed := true, recurses := true, apart := false, narrowed := true }
def FnReadLazyUptoSaid : Prop := fnReadLazyUptoRow.holds Tryz.pinned (OpenSpec.upto fnReadLazySpec)

/-- 'laws.FnReadLazyTwice', WHERE WHAT IT READS IS OF BULK AT MOST 1048576: true; the input reads as it did. -/
def fnReadLazyTwiceUptoRow : OpenClaim := { program := "ytmelggoagbhieaagreat", sum := "3bb4180ab18b6ef7122c10bab088fe4dcfd3121b5fe0663fff79441e96f0e062", func := "loop.example/signalgraph/laws.FnReadLazyTwice", spec := "fnReadLazyTwice", unfollowed := true, recurses := true, apart := false, narrowed := true }
def FnReadLazyTwiceUptoSaid : Prop := fnReadLazyTwiceUptoRow.holds Tryz.pinned (OpenSpec.upto fnReadLazyTwiceSpec)

/-- 'laws.FnReadLazyRuns', WHERE WHAT IT READS IS OF BULK AT MOST 1048576: true; the input reads as it did. -/
def fnReadLazyRunsUptoRow : OpenClaim := { program := "ytmelggoagbhieaagreat", sum := "3bb4180ab18b6ef7122c10bab088fe4dcfd3121b5fe0663fff79441e96f0e062", func := "loop.example/signalgraph/laws.FnReadLazyRuns", spec := "fnReadLazyRuns", unfollowed := true, recurses := true, apart := false, narrowed := true }
def FnReadLazyRunsUptoSaid : Prop := fnReadLazyRunsUptoRow.holds Tryz.pinned (OpenSpec.upto fnReadLazyRunsSpec)

/-- 'laws.FnForgetNode', WHERE WHAT IT READS IS OF BULK AT MOST 1048576: true; the input reads as it did. -/
def fnForgetNodeUptoRow : OpenClaim := { program := "ytmelggoagbhieaagreat", sum := "3bb4180ab18b6ef7122c10bab088fe4dcfd3121b5fe0663fff79441e96f0e062", func := "loop.example/signalgraph/laws.FnForgetNode", spec := "fnForgetNode", unfollowed := true, recurses := true, apart := false, narrowed := true }
def FnForgetNodeUptoSaid : Prop := fnForgetNodeUptoRow.holds Tryz.pinned (OpenSpec.upto fnForgetNodeSpec)

end Rows
end Go.Proofs.YtmelggoagbhieaaGreat
