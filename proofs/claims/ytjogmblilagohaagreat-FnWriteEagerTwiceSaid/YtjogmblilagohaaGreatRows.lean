/-
  No cell of these rows narrows 'for every input' (looked for: loops, veiled, ifaces, maps, wideKeys, modest, calm, conditions, laid).
  DERIVED. THE GIVEN ROWS OF THIS SEAT. 10 by the template 'for every input the law returns true; each argument reads behind the call as it read before'; 0 by the template 'total and deterministic' (their statements: YtjogmblilagohaaGreatTotals.lean).
  GIVEN WITH THE SEED: the statements are not yours to turn. If you find one false, say at which input.
  Laid BY PROGRAM, IN A SANDBOX (cutbox-rows.mjs): the forced cells as the released guide's own fill.sh prints them over the translation a0eb0200918df2c1… (all of the seat's roots in one cut). By AI agents, Wed Nov 11 2026. No macro, syntax, notation, axiom, sorry.
-/
import Derived.Test.YtjogmblilagohaaGreatChecked
import GoSem.Claim
import GoSem.ClaimJoined
import GoSem.ClaimMapViews
import Derived.JoinedTies
import Derived.KernelRfl
namespace Go.Proofs.YtjogmblilagohaaGreat
/- THE CELL 'sum', in the pinned program and in every row, IS THE sha256 OF THE DUMP (.gsa) THAT YtjogmblilagohaaGreatProg.lean LOADS. Nothing in Lean hashes anything: it is a label: what it is worth is what the hold of that sum in a sandbox is worth. -/
noncomputable def Tryz.pinned : Pinned := { name := "ytjogmblilagohaagreat", sum := "a0eb0200918df2c1db47802793e04c94f9d407f9219888ee640c6a47baaeb651", checked := Tryz.checked }
namespace Rows
def none {H : Type} : Left H := { results := [], args := [] }

/-- 'laws.FnWriteEagerTwice': WHATEVER THE INPUT: true; the input reads as it did. -/
def fnWriteEagerTwiceSpec : ChangeSpec := { name := "fnWriteEagerTwice", fn := fun _ => fun
  | [d] => { results := [.lit (.bool true)], args := [d] }
  | _ => none }
def fnWriteEagerTwiceRow : OpenClaim := { program := "ytjogmblilagohaagreat", sum := "a0eb0200918df2c1db47802793e04c94f9d407f9219888ee640c6a47baaeb651", func := "loop.example/signalgraph/laws.FnWriteEagerTwice", spec := "fnWriteEagerTwice", unfollowed := true, recurses := true, apart := false }
def FnWriteEagerTwiceSaid : Prop := fnWriteEagerTwiceRow.holds Tryz.pinned (OpenSpec.ofChange fnWriteEagerTwiceSpec)

/-- ITS FALSE NEIGHBOUR: 'it returns false'. Refute it at one input. -/
def fnWriteEagerTwiceWrong : ChangeSpec := { name := "fnWriteEagerTwice", fn := fun _ => fun
  | [d] => { results := [.lit (.bool false)], args := [d] }
  | _ => none }
def FnWriteEagerTwiceWrongFalsely : Prop := fnWriteEagerTwiceRow.holds Tryz.pinned (OpenSpec.ofChange fnWriteEagerTwiceWrong)

/-- 'laws.FnExactWriteEager': WHATEVER THE INPUT: true; the input reads as it did. -/
def fnExactWriteEagerSpec : ChangeSpec := { name := "fnExactWriteEager", fn := fun _ => fun
  | [d1, d2, d3, d4] => { results := [.lit (.bool true)], args := [d1, d2, d3, d4] }
  | _ => none }
def fnExactWriteEagerRow : OpenClaim := { program := "ytjogmblilagohaagreat", sum := "a0eb0200918df2c1db47802793e04c94f9d407f9219888ee640c6a47baaeb651", func := "loop.example/signalgraph/laws.FnExactWriteEager", spec := "fnExactWriteEager", unfollowed := true, recurses := true, apart := false }
def FnExactWriteEagerSaid : Prop := fnExactWriteEagerRow.holds Tryz.pinned (OpenSpec.ofChange fnExactWriteEagerSpec)

/-- ITS FALSE NEIGHBOUR: 'it returns false'. Refute it at one input. -/
def fnExactWriteEagerWrong : ChangeSpec := { name := "fnExactWriteEager", fn := fun _ => fun
  | [d1, d2, d3, d4] => { results := [.lit (.bool false)], args := [d1, d2, d3, d4] }
  | _ => none }
def FnExactWriteEagerWrongFalsely : Prop := fnExactWriteEagerRow.holds Tryz.pinned (OpenSpec.ofChange fnExactWriteEagerWrong)

/-- 'laws.FnWriteEager': WHATEVER THE INPUT: true; the input reads as it did. -/
def fnWriteEagerSpec : ChangeSpec := { name := "fnWriteEager", fn := fun _ => fun
  | [d] => { results := [.lit (.bool true)], args := [d] }
  | _ => none }
def fnWriteEagerRow : OpenClaim := { program := "ytjogmblilagohaagreat", sum := "a0eb0200918df2c1db47802793e04c94f9d407f9219888ee640c6a47baaeb651", func := "loop.example/signalgraph/laws.FnWriteEager", spec := "fnWriteEager", unfollowed := true, recurses := true, apart := false }
def FnWriteEagerSaid : Prop := fnWriteEagerRow.holds Tryz.pinned (OpenSpec.ofChange fnWriteEagerSpec)

/-- ITS FALSE NEIGHBOUR: 'it returns false'. Refute it at one input. -/
def fnWriteEagerWrong : ChangeSpec := { name := "fnWriteEager", fn := fun _ => fun
  | [d] => { results := [.lit (.bool false)], args := [d] }
  | _ => none }
def FnWriteEagerWrongFalsely : Prop := fnWriteEagerRow.holds Tryz.pinned (OpenSpec.ofChange fnWriteEagerWrong)

/-- 'laws.FnWriteEagerRuns': WHATEVER THE INPUT: true; the input reads as it did. -/
def fnWriteEagerRunsSpec : ChangeSpec := { name := "fnWriteEagerRuns", fn := fun _ => fun
  | [d] => { results := [.lit (.bool true)], args := [d] }
  | _ => none }
def fnWriteEagerRunsRow : OpenClaim := { program := "ytjogmblilagohaagreat", sum := "a0eb0200918df2c1db47802793e04c94f9d407f9219888ee640c6a47baaeb651", func := "loop.example/signalgraph/laws.FnWriteEagerRuns", spec := "fnWriteEagerRuns", unfollowed := true, recurses := true, apart := false }
def FnWriteEagerRunsSaid : Prop := fnWriteEagerRunsRow.holds Tryz.pinned (OpenSpec.ofChange fnWriteEagerRunsSpec)

/-- ITS FALSE NEIGHBOUR: 'it returns false'. Refute it at one input. -/
def fnWriteEagerRunsWrong : ChangeSpec := { name := "fnWriteEagerRuns", fn := fun _ => fun
  | [d] => { results := [.lit (.bool false)], args := [d] }
  | _ => none }
def FnWriteEagerRunsWrongFalsely : Prop := fnWriteEagerRunsRow.holds Tryz.pinned (OpenSpec.ofChange fnWriteEagerRunsWrong)

/-- 'laws.FnExactMoveHistory': WHATEVER THE INPUT: true; the input reads as it did. -/
def fnExactMoveHistorySpec : ChangeSpec := { name := "fnExactMoveHistory", fn := fun _ => fun
  | [d1, d2, d3] => { results := [.lit (.bool true)], args := [d1, d2, d3] }
  | _ => none }
def fnExactMoveHistoryRow : OpenClaim := { program := "ytjogmblilagohaagreat", sum := "a0eb0200918df2c1db47802793e04c94f9d407f9219888ee640c6a47baaeb651", func := "loop.example/signalgraph/laws.FnExactMoveHistory", spec := "fnExactMoveHistory", unfollowed := true, recurses := true, apart := false }
def FnExactMoveHistorySaid : Prop := fnExactMoveHistoryRow.holds Tryz.pinned (OpenSpec.ofChange fnExactMoveHistorySpec)

/-- ITS FALSE NEIGHBOUR: 'it returns false'. Refute it at one input. -/
def fnExactMoveHistoryWrong : ChangeSpec := { name := "fnExactMoveHistory", fn := fun _ => fun
  | [d1, d2, d3] => { results := [.lit (.bool false)], args := [d1, d2, d3] }
  | _ => none }
def FnExactMoveHistoryWrongFalsely : Prop := fnExactMoveHistoryRow.holds Tryz.pinned (OpenSpec.ofChange fnExactMoveHistoryWrong)

/-- 'laws.FnExactWriteHasty': WHATEVER THE INPUT: true; the input reads as it did. -/
def fnExactWriteHastySpec : ChangeSpec := { name := "fnExactWriteHasty", fn := fun _ => fun
  | [d1, d2, d3, d4] => { results := [.lit (.bool true)], args := [d1, d2, d3, d4] }
  | _ => none }
def fnExactWriteHastyRow : OpenClaim := { program := "ytjogmblilagohaagreat", sum := "a0eb0200918df2c1db47802793e04c94f9d407f9219888ee640c6a47baaeb651", func := "loop.example/signalgraph/laws.FnExactWriteHasty", spec := "fnExactWriteHasty", unfollowed := true, recurses := true, apart := false }
def FnExactWriteHastySaid : Prop := fnExactWriteHastyRow.holds Tryz.pinned (OpenSpec.ofChange fnExactWriteHastySpec)

/-- ITS FALSE NEIGHBOUR: 'it returns false'. Refute it at one input. -/
def fnExactWriteHastyWrong : ChangeSpec := { name := "fnExactWriteHasty", fn := fun _ => fun
  | [d1, d2, d3, d4] => { results := [.lit (.bool false)], args := [d1, d2, d3, d4] }
  | _ => none }
def FnExactWriteHastyWrongFalsely : Prop := fnExactWriteHastyRow.holds Tryz.pinned (OpenSpec.ofChange fnExactWriteHastyWrong)

/-- 'laws.FnExactPlainSession': WHATEVER THE INPUT: true; the input reads as it did. -/
def fnExactPlainSessionSpec : ChangeSpec := { name := "fnExactPlainSession", fn := fun _ => fun
  | [d1, d2, d3] => { results := [.lit (.bool true)], args := [d1, d2, d3] }
  | _ => none }
def fnExactPlainSessionRow : OpenClaim := { program := "ytjogmblilagohaagreat", sum := "a0eb0200918df2c1db47802793e04c94f9d407f9219888ee640c6a47baaeb651", func := "loop.example/signalgraph/laws.FnExactPlainSession", spec := "fnExactPlainSession", unfollowed := true, recurses := true, apart := false }
def FnExactPlainSessionSaid : Prop := fnExactPlainSessionRow.holds Tryz.pinned (OpenSpec.ofChange fnExactPlainSessionSpec)

/-- ITS FALSE NEIGHBOUR: 'it returns false'. Refute it at one input. -/
def fnExactPlainSessionWrong : ChangeSpec := { name := "fnExactPlainSession", fn := fun _ => fun
  | [d1, d2, d3] => { results := [.lit (.bool false)], args := [d1, d2, d3] }
  | _ => none }
def FnExactPlainSessionWrongFalsely : Prop := fnExactPlainSessionRow.holds Tryz.pinned (OpenSpec.ofChange fnExactPlainSessionWrong)

/-- 'laws.FnExactEagerSession': WHATEVER THE INPUT: true; the input reads as it did. -/
def fnExactEagerSessionSpec : ChangeSpec := { name := "fnExactEagerSession", fn := fun _ => fun
  | [d1, d2, d3] => { results := [.lit (.bool true)], args := [d1, d2, d3] }
  | _ => none }
def fnExactEagerSessionRow : OpenClaim := { program := "ytjogmblilagohaagreat", sum := "a0eb0200918df2c1db47802793e04c94f9d407f9219888ee640c6a47baaeb651", func := "loop.example/signalgraph/laws.FnExactEagerSession", spec := "fnExactEagerSession", unfollowed := true, recurses := true, apart := false }
def FnExactEagerSessionSaid : Prop := fnExactEagerSessionRow.holds Tryz.pinned (OpenSpec.ofChange fnExactEagerSessionSpec)

/-- ITS FALSE NEIGHBOUR: 'it returns false'. Refute it at one input. -/
def fnExactEagerSessionWrong : ChangeSpec := { name := "fnExactEagerSession", fn := fun _ => fun
  | [d1, d2, d3] => { results := [.lit (.bool false)], args := [d1, d2, d3] }
  | _ => none }
def FnExactEagerSessionWrongFalsely : Prop := fnExactEagerSessionRow.holds Tryz.pinned (OpenSpec.ofChange fnExactEagerSessionWrong)

/-- 'laws.FnExactWriteLazy': WHATEVER THE INPUT: true; the input reads as it did. -/
def fnExactWriteLazySpec : ChangeSpec := { name := "fnExactWriteLazy", fn := fun _ => fun
  | [d1, d2, d3, d4] => { results := [.lit (.bool true)], args := [d1, d2, d3, d4] }
  | _ => none }
def fnExactWriteLazyRow : OpenClaim := { program := "ytjogmblilagohaagreat", sum := "a0eb0200918df2c1db47802793e04c94f9d407f9219888ee640c6a47baaeb651", func := "loop.example/signalgraph/laws.FnExactWriteLazy", spec := "fnExactWriteLazy", unfollowed := true, recurses := true, apart := false }
def FnExactWriteLazySaid : Prop := fnExactWriteLazyRow.holds Tryz.pinned (OpenSpec.ofChange fnExactWriteLazySpec)

/-- ITS FALSE NEIGHBOUR: 'it returns false'. Refute it at one input. -/
def fnExactWriteLazyWrong : ChangeSpec := { name := "fnExactWriteLazy", fn := fun _ => fun
  | [d1, d2, d3, d4] => { results := [.lit (.bool false)], args := [d1, d2, d3, d4] }
  | _ => none }
def FnExactWriteLazyWrongFalsely : Prop := fnExactWriteLazyRow.holds Tryz.pinned (OpenSpec.ofChange fnExactWriteLazyWrong)

/-- 'laws.FnExactForgetNode': WHATEVER THE INPUT: true; the input reads as it did. -/
def fnExactForgetNodeSpec : ChangeSpec := { name := "fnExactForgetNode", fn := fun _ => fun
  | [d1, d2, d3] => { results := [.lit (.bool true)], args := [d1, d2, d3] }
  | _ => none }
def fnExactForgetNodeRow : OpenClaim := { program := "ytjogmblilagohaagreat", sum := "a0eb0200918df2c1db47802793e04c94f9d407f9219888ee640c6a47baaeb651", func := "loop.example/signalgraph/laws.FnExactForgetNode", spec := "fnExactForgetNode", unfollowed := true, recurses := true, apart := false }
def FnExactForgetNodeSaid : Prop := fnExactForgetNodeRow.holds Tryz.pinned (OpenSpec.ofChange fnExactForgetNodeSpec)

/-- ITS FALSE NEIGHBOUR: 'it returns false'. Refute it at one input. -/
def fnExactForgetNodeWrong : ChangeSpec := { name := "fnExactForgetNode", fn := fun _ => fun
  | [d1, d2, d3] => { results := [.lit (.bool false)], args := [d1, d2, d3] }
  | _ => none }
def FnExactForgetNodeWrongFalsely : Prop := fnExactForgetNodeRow.holds Tryz.pinned (OpenSpec.ofChange fnExactForgetNodeWrong)

/- THE SECOND FORM. 'bulk': how many values and letters a reading holds, each counted each time it is reached (what is shared counts as often as it is met; a slice's spare places count too). A statement '..UptoSaid' is the law's where the arguments, and the package variables that the reading takes, are together of bulk at most 1048576: NARROWER than '..Said'. Prove '..Said' where nothing that the law and all that it calls make is longer than what came in: it says more and counts as full. Else prove '..UptoSaid'. A law counts once. -/
mutual
def uptoBulk {H : Type} : DataW H → Nat
  | .lit (.string bytes) => bytes.length + 1
  | .lit _ => 1
  | .nil => 1
  | .ptr d => uptoBulk d + 1
  | .slice elems spare => uptoBulkAll elems + uptoBulkAll spare + 1
  | .agg parts => uptoBulkAll parts + 1
  | .iface _ d => uptoBulk d + 1
  | .map entries => uptoBulkEntries entries + 1
  | .held _ => 1
def uptoBulkAll {H : Type} : List (DataW H) → Nat
  | [] => 0
  | d :: r => uptoBulk d + uptoBulkAll r
def uptoBulkEntries {H : Type} : List (Lit × DataW H) → Nat
  | [] => 0
  | x :: r => uptoBulkEntry x + uptoBulkEntries r
def uptoBulkEntry {H : Type} : Lit × DataW H → Nat
  | (.string bytes, d) => bytes.length + uptoBulk d + 1
  | (_, d) => uptoBulk d + 1
 end
def uptoSmall : (H : Type) → List (DataW H) → Bool := fun _ ds => decide (uptoBulkAll ds ≤ 1048576)
def OpenSpec.upto (s : _root_.Go.ChangeSpec) : _root_.Go.OpenSpec := { _root_.Go.OpenSpec.ofChange s with cond := some uptoSmall }

/-- 'laws.FnWriteEagerTwice', WHERE WHAT IT READS IS OF BULK AT MOST 1048576: true; the input reads as it did. -/
def fnWriteEagerTwiceUptoRow : OpenClaim := { program := "ytjogmblilagohaagreat", sum := "a0eb0200918df2c1db47802793e04c94f9d407f9219888ee640c6a47baaeb651", func := "loop.example/signalgraph/laws.FnWriteEagerTwice", spec := "fnWriteEagerTwice", unfollowed := true, recurses := true, apart := false, narrowed := true }
def FnWriteEagerTwiceUptoSaid : Prop := fnWriteEagerTwiceUptoRow.holds Tryz.pinned (OpenSpec.upto fnWriteEagerTwiceSpec)

/-- 'laws.FnExactWriteEager', WHERE WHAT IT READS IS OF BULK AT MOST 1048576: true; the input reads as it did. -/
def fnExactWriteEagerUptoRow : OpenClaim := { program := "ytjogmblilagohaagreat", sum := "a0eb0200918df2c1db47802793e04c94f9d407f9219888ee640c6a47baaeb651", func := "loop.example/signalgraph/laws.FnExactWriteEager", spec := "fnExactWriteEager", unfollowed := true, recurses := true, apart := false, narrowed := true }
def FnExactWriteEagerUptoSaid : Prop := fnExactWriteEagerUptoRow.holds Tryz.pinned (OpenSpec.upto fnExactWriteEagerSpec)

/-- 'laws.FnWriteEager', WHERE WHAT IT READS IS OF BULK AT MOST 1048576: true; the input reads as it did. -/
def fnWriteEagerUptoRow : OpenClaim := { program := "ytjogmblilagohaagreat", sum := "a0eb0200918df2c1db47802793e04c94f9d407f9219888ee640c6a47baaeb651", func := "loop.example/signalgraph/laws.FnWriteEager", spec := "fnWriteEager", unfollowed := true, recurses := true, apart := false, narrowed := true }
def FnWriteEagerUptoSaid : Prop := fnWriteEagerUptoRow.holds Tryz.pinned (OpenSpec.upto fnWriteEagerSpec)

/-- 'laws.FnWriteEagerRuns', WHERE WHAT IT READS IS OF BULK AT MOST 1048576: true; the input reads as it did. -/
def fnWriteEagerRunsUptoRow : OpenClaim := { program := "ytjogmblilagohaagreat", sum := "a0eb0200918df2c1db47802793e04c94f9d407f9219888ee640c6a47baaeb651", func := "loop.example/signalgraph/laws.FnWriteEagerRuns", spec := "fnWriteEagerRuns", unfollowed := true, recurses := true, apart := false, narrowed := true }
def FnWriteEagerRunsUptoSaid : Prop := fnWriteEagerRunsUptoRow.holds Tryz.pinned (OpenSpec.upto fnWriteEagerRunsSpec)

/-- 'laws.FnExactMoveHistory', WHERE WHAT IT READS IS OF BULK AT MOST 1048576: true; the input reads as it did. -/
def fnExactMoveHistoryUptoRow : OpenClaim := { program := "ytjogmblilagohaagreat", sum := "a0eb0200918df2c1db47802793e04c94f9d407f9219888ee640c6a47baaeb651", func := "loop.example/signalgraph/laws.FnExactMoveHistory", spec := "fnExactMoveHistory", unfollowed := true, recurses := true, apart := false, narrowed := true }
def FnExactMoveHistoryUptoSaid : Prop := fnExactMoveHistoryUptoRow.holds Tryz.pinned (OpenSpec.upto fnExactMoveHistorySpec)

/-- 'laws.FnExactWriteHasty', WHERE WHAT IT READS IS OF BULK AT MOST 1048576: true; the input reads as it did. -/
def fnExactWriteHastyUptoRow : OpenClaim := { program := "ytjogmblilagohaagreat", sum := "a0eb0200918df2c1db47802793e04c94f9d407f9219888ee640c6a47baaeb651", func := "loop.example/signalgraph/laws.FnExactWriteHasty", spec := "fnExactWriteHasty", unfollowed := true, recurses := true, apart := false, narrowed := true }
def FnExactWriteHastyUptoSaid : Prop := fnExactWriteHastyUptoRow.holds Tryz.pinned (OpenSpec.upto fnExactWriteHastySpec)

/-- 'laws.FnExactPlainSession', WHERE WHAT IT READS IS OF BULK AT MOST 1048576: true; the input reads as it did. -/
def fnExactPlainSessionUptoRow : OpenClaim := { program := "ytjogmblilagohaagreat", sum := "a0eb0200918df2c1db47802793e04c94f9d407f9219888ee640c6a47baaeb651", func := "loop.example/signalgraph/laws.FnExactPlainSession", spec := "fnExactPlainSession", unfollowed := true, recurses := true, apart := false, narrowed := true }
def FnExactPlainSessionUptoSaid : Prop := fnExactPlainSessionUptoRow.holds Tryz.pinned (OpenSpec.upto fnExactPlainSessionSpec)

/-- 'laws.FnExactEagerSession', WHERE WHAT IT READS IS OF BULK AT MOST 1048576: true; the input reads as it did. -/
def fnExactEagerSessionUptoRow : OpenClaim := { program := "ytjogmblilagohaagreat", sum := "a0eb0200918df2c1db47802793e04c94f9d407f9219888ee640c6a47baaeb651", func := "loop.example/signalgraph/laws.FnExactEagerSession", spec := "fnExactEagerSession", unfollowed := true, recurses := true, apart := false, narrowed := true }
def FnExactEagerSessionUptoSaid : Prop := fnExactEagerSessionUptoRow.holds Tryz.pinned (OpenSpec.upto fnExactEagerSessionSpec)

/-- 'laws.FnExactWriteLazy', WHERE WHAT IT READS IS OF BULK AT MOST 1048576: true; the input reads as it did. -/
def fnExactWriteLazyUptoRow : OpenClaim := { program := "ytjogmblilagohaagreat", sum := "a0eb0200918df2c1db47802793e04c94f9d407f9219888ee640c6a47baaeb651", func := "loop.example/signalgraph/laws.FnExactWriteLazy", spec := "fnExactWriteLazy", unfollowed := true, recurses := true, apart := false, narrowed := true }
def FnExactWriteLazyUptoSaid : Prop := fnExactWriteLazyUptoRow.holds Tryz.pinned (OpenSpec.upto fnExactWriteLazySpec)

/-- 'laws.FnExactForgetNode', WHERE WHAT IT READS IS OF BULK AT MOST 1048576: true; the input reads as it did. -/
def fnExactForgetNodeUptoRow : OpenClaim := { program := "ytjogmblilagohaagreat", sum := "a0eb0200918df2c1db47802793e04c94f9d407f9219888ee640c6a47baaeb651", func := "loop.example/signalgraph/laws.FnExactForgetNode", spec := "fnExactForgetNode", unfollowed := true, recurses := true, apart := false, narrowed := true }
def FnExactForgetNodeUptoSaid : Prop := fnExactForgetNodeUptoRow.holds Tryz.pinned (OpenSpec.upto fnExactForgetNodeSpec)

end Rows
end Go.Proofs.YtjogmblilagohaaGreat
