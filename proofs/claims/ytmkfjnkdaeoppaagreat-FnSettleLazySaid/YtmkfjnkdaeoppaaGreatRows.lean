/-
  No cell of these rows narrows 'for every input' (looked for: loops, veiled, ifaces, maps, wideKeys, modest, calm, conditions, laid).
  DERIVED. THE GIVEN ROWS OF THIS SEAT. 14 by the template 'for every input the law returns true; each argument reads behind the call as it read before'; 0 by the template 'total and deterministic' (their statements: YtmkfjnkdaeoppaaGreatTotals.lean).
  GIVEN WITH THE SEED: the statements are not yours to turn. If you find one false, say at which input.
  Laid BY PROGRAM, IN A SANDBOX (cutbox-rows.mjs): the forced cells as the released guide's own fill.sh prints them over the translation 3650b82ae1e409da… (all of the seat's roots in one cut). By AI agents, Wed Nov 11 2026. No macro, syntax, notation, axiom, sorry.
-/
import Derived.Test.YtmkfjnkdaeoppaaGreatChecked
import GoSem.Claim
import GoSem.ClaimJoined
import GoSem.ClaimMapViews
import Derived.JoinedTies
import Derived.KernelRfl
namespace Go.Proofs.YtmkfjnkdaeoppaaGreat
/- THE CELL 'sum', in the pinned program and in every row, IS THE sha256 OF THE DUMP (.gsa) THAT YtmkfjnkdaeoppaaGreatProg.lean LOADS. Nothing in Lean hashes anything: it is a label: what it is worth is what the hold of that sum in a sandbox is worth. -/
noncomputable def Tryz.pinned : Pinned := { name := "ytmkfjnkdaeoppaagreat", sum := "3650b82ae1e409da4b7e739500d9f26857e2a7348d50958ef048b403bdcaeffe", checked := Tryz.checked }
namespace Rows
def none {H : Type} : Left H := { results := [], args := [] }

/-- 'laws.FnStaleOf': WHATEVER THE INPUT: true; the input reads as it did. -/
def fnStaleOfSpec : ChangeSpec := { name := "fnStaleOf", fn := fun _ => fun
  | [d] => { results := [.lit (.bool true)], args := [d] }
  | _ => none }
def fnStaleOfRow : OpenClaim := { program := "ytmkfjnkdaeoppaagreat", sum := "3650b82ae1e409da4b7e739500d9f26857e2a7348d50958ef048b403bdcaeffe", func := "loop.example/signalgraph/laws.FnStaleOf", spec := "fnStaleOf", unfollowed := true, recurses := true, apart := false }
def FnStaleOfSaid : Prop := fnStaleOfRow.holds Tryz.pinned (OpenSpec.ofChange fnStaleOfSpec)

/-- ITS FALSE NEIGHBOUR: 'it returns false'. Refute it at one input. -/
def fnStaleOfWrong : ChangeSpec := { name := "fnStaleOf", fn := fun _ => fun
  | [d] => { results := [.lit (.bool false)], args := [d] }
  | _ => none }
def FnStaleOfWrongFalsely : Prop := fnStaleOfRow.holds Tryz.pinned (OpenSpec.ofChange fnStaleOfWrong)

/-- 'laws.FnValidLazy': WHATEVER THE INPUT: true; the input reads as it did. -/
def fnValidLazySpec : ChangeSpec := { name := "fnValidLazy", fn := fun _ => fun
  | [d] => { results := [.lit (.bool true)], args := [d] }
  | _ => none }
def fnValidLazyRow : OpenClaim := { program := "ytmkfjnkdaeoppaagreat", sum := "3650b82ae1e409da4b7e739500d9f26857e2a7348d50958ef048b403bdcaeffe", func := "loop.example/signalgraph/laws.FnValidLazy", spec := "fnValidLazy", unfollowed := true, recurses := true, apart := false }
def FnValidLazySaid : Prop := fnValidLazyRow.holds Tryz.pinned (OpenSpec.ofChange fnValidLazySpec)

/-- ITS FALSE NEIGHBOUR: 'it returns false'. Refute it at one input. -/
def fnValidLazyWrong : ChangeSpec := { name := "fnValidLazy", fn := fun _ => fun
  | [d] => { results := [.lit (.bool false)], args := [d] }
  | _ => none }
def FnValidLazyWrongFalsely : Prop := fnValidLazyRow.holds Tryz.pinned (OpenSpec.ofChange fnValidLazyWrong)

/-- 'laws.FnReadLazyMust': WHATEVER THE INPUT: true; the input reads as it did. -/
def fnReadLazyMustSpec : ChangeSpec := { name := "fnReadLazyMust", fn := fun _ => fun
  | [d] => { results := [.lit (.bool true)], args := [d] }
  | _ => none }
def fnReadLazyMustRow : OpenClaim := { program := "ytmkfjnkdaeoppaagreat", sum := "3650b82ae1e409da4b7e739500d9f26857e2a7348d50958ef048b403bdcaeffe", func := "loop.example/signalgraph/laws.FnReadLazyMust", spec := "fnReadLazyMust", unfollowed := true, recurses := true, apart := false }
def FnReadLazyMustSaid : Prop := fnReadLazyMustRow.holds Tryz.pinned (OpenSpec.ofChange fnReadLazyMustSpec)

/-- ITS FALSE NEIGHBOUR: 'it returns false'. Refute it at one input. -/
def fnReadLazyMustWrong : ChangeSpec := { name := "fnReadLazyMust", fn := fun _ => fun
  | [d] => { results := [.lit (.bool false)], args := [d] }
  | _ => none }
def FnReadLazyMustWrongFalsely : Prop := fnReadLazyMustRow.holds Tryz.pinned (OpenSpec.ofChange fnReadLazyMustWrong)

/-- 'laws.FnReadLazyTwice': WHATEVER THE INPUT: true; the input reads as it did. -/
def fnReadLazyTwiceSpec : ChangeSpec := { name := "fnReadLazyTwice", fn := fun _ => fun
  | [d] => { results := [.lit (.bool true)], args := [d] }
  | _ => none }
def fnReadLazyTwiceRow : OpenClaim := { program := "ytmkfjnkdaeoppaagreat", sum := "3650b82ae1e409da4b7e739500d9f26857e2a7348d50958ef048b403bdcaeffe", func := "loop.example/signalgraph/laws.FnReadLazyTwice", spec := "fnReadLazyTwice", unfollowed := true, recurses := true, apart := false }
def FnReadLazyTwiceSaid : Prop := fnReadLazyTwiceRow.holds Tryz.pinned (OpenSpec.ofChange fnReadLazyTwiceSpec)

/-- ITS FALSE NEIGHBOUR: 'it returns false'. Refute it at one input. -/
def fnReadLazyTwiceWrong : ChangeSpec := { name := "fnReadLazyTwice", fn := fun _ => fun
  | [d] => { results := [.lit (.bool false)], args := [d] }
  | _ => none }
def FnReadLazyTwiceWrongFalsely : Prop := fnReadLazyTwiceRow.holds Tryz.pinned (OpenSpec.ofChange fnReadLazyTwiceWrong)

/-- 'laws.FnForgetNode': WHATEVER THE INPUT: true; the input reads as it did. -/
def fnForgetNodeSpec : ChangeSpec := { name := "fnForgetNode", fn := fun _ => fun
  | [d] => { results := [.lit (.bool true)], args := [d] }
  | _ => none }
def fnForgetNodeRow : OpenClaim := { program := "ytmkfjnkdaeoppaagreat", sum := "3650b82ae1e409da4b7e739500d9f26857e2a7348d50958ef048b403bdcaeffe", func := "loop.example/signalgraph/laws.FnForgetNode", spec := "fnForgetNode", unfollowed := true, recurses := true, apart := false }
def FnForgetNodeSaid : Prop := fnForgetNodeRow.holds Tryz.pinned (OpenSpec.ofChange fnForgetNodeSpec)

/-- ITS FALSE NEIGHBOUR: 'it returns false'. Refute it at one input. -/
def fnForgetNodeWrong : ChangeSpec := { name := "fnForgetNode", fn := fun _ => fun
  | [d] => { results := [.lit (.bool false)], args := [d] }
  | _ => none }
def FnForgetNodeWrongFalsely : Prop := fnForgetNodeRow.holds Tryz.pinned (OpenSpec.ofChange fnForgetNodeWrong)

/-- 'laws.FnWriteLazyBack': WHATEVER THE INPUT: true; the input reads as it did. -/
def fnWriteLazyBackSpec : ChangeSpec := { name := "fnWriteLazyBack", fn := fun _ => fun
  | [d] => { results := [.lit (.bool true)], args := [d] }
  | _ => none }
def fnWriteLazyBackRow : OpenClaim := { program := "ytmkfjnkdaeoppaagreat", sum := "3650b82ae1e409da4b7e739500d9f26857e2a7348d50958ef048b403bdcaeffe", func := "loop.example/signalgraph/laws.FnWriteLazyBack", spec := "fnWriteLazyBack", unfollowed := true, recurses := true, apart := false }
def FnWriteLazyBackSaid : Prop := fnWriteLazyBackRow.holds Tryz.pinned (OpenSpec.ofChange fnWriteLazyBackSpec)

/-- ITS FALSE NEIGHBOUR: 'it returns false'. Refute it at one input. -/
def fnWriteLazyBackWrong : ChangeSpec := { name := "fnWriteLazyBack", fn := fun _ => fun
  | [d] => { results := [.lit (.bool false)], args := [d] }
  | _ => none }
def FnWriteLazyBackWrongFalsely : Prop := fnWriteLazyBackRow.holds Tryz.pinned (OpenSpec.ofChange fnWriteLazyBackWrong)

/-- 'laws.FnLazyCells': WHATEVER THE INPUT: true; the input reads as it did. -/
def fnLazyCellsSpec : ChangeSpec := { name := "fnLazyCells", fn := fun _ => fun
  | [d] => { results := [.lit (.bool true)], args := [d] }
  | _ => none }
def fnLazyCellsRow : OpenClaim := { program := "ytmkfjnkdaeoppaagreat", sum := "3650b82ae1e409da4b7e739500d9f26857e2a7348d50958ef048b403bdcaeffe", func := "loop.example/signalgraph/laws.FnLazyCells", spec := "fnLazyCells", unfollowed := true, recurses := true, apart := false }
def FnLazyCellsSaid : Prop := fnLazyCellsRow.holds Tryz.pinned (OpenSpec.ofChange fnLazyCellsSpec)

/-- ITS FALSE NEIGHBOUR: 'it returns false'. Refute it at one input. -/
def fnLazyCellsWrong : ChangeSpec := { name := "fnLazyCells", fn := fun _ => fun
  | [d] => { results := [.lit (.bool false)], args := [d] }
  | _ => none }
def FnLazyCellsWrongFalsely : Prop := fnLazyCellsRow.holds Tryz.pinned (OpenSpec.ofChange fnLazyCellsWrong)

/-- 'laws.FnReadAll': WHATEVER THE INPUT: true; the input reads as it did. -/
def fnReadAllSpec : ChangeSpec := { name := "fnReadAll", fn := fun _ => fun
  | [d] => { results := [.lit (.bool true)], args := [d] }
  | _ => none }
def fnReadAllRow : OpenClaim := { program := "ytmkfjnkdaeoppaagreat", sum := "3650b82ae1e409da4b7e739500d9f26857e2a7348d50958ef048b403bdcaeffe", func := "loop.example/signalgraph/laws.FnReadAll", spec := "fnReadAll", unfollowed := true, recurses := true, apart := false }
def FnReadAllSaid : Prop := fnReadAllRow.holds Tryz.pinned (OpenSpec.ofChange fnReadAllSpec)

/-- ITS FALSE NEIGHBOUR: 'it returns false'. Refute it at one input. -/
def fnReadAllWrong : ChangeSpec := { name := "fnReadAll", fn := fun _ => fun
  | [d] => { results := [.lit (.bool false)], args := [d] }
  | _ => none }
def FnReadAllWrongFalsely : Prop := fnReadAllRow.holds Tryz.pinned (OpenSpec.ofChange fnReadAllWrong)

/-- 'laws.FnWriteLazy': WHATEVER THE INPUT: true; the input reads as it did. -/
def fnWriteLazySpec : ChangeSpec := { name := "fnWriteLazy", fn := fun _ => fun
  | [d] => { results := [.lit (.bool true)], args := [d] }
  | _ => none }
def fnWriteLazyRow : OpenClaim := { program := "ytmkfjnkdaeoppaagreat", sum := "3650b82ae1e409da4b7e739500d9f26857e2a7348d50958ef048b403bdcaeffe", func := "loop.example/signalgraph/laws.FnWriteLazy", spec := "fnWriteLazy", unfollowed := true, recurses := true, apart := false }
def FnWriteLazySaid : Prop := fnWriteLazyRow.holds Tryz.pinned (OpenSpec.ofChange fnWriteLazySpec)

/-- ITS FALSE NEIGHBOUR: 'it returns false'. Refute it at one input. -/
def fnWriteLazyWrong : ChangeSpec := { name := "fnWriteLazy", fn := fun _ => fun
  | [d] => { results := [.lit (.bool false)], args := [d] }
  | _ => none }
def FnWriteLazyWrongFalsely : Prop := fnWriteLazyRow.holds Tryz.pinned (OpenSpec.ofChange fnWriteLazyWrong)

/-- 'laws.FnReadLazyRuns': WHATEVER THE INPUT: true; the input reads as it did. -/
def fnReadLazyRunsSpec : ChangeSpec := { name := "fnReadLazyRuns", fn := fun _ => fun
  | [d] => { results := [.lit (.bool true)], args := [d] }
  | _ => none }
def fnReadLazyRunsRow : OpenClaim := { program := "ytmkfjnkdaeoppaagreat", sum := "3650b82ae1e409da4b7e739500d9f26857e2a7348d50958ef048b403bdcaeffe", func := "loop.example/signalgraph/laws.FnReadLazyRuns", spec := "fnReadLazyRuns", unfollowed := true, recurses := true, apart := false }
def FnReadLazyRunsSaid : Prop := fnReadLazyRunsRow.holds Tryz.pinned (OpenSpec.ofChange fnReadLazyRunsSpec)

/-- ITS FALSE NEIGHBOUR: 'it returns false'. Refute it at one input. -/
def fnReadLazyRunsWrong : ChangeSpec := { name := "fnReadLazyRuns", fn := fun _ => fun
  | [d] => { results := [.lit (.bool false)], args := [d] }
  | _ => none }
def FnReadLazyRunsWrongFalsely : Prop := fnReadLazyRunsRow.holds Tryz.pinned (OpenSpec.ofChange fnReadLazyRunsWrong)

/-- 'laws.FnReadLazy': WHATEVER THE INPUT: true; the input reads as it did. -/
def fnReadLazySpec : ChangeSpec := { name := "fnReadLazy", fn := fun _ => fun
  | [d] => { results := [.lit (.bool true)], args := [d] }
  | _ => none }
def fnReadLazyRow : OpenClaim := { program := "ytmkfjnkdaeoppaagreat", sum := "3650b82ae1e409da4b7e739500d9f26857e2a7348d50958ef048b403bdcaeffe", func := "loop.example/signalgraph/laws.FnReadLazy", spec := "fnReadLazy", unfollowed := true, recurses := true, apart := false }
def FnReadLazySaid : Prop := fnReadLazyRow.holds Tryz.pinned (OpenSpec.ofChange fnReadLazySpec)

/-- ITS FALSE NEIGHBOUR: 'it returns false'. Refute it at one input. -/
def fnReadLazyWrong : ChangeSpec := { name := "fnReadLazy", fn := fun _ => fun
  | [d] => { results := [.lit (.bool false)], args := [d] }
  | _ => none }
def FnReadLazyWrongFalsely : Prop := fnReadLazyRow.holds Tryz.pinned (OpenSpec.ofChange fnReadLazyWrong)

/-- 'laws.FnSettleLazy': WHATEVER THE INPUT: true; the input reads as it did. -/
def fnSettleLazySpec : ChangeSpec := { name := "fnSettleLazy", fn := fun _ => fun
  | [d] => { results := [.lit (.bool true)], args := [d] }
  | _ => none }
def fnSettleLazyRow : OpenClaim := { program := "ytmkfjnkdaeoppaagreat", sum := "3650b82ae1e409da4b7e739500d9f26857e2a7348d50958ef048b403bdcaeffe", func := "loop.example/signalgraph/laws.FnSettleLazy", spec := "fnSettleLazy", unfollowed := true, recurses := true, apart := false }
def FnSettleLazySaid : Prop := fnSettleLazyRow.holds Tryz.pinned (OpenSpec.ofChange fnSettleLazySpec)

/-- ITS FALSE NEIGHBOUR: 'it returns false'. Refute it at one input. -/
def fnSettleLazyWrong : ChangeSpec := { name := "fnSettleLazy", fn := fun _ => fun
  | [d] => { results := [.lit (.bool false)], args := [d] }
  | _ => none }
def FnSettleLazyWrongFalsely : Prop := fnSettleLazyRow.holds Tryz.pinned (OpenSpec.ofChange fnSettleLazyWrong)

/-- 'laws.FnWriteHasty': WHATEVER THE INPUT: true; the input reads as it did. -/
def fnWriteHastySpec : ChangeSpec := { name := "fnWriteHasty", fn := fun _ => fun
  | [d] => { results := [.lit (.bool true)], args := [d] }
  | _ => none }
def fnWriteHastyRow : OpenClaim := { program := "ytmkfjnkdaeoppaagreat", sum := "3650b82ae1e409da4b7e739500d9f26857e2a7348d50958ef048b403bdcaeffe", func := "loop.example/signalgraph/laws.FnWriteHasty", spec := "fnWriteHasty", unfollowed := true, recurses := true, apart := false }
def FnWriteHastySaid : Prop := fnWriteHastyRow.holds Tryz.pinned (OpenSpec.ofChange fnWriteHastySpec)

/-- ITS FALSE NEIGHBOUR: 'it returns false'. Refute it at one input. -/
def fnWriteHastyWrong : ChangeSpec := { name := "fnWriteHasty", fn := fun _ => fun
  | [d] => { results := [.lit (.bool false)], args := [d] }
  | _ => none }
def FnWriteHastyWrongFalsely : Prop := fnWriteHastyRow.holds Tryz.pinned (OpenSpec.ofChange fnWriteHastyWrong)

/-- 'laws.FnWriteHastyRuns': WHATEVER THE INPUT: true; the input reads as it did. -/
def fnWriteHastyRunsSpec : ChangeSpec := { name := "fnWriteHastyRuns", fn := fun _ => fun
  | [d] => { results := [.lit (.bool true)], args := [d] }
  | _ => none }
def fnWriteHastyRunsRow : OpenClaim := { program := "ytmkfjnkdaeoppaagreat", sum := "3650b82ae1e409da4b7e739500d9f26857e2a7348d50958ef048b403bdcaeffe", func := "loop.example/signalgraph/laws.FnWriteHastyRuns", spec := "fnWriteHastyRuns", unfollowed := true, recurses := true, apart := false }
def FnWriteHastyRunsSaid : Prop := fnWriteHastyRunsRow.holds Tryz.pinned (OpenSpec.ofChange fnWriteHastyRunsSpec)

/-- ITS FALSE NEIGHBOUR: 'it returns false'. Refute it at one input. -/
def fnWriteHastyRunsWrong : ChangeSpec := { name := "fnWriteHastyRuns", fn := fun _ => fun
  | [d] => { results := [.lit (.bool false)], args := [d] }
  | _ => none }
def FnWriteHastyRunsWrongFalsely : Prop := fnWriteHastyRunsRow.holds Tryz.pinned (OpenSpec.ofChange fnWriteHastyRunsWrong)

/- THE SECOND FORM. 'bulk': how many values and letters a reading holds, each counted each time it is reached (what is shared counts as often as it is met; a slice's spare places count too). A statement '..UptoSaid' is the law's where the arguments, and the package variables that the reading takes, are together of bulk at most 1048576: NARROWER than '..Said'. Prove '..Said' where nothing that the law and all that it calls make is longer than what came in: it says more and counts as full. Else prove '..UptoSaid'. A law counts once. -/
mutual
def uptoBulk {H : Type} : DataW H → Nat
  | .lit (.string bytes) => bytes.length + 1
  | .lit _ => 1
  | .nil => 1
  | .ptr d => uptoBulk d + 1
  | .slice elems spare => uptoBulkAll elems + uptoBulkAll spare + 1
  | .agg parts => uptoBulkAll parts + 1
  | .iface _ d => uptoBulk d + 1
  | .map entries => uptoBulkEntries entries + 1
  | .held _ => 1
def uptoBulkAll {H : Type} : List (DataW H) → Nat
  | [] => 0
  | d :: r => uptoBulk d + uptoBulkAll r
def uptoBulkEntries {H : Type} : List (Lit × DataW H) → Nat
  | [] => 0
  | x :: r => uptoBulkEntry x + uptoBulkEntries r
def uptoBulkEntry {H : Type} : Lit × DataW H → Nat
  | (.string bytes, d) => bytes.length + uptoBulk d + 1
  | (_, d) => uptoBulk d + 1
 end
def uptoSmall : (H : Type) → List (DataW H) → Bool := fun _ ds => decide (uptoBulkAll ds ≤ 1048576)
def OpenSpec.upto (s : _root_.Go.ChangeSpec) : _root_.Go.OpenSpec := { _root_.Go.OpenSpec.ofChange s with cond := some uptoSmall }

/-- 'laws.FnStaleOf', WHERE WHAT IT READS IS OF BULK AT MOST 1048576: true; the input reads as it did. -/
def fnStaleOfUptoRow : OpenClaim := { program := "ytmkfjnkdaeoppaagreat", sum := "3650b82ae1e409da4b7e739500d9f26857e2a7348d50958ef048b403bdcaeffe", func := "loop.example/signalgraph/laws.FnStaleOf", spec := "fnStaleOf", unfollowed := true, recurses := true, apart := false, narrowed := true }
def FnStaleOfUptoSaid : Prop := fnStaleOfUptoRow.holds Tryz.pinned (OpenSpec.upto fnStaleOfSpec)

/-- 'laws.FnValidLazy', WHERE WHAT IT READS IS OF BULK AT MOST 1048576: true; the input reads as it did. -/
def fnValidLazyUptoRow : OpenClaim := { program := "ytmkfjnkdaeoppaagreat", sum := "3650b82ae1e409da4b7e739500d9f26857e2a7348d50958ef048b403bdcaeffe", func := "loop.example/signalgraph/laws.FnValidLazy", spec := "fnValidLazy", unfollowed := true, recurses := true, apart := false, narrowed := true }
def FnValidLazyUptoSaid : Prop := fnValidLazyUptoRow.holds Tryz.pinned (OpenSpec.upto fnValidLazySpec)

/-- 'laws.FnReadLazyMust', WHERE WHAT IT READS IS OF BULK AT MOST 1048576: true; the input reads as it did. -/
def fnReadLazyMustUptoRow : OpenClaim := { program := "ytmkfjnkdaeoppaagreat", sum := "3650b82ae1e409da4b7e739500d9f26857e2a7348d50958ef048b403bdcaeffe", func := "loop.example/signalgraph/laws.FnReadLazyMust", spec := "fnReadLazyMust", unfollowed := true, recurses := true, apart := false, narrowed := true }
def FnReadLazyMustUptoSaid : Prop := fnReadLazyMustUptoRow.holds Tryz.pinned (OpenSpec.upto fnReadLazyMustSpec)

/-- 'laws.FnReadLazyTwice', WHERE WHAT IT READS IS OF BULK AT MOST 1048576: true; the input reads as it did. -/
def fnReadLazyTwiceUptoRow : OpenClaim := { program := "ytmkfjnkdaeoppaagreat", sum := "3650b82ae1e409da4b7e739500d9f26857e2a7348d50958ef048b403bdcaeffe", func := "loop.example/signalgraph/laws.FnReadLazyTwice", spec := "fnReadLazyTwice", unfollowed := true, recurses := true, apart := false, narrowed := true }
def FnReadLazyTwiceUptoSaid : Prop := fnReadLazyTwiceUptoRow.holds Tryz.pinned (OpenSpec.upto fnReadLazyTwiceSpec)

/-- 'laws.FnForgetNode', WHERE WHAT IT READS IS OF BULK AT MOST 1048576: true; the input reads as it did. -/
def fnForgetNodeUptoRow : OpenClaim := { program := "ytmkfjnkdaeoppaagreat", sum := "3650b82ae1e409da4b7e739500d9f26857e2a7348d50958ef048b403bdcaeffe", func := "loop.example/signalgraph/laws.FnForgetNode", spec := "fnForgetNode", unfollowed := true, recurses := true, apart := false, narrowed := true }
def FnForgetNodeUptoSaid : Prop := fnForgetNodeUptoRow.holds Tryz.pinned (OpenSpec.upto fnForgetNodeSpec)

/-- 'laws.FnWriteLazyBack', WHERE WHAT IT READS IS OF BULK AT MOST 1048576: true; the input reads as it did. -/
def fnWriteLazyBackUptoRow : OpenClaim := { program := "ytmkfjnkdaeoppaagreat", sum := "3650b82ae1e409da4b7e739500d9f26857e2a7348d50958ef048b403bdcaeffe", func := "loop.example/signalgraph/laws.FnWriteLazyBack", spec := "fnWriteLazyBack", unfollowed := true, recurses := true, apart := false, narrowed := true }
def FnWriteLazyBackUptoSaid : Prop := fnWriteLazyBackUptoRow.holds Tryz.pinned (OpenSpec.upto fnWriteLazyBackSpec)

/-- 'laws.FnLazyCells', WHERE WHAT IT READS IS OF BULK AT MOST 1048576: true; the input reads as it did. -/
def fnLazyCellsUptoRow : OpenClaim := { program := "ytmkfjnkdaeoppaagreat", sum := "3650b82ae1e409da4b7e739500d9f26857e2a7348d50958ef048b403bdcaeffe", func := "loop.example/signalgraph/laws.FnLazyCells", spec := "fnLazyCells", unfollowed := true, recurses := true, apart := false, narrowed := true }
def FnLazyCellsUptoSaid : Prop := fnLazyCellsUptoRow.holds Tryz.pinned (OpenSpec.upto fnLazyCellsSpec)

/-- 'laws.FnReadAll', WHERE WHAT IT READS IS OF BULK AT MOST 1048576: true; the input reads as it did. -/
def fnReadAllUptoRow : OpenClaim := { program := "ytmkfjnkdaeoppaagreat", sum := "3650b82ae1e409da4b7e739500d9f26857e2a7348d50958ef048b403bdcaeffe", func := "loop.example/signalgraph/laws.FnReadAll", spec := "fnReadAll", unfollowed := true, recurses := true, apart := false, narrowed := true }
def FnReadAllUptoSaid : Prop := fnReadAllUptoRow.holds Tryz.pinned (OpenSpec.upto fnReadAllSpec)

/-- 'laws.FnWriteLazy', WHERE WHAT IT READS IS OF BULK AT MOST 1048576: true; the input reads as it did. -/
def fnWriteLazyUptoRow : OpenClaim := { program := "ytmkfjnkdaeoppaagreat", sum := "3650b82ae1e409da4b7e739500d9f26857e2a7348d50958ef048b403bdcaeffe", func := "loop.example/signalgraph/laws.FnWriteLazy", spec := "fnWriteLazy", unfollowed := true, recurses := true, apart := false, narrowed := true }
def FnWriteLazyUptoSaid : Prop := fnWriteLazyUptoRow.holds Tryz.pinned (OpenSpec.upto fnWriteLazySpec)

/-- 'laws.FnReadLazyRuns', WHERE WHAT IT READS IS OF BULK AT MOST 1048576: true; the input reads as it did. -/
def fnReadLazyRunsUptoRow : OpenClaim := { program := "ytmkfjnkdaeoppaagreat", sum := "3650b82ae1e409da4b7e739500d9f26857e2a7348d50958ef048b403bdcaeffe", func := "loop.example/signalgraph/laws.FnReadLazyRuns", spec := "fnReadLazyRuns", unfollowed := true, recurses := true, apart := false, narrowed := true }
def FnReadLazyRunsUptoSaid : Prop := fnReadLazyRunsUptoRow.holds Tryz.pinned (OpenSpec.upto fnReadLazyRunsSpec)

/-- 'laws.FnReadLazy', WHERE WHAT IT READS IS OF BULK AT MOST 1048576: true; the input reads as it did. -/
def fnReadLazyUptoRow : OpenClaim := { program := "ytmkfjnkdaeoppaagreat", sum := "3650b82ae1e409da4b7e739500d9f26857e2a7348d50958ef048b403bdcaeffe", func := "loop.example/signalgraph/laws.FnReadLazy", spec := "fnReadLazy", unfollowed := true, recurses := true, apart := false, narrowed := true }
def FnReadLazyUptoSaid : Prop := fnReadLazyUptoRow.holds Tryz.pinned (OpenSpec.upto fnReadLazySpec)

/-- 'laws.FnSettleLazy', WHERE WHAT IT READS IS OF BULK AT MOST 1048576: true; the input reads as it did. -/
def fnSettleLazyUptoRow : OpenClaim := { program := "ytmkfjnkdaeoppaagreat", sum := "3650b82ae1e409da4b7e739500d9f26857e2a7348d50958ef048b403bdcaeffe", func := "loop.example/signalgraph/laws.FnSettleLazy", spec := "fnSettleLazy", unfollowed := true, recurses := true, apart := false, narrowed := true }
def FnSettleLazyUptoSaid : Prop := fnSettleLazyUptoRow.holds Tryz.pinned (OpenSpec.upto fnSettleLazySpec)

/-- 'laws.FnWriteHasty', WHERE WHAT IT READS IS OF BULK AT MOST 1048576: true; the input reads as it did. -/
def fnWriteHastyUptoRow : OpenClaim := { program := "ytmkfjnkdaeoppaagreat", sum := "3650b82ae1e409da4b7e739500d9f26857e2a7348d50958ef048b403bdcaeffe", func := "loop.example/signalgraph/laws.FnWriteHasty", spec := "fnWriteHasty", unfollowed := true, recurses := true, apart := false, narrowed := true }
def FnWriteHastyUptoSaid : Prop := fnWriteHastyUptoRow.holds Tryz.pinned (OpenSpec.upto fnWriteHastySpec)

/-- 'laws.FnWriteHastyRuns', WHERE WHAT IT READS IS OF BULK AT MOST 1048576: true; the input reads as it did. -/
def fnWriteHastyRunsUptoRow : OpenClaim := { program := "ytmkfjnkdaeoppaagreat", sum := "3650b82ae1e409da4b7e739500d9f26857e2a7348d50958ef048b403bdcaeffe", func := "loop.example/signalgraph/laws.FnWriteHastyRuns", spec := "fnWriteHastyRuns", unfollowed := true, recurses := true, apart := false, narrowed := true }
def FnWriteHastyRunsUptoSaid : Prop := fnWriteHastyRunsUptoRow.holds Tryz.pinned (OpenSpec.upto fnWriteHastyRunsSpec)

end Rows
end Go.Proofs.YtmkfjnkdaeoppaaGreat
