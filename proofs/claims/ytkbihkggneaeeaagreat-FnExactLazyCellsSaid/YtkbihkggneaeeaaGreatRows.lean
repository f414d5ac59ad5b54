/-
  No cell of these rows narrows 'for every input' (looked for: loops, veiled, ifaces, maps, wideKeys, modest, calm, conditions, laid).
  DERIVED. THE GIVEN ROWS OF THIS SEAT. 7 by the template 'for every input the law returns true; each argument reads behind the call as it read before'; 0 by the template 'total and deterministic' (their statements: YtkbihkggneaeeaaGreatTotals.lean).
  GIVEN WITH THE SEED: the statements are not yours to turn. If you find one false, say at which input.
  Laid BY PROGRAM, IN A SANDBOX (cutbox-rows.mjs): the forced cells as the released guide's own fill.sh prints them over the translation 6bb6e20570481e26… (all of the seat's roots in one cut). By AI agents, Wed Nov 11 2026. No macro, syntax, notation, axiom, sorry.
-/
import Derived.Test.YtkbihkggneaeeaaGreatChecked
import GoSem.Claim
import GoSem.ClaimJoined
import GoSem.ClaimMapViews
import Derived.JoinedTies
import Derived.KernelRfl
namespace Go.Proofs.YtkbihkggneaeeaaGreat
/- THE CELL 'sum', in the pinned program and in every row, IS THE sha256 OF THE DUMP (.gsa) THAT YtkbihkggneaeeaaGreatProg.lean LOADS. Nothing in Lean hashes anything: it is a label: what it is worth is what the hold of that sum in a sandbox is worth. -/
noncomputable def Tryz.pinned : Pinned := { name := "ytkbihkggneaeeaagreat", sum := "6bb6e20570481e26a8bc53ca22ce226fa82a05f93a0b22d2fa11a5a6a5ea1ac0", checked := Tryz.checked }
namespace Rows
def none {H : Type} : Left H := { results := [], args := [] }

/-- 'laws.FnWriteEagerTwice': WHATEVER THE INPUT: true; the input reads as it did. -/
def fnWriteEagerTwiceSpec : ChangeSpec := { name := "fnWriteEagerTwice", fn := fun _ => fun
  | [d] => { results := [.lit (.bool true)], args := [d] }
  | _ => none }
def fnWriteEagerTwiceRow : OpenClaim := { program := "ytkbihkggneaeeaagreat", sum := "6bb6e20570481e26a8bc53ca22ce226fa82a05f93a0b22d2fa11a5a6a5ea1ac0", func := "loop.example/signalgraph/laws.FnWriteEagerTwice", spec := "fnWriteEagerTwice", unfollowed := true, recurses := true, apart := false }
def FnWriteEagerTwiceSaid : Prop := fnWriteEagerTwiceRow.holds Tryz.pinned (OpenSpec.ofChange fnWriteEagerTwiceSpec)

/-- ITS FALSE NEIGHBOUR: 'it returns false'. Refute it at one input. -/
def fnWriteEagerTwiceWrong : ChangeSpec := { name := "fnWriteEagerTwice", fn := fun _ => fun
  | [d] => { results := [.lit (.bool false)], args := [d] }
  | _ => none }
def FnWriteEagerTwiceWrongFalsely : Prop := fnWriteEagerTwiceRow.holds Tryz.pinned (OpenSpec.ofChange fnWriteEagerTwiceWrong)

/-- 'laws.FnExactStaleOf': WHATEVER THE INPUT: true; the input reads as it did. -/
def fnExactStaleOfSpec : ChangeSpec := { name := "fnExactStaleOf", fn := fun _ => fun
  | [d1, d2] => { results := [.lit (.bool true)], args := [d1, d2] }
  | _ => none }
def fnExactStaleOfRow : OpenClaim := { program := "ytkbihkggneaeeaagreat", sum := "6bb6e20570481e26a8bc53ca22ce226fa82a05f93a0b22d2fa11a5a6a5ea1ac0", func := "loop.example/signalgraph/laws.FnExactStaleOf", spec := "fnExactStaleOf", unfollowed := true, recurses := true, apart := false }
def FnExactStaleOfSaid : Prop := fnExactStaleOfRow.holds Tryz.pinned (OpenSpec.ofChange fnExactStaleOfSpec)

/-- ITS FALSE NEIGHBOUR: 'it returns false'. Refute it at one input. -/
def fnExactStaleOfWrong : ChangeSpec := { name := "fnExactStaleOf", fn := fun _ => fun
  | [d1, d2] => { results := [.lit (.bool false)], args := [d1, d2] }
  | _ => none }
def FnExactStaleOfWrongFalsely : Prop := fnExactStaleOfRow.holds Tryz.pinned (OpenSpec.ofChange fnExactStaleOfWrong)

/-- 'laws.FnExactMoveHistory': WHATEVER THE INPUT: true; the input reads as it did. -/
def fnExactMoveHistorySpec : ChangeSpec := { name := "fnExactMoveHistory", fn := fun _ => fun
  | [d1, d2, d3] => { results := [.lit (.bool true)], args := [d1, d2, d3] }
  | _ => none }
def fnExactMoveHistoryRow : OpenClaim := { program := "ytkbihkggneaeeaagreat", sum := "6bb6e20570481e26a8bc53ca22ce226fa82a05f93a0b22d2fa11a5a6a5ea1ac0", func := "loop.example/signalgraph/laws.FnExactMoveHistory", spec := "fnExactMoveHistory", unfollowed := true, recurses := true, apart := false }
def FnExactMoveHistorySaid : Prop := fnExactMoveHistoryRow.holds Tryz.pinned (OpenSpec.ofChange fnExactMoveHistorySpec)

/-- ITS FALSE NEIGHBOUR: 'it returns false'. Refute it at one input. -/
def fnExactMoveHistoryWrong : ChangeSpec := { name := "fnExactMoveHistory", fn := fun _ => fun
  | [d1, d2, d3] => { results := [.lit (.bool false)], args := [d1, d2, d3] }
  | _ => none }
def FnExactMoveHistoryWrongFalsely : Prop := fnExactMoveHistoryRow.holds Tryz.pinned (OpenSpec.ofChange fnExactMoveHistoryWrong)

/-- 'laws.FnExactLazyCells': WHATEVER THE INPUT: true; the input reads as it did. -/
def fnExactLazyCellsSpec : ChangeSpec := { name := "fnExactLazyCells", fn := fun _ => fun
  | [d1, d2] => { results := [.lit (.bool true)], args := [d1, d2] }
  | _ => none }
def fnExactLazyCellsRow : OpenClaim := { program := "ytkbihkggneaeeaagreat", sum := "6bb6e20570481e26a8bc53ca22ce226fa82a05f93a0b22d2fa11a5a6a5ea1ac0", func := "loop.example/signalgraph/laws.FnExactLazyCells", spec := "fnExactLazyCells", unfollowed := true, recurses := true, apart := false }
def FnExactLazyCellsSaid : Prop := fnExactLazyCellsRow.holds Tryz.pinned (OpenSpec.ofChange fnExactLazyCellsSpec)

/-- ITS FALSE NEIGHBOUR: 'it returns false'. Refute it at one input. -/
def fnExactLazyCellsWrong : ChangeSpec := { name := "fnExactLazyCells", fn := fun _ => fun
  | [d1, d2] => { results := [.lit (.bool false)], args := [d1, d2] }
  | _ => none }
def FnExactLazyCellsWrongFalsely : Prop := fnExactLazyCellsRow.holds Tryz.pinned (OpenSpec.ofChange fnExactLazyCellsWrong)

/-- 'laws.FnWriteEager': WHATEVER THE INPUT: true; the input reads as it did. -/
def fnWriteEagerSpec : ChangeSpec := { name := "fnWriteEager", fn := fun _ => fun
  | [d] => { results := [.lit (.bool true)], args := [d] }
  | _ => none }
def fnWriteEagerRow : OpenClaim := { program := "ytkbihkggneaeeaagreat", sum := "6bb6e20570481e26a8bc53ca22ce226fa82a05f93a0b22d2fa11a5a6a5ea1ac0", func := "loop.example/signalgraph/laws.FnWriteEager", spec := "fnWriteEager", unfollowed := true, recurses := true, apart := false }
def FnWriteEagerSaid : Prop := fnWriteEagerRow.holds Tryz.pinned (OpenSpec.ofChange fnWriteEagerSpec)

/-- ITS FALSE NEIGHBOUR: 'it returns false'. Refute it at one input. -/
def fnWriteEagerWrong : ChangeSpec := { name := "fnWriteEager", fn := fun _ => fun
  | [d] => { results := [.lit (.bool false)], args := [d] }
  | _ => none }
def FnWriteEagerWrongFalsely : Prop := fnWriteEagerRow.holds Tryz.pinned (OpenSpec.ofChange fnWriteEagerWrong)

/-- 'laws.FnExactWriteEager': WHATEVER THE INPUT: true; the input reads as it did. -/
def fnExactWriteEagerSpec : ChangeSpec := { name := "fnExactWriteEager", fn := fun _ => fun
  | [d1, d2, d3, d4] => { results := [.lit (.bool true)], args := [d1, d2, d3, d4] }
  | _ => none }
def fnExactWriteEagerRow : OpenClaim := { program := "ytkbihkggneaeeaagreat", sum := "6bb6e20570481e26a8bc53ca22ce226fa82a05f93a0b22d2fa11a5a6a5ea1ac0", func := "loop.example/signalgraph/laws.FnExactWriteEager", spec := "fnExactWriteEager", unfollowed := true, recurses := true, apart := false }
def FnExactWriteEagerSaid : Prop := fnExactWriteEagerRow.holds Tryz.pinned (OpenSpec.ofChange fnExactWriteEagerSpec)

/-- ITS FALSE NEIGHBOUR: 'it returns false'. Refute it at one input. -/
def fnExactWriteEagerWrong : ChangeSpec := { name := "fnExactWriteEager", fn := fun _ => fun
  | [d1, d2, d3, d4] => { results := [.lit (.bool false)], args := [d1, d2, d3, d4] }
  | _ => none }
def FnExactWriteEagerWrongFalsely : Prop := fnExactWriteEagerRow.holds Tryz.pinned (OpenSpec.ofChange fnExactWriteEagerWrong)

/-- 'laws.FnWriteEagerRuns': WHATEVER THE INPUT: true; the input reads as it did. -/
def fnWriteEagerRunsSpec : ChangeSpec := { name := "fnWriteEagerRuns", fn := fun _ => fun
  | [d] => { results := [.lit (.bool true)], args := [d] }
  | _ => none }
def fnWriteEagerRunsRow : OpenClaim := { program := "ytkbihkggneaeeaagreat", sum := "6bb6e20570481e26a8bc53ca22ce226fa82a05f93a0b22d2fa11a5a6a5ea1ac0", func := "loop.example/signalgraph/laws.FnWriteEagerRuns", spec := "fnWriteEagerRuns", unfollowed := true, recurses := true, apart := false }
def FnWriteEagerRunsSaid : Prop := fnWriteEagerRunsRow.holds Tryz.pinned (OpenSpec.ofChange fnWriteEagerRunsSpec)

/-- ITS FALSE NEIGHBOUR: 'it returns false'. Refute it at one input. -/
def fnWriteEagerRunsWrong : ChangeSpec := { name := "fnWriteEagerRuns", fn := fun _ => fun
  | [d] => { results := [.lit (.bool false)], args := [d] }
  | _ => none }
def FnWriteEagerRunsWrongFalsely : Prop := fnWriteEagerRunsRow.holds Tryz.pinned (OpenSpec.ofChange fnWriteEagerRunsWrong)

/- THE SECOND FORM. 'bulk': how many values and letters a reading holds, each counted each time it is reached (what is shared counts as often as it is met; a slice's spare places count too). A statement '..UptoSaid' is the law's where the arguments, and the package variables that the reading takes, are together of bulk at most 1048576: NARROWER than '..Said'. Prove '..Said' where nothing that the law and all that it calls make is longer than what came in: it says more and counts as full. Else prove '..UptoSaid'. A law counts once. -/
mutual
def uptoBulk {H : Type} : DataW H → Nat
  | .lit (.string bytes) => bytes.length + 1
  | .lit _ => 1
  | .nil => 1
  | .ptr d => uptoBulk d + 1
  | .slice elems spare => uptoBulkAll elems + uptoBulkAll spare + 1
  | .agg parts => uptoBulkAll parts + 1
  | .iface _ d => uptoBulk d + 1
  | .map entries => uptoBulkEntries entries + 1
  | .held _ => 1
def uptoBulkAll {H : Type} : List (DataW H) → Nat
  | [] => 0
  | d :: r => uptoBulk d + uptoBulkAll r
def uptoBulkEntries {H : Type} : List (Lit × DataW H) → Nat
  | [] => 0
  | x :: r => uptoBulkEntry x + uptoBulkEntries r
def uptoBulkEntry {H : Type} : Lit × DataW H → Nat
  | (.string bytes, d) => bytes.length + uptoBulk d + 1
  | (_, d) => uptoBulk d + 1
 end
def uptoSmall : (H : Type) → List (DataW H) → Bool := fun _ ds => decide (uptoBulkAll ds ≤ 1048576)
def OpenSpec.upto (s : _root_.Go.ChangeSpec) : _root_.Go.OpenSpec := { _root_.Go.OpenSpec.ofChange s with cond := some uptoSmall }

/-- 'laws.FnWriteEagerTwice', WHERE WHAT IT READS IS OF BULK AT MOST 1048576: true; the input reads as it did. -/
def fnWriteEagerTwiceUptoRow : OpenClaim := { program := "ytkbihkggneaeeaagreat", sum := "6bb6e20570481e26a8bc53ca22ce226fa82a05f93a0b22d2fa11a5a6a5ea1ac0", func := "loop.example/signalgraph/laws.FnWriteEagerTwice", spec := "fnWriteEagerTwice", unfollowed := true, recurses := true, apart := false, narrowed := true }
def FnWriteEagerTwiceUptoSaid : Prop := fnWriteEagerTwiceUptoRow.holds Tryz.pinned (OpenSpec.upto fnWriteEagerTwiceSpec)

/-- 'laws.FnExactStaleOf', WHERE WHAT IT READS IS OF BULK AT MOST 1048576: true; the input reads as it did. -/
def fnExactStaleOfUptoRow : OpenClaim := { program := "ytkbihkggneaeeaagreat", sum := "6bb6e20570481e26a8bc53ca22ce226fa82a05f93a0b22d2fa11a5a6a5ea1ac0", func := "loop.example/signalgraph/laws.FnExactStaleOf", spec := "fnExactStaleOf", unfollowed := true, recurses := true, apart := false, narrowed := true }
def FnExactStaleOfUptoSaid : Prop := fnExactStaleOfUptoRow.holds Tryz.pinned (OpenSpec.upto fnExactStaleOfSpec)

/-- 'laws.FnExactMoveHistory', WHERE WHAT IT READS IS OF BULK AT MOST 1048576: true; the input reads as it did. -/
def fnExactMoveHistoryUptoRow : OpenClaim := { program := "ytkbihkggneaeeaagreat", sum := "6bb6e20570481e26a8bc53ca22ce226fa82a05f93a0b22d2fa11a5a6a5ea1ac0", func := "loop.example/signalgraph/laws.FnExactMoveHistory", spec := "fnExactMoveHistory", unfollowed := true, recurses := true, apart := false, narrowed := true }
def FnExactMoveHistoryUptoSaid : Prop := fnExactMoveHistoryUptoRow.holds Tryz.pinned (OpenSpec.upto fnExactMoveHistorySpec)

/-- 'laws.FnExactLazyCells', WHERE WHAT IT READS IS OF BULK AT MOST 1048576: true; the input reads as it did. -/
def fnExactLazyCellsUptoRow : OpenClaim := { program := "ytkbihkggneaeeaagreat", sum := "6bb6e20570481e26a8bc53ca22ce226fa82a05f93a0b22d2fa11a5a6a5ea1ac0", func := "loop.example/signalgraph/laws.FnExactLazyCells", spec := "fnExactLazyCells", unfollowed := true, recurses := true, apart := false, narrowed := true }
def FnExactLazyCellsUptoSaid : Prop := fnExactLazyCellsUptoRow.holds Tryz.pinned (OpenSpec.upto fnExactLazyCellsSpec)

/-- 'laws.FnWriteEager', WHERE WHAT IT READS IS OF BULK AT MOST 1048576: true; the input reads as it did. -/
def fnWriteEagerUptoRow : OpenClaim := { program := "ytkbihkggneaeeaagreat", sum := "6bb6e20570481e26a8bc53ca22ce226fa82a05f93a0b22d2fa11a5a6a5ea1ac0", func := "loop.example/signalgraph/laws.FnWriteEager", spec := "fnWriteEager", unfollowed := true, recurses := true, apart := false, narrowed := true }
def FnWriteEagerUptoSaid : Prop := fnWriteEagerUptoRow.holds Tryz.pinned (OpenSpec.upto fnWriteEagerSpec)

/-- 'laws.FnExactWriteEager', WHERE WHAT IT READS IS OF BULK AT MOST 1048576: true; the input reads as it did. -/
def fnExactWriteEagerUptoRow : OpenClaim := { program := "ytkbihkggneaeeaagreat", sum := "6bb6e20570481e26a8bc53ca22ce226fa82a05f93a0b22d2fa11a5a6a5ea1ac0", func := "loop.example/signalgraph/laws.FnExactWriteEager", spec := "fnExactWriteEager", unfollowed := true, recurses := true, apart := false, narrowed := true }
def FnExactWriteEagerUptoSaid : Prop := fnExactWriteEagerUptoRow.holds Tryz.pinned (OpenSpec.upto fnExactWriteEagerSpec)

/-- 'laws.FnWriteEagerRuns', WHERE WHAT IT READS IS OF BULK AT MOST 1048576: true; the input reads as it did. -/
def fnWriteEagerRunsUptoRow : OpenClaim := { program := "ytkbihkggneaeeaagreat", sum := "6bb6e20570481e26a8bc53ca22ce226fa82a05f93a0b22d2fa11a5a6a5ea1ac0", func := "loop.example/signalgraph/laws.FnWriteEagerRuns", spec := "fnWriteEagerRuns", unfollowed := true, recurses := true, apart := false, narrowed := true }
def FnWriteEagerRunsUptoSaid : Prop := fnWriteEagerRunsUptoRow.holds Tryz.pinned (OpenSpec.upto fnWriteEagerRunsSpec)

end Rows
end Go.Proofs.YtkbihkggneaeeaaGreat
