/-
  No cell of these rows narrows 'for every input' (looked for: loops, veiled, ifaces, maps, wideKeys, modest, calm, conditions, laid).
  DERIVED. THE GIVEN ROWS OF THIS SEAT. 5 by the template 'for every input the law returns true; each argument reads behind the call as it read before'; 0 by the template 'total and deterministic' (their statements: YtgojnefiephafaaGreatTotals.lean).
  GIVEN WITH THE SEED: the statements are not yours to turn. If you find one false, say at which input.
  Laid BY PROGRAM, IN A SANDBOX (cutbox-rows.mjs): the forced cells as the released guide's own fill.sh prints them over the translation e173cdd3bcd2b73a… (all of the seat's roots in one cut). By AI agents, Wed Nov 11 2026. No macro, syntax, notation, axiom, sorry.
-/
import Derived.Test.YtgojnefiephafaaGreatChecked
import GoSem.Claim
import GoSem.ClaimJoined
import GoSem.ClaimMapViews
import Derived.JoinedTies
import Derived.KernelRfl
namespace Go.Proofs.YtgojnefiephafaaGreat
/- THE CELL 'sum', in the pinned program and in every row, IS THE sha256 OF THE DUMP (.gsa) THAT YtgojnefiephafaaGreatProg.lean LOADS. Nothing in Lean hashes anything: it is a label: what it is worth is what the hold of that sum in a sandbox is worth. -/
noncomputable def Tryz.pinned : Pinned := { name := "ytgojnefiephafaagreat", sum := "e173cdd3bcd2b73ad3a62715afb6e22a43c61afd9f5ee2f8c7a396871764e7f7", checked := Tryz.checked }
namespace Rows
def none {H : Type} : Left H := { results := [], args := [] }

/-- 'laws.FnExactLazySession': WHATEVER THE INPUT: true; the input reads as it did. -/
def fnExactLazySessionSpec : ChangeSpec := { name := "fnExactLazySession", fn := fun _ => fun
  | [d1, d2, d3] => { results := [.lit (.bool true)], args := [d1, d2, d3] }
  | _ => none }
def fnExactLazySessionRow : OpenClaim := { program := "ytgojnefiephafaagreat", sum := "e173cdd3bcd2b73ad3a62715afb6e22a43c61afd9f5ee2f8c7a396871764e7f7", func := "loop.example/signalgraph/laws.FnExactLazySession", spec := "fnExactLazySession", unfollowed := true, recurses := true, apart := false }
def FnExactLazySessionSaid : Prop := fnExactLazySessionRow.holds Tryz.pinned (OpenSpec.ofChange fnExactLazySessionSpec)

/-- ITS FALSE NEIGHBOUR: 'it returns false'. Refute it at one input. -/
def fnExactLazySessionWrong : ChangeSpec := { name := "fnExactLazySession", fn := fun _ => fun
  | [d1, d2, d3] => { results := [.lit (.bool false)], args := [d1, d2, d3] }
  | _ => none }
def FnExactLazySessionWrongFalsely : Prop := fnExactLazySessionRow.holds Tryz.pinned (OpenSpec.ofChange fnExactLazySessionWrong)

/-- 'laws.FnLazySession': WHATEVER THE INPUT: true; the input reads as it did. -/
def fnLazySessionSpec : ChangeSpec := { name := "fnLazySession", fn := fun _ => fun
  | [d] => { results := [.lit (.bool true)], args := [d] }
  | _ => none }
def fnLazySessionRow : OpenClaim := { program := "ytgojnefiephafaagreat", sum := "e173cdd3bcd2b73ad3a62715afb6e22a43c61afd9f5ee2f8c7a396871764e7f7", func := "loop.example/signalgraph/laws.FnLazySession", spec := "fnLazySession", unfollowed := true, recurses := true, apart := false }
def FnLazySessionSaid : Prop := fnLazySessionRow.holds Tryz.pinned (OpenSpec.ofChange fnLazySessionSpec)

/-- ITS FALSE NEIGHBOUR: 'it returns false'. Refute it at one input. -/
def fnLazySessionWrong : ChangeSpec := { name := "fnLazySession", fn := fun _ => fun
  | [d] => { results := [.lit (.bool false)], args := [d] }
  | _ => none }
def FnLazySessionWrongFalsely : Prop := fnLazySessionRow.holds Tryz.pinned (OpenSpec.ofChange fnLazySessionWrong)

/-- 'laws.FnLazySessionEnd': WHATEVER THE INPUT: true; the input reads as it did. -/
def fnLazySessionEndSpec : ChangeSpec := { name := "fnLazySessionEnd", fn := fun _ => fun
  | [d] => { results := [.lit (.bool true)], args := [d] }
  | _ => none }
def fnLazySessionEndRow : OpenClaim := { program := "ytgojnefiephafaagreat", sum := "e173cdd3bcd2b73ad3a62715afb6e22a43c61afd9f5ee2f8c7a396871764e7f7", func := "loop.example/signalgraph/laws.FnLazySessionEnd", spec := "fnLazySessionEnd", unfollowed := true, recurses := true, apart := false }
def FnLazySessionEndSaid : Prop := fnLazySessionEndRow.holds Tryz.pinned (OpenSpec.ofChange fnLazySessionEndSpec)

/-- ITS FALSE NEIGHBOUR: 'it returns false'. Refute it at one input. -/
def fnLazySessionEndWrong : ChangeSpec := { name := "fnLazySessionEnd", fn := fun _ => fun
  | [d] => { results := [.lit (.bool false)], args := [d] }
  | _ => none }
def FnLazySessionEndWrongFalsely : Prop := fnLazySessionEndRow.holds Tryz.pinned (OpenSpec.ofChange fnLazySessionEndWrong)

/-- 'laws.FnRunsIn': WHATEVER THE INPUT: true; the input reads as it did. -/
def fnRunsInSpec : ChangeSpec := { name := "fnRunsIn", fn := fun _ => fun
  | [d] => { results := [.lit (.bool true)], args := [d] }
  | _ => none }
def fnRunsInRow : OpenClaim := { program := "ytgojnefiephafaagreat", sum := "e173cdd3bcd2b73ad3a62715afb6e22a43c61afd9f5ee2f8c7a396871764e7f7", func := "loop.example/signalgraph/laws.FnRunsIn", spec := "fnRunsIn", unfollowed := true, recurses := true, apart := false }
def FnRunsInSaid : Prop := fnRunsInRow.holds Tryz.pinned (OpenSpec.ofChange fnRunsInSpec)

/-- ITS FALSE NEIGHBOUR: 'it returns false'. Refute it at one input. -/
def fnRunsInWrong : ChangeSpec := { name := "fnRunsIn", fn := fun _ => fun
  | [d] => { results := [.lit (.bool false)], args := [d] }
  | _ => none }
def FnRunsInWrongFalsely : Prop := fnRunsInRow.holds Tryz.pinned (OpenSpec.ofChange fnRunsInWrong)

/-- 'laws.FnExactRunsIn': WHATEVER THE INPUT: true; the input reads as it did. -/
def fnExactRunsInSpec : ChangeSpec := { name := "fnExactRunsIn", fn := fun _ => fun
  | [d1, d2, d3] => { results := [.lit (.bool true)], args := [d1, d2, d3] }
  | _ => none }
def fnExactRunsInRow : OpenClaim := { program := "ytgojnefiephafaagreat", sum := "e173cdd3bcd2b73ad3a62715afb6e22a43c61afd9f5ee2f8c7a396871764e7f7", func := "loop.example/signalgraph/laws.FnExactRunsIn", spec := "fnExactRunsIn", unfollowed := true, recurses := true, apart := false }
def FnExactRunsInSaid : Prop := fnExactRunsInRow.holds Tryz.pinned (OpenSpec.ofChange fnExactRunsInSpec)

/-- ITS FALSE NEIGHBOUR: 'it returns false'. Refute it at one input. -/
def fnExactRunsInWrong : ChangeSpec := { name := "fnExactRunsIn", fn := fun _ => fun
  | [d1, d2, d3] => { results := [.lit (.bool false)], args := [d1, d2, d3] }
  | _ => none }
def FnExactRunsInWrongFalsely : Prop := fnExactRunsInRow.holds Tryz.pinned (OpenSpec.ofChange fnExactRunsInWrong)

/- THE SECOND FORM. 'bulk': how many values and letters a reading holds, each counted each time it is reached (what is shared counts as often as it is met; a slice's spare places count too). A statement '..UptoSaid' is the law's where the arguments, and the package variables that the reading takes, are together of bulk at most 1048576: NARROWER than '..Said'. Prove '..Said' where nothing that the law and all that it calls make is longer than what came in: it says more and counts as full. Else prove '..UptoSaid'. A law counts once. -/
mutual
def uptoBulk {H : Type} : DataW H → Nat
  | .lit (.string bytes) => bytes.length + 1
  | .lit _ => 1
  | .nil => 1
  | .ptr d => uptoBulk d + 1
  | .slice elems spare => uptoBulkAll elems + uptoBulkAll spare + 1
  | .agg parts => uptoBulkAll parts + 1
  | .iface _ d => uptoBulk d + 1
  | .map entries => uptoBulkEntries entries + 1
  | .held _ => 1
def uptoBulkAll {H : Type} : List (DataW H) → Nat
  | [] => 0
  | d :: r => uptoBulk d + uptoBulkAll r
def uptoBulkEntries {H : Type} : List (Lit × DataW H) → Nat
  | [] => 0
  | x :: r => uptoBulkEntry x + uptoBulkEntries r
def uptoBulkEntry {H : Type} : Lit × DataW H → Nat
  | (.string bytes, d) => bytes.length + uptoBulk d + 1
  | (_, d) => uptoBulk d + 1
 end
def uptoSmall : (H : Type) → List (DataW H) → Bool := fun _ ds => decide (uptoBulkAll ds ≤ 1048576)
def OpenSpec.upto (s : _root_.Go.ChangeSpec) : _root_.Go.OpenSpec := { _root_.Go.OpenSpec.ofChange s with cond := some uptoSmall }

/-- 'laws.FnExactLazySession', WHERE WHAT IT READS IS OF BULK AT MOST 1048576: true; the input reads as it did. -/
def fnExactLazySessionUptoRow : OpenClaim := { program := "ytgojnefiephafaagreat", sum := "e173cdd3bcd2b73ad3a62715afb6e22a43c61afd9f5ee2f8c7a396871764e7f7", func := "loop.example/signalgraph/laws.FnExactLazySession", spec := "fnExactLazySession", unfollowed := true, recurses := true, apart := false, narrowed := true }
def FnExactLazySessionUptoSaid : Prop := fnExactLazySessionUptoRow.holds Tryz.pinned (OpenSpec.upto fnExactLazySessionSpec)

/-- 'laws.FnLazySession', WHERE WHAT IT READS IS OF BULK AT MOST 1048576: true; the input reads as it did. -/
def fnLazySessionUptoRow : OpenClaim := { program := "ytgojnefiephafaagreat", sum := "e173cdd3bcd2b73ad3a62715afb6e22a43c61afd9f5ee2f8c7a396871764e7f7", func := "loop.example/signalgraph/laws.FnLazySession", spec := "fnLazySession", unfollowed := true, recurses := true, apart := false, narrowed := true }
def FnLazySessionUptoSaid : Prop := fnLazySessionUptoRow.holds Tryz.pinned (OpenSpec.upto fnLazySessionSpec)

/-- 'laws.FnLazySessionEnd', WHERE WHAT IT READS IS OF BULK AT MOST 1048576: true; the input reads as it did. -/
def fnLazySessionEndUptoRow : OpenClaim := { program := "ytgojnefiephafaagreat", sum := "e173cdd3bcd2b73ad3a62715afb6e22a43c61afd9f5ee2f8c7a396871764e7f7", func := "loop.example/signalgraph/laws.FnLazySessionEnd", spec := "fnLazySessionEnd", unfollowed := true, recurses := true, apart := false, narrowed := true }
def FnLazySessionEndUptoSaid : Prop := fnLazySessionEndUptoRow.holds Tryz.pinned (OpenSpec.upto fnLazySessionEndSpec)

/-- 'laws.FnRunsIn', WHERE WHAT IT READS IS OF BULK AT MOST 1048576: true; the input reads as it did. -/
def fnRunsInUptoRow : OpenClaim := { program := "ytgojnefiephafaagreat", sum := "e173cdd3bcd2b73ad3a62715afb6e22a43c61afd9f5ee2f8c7a396871764e7f7", func := "loop.example/signalgraph/laws.FnRunsIn", spec := "fnRunsIn", unfollowed := true, recurses := true, apart := false, narrowed := true }
def FnRunsInUptoSaid : Prop := fnRunsInUptoRow.holds Tryz.pinned (OpenSpec.upto fnRunsInSpec)

/-- 'laws.FnExactRunsIn', WHERE WHAT IT READS IS OF BULK AT MOST 1048576: true; the input reads as it did. -/
def fnExactRunsInUptoRow : OpenClaim := { program := "ytgojnefiephafaagreat", sum := "e173cdd3bcd2b73ad3a62715afb6e22a43c61afd9f5ee2f8c7a396871764e7f7", func := "loop.example/signalgraph/laws.FnExactRunsIn", spec := "fnExactRunsIn", unfollowed := true, recurses := true, apart := false, narrowed := true }
def FnExactRunsInUptoSaid : Prop := fnExactRunsInUptoRow.holds Tryz.pinned (OpenSpec.upto fnExactRunsInSpec)

end Rows
end Go.Proofs.YtgojnefiephafaaGreat
