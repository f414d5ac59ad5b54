/- Closed facts on this seat's program: the rows of its element types. Conditions: none. -/
import Derived.Test.YtkkegmimofmhpaaProg
import Derived.Test.YtkkegmimofmhpaaMem
import Derived.KernelRfl
namespace Go.Proofs.Ytkkegmimofmhpaa
open Go.RowKit
theorem eiInt : EI Try.prog 26 3 1 8 (.int .i64 0) := ⟨Try.underlying26, by kernel_rfl, rfl, by decide⟩
theorem eiBool : EI Try.prog 128 4 1 1 (.bool false) := ⟨Try.underlying128, by kernel_rfl, rfl, by decide⟩
theorem eiInts : EI Try.prog 29 26 1 24 (.slice none 0 0) := ⟨Try.underlying29, by kernel_rfl, rfl, by decide⟩
theorem eiPart : EI Try.prog 90 168 5 40 (.agg #[.int .i64 0, .int .i64 0, .int .i64 0, .int .i64 0, .int .i64 0]) := ⟨Try.underlying90, by kernel_rfl, rfl, by decide⟩
theorem eiNode : EI Try.prog 23 94 2 32 (.agg #[.int .i64 0, .slice none 0 0]) := ⟨Try.underlying23, by kernel_rfl, rfl, by decide⟩
end Go.Proofs.Ytkkegmimofmhpaa
