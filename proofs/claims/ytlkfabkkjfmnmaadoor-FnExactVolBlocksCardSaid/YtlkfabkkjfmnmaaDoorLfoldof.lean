/- The law of FoldOf, walked. -/
import Derived.Test.YtlkfabkkjfmnmaaDoorFoldOf
namespace Go.Proofs.YtlkfabkkjfmnmaaDoor
open Go.RowKit

theorem wf_bounds {n : Int} (wf : (Lit.int .i64 n).wf = true) : -9223372036854775808 ≤ n ∧ n ≤ 9223372036854775807 := by simpa [Lit.wf, IntKind.min, IntKind.max, IntKind.signed, IntKind.bits] using wf

end Go.Proofs.YtlkfabkkjfmnmaaDoor
