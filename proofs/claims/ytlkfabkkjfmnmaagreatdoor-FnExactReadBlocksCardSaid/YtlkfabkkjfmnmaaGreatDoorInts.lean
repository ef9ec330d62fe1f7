/- The laws' own helpers on lists of whole numbers: a copy; are two alike; marks laid, and looked at again. -/
import Derived.Test.YtlkfabkkjfmnmaaGreatDoorIn
namespace Go.Proofs.YtlkfabkkjfmnmaaGreatDoor
open Go.RowKit

theorem info_i64 : (Tryz.prog.info? 3).map (fun i => (i.zero, i.size, i.bytes)) = some (some (.int .i64 0), 1, 8) := by kernel_rfl

end Go.Proofs.YtlkfabkkjfmnmaaGreatDoor
