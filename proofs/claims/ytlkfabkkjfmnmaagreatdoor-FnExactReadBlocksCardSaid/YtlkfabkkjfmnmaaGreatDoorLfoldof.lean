/- The law of FoldOf, walked. -/
import Derived.Test.YtlkfabkkjfmnmaaGreatDoorFoldOf
namespace Go.Proofs.YtlkfabkkjfmnmaaGreatDoor
open Go.RowKit

end Go.Proofs.YtlkfabkkjfmnmaaGreatDoor
