/- The key of a name, plain: what is folded and taken apart stays as it is; a key is read back. -/
import Derived.Test.YtlkfabkkjfmnmaaGreatDoorInsF
import Derived.Test.YtlkfabkkjfmnmaaGreatDoorSigF
import Derived.Test.YtlkfabkkjfmnmaaGreatDoorFold
import Derived.Test.YtlkfabkkjfmnmaaGreatDoorKnown
namespace Go.Proofs.YtlkfabkkjfmnmaaGreatDoor
open Go.RowKit

/-- A name's signs, folded and taken apart. -/
def keyZ (l : List Int) : List Int := apartF (foldL (apartF l))
end Go.Proofs.YtlkfabkkjfmnmaaGreatDoor
