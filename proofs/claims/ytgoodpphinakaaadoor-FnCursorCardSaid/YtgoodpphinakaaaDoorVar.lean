/- Var: the program's and the reference's come to one text. -/
import Derived.Test.YtgoodpphinakaaaDoorIn
import Derived.Test.YtgoodpphinakaaaDoorNum
namespace Go.Proofs.YtgoodpphinakaaaDoor
open Go.RowKit

/-- What Var comes to at any number. -/
def varV (n : Int) : List UInt8 := if 0 ≤ n ∧ n ≤ 562949953421311 then varL n.toNat else []
theorem varV_no (n : Int) (h : n < 0 ∨ 562949953421311 < n) : varV n = [] := by rw [varV, if_neg (by omega)]
set_option maxRecDepth 1000000 in
set_option maxHeartbeats 6000000 in
theorem varV_yes (n : Nat) (h : n ≤ 562949953421311) : varV n = varL n := by rw [varV, if_pos (by omega)]; simp
theorem varV_len (n : Int) : (varV n).length ≤ 7 := by
  unfold varV
  split
  · exact varL_len7 _ (by omega)
  · simp

end Go.Proofs.YtgoodpphinakaaaDoor
