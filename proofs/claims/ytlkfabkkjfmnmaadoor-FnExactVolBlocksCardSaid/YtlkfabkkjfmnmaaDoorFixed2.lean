/- Fixed: the program's and the reference's come to one text. -/
import Derived.Test.YtlkfabkkjfmnmaaDoorIn
import Derived.Test.YtlkfabkkjfmnmaaDoorNum
namespace Go.Proofs.YtlkfabkkjfmnmaaDoor
open Go.RowKit

theorem shl_fixed (m : Nat) (h : m ≤ 7) : wrap64 ((2 : Int) ^ (8 * m)) = ((256 ^ m : Nat) : Int) := by
  match m, h with
  | 0, _ => decide +kernel
  | 1, _ => decide +kernel
  | 2, _ => decide +kernel
  | 3, _ => decide +kernel
  | 4, _ => decide +kernel
  | 5, _ => decide +kernel
  | 6, _ => decide +kernel
  | 7, _ => decide +kernel

theorem pow256_le (m : Nat) (h : m ≤ 7) : 256 ^ m ≤ 72057594037927936 := by
  have := pow_le_of 256 m 7 h (by decide)
  simpa using this

theorem fixedL_no (n width : Int) (h : width < 1 ∨ 7 < width ∨ n < 0) : fixedL n width = [] := by rw [fixedL, if_neg (by omega)]
theorem fixedL_no' (n m : Nat) (h : ¬ n < 256 ^ m) : fixedL n m = [] := by
  rw [fixedL, if_neg ?_]
  rintro ⟨_, _, _, h5⟩
  exact h (by simpa using h5)
set_option maxRecDepth 1000000 in
set_option maxHeartbeats 6000000 in
theorem fixedL_yes (n m : Nat) (h1 : 1 ≤ m) (h2 : m ≤ 7) (h : n < 256 ^ m) : fixedL n m = lowBE n m := by
  rw [fixedL, if_pos ⟨by omega, by omega, by omega, by simpa using h⟩]
  simp

end Go.Proofs.YtlkfabkkjfmnmaaDoor
