/- Dec: the program's and the reference's come to one text. -/
import Derived.Test.YtlkfabkkjfmnmaaGreatDoorIn
import Derived.Test.YtlkfabkkjfmnmaaGreatDoorNum
namespace Go.Proofs.YtlkfabkkjfmnmaaGreatDoor
open Go.RowKit

/-- The last digit of m. -/
def dig10 (m : Nat) : UInt8 := UInt8.ofNat (48 + m % 10)
/-- The digits of m, the lowest first; none of 0. -/
def rdec (m : Nat) : List UInt8 := if h : m = 0 then [] else dig10 m :: rdec (m / 10)
termination_by m
decreasing_by omega
theorem rdec_zero : rdec 0 = [] := by rw [rdec]; simp
theorem rdec_pos {m : Nat} (h : 0 < m) : rdec m = dig10 m :: rdec (m / 10) := by rw [rdec, dif_neg (by omega)]
theorem rdec_len (k : Nat) : ∀ m, m < 10 ^ k → (rdec m).length ≤ k := by
  induction k with
  | zero => intro m h; have : m = 0 := by simpa using h
            rw [this, rdec_zero]; simp
  | succ k ih =>
    intro m h
    by_cases h0 : m = 0
    · rw [h0, rdec_zero]; simp
    · rw [rdec_pos (by omega)]
      have := ih (m / 10) (by rw [Nat.pow_succ] at h; omega)
      simp only [List.length_cons]
      omega
theorem rdec_len19 (m : Nat) (h : m ≤ 9223372036854775808) : (rdec m).length ≤ 19 := rdec_len 19 m (by omega)
end Go.Proofs.YtlkfabkkjfmnmaaGreatDoor
