/- Crc in plain Lean: two texts that differ in one byte have different sums. -/
import Derived.Test.YtlkfabkkjfmnmaaDoorCrc
namespace Go.Proofs.YtlkfabkkjfmnmaaDoor
open Go.RowKit

theorem xor_right_inj (a b p : Nat) (h : a ^^^ p = b ^^^ p) : a = b := by
  have h2 := congrArg (· ^^^ p) h
  simpa [Nat.xor_assoc] using h2
theorem xor_left_inj (a b p : Nat) (h : p ^^^ a = p ^^^ b) : a = b := by
  rw [Nat.xor_comm p a, Nat.xor_comm p b] at h
  exact xor_right_inj a b p h
theorem high_bit (a : Nat) (h : a < 2147483648) : (a ^^^ 2197175160).testBit 31 = true := by
  rw [Nat.testBit_xor, Nat.testBit_lt_two_pow (by simpa using h)]
  decide
theorem crcStep_inj (a b : Nat) (ha : a < 4294967296) (hb : b < 4294967296) (h : crcStep a = crcStep b) : a = b := by
  unfold crcStep at h
  by_cases h1 : a % 2 = 1
  · by_cases h2 : b % 2 = 1
    · rw [if_pos h1, if_pos h2] at h
      have := xor_right_inj _ _ _ h
      omega
    · rw [if_pos h1, if_neg h2] at h
      have e := high_bit (a / 2) (by omega)
      rw [h, Nat.testBit_lt_two_pow (by omega)] at e
      cases e
  · by_cases h2 : b % 2 = 1
    · rw [if_neg h1, if_pos h2] at h
      have e := high_bit (b / 2) (by omega)
      rw [← h, Nat.testBit_lt_two_pow (by omega)] at e
      cases e
    · rw [if_neg h1, if_neg h2] at h
      omega
theorem crcN_inj (a b : Nat) (ha : a < 4294967296) (hb : b < 4294967296) : ∀ k, crcN a k = crcN b k → a = b
  | 0, h => h
  | k + 1, h => crcN_inj a b ha hb k (crcStep_inj _ _ (crcN_lt a ha k) (crcN_lt b hb k) h)
theorem crcFold_inj : ∀ (l : List UInt8) (a b : Nat), a < 4294967296 → b < 4294967296 → l.foldl (fun c b => crcN (c ^^^ b.toNat) 8) a = l.foldl (fun c b => crcN (c ^^^ b.toNat) 8) b → a = b := by
  intro l
  induction l with
  | nil => intro a b _ _ h; exact h
  | cons x l ih =>
    intro a b ha hb h
    rw [List.foldl_cons, List.foldl_cons] at h
    have h1 := ih _ _ (crcN_lt _ (crcX_lt a x ha) 8) (crcN_lt _ (crcX_lt b x hb) 8) h
    have h2 := crcN_inj _ _ (crcX_lt a x ha) (crcX_lt b x hb) 8 h1
    exact xor_right_inj _ _ _ h2
theorem crcL_turned (pre post : List UInt8) (a b : UInt8) (h : a ≠ b) : crcL (pre ++ a :: post) ≠ crcL (pre ++ b :: post) := by
  intro e
  unfold crcL at e
  rw [List.foldl_append, List.foldl_append, List.foldl_cons, List.foldl_cons] at e
  have hp := crcL_lt pre
  unfold crcL at hp
  have h1 := crcFold_inj post _ _ (crcN_lt _ (crcX_lt _ a hp) 8) (crcN_lt _ (crcX_lt _ b hp) 8) e
  have h2 := crcN_inj _ _ (crcX_lt _ a hp) (crcX_lt _ b hp) 8 h1
  have h3 := xor_left_inj _ _ _ h2
  exact h (UInt8.toNat_inj.1 h3)
theorem crcF_turned (pre post : List UInt8) (a b : UInt8) (h : a ≠ b) : crcF (pre ++ a :: post) ≠ crcF (pre ++ b :: post) := by
  have := crcL_turned pre post a b h
  unfold crcF
  omega
theorem crcF_range (l : List UInt8) : 0 ≤ crcF l ∧ crcF l ≤ 4294967295 := by
  have := crcL_lt l
  unfold crcF
  omega
end Go.Proofs.YtlkfabkkjfmnmaaDoor
