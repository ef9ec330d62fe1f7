/- Numbers as bytes, in plain Lean: what Fixed, ReadFixed, Var, ReadVar come to. -/
import Derived.Test.YtlkfabkkjfmnmaaGreatDoorBase
namespace Go.Proofs.YtlkfabkkjfmnmaaGreatDoor
open Go.RowKit

theorem take_snoc (s : ByteArray) (k : Nat) (h : k < s.size) : s.data.toList.take (k + 1) = s.data.toList.take k ++ [s[k]] := by
  rw [List.take_succ_eq_append_getElem (by simpa using h)]; rfl

theorem pow_le_of (a k n : Nat) (h : k ≤ n) (ha : 0 < a) : a ^ k ≤ a ^ n := Nat.pow_le_pow_right ha h

/-- A last byte, and one before the last. -/
def lo7 (m : Nat) : UInt8 := UInt8.ofNat m
def hi7 (m : Nat) : UInt8 := UInt8.ofNat (128 + m % 128)
/-- What Var comes to. -/
def varL (n : Nat) : List UInt8 := if h : n < 128 then [lo7 n] else hi7 n :: varL (n / 128)
termination_by n
decreasing_by omega
theorem varL_lo {n : Nat} (h : n < 128) : varL n = [lo7 n] := by rw [varL]; simp [h]
theorem varL_hi {n : Nat} (h : ¬ n < 128) : varL n = hi7 n :: varL (n / 128) := by rw [varL]; simp [h]
theorem varL_len (k : Nat) : ∀ n, n < 128 ^ (k + 1) → (varL n).length ≤ k + 1 := by
  induction k with
  | zero => intro n h; rw [varL_lo (by simpa using h)]; simp
  | succ k ih =>
    intro n h
    by_cases h1 : n < 128
    · rw [varL_lo h1]; simp
    · rw [varL_hi h1]
      have := ih (n / 128) (by rw [Nat.pow_succ] at h; omega)
      simp only [List.length_cons]
      omega
theorem varL_len7 (n : Nat) (h : n ≤ 562949953421311) : (varL n).length ≤ 7 := varL_len 6 n (by omega)
theorem varL_ne (n : Nat) : varL n ≠ [] := by
  by_cases h : n < 128
  · rw [varL_lo h]; simp
  · rw [varL_hi h]; simp
theorem u8s_lo7 (m : Nat) (h : m < 128) : u8s [lo7 m] = [.int .u8 (m : Int)] := by have := u8s_one (m : Int) (by omega) (by omega); rw [Int.toNat_natCast] at this; exact this
theorem u8s_hi7 (m : Nat) : u8s [hi7 m] = [.int .u8 (128 + (m : Int) % 128)] := by
  have := u8s_one (128 + (m : Int) % 128) (by omega) (by omega)
  rw [show (128 + (m : Int) % 128).toNat = 128 + m % 128 from by omega] at this
  exact this
end Go.Proofs.YtlkfabkkjfmnmaaGreatDoor
