/- Numbers as bytes, in plain Lean: what Fixed, ReadFixed, Var, ReadVar come to. -/
import Derived.Test.YtlkfabkkjfmnmaaDoorBase
namespace Go.Proofs.YtlkfabkkjfmnmaaDoor
open Go.RowKit

theorem take_snoc (s : ByteArray) (k : Nat) (h : k < s.size) : s.data.toList.take (k + 1) = s.data.toList.take k ++ [s[k]] := by
  rw [List.take_succ_eq_append_getElem (by simpa using h)]; rfl

/-- The number that bytes make, the highest first. -/
def rdF (bs : List UInt8) : Nat := bs.foldl (fun a b => a * 256 + b.toNat) 0
theorem rdF_snoc (bs : List UInt8) (b : UInt8) : rdF (bs ++ [b]) = rdF bs * 256 + b.toNat := by simp [rdF]
theorem rdF_lt (bs : List UInt8) : rdF bs < 256 ^ bs.length := by
  suffices h : ∀ l : List UInt8, rdF l.reverse < 256 ^ l.length by have := h bs.reverse; simpa using this
  intro l
  induction l with
  | nil => decide
  | cons b bs ih =>
    rw [List.reverse_cons, rdF_snoc, List.length_cons, Nat.pow_succ]
    have := b.toNat_lt
    omega
theorem pow_le_of (a k n : Nat) (h : k ≤ n) (ha : 0 < a) : a ^ k ≤ a ^ n := Nat.pow_le_pow_right ha h

/-- The k lowest bytes of n, the highest first. -/
def lowBE (n : Nat) : Nat → List UInt8
  | 0 => []
  | k + 1 => UInt8.ofNat (n / 256 ^ k % 256) :: lowBE n k
theorem lowBE_length (n k : Nat) : (lowBE n k).length = k := by induction k with
  | zero => rfl
  | succ k ih => simp [lowBE, ih]
theorem lowBE_set (n m k : Nat) (h : k < m) :
    (List.replicate (m - k) (Value.int .u8 0) ++ u8s (lowBE n k)).set (m - 1 - k) (.int .u8 ((n / 256 ^ k : Nat) % 256 : Int)) = List.replicate (m - (k + 1)) (Value.int .u8 0) ++ u8s (lowBE n (k + 1)) := by
  have e : m - k = (m - (k + 1)) + 1 := by omega
  rw [List.set_append_left _ _ (by simp; omega), e, List.replicate_succ', List.set_append_right _ _ (by simp; omega)]
  have e2 : m - 1 - k - (List.replicate (m - (k + 1)) (Value.int IntKind.u8 0)).length = 0 := by simp; omega
  rw [e2]
  simp only [List.set_cons_zero, List.append_assoc, List.singleton_append]
  congr 1
  simp only [lowBE, u8s, List.map_cons]
  congr 2
  have : (UInt8.ofNat (n / 256 ^ k % 256)).toNat = n / 256 ^ k % 256 := by simp
  rw [this]
  simp

/-- What Fixed comes to. -/
def fixedL (n width : Int) : List UInt8 := if 1 ≤ width ∧ width ≤ 7 ∧ 0 ≤ n ∧ n.toNat < 256 ^ width.toNat then lowBE n.toNat width.toNat else []

/-- A last byte, and one before the last. -/
def lo7 (m : Nat) : UInt8 := UInt8.ofNat m
def hi7 (m : Nat) : UInt8 := UInt8.ofNat (128 + m % 128)
/-- What Var comes to. -/
def varL (n : Nat) : List UInt8 := if h : n < 128 then [lo7 n] else hi7 n :: varL (n / 128)
termination_by n
decreasing_by omega
theorem varL_lo {n : Nat} (h : n < 128) : varL n = [lo7 n] := by rw [varL]; simp [h]
theorem varL_hi {n : Nat} (h : ¬ n < 128) : varL n = hi7 n :: varL (n / 128) := by rw [varL]; simp [h]
theorem varL_len (k : Nat) : ∀ n, n < 128 ^ (k + 1) → (varL n).length ≤ k + 1 := by
  induction k with
  | zero => intro n h; rw [varL_lo (by simpa using h)]; simp
  | succ k ih =>
    intro n h
    by_cases h1 : n < 128
    · rw [varL_lo h1]; simp
    · rw [varL_hi h1]
      have := ih (n / 128) (by rw [Nat.pow_succ] at h; omega)
      simp only [List.length_cons]
      omega
theorem varL_len7 (n : Nat) (h : n ≤ 562949953421311) : (varL n).length ≤ 7 := varL_len 6 n (by omega)
theorem varL_ne (n : Nat) : varL n ≠ [] := by
  by_cases h : n < 128
  · rw [varL_lo h]; simp
  · rw [varL_hi h]; simp
theorem u8s_lo7 (m : Nat) (h : m < 128) : u8s [lo7 m] = [.int .u8 (m : Int)] := by have := u8s_one (m : Int) (by omega) (by omega); rw [Int.toNat_natCast] at this; exact this
theorem u8s_hi7 (m : Nat) : u8s [hi7 m] = [.int .u8 (128 + (m : Int) % 128)] := by
  have := u8s_one (128 + (m : Int) % 128) (by omega) (by omega)
  rw [show (128 + (m : Int) % 128).toNat = 128 + m % 128 from by omega] at this
  exact this
end Go.Proofs.YtlkfabkkjfmnmaaDoor
