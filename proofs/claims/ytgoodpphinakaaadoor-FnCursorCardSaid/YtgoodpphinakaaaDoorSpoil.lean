/- A text that is spoiled at one byte; texts that are drawn of a code. -/
import Derived.Test.YtgoodpphinakaaaDoorCur3
import Derived.Test.YtgoodpphinakaaaDoorRv
namespace Go.Proofs.YtgoodpphinakaaaDoor
open Go.RowKit

theorem xor_byte (a b : Nat) (ha : a < 256) (hb : b < 256) : bits .xor .i64 (a : Int) (b : Int) = ((a ^^^ b : Nat) : Int) ∧ a ^^^ b < 256 := by
  have hx : a ^^^ b < 2 ^ 8 := Nat.xor_lt_two_pow (by simpa using ha) (by simpa using hb)
  refine ⟨?_, by simpa using hx⟩
  have ha' : a % 2 ^ 64 = a := Nat.mod_eq_of_lt (by omega)
  have hb' : b % 2 ^ 64 = b := Nat.mod_eq_of_lt (by omega)
  show IntKind.i64.wrap ((BitVec.ofInt 64 (a : Int) ^^^ BitVec.ofInt 64 (b : Int)).toNat : Int) = _
  rw [BitVec.ofInt_natCast, BitVec.ofInt_natCast, BitVec.toNat_xor, BitVec.toNat_ofNat, BitVec.toNat_ofNat, ha', hb']
  exact wraps_i64 _ (Int.natCast_nonneg _) (by omega)
theorem u8_in (x : Int) (h0 : 0 ≤ x) (h1 : x < 256) : IntKind.u8.wrap x = x := by
  have : IntKind.u8.wrap x = x % 256 := by simp [IntKind.wrap, IntKind.bits, IntKind.signed]
  rw [this]; omega
/-- Byte k of a text. -/
def byteAt (t : ByteArray) (k : Nat) : Nat := (t.data.toList.getD k 0).toNat
theorem byteAt_lt (t : ByteArray) (k : Nat) : byteAt t k < 256 := (t.data.toList.getD k 0).toNat_lt
theorem byteAt_get (t : ByteArray) (k : Nat) (h : k < t.size) : byteAt t k = (t[k]'h).toNat := by
  unfold byteAt
  rw [List.getD_eq_getElem?_getD, List.getElem?_eq_getElem (by simpa using h)]
  rfl
def spoilK (bs : List Int) (t : ByteArray) (k : Nat) (m : Int) (s : CS) : ByteArray × CS :=
  if m = 0 then (t.extract 0 k ++ t.extract (k + 1) t.size, s)
  else if m = 1 then (t.extract 0 k ++ ⟨#[ub (byteF bs s).1]⟩ ++ t.extract k t.size, (byteF bs s).2)
  else if m = 2 then (t.extract 0 k, s)
  else (t.extract 0 k ++ ⟨#[ub ((byteAt t k ^^^ (1 + (belowF bs 255 s).1.toNat) : Nat) : Int)]⟩ ++ t.extract (k + 1) t.size, (belowF bs 255 s).2)
def spoilF (bs : List Int) (t : ByteArray) (s : CS) : ByteArray × CS :=
  if t.size = 0 then textF bs 3 s
  else spoilK bs t (belowF bs t.size s).1.toNat (belowF bs 4 (belowF bs t.size s).2).1 (belowF bs 4 (belowF bs t.size s).2).2
theorem size_one (u : UInt8) : (⟨#[u]⟩ : ByteArray).size = 1 := rfl
theorem spoilF_size (bs : List Int) (t : ByteArray) (s : CS) : (spoilF bs t s).1.size ≤ t.size + 3 := by
  unfold spoilF
  split
  · have := textF_size bs 3 s (by omega); omega
  · unfold spoilK
    split
    · simp only [ByteArray.size_append, ByteArray.size_extract]; omega
    · split
      · simp only [ByteArray.size_append, ByteArray.size_extract, size_one]; omega
      · split
        · simp only [ByteArray.size_extract]; omega
        · simp only [ByteArray.size_append, ByteArray.size_extract, size_one]; omega

end Go.Proofs.YtgoodpphinakaaaDoor
