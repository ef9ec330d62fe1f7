/- Hex: the program's and the reference's come to one text. -/
import Derived.Test.YtbokgbbdjcpgbaaIn
namespace Go.Proofs.Ytbokgbbdjcpgbaa
open Go.RowKit

/-- A digit of base 16, as a byte. -/
def dg (k : Nat) : UInt8 := if k < 10 then UInt8.ofNat (48 + k) else UInt8.ofNat (87 + k)
def hexL (bs : List UInt8) : List UInt8 := bs.flatMap fun b => [dg (b.toNat / 16), dg (b.toNat % 16)]
theorem hexL_length (bs : List UInt8) : (hexL bs).length = 2 * bs.length := by
  induction bs with
  | nil => rfl
  | cons b bs ih => simp only [hexL, List.flatMap_cons, List.length_append, List.length_cons, List.length_nil] at *; omega
theorem hexL_snoc (s : ByteArray) (k : Nat) (h : k < s.size) : hexL (s.data.toList.take (k + 1)) = hexL (s.data.toList.take k) ++ [dg (s[k].toNat / 16), dg (s[k].toNat % 16)] := by
  rw [List.take_succ_eq_append_getElem (by simpa using h)]
  simp only [hexL, List.flatMap_append, List.flatMap_cons, List.flatMap_nil, List.append_nil]
  rfl

def digits : Array UInt8 := #[48, 49, 50, 51, 52, 53, 54, 55, 56, 57, 97, 98, 99, 100, 101, 102]
theorem dig_fin : ∀ n : Fin 16, (⟨digits⟩ : ByteArray)[n.val]'n.isLt = dg n.val := by decide
theorem dig_at (x : Int) (h0 : 0 ≤ x) (h1 : x < 16) : (⟨digits⟩ : ByteArray)[x.toNat]'(by show _ < 16; omega) = dg x.toNat := dig_fin ⟨x.toNat, by omega⟩

end Go.Proofs.Ytbokgbbdjcpgbaa
