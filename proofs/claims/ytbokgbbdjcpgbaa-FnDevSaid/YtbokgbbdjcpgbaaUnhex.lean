/- Unhex: the program's and the reference's come to one. -/
import Derived.Test.YtbokgbbdjcpgbaaIn
import Derived.Test.YtbokgbbdjcpgbaaHex
namespace Go.Proofs.Ytbokgbbdjcpgbaa
open Go.RowKit

/-- What a digit of base 16 stands for; -1 where it is none. -/
def hexV (b : Int) : Int := if 48 ≤ b ∧ b ≤ 57 then b - 48 else if 97 ≤ b ∧ b ≤ 102 then b - 87 else -1
theorem hexV_lo (b : Int) : -1 ≤ hexV b := by unfold hexV; split <;> (try split) <;> omega
theorem hexV_hi (b : Int) : hexV b ≤ 15 := by unfold hexV; split <;> (try split) <;> omega

theorem dg_hexV_fin : ∀ k : Fin 16, hexV ((dg k.val).toNat : Int) = k.val := by decide
theorem dg_hexV (k : Nat) (h : k < 16) : hexV ((dg k).toNat : Int) = k := dg_hexV_fin ⟨k, h⟩
theorem hexV_none (b : Int) (h : ∀ j, j < 16 → ((dg j).toNat : Int) ≠ b) : hexV b = -1 := by
  unfold hexV
  split
  · exfalso
    refine h (b - 48).toNat (by omega) ?_
    have : (dg (b - 48).toNat) = UInt8.ofNat (48 + (b - 48).toNat) := by unfold dg; rw [if_pos (by omega)]
    rw [this, UInt8.toNat_ofNat']
    omega
  · split
    · exfalso
      refine h (b - 87).toNat (by omega) ?_
      have : (dg (b - 87).toNat) = UInt8.ofNat (87 + (b - 87).toNat) := by unfold dg; rw [if_neg (by omega)]
      rw [this, UInt8.toNat_ofNat']
      omega
    · rfl

/-- The byte of two digits. -/
def hb2 (a b : UInt8) : UInt8 := UInt8.ofNat (hexV a.toNat * 16 + hexV b.toNat).toNat
def unhexL : List UInt8 → Option (List UInt8)
  | [] => some []
  | [_] => none
  | a :: b :: r => if hexV a.toNat < 0 ∨ hexV b.toNat < 0 then none else (unhexL r).map (hb2 a b :: ·)
theorem unhexL_odd : ∀ l : List UInt8, l.length % 2 = 1 → unhexL l = none
  | [], h => by simp at h
  | [_], _ => rfl
  | a :: b :: r, h => by
    have := unhexL_odd r (by simp only [List.length_cons] at h; omega)
    unfold unhexL
    rw [this]
    split <;> rfl
/-- What Unhex comes to. -/
def unhexV (l : List UInt8) : Value := match unhexL l with
  | some r => .tuple #[.string ⟨r.toArray⟩, .bool true]
  | none => .tuple #[.string ⟨#[]⟩, .bool false]
theorem drop_two (s : ByteArray) (j : Nat) (h : j + 1 < s.size) : s.data.toList.drop j = s[j] :: s[j + 1] :: s.data.toList.drop (j + 2) := by
  rw [List.drop_eq_getElem_cons (by simp; omega), List.drop_eq_getElem_cons (by simp; omega)]
  rfl

end Go.Proofs.Ytbokgbbdjcpgbaa
