/- Encode: the program's and the reference's come to one text; its law, walked. -/
import Derived.Test.YtbokgbbdjcpgbaaInts
namespace Go.Proofs.Ytbokgbbdjcpgbaa
open Go.RowKit

def isSgn (c : Int) : Bool := decide (0 ≤ c ∧ c ≤ 1114111 ∧ ¬ (55296 ≤ c ∧ c ≤ 57343))
/-- The bytes of a sign. -/
def enc1 (c : Int) : List UInt8 :=
  if c < 128 then [ub c]
  else if c < 2048 then [ub (192 + c / 64), ub (128 + c % 64)]
  else if c < 65536 then [ub (224 + c / 4096), ub (128 + c / 64 % 64), ub (128 + c % 64)]
  else [ub (240 + c / 262144), ub (128 + c / 4096 % 64), ub (128 + c / 64 % 64), ub (128 + c % 64)]
def encs (l : List Int) : List UInt8 := l.flatMap enc1
/-- What Encode comes to. -/
def encL (l : List Int) : List UInt8 := if ∀ x ∈ l, isSgn x = true then encs l else []
theorem enc1_len (c : Int) : (enc1 c).length ≤ 4 := by unfold enc1; (repeat' split) <;> simp
theorem encs_len (l : List Int) : (encs l).length ≤ 4 * l.length := by
  induction l with
  | nil => simp [encs]
  | cons x l ih =>
    have := enc1_len x
    simp only [encs, List.flatMap_cons, List.length_append, List.length_cons] at *
    omega
theorem enc1_cells1 (c : Int) (h0 : 0 ≤ c) (h1 : c < 128) : u8s (enc1 c) = [.int .u8 c] ∧ (enc1 c).length = 1 := by
  unfold enc1; rw [if_pos h1]; exact ⟨u8s_ub1 _ (by omega) (by omega), rfl⟩
theorem enc1_cells2 (c : Int) (h0 : 128 ≤ c) (h1 : c < 2048) : u8s (enc1 c) = [.int .u8 (192 + c / 64), .int .u8 (128 + c % 64)] ∧ (enc1 c).length = 2 := by
  unfold enc1; rw [if_neg (by omega), if_pos h1]; exact ⟨u8s_ub2 _ _ (by omega) (by omega) (by omega) (by omega), rfl⟩
theorem enc1_cells3 (c : Int) (h0 : 2048 ≤ c) (h1 : c < 65536) : u8s (enc1 c) = [.int .u8 (224 + c / 4096), .int .u8 (128 + c / 64 % 64), .int .u8 (128 + c % 64)] ∧ (enc1 c).length = 3 := by
  unfold enc1; rw [if_neg (by omega), if_neg (by omega), if_pos h1]; exact ⟨u8s_ub3 _ _ _ (by omega) (by omega) (by omega) (by omega) (by omega) (by omega), rfl⟩
theorem enc1_cells4 (c : Int) (h0 : 65536 ≤ c) (h1 : c ≤ 1114111) : u8s (enc1 c) = [.int .u8 (240 + c / 262144), .int .u8 (128 + c / 4096 % 64), .int .u8 (128 + c / 64 % 64), .int .u8 (128 + c % 64)] ∧ (enc1 c).length = 4 := by
  unfold enc1; rw [if_neg (by omega), if_neg (by omega), if_neg (by omega)]; exact ⟨u8s_ub4 _ _ _ _ (by omega) (by omega) (by omega) (by omega) (by omega) (by omega) (by omega) (by omega), rfl⟩





end Go.Proofs.Ytbokgbbdjcpgbaa
