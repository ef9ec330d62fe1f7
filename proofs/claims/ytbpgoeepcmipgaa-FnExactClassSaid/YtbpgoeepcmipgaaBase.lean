/- Words for worlds, rows of cells and bytes, with no program in sight: what a slice reads as, what is kept of it. -/
import Derived.WalkKit
import Derived.WalkSpells
import Derived.WalkLawsBesides
import Derived.PlainAid
import Derived.Lib.Hide
import Derived.Handy
namespace Go.Proofs.Ytbpgoeepcmipgaa
open Go.RowKit

/-- A slice value at address a, of n elements, reads as the cells xs (elements of one cell each). -/
def Row (w : World) (a : Option Addr) (n : Nat) (xs : List Value) : Prop :=
  xs.length = n ∧ n ≤ maxLen ∧ (0 < n → ∃ b off, a = some ⟨b, off, none⟩ ∧ b < w.heap.size ∧ ∀ j (h : j < xs.length), w.cell? ⟨b, off + j, none⟩ = some xs[j])

theorem Row.below {w w' : World} {a : Option Addr} {n : Nat} {xs : List Value} (h : Row w a n xs) (hb : Below w.heap.size w w') : Row w' a n xs :=
  ⟨h.1, h.2.1, fun h0 => let ⟨b, off, e, hlt, hc⟩ := h.2.2 h0; ⟨b, off, e, Nat.lt_of_lt_of_le hlt hb.size, fun j hj => (hb.cell (by exact hlt)).trans (hc j hj)⟩⟩

/-- Bytes from numbers, and back. -/
theorem ret_int {k : IntKind} {a b : Int} (h : a = b) : Ending.returned (.int k a) = .returned (.int k b) := by rw [h]
theorem ret_bool {a b : Bool} (h : a = b) : Ending.returned (.bool a) = .returned (.bool b) := by rw [h]
theorem ret_str {a b : ByteArray} (h : a = b) : Ending.returned (.string a) = .returned (.string b) := by rw [h]
end Go.Proofs.Ytbpgoeepcmipgaa
