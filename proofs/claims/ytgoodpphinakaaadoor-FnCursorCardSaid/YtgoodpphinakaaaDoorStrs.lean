/- The laws' own helpers on lists of texts: sizes, a copy; are two alike; marks laid, and looked at again. -/
import Derived.Test.YtgoodpphinakaaaDoorShape
import Derived.Test.YtgoodpphinakaaaDoorMore
import Derived.Test.YtgoodpphinakaaaDoorDec
namespace Go.Proofs.YtgoodpphinakaaaDoor
open Go.RowKit

theorem info_str : (Tryd.prog.info? 9).map (fun i => (i.zero, i.size, i.bytes)) = some (some (.string ByteArray.empty), 1, 16) := by kernel_rfl

theorem below_step1 {w0 w w' : World} (h : Below w0.heap.size w0 w) (hb : Below w.heap.size w w') : Below w0.heap.size w0 w' := h.trans (hb.mono h.size)
theorem set_stepS (l : List ByteArray) (k : Nat) (h : k < l.length) (z : Value) : ((strs (l.take k)) ++ List.replicate (l.length - k) z).set k (.string l[k]) = strs (l.take (k + 1)) ++ List.replicate (l.length - (k + 1)) z := by
  have e : l.length - k = (l.length - (k + 1)) + 1 := by omega
  rw [List.set_append_right _ _ (by simp; omega), e, List.replicate_succ, List.take_succ_eq_append_getElem h, strs_append]
  have e2 : k - (strs (l.take k)).length = 0 := by simp; omega
  rw [e2]
  simp [strs_eq]



/-- A mark's text. -/
def mtF (k : Nat) : ByteArray := ⟨#[109] ++ (rdec k).reverse.toArray⟩

/-- Marks, k, k + 1, .. -/
def mks (k : Nat) (n : Nat) : List ByteArray := (List.range n).map fun i => mtF (k + i)
@[simp] theorem mks_length (k n : Nat) : (mks k n).length = n := by simp [mks]
theorem mks_get (k n i : Nat) (h : i < n) : (mks k n)[i]'(by simpa using h) = mtF (k + i) := by simp [mks]
theorem mks_set (k n j : Nat) (l : List ByteArray) (hl : l.length = n) (h : j < n) : (strs (mks k j) ++ strs (l.drop j)).set j (.string (mtF (k + j))) = strs (mks k (j + 1)) ++ strs (l.drop (j + 1)) := by
  have e : mks k (j + 1) = mks k j ++ [mtF (k + j)] := by simp [mks, List.range_succ]
  have e2 : strs (l.drop j) = .string l[j] :: strs (l.drop (j + 1)) := by rw [List.drop_eq_getElem_cons (by omega)]; rfl
  rw [e, strs_append, e2, List.set_append_right _ _ (by simp), show j - (strs (mks k j)).length = 0 from by simp, List.set_cons_zero]
  simp [strs_eq]

/-- A text's length, and the texts' lengths, taken from what is left. -/
def SzOk (left : Int) (l : List ByteArray) (x : Int) : Prop := x ≤ left ∧ (0 ≤ x → (l.length : Int) ≤ left ∧ ∀ s ∈ l, (s.size : Int) ≤ left)
def SzPost (left : Int) (l : List ByteArray) (w : World) (e : Ending) (w' : World) : Prop := ∃ x : Int, e = .returned (.int .i64 x) ∧ -1 ≤ x ∧ SzOk left l x ∧ w = w'
end Go.Proofs.YtgoodpphinakaaaDoor
