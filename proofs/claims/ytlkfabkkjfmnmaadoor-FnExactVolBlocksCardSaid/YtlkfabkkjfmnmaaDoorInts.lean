/- The laws' own helpers on lists of whole numbers: a copy; are two alike; marks laid, and looked at again. -/
import Derived.Test.YtlkfabkkjfmnmaaDoorIn
namespace Go.Proofs.YtlkfabkkjfmnmaaDoor
open Go.RowKit

theorem info_i64 : (Tryd.prog.info? 3).map (fun i => (i.zero, i.size, i.bytes)) = some (some (.int .i64 0), 1, 8) := by kernel_rfl

theorem set_step (l : List Int) (k : Nat) (h : k < l.length) (z : Value) : ((ints (l.take k)) ++ List.replicate (l.length - k) z).set k (.int .i64 l[k]) = ints (l.take (k + 1)) ++ List.replicate (l.length - (k + 1)) z := by
  have e : l.length - k = (l.length - (k + 1)) + 1 := by omega
  rw [List.set_append_right _ _ (by simp; omega), e, List.replicate_succ, List.take_succ_eq_append_getElem h, ints_append]
  have e2 : k - (ints (l.take k)).length = 0 := by simp; omega
  rw [e2]
  simp [ints]

end Go.Proofs.YtlkfabkkjfmnmaaDoor
