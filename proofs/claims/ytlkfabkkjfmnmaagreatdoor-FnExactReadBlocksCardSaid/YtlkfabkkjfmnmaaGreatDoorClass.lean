/- The class of a sign: the program's Class and the reference's come to one number. -/
import Derived.Test.YtlkfabkkjfmnmaaGreatDoorAmong
namespace Go.Proofs.YtlkfabkkjfmnmaaGreatDoor
open Go.RowKit

/-- The class of a sign. -/
def classF (c : Int) : Int := if (768 ≤ c ∧ c ≤ 772) ∨ c = 776 ∨ c = 778 then 230 else if c = 803 then 220 else if c = 807 then 202 else 0

theorem among_class (c : Int) : among c [768, 769, 770, 771, 772, 776, 778] = decide ((768 ≤ c ∧ c ≤ 772) ∨ c = 776 ∨ c = 778) := by
  simp [among, List.any_cons]
  rw [Bool.eq_iff_iff]
  simp
  omega

set_option maxRecDepth 1000000 in
set_option maxHeartbeats 6000000 in
theorem specClass_any (c : Int) (w : World) : Calls Tryz.prog 131 #[.int .i64 c] w fun e w' => e = .returned (.int .i64 (classF c)) ∧ Below w.heap.size w w' := by
  go_enter Tryz.func131, Tryz.ntmps131
  go_wp2_with fail
  refine (among_any c _ 7 7 [768, 769, 770, 771, 772, 776, 778] _ (lit_rd rfl (by decide))).mono ?_
  rintro e w' ⟨rfl, rfl⟩
  have hb : Below w.heap.size w (w.alloc (.cells #[.int .i64 768, .int .i64 769, .int .i64 770, .int .i64 771, .int .i64 772, .int .i64 776, .int .i64 778] 3)) := (Below.refl _ _).alloc (Nat.le_refl _) _
  rw [among_class]
  by_cases h : (768 ≤ c ∧ c ≤ 772) ∨ c = 776 ∨ c = 778
  · have e : decide ((768 ≤ c ∧ c ≤ 772) ∨ c = 776 ∨ c = 778) = true := by simpa using h
    rw [e]
    have H := Lib.hid h
    clear h
    clear e
    go_wp2
    go_ret
    exact ⟨ret_int (by unfold classF; rw [if_pos H.out]), hb⟩
  · have e : decide ((768 ≤ c ∧ c ≤ 772) ∨ c = 776 ∨ c = 778) = false := by simpa using h
    rw [e]
    have H := Lib.hid h
    clear h
    clear e
    go_wp2
    all_goals go_ret
    all_goals refine ⟨ret_int ?_, hb⟩
    all_goals (unfold classF; rw [if_neg H.out]; simp only [beq_iff_eq, beq_eq_false_iff_ne] at *; (repeat' split) <;> omega)

set_option maxRecDepth 1000000 in
set_option maxHeartbeats 6000000 in
theorem implClass_any (c : Int) (w : World) : Calls Tryz.prog 137 #[.int .i64 c] w fun e w' => e = .returned (.int .i64 (classF c)) ∧ w = w' := by
  go_enter Tryz.func137, Tryz.ntmps137
  go_wp2
  all_goals go_ret
  all_goals refine ⟨ret_int ?_, rfl⟩
  all_goals (unfold classF; simp_all; try omega)

end Go.Proofs.YtlkfabkkjfmnmaaGreatDoor
