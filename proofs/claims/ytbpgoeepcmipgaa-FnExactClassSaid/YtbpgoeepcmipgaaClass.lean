/- The class of a sign: the program's Class and the reference's come to one number. -/
import Derived.Test.YtbpgoeepcmipgaaProg
import Derived.Test.YtbpgoeepcmipgaaBase
namespace Go.Proofs.Ytbpgoeepcmipgaa
open Go.RowKit

def among (c : Int) (l : List Int) : Bool := l.any (· == c)

theorem among_take_succ (c : Int) (l : List Int) (k : Nat) (h : k < l.length) : among c (l.take (k + 1)) = (among c (l.take k) || l[k] == c) := by
  unfold among
  rw [List.take_succ_eq_append_getElem h, List.any_append]
  simp only [List.any_cons, List.any_nil, Bool.or_false]

theorem among_of_take (c : Int) (l : List Int) (k : Nat) (h : among c (l.take k) = true) : among c l = true := by
  simp only [among, List.any_eq_true] at h ⊢
  obtain ⟨x, hx, e⟩ := h
  exact ⟨x, List.mem_of_mem_take hx, e⟩

theorem among_any (c : Int) (a : Option Addr) (cap n : Nat) (l : List Int) (w : World) (h : Row w a n (l.map (.int .i64))) :
    Calls Try.prog 37 #[.int .i64 c, .slice a n cap] w fun e w' => e = .returned (.bool (among c l)) ∧ w = w' := by
  obtain ⟨hl, hm, hr⟩ := h
  simp at hl
  subst hl
  unfold maxLen at hm
  go_enter Try.func37, Try.ntmps37
  go_wp2
  go_loop [5] (fun i => ∃ k : Nat, k ≤ l.length ∧ i = .int .i64 k ∧ among c (l.take k) = false) (fun i => l.length - (intOf i).toNat)
  case atStart => exact ⟨0, by omega, rfl, rfl⟩
  case round =>
    obtain ⟨k, hk, rfl, hf⟩ := hrel
    have hs := among_take_succ c l k
    by_cases hlt : k < l.length
    · obtain ⟨b, off, rfl, hbz, hc⟩ := hr (by omega)
      have hc1 := hc k (by simpa using hlt)
      simp only [List.getElem_map] at hc1
      clear hc
      have H := Lib.hid (hs hlt)
      have HF := Lib.hid hf
      clear hf hs
      go_wp2
      · go_ret
        have e : (l[k] == c) = true := by assumption
        exact ⟨ret_bool (by have := H.out; rw [e, HF.out] at this; exact (among_of_take c l _ (by simpa using this)).symm), rfl⟩
      · go_round
        case rel => 
          have e : (l[k] == c) = false := by assumption
          exact ⟨k + 1, by omega, by go_num, by rw [H.out, HF.out, e]; rfl⟩
        case measure => simp [intOf]; omega
    · go_wp2
      go_ret
      exact ⟨ret_bool (by rw [List.take_of_length_le (by omega)] at hf; exact hf.symm), rfl⟩

/-- The class of a sign. -/
def classF (c : Int) : Int := if (768 ≤ c ∧ c ≤ 772) ∨ c = 776 ∨ c = 778 then 230 else if c = 803 then 220 else if c = 807 then 202 else 0

theorem among_class (c : Int) : among c [768, 769, 770, 771, 772, 776, 778] = decide ((768 ≤ c ∧ c ≤ 772) ∨ c = 776 ∨ c = 778) := by
  simp [among, List.any_cons]
  rw [Bool.eq_iff_iff]
  simp
  omega

theorem row_new (w : World) (cs : List Value) (e : TypeId) (n : Nat) (hn : cs.length = n) (hm : n ≤ maxLen) : Row (w.alloc (.cells cs.toArray e)) (some ⟨w.heap.size, 0, none⟩) n cs := by
  refine ⟨hn, hm, fun _ => ⟨w.heap.size, 0, rfl, by simp, fun j hj => ?_⟩⟩
  rw [World.cell?_alloc_at _ _ _ _ rfl]
  simp [hj]

theorem specClass_any (c : Int) (w : World) : Calls Try.prog 24 #[.int .i64 c] w fun e w' => e = .returned (.int .i64 (classF c)) ∧ Below w.heap.size w w' := by
  go_enter Try.func24, Try.ntmps24
  go_wp2_with fail
  refine (among_any c _ 7 7 [768, 769, 770, 771, 772, 776, 778] _ (row_new w _ _ 7 rfl (by decide))).mono ?_
  rintro e w' ⟨rfl, rfl⟩
  have hb : Below w.heap.size w (w.alloc (.cells #[.int .i64 768, .int .i64 769, .int .i64 770, .int .i64 771, .int .i64 772, .int .i64 776, .int .i64 778] 3)) := (Below.refl _ _).alloc (Nat.le_refl _) _
  rw [among_class]
  by_cases h : (768 ≤ c ∧ c ≤ 772) ∨ c = 776 ∨ c = 778
  · have e : decide ((768 ≤ c ∧ c ≤ 772) ∨ c = 776 ∨ c = 778) = true := by simpa using h
    rw [e]
    have H := Lib.hid h
    clear h
    clear e
    go_wp2
    go_ret
    exact ⟨ret_int (by unfold classF; rw [if_pos H.out]), hb⟩
  · have e : decide ((768 ≤ c ∧ c ≤ 772) ∨ c = 776 ∨ c = 778) = false := by simpa using h
    rw [e]
    have H := Lib.hid h
    clear h
    clear e
    go_wp2
    all_goals go_ret
    all_goals refine ⟨ret_int ?_, hb⟩
    all_goals (unfold classF; rw [if_neg H.out]; simp only [beq_iff_eq, beq_eq_false_iff_ne] at *; (repeat' split) <;> omega)

theorem implClass_any (c : Int) (w : World) : Calls Try.prog 25 #[.int .i64 c] w fun e w' => e = .returned (.int .i64 (classF c)) ∧ w = w' := by
  go_enter Try.func25, Try.ntmps25
  go_wp2
  all_goals go_ret
  all_goals refine ⟨ret_int ?_, rfl⟩
  all_goals (unfold classF; simp_all; try omega)

theorem lawClass_walk (c : Int) (_wf : (Lit.int .i64 c).wf = true) (w : World) : Calls Try.prog 9 #[.int .i64 c] w fun e w' => e = .returned (.bool true) ∧ Below w.heap.size w w' := by
  go_enter Try.func9, Try.ntmps9
  go_wp2_with fail
  refine (specClass_any c _).mono ?_
  rintro e w1 ⟨rfl, hb⟩
  go_wp2_with fail
  refine (implClass_any c _).mono ?_
  rintro e w1 ⟨rfl, rfl⟩
  go_wp2
  go_ret
  exact ⟨rfl, hb⟩
end Go.Proofs.Ytbpgoeepcmipgaa
