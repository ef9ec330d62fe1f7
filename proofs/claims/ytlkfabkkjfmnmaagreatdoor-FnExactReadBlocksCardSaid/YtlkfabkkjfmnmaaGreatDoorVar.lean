/- Var: the program's and the reference's come to one text. -/
import Derived.Test.YtlkfabkkjfmnmaaGreatDoorIn
import Derived.Test.YtlkfabkkjfmnmaaGreatDoorNum
namespace Go.Proofs.YtlkfabkkjfmnmaaGreatDoor
open Go.RowKit

/-- What Var comes to at any number. -/
def varV (n : Int) : List UInt8 := if 0 ≤ n ∧ n ≤ 562949953421311 then varL n.toNat else []
theorem varV_no (n : Int) (h : n < 0 ∨ 562949953421311 < n) : varV n = [] := by rw [varV, if_neg (by omega)]
set_option maxRecDepth 1000000 in
set_option maxHeartbeats 6000000 in
theorem varV_yes (n : Nat) (h : n ≤ 562949953421311) : varV n = varL n := by rw [varV, if_pos (by omega)]; simp
theorem varV_len (n : Int) : (varV n).length ≤ 7 := by
  unfold varV
  split
  · exact varL_len7 _ (by omega)
  · simp

set_option maxRecDepth 1000000 in
set_option maxHeartbeats 6000000 in
theorem implVar_any (n : Int) (w : World) :
    Calls Tryz.prog 60 #[.int .i64 n] w fun e w' => e = .returned (.string ⟨(varV n).toArray⟩) ∧ Below w.heap.size w w' := by
  by_cases h0 : 0 ≤ n
  · by_cases h1 : n ≤ 562949953421311
    · obtain ⟨n, rfl⟩ := Int.eq_ofNat_of_zero_le h0
      have H1 := Lib.hid (varV_yes n (by omega))
      have hl := varL_len7 n (by omega)
      go_enter Tryz.func60, Tryz.ntmps60
      go_wp2_with (go_at_call 51; (first | refine (within_yes _ _ _ _ (by omega) (by omega)).mono ?_ | refine (within_no _ _ _ _ (by omega)).mono ?_); rintro e w' ⟨rfl, rfl⟩)
      go_loopg [0, 3] n (fun g nv o wr => ∃ (m : Nat) (pre : List UInt8), m = g ∧ m ≤ 562949953421311 ∧ nv = .int .i64 m ∧ pre ++ varL m = varL n ∧ Own 5 1 w.heap.size w o pre.length (u8s pre) wr)
      case atStart => exact ⟨n, [], rfl, by omega, rfl, rfl, by simpa [u8s] using Own.lit (e := 5) (size := 1) (n := 0) (Below.refl w.heap.size w) (Nat.le_refl _) #[] rfl (by decide)⟩
      case round =>
        obtain ⟨m, pre, rfl, hm, rfl, hpre, hOk⟩ := hrel
        have hpl : pre.length ≤ 7 := by have := congrArg List.length hpre; rw [List.length_append] at this; omega
        obtain ⟨av, cv, rfl, _, _⟩ := hOk.shape
        by_cases hlt : m < 128
        · have H2 : Hid (pre ++ [lo7 m] = varL n) := Lib.hid (by rw [varL_lo hlt] at hpre; exact hpre)
          clear hpre
          go_wp2_with (at_builtin; go_loud (refine wp_app1 rfl _ _ 34 rfl 5 (.int .u8 0) 1 1 Tryz.underlying34 info_u8 rfl (by decide) w.heap.size w _ _ _ (by rfl) (by exact hOk) _ _ (by rfl) (by rfl) (by intro u hu; simp at hu; first | (subst hu; rfl) | (rcases hu with rfl | rfl <;> rfl) | (rcases hu with rfl | rfl | rfl <;> rfl) | (rcases hu with rfl | rfl | rfl | rfl <;> rfl)) (by omega) (by unfold maxLen; omega) ?_); intro a2 c2 w2 hO2)
          have hr2 : Rd w2 a2 (pre.length + 1) c2 1 (u8s (varL n)) := by
            have := hO2.rd
            rw [← H2.out, u8s_append, u8s_lo7 m hlt]
            exact this
          have hcv := run_str (P := Tryz.prog) 34 9 5 Tryz.underlying34 Tryz.underlying5 Tryz.underlying9 hr2
          go_simp
          go_wp2
          go_ret
          exact ⟨by rw [H1.out]; rfl, hO2.below⟩
        · have H2 : Hid (pre ++ [hi7 m] ++ varL (m / 128) = varL n) := Lib.hid (by rw [varL_hi hlt] at hpre; rw [← hpre]; simp)
          clear hpre
          have h127 := i64_and127 (m : Int)
          have hor : bits .or .i64 ((m : Int) % 128) 128 = 128 + (m : Int) % 128 := by
            rw [bits_or_comm]; exact i64_or 7 128 _ (by decide) (by decide) (by decide) (by omega) (by omega) (by omega)
          go_wp2_with (at_builtin; go_loud (refine wp_app1 rfl _ _ 34 rfl 5 (.int .u8 0) 1 1 Tryz.underlying34 info_u8 rfl (by decide) w.heap.size w _ _ _ (by rfl) (by exact hOk) _ _ (by rfl) (by rfl) (by intro u hu; simp at hu; first | (subst hu; rfl) | (rcases hu with rfl | rfl <;> rfl) | (rcases hu with rfl | rfl | rfl <;> rfl) | (rcases hu with rfl | rfl | rfl | rfl <;> rfl)) (by omega) (by unfold maxLen; omega) ?_); intro a2 c2 w2 hO2)
          go_wp2
          go_roundg (m / 128)
          case measure => omega
          case rel =>
            refine ⟨m / 128, pre ++ [hi7 m], rfl, by omega, by go_num, H2.out, ?_⟩
            rw [u8s_append, List.length_append, u8s_hi7 m]
            exact hO2
    · have H1 := Lib.hid (varV_no n (by omega))
      go_enter Tryz.func60, Tryz.ntmps60
      go_wp2_with (go_at_call 51; (first | refine (within_yes _ _ _ _ (by omega) (by omega)).mono ?_ | refine (within_no _ _ _ _ (by omega)).mono ?_); rintro e w' ⟨rfl, rfl⟩)
      go_ret
      exact ⟨by rw [H1.out]; rfl, Below.refl _ _⟩
  · have H1 := Lib.hid (varV_no n (by omega))
    go_enter Tryz.func60, Tryz.ntmps60
    go_wp2_with (go_at_call 51; (first | refine (within_yes _ _ _ _ (by omega) (by omega)).mono ?_ | refine (within_no _ _ _ _ (by omega)).mono ?_); rintro e w' ⟨rfl, rfl⟩)
    go_ret
    exact ⟨by rw [H1.out]; rfl, Below.refl _ _⟩

set_option maxRecDepth 100000 in
set_option maxHeartbeats 6000000 in
theorem specVar_any (n : Int) (w : World) :
    Calls Tryz.prog 70 #[.int .i64 n] w fun e w' => e = .returned (.string ⟨(varV n).toArray⟩) ∧ Below w.heap.size w w' := by
  by_cases h0 : 0 ≤ n
  · by_cases h1 : n ≤ 562949953421311
    · obtain ⟨n, rfl⟩ := Int.eq_ofNat_of_zero_le h0
      have H1 := Lib.hid (varV_yes n (by omega))
      have hl := varL_len7 n (by omega)
      go_enter Tryz.func70, Tryz.ntmps70
      go_wp2_with (go_at_call 39; (first | refine (l1In_yes _ _ _ _ (by omega) (by omega)).mono ?_ | refine (l1In_no _ _ _ _ (by omega)).mono ?_); rintro e w' ⟨rfl, rfl⟩)
      go_loopg [0, 3] n (fun g nv o wr => ∃ (m : Nat) (pre : List UInt8), m = g ∧ m ≤ 562949953421311 ∧ nv = .int .i64 m ∧ pre ++ varL m = varL n ∧ Own 5 1 w.heap.size w o pre.length (u8s pre) wr)
      case atStart => exact ⟨n, [], rfl, by omega, rfl, rfl, by simpa [u8s] using Own.lit (e := 5) (size := 1) (n := 0) (Below.refl w.heap.size w) (Nat.le_refl _) #[] rfl (by decide)⟩
      case round =>
        obtain ⟨m, pre, rfl, hm, rfl, hpre, hOk⟩ := hrel
        have hpl : pre.length ≤ 7 := by have := congrArg List.length hpre; rw [List.length_append] at this; omega
        obtain ⟨av, cv, rfl, _, _⟩ := hOk.shape
        by_cases hlt : m < 128
        · have H2 : Hid (pre ++ [lo7 m] = varL n) := Lib.hid (by rw [varL_lo hlt] at hpre; exact hpre)
          clear hpre
          go_wp2_with (at_builtin; go_loud (refine wp_app1 rfl _ _ 34 rfl 5 (.int .u8 0) 1 1 Tryz.underlying34 info_u8 rfl (by decide) w.heap.size w _ _ _ (by rfl) (by exact hOk) _ _ (by rfl) (by rfl) (by intro u hu; simp at hu; first | (subst hu; rfl) | (rcases hu with rfl | rfl <;> rfl) | (rcases hu with rfl | rfl | rfl <;> rfl) | (rcases hu with rfl | rfl | rfl | rfl <;> rfl)) (by omega) (by unfold maxLen; omega) ?_); intro a2 c2 w2 hO2)
          have hr2 : Rd w2 a2 (pre.length + 1) c2 1 (u8s (varL n)) := by
            have := hO2.rd
            rw [← H2.out, u8s_append, u8s_lo7 m hlt]
            exact this
          have hcv := run_str (P := Tryz.prog) 34 9 5 Tryz.underlying34 Tryz.underlying5 Tryz.underlying9 hr2
          go_simp
          go_wp2
          go_ret
          exact ⟨by rw [H1.out]; rfl, hO2.below⟩
        · have H2 : Hid (pre ++ [hi7 m] ++ varL (m / 128) = varL n) := Lib.hid (by rw [varL_hi hlt] at hpre; rw [← hpre]; simp)
          clear hpre
          go_wp2_with (at_builtin; go_loud (refine wp_app1 rfl _ _ 34 rfl 5 (.int .u8 0) 1 1 Tryz.underlying34 info_u8 rfl (by decide) w.heap.size w _ _ _ (by rfl) (by exact hOk) _ _ (by rfl) (by rfl) (by intro u hu; simp at hu; first | (subst hu; rfl) | (rcases hu with rfl | rfl <;> rfl) | (rcases hu with rfl | rfl | rfl <;> rfl) | (rcases hu with rfl | rfl | rfl | rfl <;> rfl)) (by omega) (by unfold maxLen; omega) ?_); intro a2 c2 w2 hO2)
          go_wp2
          go_roundg (m / 128)
          case measure => omega
          case rel =>
            refine ⟨m / 128, pre ++ [hi7 m], rfl, by omega, by go_num, H2.out, ?_⟩
            rw [u8s_append, List.length_append, u8s_hi7 m]
            exact hO2
    · have H1 := Lib.hid (varV_no n (by omega))
      go_enter Tryz.func70, Tryz.ntmps70
      go_wp2_with (go_at_call 39; (first | refine (l1In_yes _ _ _ _ (by omega) (by omega)).mono ?_ | refine (l1In_no _ _ _ _ (by omega)).mono ?_); rintro e w' ⟨rfl, rfl⟩)
      go_ret
      exact ⟨by rw [H1.out]; rfl, Below.refl _ _⟩
  · have H1 := Lib.hid (varV_no n (by omega))
    go_enter Tryz.func70, Tryz.ntmps70
    go_wp2_with (go_at_call 39; (first | refine (l1In_yes _ _ _ _ (by omega) (by omega)).mono ?_ | refine (l1In_no _ _ _ _ (by omega)).mono ?_); rintro e w' ⟨rfl, rfl⟩)
    go_ret
    exact ⟨by rw [H1.out]; rfl, Below.refl _ _⟩

end Go.Proofs.YtlkfabkkjfmnmaaGreatDoor
