/- Is a call right: the program's CallOk and the reference's come to one answer. -/
import Derived.Test.YtbokgbbdjcpgbaaIn
import Derived.Laws.Rows
namespace Go.Proofs.Ytbokgbbdjcpgbaa
open Go.RowKit

def callV (k d : Int) (nm : ByteArray) (t : Int) (s dt : ByteArray) : Value := .agg #[.int .i64 k, .int .i64 d, .string nm, .int .i64 t, .string s, .string dt]

set_option maxRecDepth 1000000 in
set_option maxHeartbeats 2000000 in
theorem szCall_any (k d t : Int) (nm s dt : ByteArray) (h1 : nm.size ≤ maxLen) (h2 : s.size ≤ maxLen) (h3 : dt.size ≤ maxLen) (w : World) :
    Calls Try.prog 15 #[callV k d nm t s dt, .int .i64 1048576] w fun e w' => (∃ x : Int, e = .returned (.int .i64 x)) ∧ Below w.heap.size w w' := by
  unfold maxLen at h1 h2 h3
  unfold callV
  go_enter Try.func15, Try.ntmps15
  go_wp2
  all_goals go_ret
  all_goals exact ⟨⟨_, rfl⟩, (Below.refl _ _).alloc (Nat.le_refl _) _⟩

set_option maxRecDepth 1000000 in
set_option maxHeartbeats 2000000 in
theorem toCall_any (k d t : Int) (nm s dt : ByteArray) (w : World) :
    Calls Try.prog 17 #[callV k d nm t s dt] w fun e w' => e = .returned (callV k d nm t s dt) ∧ Below w.heap.size w w' := by
  unfold callV
  go_enter Try.func17, Try.ntmps17
  go_wp2
  go_returns
  exact ⟨rfl, (((Below.refl _ _).alloc (Nat.le_refl _) _).alloc (by simp) _).alloc (by simp; omega) _⟩

/-- Is a call right. -/
def callOkF (k d : Int) (nm : ByteArray) (t : Int) (s dt : ByteArray) : Bool :=
  decide ((1 ≤ k ∧ k ≤ 8) ∧ (0 ≤ d ∧ d ≤ 100000) ∧ (0 ≤ t ∧ t ≤ 100000) ∧ nm.size ≤ 24 ∧ s.size ≤ 24 ∧ dt.size ≤ 20 ∧ ((k = 5 ∨ k = 6) ∨ (t = 0 ∧ s.size = 0)) ∧ (k = 7 ∨ dt.size = 0))
theorem str_zero (s : ByteArray) : s.toList.isEmpty = decide (s.size = 0) := by
  rw [ByteArray.toList_eq, Bool.eq_iff_iff]
  obtain ⟨a⟩ := s
  simp [ByteArray.size]
set_option maxRecDepth 1000000 in
set_option maxHeartbeats 2000000 in
theorem str_yes (s : ByteArray) (h : s.size = 0) : s.toList.isEmpty = true := by rw [str_zero]; simpa using h
theorem str_no (s : ByteArray) (h : s.size ≠ 0) : s.toList.isEmpty = false := by rw [str_zero]; simpa using h
set_option maxRecDepth 1000000 in
set_option maxHeartbeats 2000000 in
theorem hasTo_yes (k : Int) (w : World) (h : k = 5 ∨ k = 6) : Calls Try.prog 66 #[.int .i64 k] w fun e w' => e = .returned (.bool true) ∧ w = w' := by
  by_cases h5 : k = 5
  · have f5 : ((k : Int) == 5) = true := by simp; omega
    go_enter Try.func66, Try.ntmps66
    go_wp2
    go_ret
    exact ⟨rfl, rfl⟩
  · have f5 : ((k : Int) == 5) = false := by simp; omega
    have f6 : ((k : Int) == 6) = true := by simp; omega
    clear h5
    go_enter Try.func66, Try.ntmps66
    go_wp2
    go_ret
    exact ⟨rfl, rfl⟩
theorem hasTo_no (k : Int) (w : World) (h : k ≠ 5 ∧ k ≠ 6) : Calls Try.prog 66 #[.int .i64 k] w fun e w' => e = .returned (.bool false) ∧ w = w' := by
  have f5 : ((k : Int) == 5) = false := by simp; omega
  have f6 : ((k : Int) == 6) = false := by simp; omega
  clear h
  go_enter Try.func66, Try.ntmps66
  go_wp2
  go_ret
  exact ⟨rfl, rfl⟩

set_option maxRecDepth 1000000 in
set_option maxHeartbeats 2000000 in
theorem implCallOk_any (k d t : Int) (nm s dt : ByteArray) (h1 : nm.size ≤ maxLen) (h2 : s.size ≤ maxLen) (h3 : dt.size ≤ maxLen) (w : World) :
    Calls Try.prog 18 #[callV k d nm t s dt] w fun e w' => e = .returned (.bool (callOkF k d nm t s dt)) ∧ Below w.heap.size w w' := by
  unfold maxLen at h1 h2 h3
  unfold callV
  by_cases hk : 1 ≤ k ∧ k ≤ 8
  · obtain ⟨hk1, hk2⟩ := hk
    by_cases hd : 0 ≤ d ∧ d ≤ 100000
    · obtain ⟨hd1, hd2⟩ := hd
      by_cases ht : 0 ≤ t ∧ t ≤ 100000
      · obtain ⟨ht1, ht2⟩ := ht
        by_cases hn : nm.size ≤ 24
        · have HH := Lib.hid hn
          by_cases hs : s.size ≤ 24
          · have HH := Lib.hid hs
            by_cases hq : dt.size ≤ 20
            · have HH := Lib.hid hq
              by_cases k5 : k = 5
              · skip
                by_cases hq0 : dt.size = 0
                · have HF : Hid (callOkF k d nm t s dt = true) := Lib.hid (by unfold callOkF; simp only [decide_eq_true_eq]; omega)
                  have f5 : ((k : Int) == 5) = true := by simp; omega
                  have f7 : ((k : Int) == 7) = false := by simp; omega
                  have fq := str_yes dt (by omega)
                  go_enter Try.func18, Try.ntmps18
                  go_wp2_with (first | (go_at_call 65; (first | refine (within_yes _ _ _ _ (by omega) (by omega)).mono ?_ | refine (within_no _ _ _ _ (by omega)).mono ?_); rintro e w' ⟨rfl, rfl⟩) | (go_at_call 66; (first | refine (hasTo_yes _ _ (by omega)).mono ?_ | refine (hasTo_no _ _ (by omega)).mono ?_); rintro e w' ⟨rfl, rfl⟩))
                  all_goals go_ret
                  all_goals first | exact ⟨ret_bool HF.out.symm, (Below.refl _ _).alloc (Nat.le_refl _) _⟩ | exact ⟨ret_bool (by rw [HF.out]; assumption), (Below.refl _ _).alloc (Nat.le_refl _) _⟩
                · have HF : Hid (callOkF k d nm t s dt = false) := Lib.hid (by unfold callOkF; simp only [decide_eq_false_iff_not]; omega)
                  have f5 : ((k : Int) == 5) = true := by simp; omega
                  have f7 : ((k : Int) == 7) = false := by simp; omega
                  have fq := str_no dt (by omega)
                  go_enter Try.func18, Try.ntmps18
                  go_wp2_with (first | (go_at_call 65; (first | refine (within_yes _ _ _ _ (by omega) (by omega)).mono ?_ | refine (within_no _ _ _ _ (by omega)).mono ?_); rintro e w' ⟨rfl, rfl⟩) | (go_at_call 66; (first | refine (hasTo_yes _ _ (by omega)).mono ?_ | refine (hasTo_no _ _ (by omega)).mono ?_); rintro e w' ⟨rfl, rfl⟩))
                  all_goals go_ret
                  all_goals first | exact ⟨ret_bool HF.out.symm, (Below.refl _ _).alloc (Nat.le_refl _) _⟩ | exact ⟨ret_bool (by rw [HF.out]; assumption), (Below.refl _ _).alloc (Nat.le_refl _) _⟩
              by_cases k6 : k = 6
              · skip
                by_cases hq0 : dt.size = 0
                · have HF : Hid (callOkF k d nm t s dt = true) := Lib.hid (by unfold callOkF; simp only [decide_eq_true_eq]; omega)
                  have f5 : ((k : Int) == 5) = false := by simp; omega
                  have f6 : ((k : Int) == 6) = true := by simp; omega
                  have f7 : ((k : Int) == 7) = false := by simp; omega
                  have fq := str_yes dt (by omega)
                  go_enter Try.func18, Try.ntmps18
                  go_wp2_with (first | (go_at_call 65; (first | refine (within_yes _ _ _ _ (by omega) (by omega)).mono ?_ | refine (within_no _ _ _ _ (by omega)).mono ?_); rintro e w' ⟨rfl, rfl⟩) | (go_at_call 66; (first | refine (hasTo_yes _ _ (by omega)).mono ?_ | refine (hasTo_no _ _ (by omega)).mono ?_); rintro e w' ⟨rfl, rfl⟩))
                  all_goals go_ret
                  all_goals first | exact ⟨ret_bool HF.out.symm, (Below.refl _ _).alloc (Nat.le_refl _) _⟩ | exact ⟨ret_bool (by rw [HF.out]; assumption), (Below.refl _ _).alloc (Nat.le_refl _) _⟩
                · have HF : Hid (callOkF k d nm t s dt = false) := Lib.hid (by unfold callOkF; simp only [decide_eq_false_iff_not]; omega)
                  have f5 : ((k : Int) == 5) = false := by simp; omega
                  have f6 : ((k : Int) == 6) = true := by simp; omega
                  have f7 : ((k : Int) == 7) = false := by simp; omega
                  have fq := str_no dt (by omega)
                  go_enter Try.func18, Try.ntmps18
                  go_wp2_with (first | (go_at_call 65; (first | refine (within_yes _ _ _ _ (by omega) (by omega)).mono ?_ | refine (within_no _ _ _ _ (by omega)).mono ?_); rintro e w' ⟨rfl, rfl⟩) | (go_at_call 66; (first | refine (hasTo_yes _ _ (by omega)).mono ?_ | refine (hasTo_no _ _ (by omega)).mono ?_); rintro e w' ⟨rfl, rfl⟩))
                  all_goals go_ret
                  all_goals first | exact ⟨ret_bool HF.out.symm, (Below.refl _ _).alloc (Nat.le_refl _) _⟩ | exact ⟨ret_bool (by rw [HF.out]; assumption), (Below.refl _ _).alloc (Nat.le_refl _) _⟩
              by_cases ht0 : t = 0
              · skip
                by_cases hs0 : s.size = 0
                · skip
                  by_cases k7 : k = 7
                  · have HF : Hid (callOkF k d nm t s dt = true) := Lib.hid (by unfold callOkF; simp only [decide_eq_true_eq]; omega)
                    have f5 : ((k : Int) == 5) = false := by simp; omega
                    have f6 : ((k : Int) == 6) = false := by simp; omega
                    have ft : ((t : Int) == 0) = true := by simp; omega
                    have fs := str_yes s (by omega)
                    have f7 : ((k : Int) == 7) = true := by simp; omega
                    go_enter Try.func18, Try.ntmps18
                    go_wp2_with (first | (go_at_call 65; (first | refine (within_yes _ _ _ _ (by omega) (by omega)).mono ?_ | refine (within_no _ _ _ _ (by omega)).mono ?_); rintro e w' ⟨rfl, rfl⟩) | (go_at_call 66; (first | refine (hasTo_yes _ _ (by omega)).mono ?_ | refine (hasTo_no _ _ (by omega)).mono ?_); rintro e w' ⟨rfl, rfl⟩))
                    all_goals go_ret
                    all_goals first | exact ⟨ret_bool HF.out.symm, (Below.refl _ _).alloc (Nat.le_refl _) _⟩ | exact ⟨ret_bool (by rw [HF.out]; assumption), (Below.refl _ _).alloc (Nat.le_refl _) _⟩
                  · skip
                    by_cases hq0 : dt.size = 0
                    · have HF : Hid (callOkF k d nm t s dt = true) := Lib.hid (by unfold callOkF; simp only [decide_eq_true_eq]; omega)
                      have f5 : ((k : Int) == 5) = false := by simp; omega
                      have f6 : ((k : Int) == 6) = false := by simp; omega
                      have ft : ((t : Int) == 0) = true := by simp; omega
                      have fs := str_yes s (by omega)
                      have f7 : ((k : Int) == 7) = false := by simp; omega
                      have fq := str_yes dt (by omega)
                      go_enter Try.func18, Try.ntmps18
                      go_wp2_with (first | (go_at_call 65; (first | refine (within_yes _ _ _ _ (by omega) (by omega)).mono ?_ | refine (within_no _ _ _ _ (by omega)).mono ?_); rintro e w' ⟨rfl, rfl⟩) | (go_at_call 66; (first | refine (hasTo_yes _ _ (by omega)).mono ?_ | refine (hasTo_no _ _ (by omega)).mono ?_); rintro e w' ⟨rfl, rfl⟩))
                      all_goals go_ret
                      all_goals first | exact ⟨ret_bool HF.out.symm, (Below.refl _ _).alloc (Nat.le_refl _) _⟩ | exact ⟨ret_bool (by rw [HF.out]; assumption), (Below.refl _ _).alloc (Nat.le_refl _) _⟩
                    · have HF : Hid (callOkF k d nm t s dt = false) := Lib.hid (by unfold callOkF; simp only [decide_eq_false_iff_not]; omega)
                      have f5 : ((k : Int) == 5) = false := by simp; omega
                      have f6 : ((k : Int) == 6) = false := by simp; omega
                      have ft : ((t : Int) == 0) = true := by simp; omega
                      have fs := str_yes s (by omega)
                      have f7 : ((k : Int) == 7) = false := by simp; omega
                      have fq := str_no dt (by omega)
                      go_enter Try.func18, Try.ntmps18
                      go_wp2_with (first | (go_at_call 65; (first | refine (within_yes _ _ _ _ (by omega) (by omega)).mono ?_ | refine (within_no _ _ _ _ (by omega)).mono ?_); rintro e w' ⟨rfl, rfl⟩) | (go_at_call 66; (first | refine (hasTo_yes _ _ (by omega)).mono ?_ | refine (hasTo_no _ _ (by omega)).mono ?_); rintro e w' ⟨rfl, rfl⟩))
                      all_goals go_ret
                      all_goals first | exact ⟨ret_bool HF.out.symm, (Below.refl _ _).alloc (Nat.le_refl _) _⟩ | exact ⟨ret_bool (by rw [HF.out]; assumption), (Below.refl _ _).alloc (Nat.le_refl _) _⟩
                · have HF : Hid (callOkF k d nm t s dt = false) := Lib.hid (by unfold callOkF; simp only [decide_eq_false_iff_not]; omega)
                  have f5 : ((k : Int) == 5) = false := by simp; omega
                  have f6 : ((k : Int) == 6) = false := by simp; omega
                  have ft : ((t : Int) == 0) = true := by simp; omega
                  have fs := str_no s (by omega)
                  go_enter Try.func18, Try.ntmps18
                  go_wp2_with (first | (go_at_call 65; (first | refine (within_yes _ _ _ _ (by omega) (by omega)).mono ?_ | refine (within_no _ _ _ _ (by omega)).mono ?_); rintro e w' ⟨rfl, rfl⟩) | (go_at_call 66; (first | refine (hasTo_yes _ _ (by omega)).mono ?_ | refine (hasTo_no _ _ (by omega)).mono ?_); rintro e w' ⟨rfl, rfl⟩))
                  all_goals go_ret
                  all_goals first | exact ⟨ret_bool HF.out.symm, (Below.refl _ _).alloc (Nat.le_refl _) _⟩ | exact ⟨ret_bool (by rw [HF.out]; assumption), (Below.refl _ _).alloc (Nat.le_refl _) _⟩
              · have HF : Hid (callOkF k d nm t s dt = false) := Lib.hid (by unfold callOkF; simp only [decide_eq_false_iff_not]; omega)
                have f5 : ((k : Int) == 5) = false := by simp; omega
                have f6 : ((k : Int) == 6) = false := by simp; omega
                have ft : ((t : Int) == 0) = false := by simp; omega
                go_enter Try.func18, Try.ntmps18
                go_wp2_with (first | (go_at_call 65; (first | refine (within_yes _ _ _ _ (by omega) (by omega)).mono ?_ | refine (within_no _ _ _ _ (by omega)).mono ?_); rintro e w' ⟨rfl, rfl⟩) | (go_at_call 66; (first | refine (hasTo_yes _ _ (by omega)).mono ?_ | refine (hasTo_no _ _ (by omega)).mono ?_); rintro e w' ⟨rfl, rfl⟩))
                all_goals go_ret
                all_goals first | exact ⟨ret_bool HF.out.symm, (Below.refl _ _).alloc (Nat.le_refl _) _⟩ | exact ⟨ret_bool (by rw [HF.out]; assumption), (Below.refl _ _).alloc (Nat.le_refl _) _⟩
            · have HF : Hid (callOkF k d nm t s dt = false) := Lib.hid (by unfold callOkF; simp only [decide_eq_false_iff_not]; omega)
              have hq' : 20 < dt.size := by omega
              clear hq
              go_enter Try.func18, Try.ntmps18
              go_wp2_with (first | (go_at_call 65; (first | refine (within_yes _ _ _ _ (by omega) (by omega)).mono ?_ | refine (within_no _ _ _ _ (by omega)).mono ?_); rintro e w' ⟨rfl, rfl⟩) | (go_at_call 66; (first | refine (hasTo_yes _ _ (by omega)).mono ?_ | refine (hasTo_no _ _ (by omega)).mono ?_); rintro e w' ⟨rfl, rfl⟩))
              all_goals go_ret
              all_goals first | exact ⟨ret_bool HF.out.symm, (Below.refl _ _).alloc (Nat.le_refl _) _⟩ | exact ⟨ret_bool (by rw [HF.out]; assumption), (Below.refl _ _).alloc (Nat.le_refl _) _⟩
          · have HF : Hid (callOkF k d nm t s dt = false) := Lib.hid (by unfold callOkF; simp only [decide_eq_false_iff_not]; omega)
            have hs' : 24 < s.size := by omega
            clear hs
            go_enter Try.func18, Try.ntmps18
            go_wp2_with (first | (go_at_call 65; (first | refine (within_yes _ _ _ _ (by omega) (by omega)).mono ?_ | refine (within_no _ _ _ _ (by omega)).mono ?_); rintro e w' ⟨rfl, rfl⟩) | (go_at_call 66; (first | refine (hasTo_yes _ _ (by omega)).mono ?_ | refine (hasTo_no _ _ (by omega)).mono ?_); rintro e w' ⟨rfl, rfl⟩))
            all_goals go_ret
            all_goals first | exact ⟨ret_bool HF.out.symm, (Below.refl _ _).alloc (Nat.le_refl _) _⟩ | exact ⟨ret_bool (by rw [HF.out]; assumption), (Below.refl _ _).alloc (Nat.le_refl _) _⟩
        · have HF : Hid (callOkF k d nm t s dt = false) := Lib.hid (by unfold callOkF; simp only [decide_eq_false_iff_not]; omega)
          have hn' : 24 < nm.size := by omega
          clear hn
          go_enter Try.func18, Try.ntmps18
          go_wp2_with (first | (go_at_call 65; (first | refine (within_yes _ _ _ _ (by omega) (by omega)).mono ?_ | refine (within_no _ _ _ _ (by omega)).mono ?_); rintro e w' ⟨rfl, rfl⟩) | (go_at_call 66; (first | refine (hasTo_yes _ _ (by omega)).mono ?_ | refine (hasTo_no _ _ (by omega)).mono ?_); rintro e w' ⟨rfl, rfl⟩))
          all_goals go_ret
          all_goals first | exact ⟨ret_bool HF.out.symm, (Below.refl _ _).alloc (Nat.le_refl _) _⟩ | exact ⟨ret_bool (by rw [HF.out]; assumption), (Below.refl _ _).alloc (Nat.le_refl _) _⟩
      · have HF : Hid (callOkF k d nm t s dt = false) := Lib.hid (by unfold callOkF; simp only [decide_eq_false_iff_not]; omega)
        have ht' : t < 0 ∨ 100000 < t := by omega
        clear ht
        go_enter Try.func18, Try.ntmps18
        go_wp2_with (first | (go_at_call 65; (first | refine (within_yes _ _ _ _ (by omega) (by omega)).mono ?_ | refine (within_no _ _ _ _ (by omega)).mono ?_); rintro e w' ⟨rfl, rfl⟩) | (go_at_call 66; (first | refine (hasTo_yes _ _ (by omega)).mono ?_ | refine (hasTo_no _ _ (by omega)).mono ?_); rintro e w' ⟨rfl, rfl⟩))
        all_goals go_ret
        all_goals first | exact ⟨ret_bool HF.out.symm, (Below.refl _ _).alloc (Nat.le_refl _) _⟩ | exact ⟨ret_bool (by rw [HF.out]; assumption), (Below.refl _ _).alloc (Nat.le_refl _) _⟩
    · have HF : Hid (callOkF k d nm t s dt = false) := Lib.hid (by unfold callOkF; simp only [decide_eq_false_iff_not]; omega)
      have hd' : d < 0 ∨ 100000 < d := by omega
      clear hd
      go_enter Try.func18, Try.ntmps18
      go_wp2_with (first | (go_at_call 65; (first | refine (within_yes _ _ _ _ (by omega) (by omega)).mono ?_ | refine (within_no _ _ _ _ (by omega)).mono ?_); rintro e w' ⟨rfl, rfl⟩) | (go_at_call 66; (first | refine (hasTo_yes _ _ (by omega)).mono ?_ | refine (hasTo_no _ _ (by omega)).mono ?_); rintro e w' ⟨rfl, rfl⟩))
      all_goals go_ret
      all_goals first | exact ⟨ret_bool HF.out.symm, (Below.refl _ _).alloc (Nat.le_refl _) _⟩ | exact ⟨ret_bool (by rw [HF.out]; assumption), (Below.refl _ _).alloc (Nat.le_refl _) _⟩
  · have HF : Hid (callOkF k d nm t s dt = false) := Lib.hid (by unfold callOkF; simp only [decide_eq_false_iff_not]; omega)
    have hk' : k < 1 ∨ 8 < k := by omega
    clear hk
    go_enter Try.func18, Try.ntmps18
    go_wp2_with (first | (go_at_call 65; (first | refine (within_yes _ _ _ _ (by omega) (by omega)).mono ?_ | refine (within_no _ _ _ _ (by omega)).mono ?_); rintro e w' ⟨rfl, rfl⟩) | (go_at_call 66; (first | refine (hasTo_yes _ _ (by omega)).mono ?_ | refine (hasTo_no _ _ (by omega)).mono ?_); rintro e w' ⟨rfl, rfl⟩))
    all_goals go_ret
    all_goals first | exact ⟨ret_bool HF.out.symm, (Below.refl _ _).alloc (Nat.le_refl _) _⟩ | exact ⟨ret_bool (by rw [HF.out]; assumption), (Below.refl _ _).alloc (Nat.le_refl _) _⟩
set_option maxRecDepth 1000000 in
set_option maxHeartbeats 2000000 in
theorem specCallOk_any (k d t : Int) (nm s dt : ByteArray) (h1 : nm.size ≤ maxLen) (h2 : s.size ≤ maxLen) (h3 : dt.size ≤ maxLen) (w : World) :
    Calls Try.prog 16 #[callV k d nm t s dt] w fun e w' => e = .returned (.bool (callOkF k d nm t s dt)) ∧ Below w.heap.size w w' := by
  unfold maxLen at h1 h2 h3
  unfold callV
  by_cases hk : 1 ≤ k ∧ k ≤ 8
  · obtain ⟨hk1, hk2⟩ := hk
    by_cases hd : 0 ≤ d ∧ d ≤ 100000
    · obtain ⟨hd1, hd2⟩ := hd
      by_cases ht : 0 ≤ t ∧ t ≤ 100000
      · obtain ⟨ht1, ht2⟩ := ht
        by_cases hn : nm.size ≤ 24
        · have HH := Lib.hid hn
          by_cases hs : s.size ≤ 24
          · have HH := Lib.hid hs
            by_cases hq : dt.size ≤ 20
            · have HH := Lib.hid hq
              by_cases k5 : k = 5
              · skip
                by_cases hq0 : dt.size = 0
                · have HF : Hid (callOkF k d nm t s dt = true) := Lib.hid (by unfold callOkF; simp only [decide_eq_true_eq]; omega)
                  have f5 : ((k : Int) == 5) = true := by simp; omega
                  have f7 : ((k : Int) == 7) = false := by simp; omega
                  have fq := str_yes dt (by omega)
                  go_enter Try.func16, Try.ntmps16
                  go_wp2_with (first | (go_at_call 64; (first | refine (l1In_yes _ _ _ _ (by omega) (by omega)).mono ?_ | refine (l1In_no _ _ _ _ (by omega)).mono ?_); rintro e w' ⟨rfl, rfl⟩))
                  all_goals go_ret
                  all_goals first | exact ⟨ret_bool HF.out.symm, (Below.refl _ _).alloc (Nat.le_refl _) _⟩ | exact ⟨ret_bool (by rw [HF.out]; assumption), (Below.refl _ _).alloc (Nat.le_refl _) _⟩
                · have HF : Hid (callOkF k d nm t s dt = false) := Lib.hid (by unfold callOkF; simp only [decide_eq_false_iff_not]; omega)
                  have f5 : ((k : Int) == 5) = true := by simp; omega
                  have f7 : ((k : Int) == 7) = false := by simp; omega
                  have fq := str_no dt (by omega)
                  go_enter Try.func16, Try.ntmps16
                  go_wp2_with (first | (go_at_call 64; (first | refine (l1In_yes _ _ _ _ (by omega) (by omega)).mono ?_ | refine (l1In_no _ _ _ _ (by omega)).mono ?_); rintro e w' ⟨rfl, rfl⟩))
                  all_goals go_ret
                  all_goals first | exact ⟨ret_bool HF.out.symm, (Below.refl _ _).alloc (Nat.le_refl _) _⟩ | exact ⟨ret_bool (by rw [HF.out]; assumption), (Below.refl _ _).alloc (Nat.le_refl _) _⟩
              by_cases k6 : k = 6
              · skip
                by_cases hq0 : dt.size = 0
                · have HF : Hid (callOkF k d nm t s dt = true) := Lib.hid (by unfold callOkF; simp only [decide_eq_true_eq]; omega)
                  have f5 : ((k : Int) == 5) = false := by simp; omega
                  have f6 : ((k : Int) == 6) = true := by simp; omega
                  have f7 : ((k : Int) == 7) = false := by simp; omega
                  have fq := str_yes dt (by omega)
                  go_enter Try.func16, Try.ntmps16
                  go_wp2_with (first | (go_at_call 64; (first | refine (l1In_yes _ _ _ _ (by omega) (by omega)).mono ?_ | refine (l1In_no _ _ _ _ (by omega)).mono ?_); rintro e w' ⟨rfl, rfl⟩))
                  all_goals go_ret
                  all_goals first | exact ⟨ret_bool HF.out.symm, (Below.refl _ _).alloc (Nat.le_refl _) _⟩ | exact ⟨ret_bool (by rw [HF.out]; assumption), (Below.refl _ _).alloc (Nat.le_refl _) _⟩
                · have HF : Hid (callOkF k d nm t s dt = false) := Lib.hid (by unfold callOkF; simp only [decide_eq_false_iff_not]; omega)
                  have f5 : ((k : Int) == 5) = false := by simp; omega
                  have f6 : ((k : Int) == 6) = true := by simp; omega
                  have f7 : ((k : Int) == 7) = false := by simp; omega
                  have fq := str_no dt (by omega)
                  go_enter Try.func16, Try.ntmps16
                  go_wp2_with (first | (go_at_call 64; (first | refine (l1In_yes _ _ _ _ (by omega) (by omega)).mono ?_ | refine (l1In_no _ _ _ _ (by omega)).mono ?_); rintro e w' ⟨rfl, rfl⟩))
                  all_goals go_ret
                  all_goals first | exact ⟨ret_bool HF.out.symm, (Below.refl _ _).alloc (Nat.le_refl _) _⟩ | exact ⟨ret_bool (by rw [HF.out]; assumption), (Below.refl _ _).alloc (Nat.le_refl _) _⟩
              by_cases ht0 : t = 0
              · skip
                by_cases hs0 : s.size = 0
                · skip
                  by_cases k7 : k = 7
                  · have HF : Hid (callOkF k d nm t s dt = true) := Lib.hid (by unfold callOkF; simp only [decide_eq_true_eq]; omega)
                    have f5 : ((k : Int) == 5) = false := by simp; omega
                    have f6 : ((k : Int) == 6) = false := by simp; omega
                    have ft : ((t : Int) == 0) = true := by simp; omega
                    have fs := str_yes s (by omega)
                    have f7 : ((k : Int) == 7) = true := by simp; omega
                    go_enter Try.func16, Try.ntmps16
                    go_wp2_with (first | (go_at_call 64; (first | refine (l1In_yes _ _ _ _ (by omega) (by omega)).mono ?_ | refine (l1In_no _ _ _ _ (by omega)).mono ?_); rintro e w' ⟨rfl, rfl⟩))
                    all_goals go_ret
                    all_goals first | exact ⟨ret_bool HF.out.symm, (Below.refl _ _).alloc (Nat.le_refl _) _⟩ | exact ⟨ret_bool (by rw [HF.out]; assumption), (Below.refl _ _).alloc (Nat.le_refl _) _⟩
                  · skip
                    by_cases hq0 : dt.size = 0
                    · have HF : Hid (callOkF k d nm t s dt = true) := Lib.hid (by unfold callOkF; simp only [decide_eq_true_eq]; omega)
                      have f5 : ((k : Int) == 5) = false := by simp; omega
                      have f6 : ((k : Int) == 6) = false := by simp; omega
                      have ft : ((t : Int) == 0) = true := by simp; omega
                      have fs := str_yes s (by omega)
                      have f7 : ((k : Int) == 7) = false := by simp; omega
                      have fq := str_yes dt (by omega)
                      go_enter Try.func16, Try.ntmps16
                      go_wp2_with (first | (go_at_call 64; (first | refine (l1In_yes _ _ _ _ (by omega) (by omega)).mono ?_ | refine (l1In_no _ _ _ _ (by omega)).mono ?_); rintro e w' ⟨rfl, rfl⟩))
                      all_goals go_ret
                      all_goals first | exact ⟨ret_bool HF.out.symm, (Below.refl _ _).alloc (Nat.le_refl _) _⟩ | exact ⟨ret_bool (by rw [HF.out]; assumption), (Below.refl _ _).alloc (Nat.le_refl _) _⟩
                    · have HF : Hid (callOkF k d nm t s dt = false) := Lib.hid (by unfold callOkF; simp only [decide_eq_false_iff_not]; omega)
                      have f5 : ((k : Int) == 5) = false := by simp; omega
                      have f6 : ((k : Int) == 6) = false := by simp; omega
                      have ft : ((t : Int) == 0) = true := by simp; omega
                      have fs := str_yes s (by omega)
                      have f7 : ((k : Int) == 7) = false := by simp; omega
                      have fq := str_no dt (by omega)
                      go_enter Try.func16, Try.ntmps16
                      go_wp2_with (first | (go_at_call 64; (first | refine (l1In_yes _ _ _ _ (by omega) (by omega)).mono ?_ | refine (l1In_no _ _ _ _ (by omega)).mono ?_); rintro e w' ⟨rfl, rfl⟩))
                      all_goals go_ret
                      all_goals first | exact ⟨ret_bool HF.out.symm, (Below.refl _ _).alloc (Nat.le_refl _) _⟩ | exact ⟨ret_bool (by rw [HF.out]; assumption), (Below.refl _ _).alloc (Nat.le_refl _) _⟩
                · have HF : Hid (callOkF k d nm t s dt = false) := Lib.hid (by unfold callOkF; simp only [decide_eq_false_iff_not]; omega)
                  have f5 : ((k : Int) == 5) = false := by simp; omega
                  have f6 : ((k : Int) == 6) = false := by simp; omega
                  have ft : ((t : Int) == 0) = true := by simp; omega
                  have fs := str_no s (by omega)
                  go_enter Try.func16, Try.ntmps16
                  go_wp2_with (first | (go_at_call 64; (first | refine (l1In_yes _ _ _ _ (by omega) (by omega)).mono ?_ | refine (l1In_no _ _ _ _ (by omega)).mono ?_); rintro e w' ⟨rfl, rfl⟩))
                  all_goals go_ret
                  all_goals first | exact ⟨ret_bool HF.out.symm, (Below.refl _ _).alloc (Nat.le_refl _) _⟩ | exact ⟨ret_bool (by rw [HF.out]; assumption), (Below.refl _ _).alloc (Nat.le_refl _) _⟩
              · have HF : Hid (callOkF k d nm t s dt = false) := Lib.hid (by unfold callOkF; simp only [decide_eq_false_iff_not]; omega)
                have f5 : ((k : Int) == 5) = false := by simp; omega
                have f6 : ((k : Int) == 6) = false := by simp; omega
                have ft : ((t : Int) == 0) = false := by simp; omega
                go_enter Try.func16, Try.ntmps16
                go_wp2_with (first | (go_at_call 64; (first | refine (l1In_yes _ _ _ _ (by omega) (by omega)).mono ?_ | refine (l1In_no _ _ _ _ (by omega)).mono ?_); rintro e w' ⟨rfl, rfl⟩))
                all_goals go_ret
                all_goals first | exact ⟨ret_bool HF.out.symm, (Below.refl _ _).alloc (Nat.le_refl _) _⟩ | exact ⟨ret_bool (by rw [HF.out]; assumption), (Below.refl _ _).alloc (Nat.le_refl _) _⟩
            · have HF : Hid (callOkF k d nm t s dt = false) := Lib.hid (by unfold callOkF; simp only [decide_eq_false_iff_not]; omega)
              have hq' : 20 < dt.size := by omega
              clear hq
              go_enter Try.func16, Try.ntmps16
              go_wp2_with (first | (go_at_call 64; (first | refine (l1In_yes _ _ _ _ (by omega) (by omega)).mono ?_ | refine (l1In_no _ _ _ _ (by omega)).mono ?_); rintro e w' ⟨rfl, rfl⟩))
              all_goals go_ret
              all_goals first | exact ⟨ret_bool HF.out.symm, (Below.refl _ _).alloc (Nat.le_refl _) _⟩ | exact ⟨ret_bool (by rw [HF.out]; assumption), (Below.refl _ _).alloc (Nat.le_refl _) _⟩
          · have HF : Hid (callOkF k d nm t s dt = false) := Lib.hid (by unfold callOkF; simp only [decide_eq_false_iff_not]; omega)
            have hs' : 24 < s.size := by omega
            clear hs
            go_enter Try.func16, Try.ntmps16
            go_wp2_with (first | (go_at_call 64; (first | refine (l1In_yes _ _ _ _ (by omega) (by omega)).mono ?_ | refine (l1In_no _ _ _ _ (by omega)).mono ?_); rintro e w' ⟨rfl, rfl⟩))
            all_goals go_ret
            all_goals first | exact ⟨ret_bool HF.out.symm, (Below.refl _ _).alloc (Nat.le_refl _) _⟩ | exact ⟨ret_bool (by rw [HF.out]; assumption), (Below.refl _ _).alloc (Nat.le_refl _) _⟩
        · have HF : Hid (callOkF k d nm t s dt = false) := Lib.hid (by unfold callOkF; simp only [decide_eq_false_iff_not]; omega)
          have hn' : 24 < nm.size := by omega
          clear hn
          go_enter Try.func16, Try.ntmps16
          go_wp2_with (first | (go_at_call 64; (first | refine (l1In_yes _ _ _ _ (by omega) (by omega)).mono ?_ | refine (l1In_no _ _ _ _ (by omega)).mono ?_); rintro e w' ⟨rfl, rfl⟩))
          all_goals go_ret
          all_goals first | exact ⟨ret_bool HF.out.symm, (Below.refl _ _).alloc (Nat.le_refl _) _⟩ | exact ⟨ret_bool (by rw [HF.out]; assumption), (Below.refl _ _).alloc (Nat.le_refl _) _⟩
      · have HF : Hid (callOkF k d nm t s dt = false) := Lib.hid (by unfold callOkF; simp only [decide_eq_false_iff_not]; omega)
        have ht' : t < 0 ∨ 100000 < t := by omega
        clear ht
        go_enter Try.func16, Try.ntmps16
        go_wp2_with (first | (go_at_call 64; (first | refine (l1In_yes _ _ _ _ (by omega) (by omega)).mono ?_ | refine (l1In_no _ _ _ _ (by omega)).mono ?_); rintro e w' ⟨rfl, rfl⟩))
        all_goals go_ret
        all_goals first | exact ⟨ret_bool HF.out.symm, (Below.refl _ _).alloc (Nat.le_refl _) _⟩ | exact ⟨ret_bool (by rw [HF.out]; assumption), (Below.refl _ _).alloc (Nat.le_refl _) _⟩
    · have HF : Hid (callOkF k d nm t s dt = false) := Lib.hid (by unfold callOkF; simp only [decide_eq_false_iff_not]; omega)
      have hd' : d < 0 ∨ 100000 < d := by omega
      clear hd
      go_enter Try.func16, Try.ntmps16
      go_wp2_with (first | (go_at_call 64; (first | refine (l1In_yes _ _ _ _ (by omega) (by omega)).mono ?_ | refine (l1In_no _ _ _ _ (by omega)).mono ?_); rintro e w' ⟨rfl, rfl⟩))
      all_goals go_ret
      all_goals first | exact ⟨ret_bool HF.out.symm, (Below.refl _ _).alloc (Nat.le_refl _) _⟩ | exact ⟨ret_bool (by rw [HF.out]; assumption), (Below.refl _ _).alloc (Nat.le_refl _) _⟩
  · have HF : Hid (callOkF k d nm t s dt = false) := Lib.hid (by unfold callOkF; simp only [decide_eq_false_iff_not]; omega)
    have hk' : k < 1 ∨ 8 < k := by omega
    clear hk
    go_enter Try.func16, Try.ntmps16
    go_wp2_with (first | (go_at_call 64; (first | refine (l1In_yes _ _ _ _ (by omega) (by omega)).mono ?_ | refine (l1In_no _ _ _ _ (by omega)).mono ?_); rintro e w' ⟨rfl, rfl⟩))
    all_goals go_ret
    all_goals first | exact ⟨ret_bool HF.out.symm, (Below.refl _ _).alloc (Nat.le_refl _) _⟩ | exact ⟨ret_bool (by rw [HF.out]; assumption), (Below.refl _ _).alloc (Nat.le_refl _) _⟩
end Go.Proofs.Ytbokgbbdjcpgbaa