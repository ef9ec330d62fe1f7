/- FoldOf and Fold: the program's and the reference's come to one list. -/
import Derived.Test.YtlkfabkkjfmnmaaGreatDoorInts
import Derived.Test.YtlkfabkkjfmnmaaGreatDoorAmong
namespace Go.Proofs.YtlkfabkkjfmnmaaGreatDoor
open Go.RowKit

/-- What a sign is folded to. -/
def foldF (c : Int) : List Int :=
  if (65 ≤ c ∧ c ≤ 90) ∨ (913 ≤ c ∧ c ≤ 929) ∨ (931 ≤ c ∧ c ≤ 937) ∨ (1040 ≤ c ∧ c ≤ 1071) ∨ c = 198 ∨ c = 208 ∨ c = 216 ∨ c = 222 then [c + 32]
  else if c = 223 then [115, 115] else if c = 962 then [963] else [c]
theorem foldF_len (c : Int) : (foldF c).length ≤ 2 := by unfold foldF; (repeat' split) <;> simp

set_option maxRecDepth 1000000 in
set_option maxHeartbeats 6000000 in
theorem implFoldOf_any (c : Int) (w : World) (hc : -9223372036854775808 ≤ c ∧ c ≤ 9223372036854775807) :
    Calls Tryz.prog 138 #[.int .i64 c] w fun e w' => ∃ g cp, e = .returned (.slice (some ⟨g, 0, none⟩) (foldF c).length cp) ∧ Own 3 1 w.heap.size w (.slice (some ⟨g, 0, none⟩) (foldF c).length cp) (foldF c).length (ints (foldF c)) w' := by
  have lit1 : ∀ (W : World) (x : Int), Below w.heap.size w W → Own 3 1 w.heap.size w (.slice (some ⟨W.heap.size, 0, none⟩) 1 1) 1 (ints [x]) (W.alloc (.cells #[.int .i64 x] 3)) := fun W x hb => Own.lit hb hb.size #[.int .i64 x] rfl (by decide)
  have lit2 : ∀ (W : World) (x y : Int), Below w.heap.size w W → Own 3 1 w.heap.size w (.slice (some ⟨W.heap.size, 0, none⟩) 2 2) 2 (ints [x, y]) (W.alloc (.cells #[.int .i64 x, .int .i64 y] 3)) := fun W x y hb => Own.lit hb hb.size #[.int .i64 x, .int .i64 y] rfl (by decide)
  have L1 := Lib.hid lit1
  have L2 := Lib.hid lit2
  clear lit1 lit2
  have bl : ∀ (W : World) o, Below w.heap.size w W → Below w.heap.size w (W.alloc o) := fun W o hb => hb.alloc hb.size o
  have BL := Lib.hid bl
  clear bl
  by_cases h65 : 65 ≤ c ∧ c ≤ 90
  · have H : Hid (foldF c = [c + 32]) := Lib.hid (by unfold foldF; rw [if_pos (by omega)])
    obtain ⟨ha, hb⟩ := h65
    go_enter Tryz.func138, Tryz.ntmps138
    go_wp2_with (first | (go_at_call 51; (first | refine (within_yes _ _ _ _ (by omega) (by omega)).mono ?_ | refine (within_no _ _ _ _ (by omega)).mono ?_); rintro e w' ⟨rfl, rfl⟩))
    go_ret
    rw [show foldF c = [c + 32] from H.out]
    exact ⟨_, _, rfl, L1.out _ _ (by first | exact Below.refl _ _ | exact ((Below.refl _ _).alloc (Nat.le_refl _) _).trans (hb1.mono (by simp)))⟩
  · skip
    by_cases h913 : 913 ≤ c ∧ c ≤ 929
    · have H : Hid (foldF c = [c + 32]) := Lib.hid (by unfold foldF; rw [if_pos (by omega)])
      obtain ⟨ha, hb⟩ := h913
      clear h65
      go_enter Tryz.func138, Tryz.ntmps138
      go_wp2_with (first | (go_at_call 51; (first | refine (within_yes _ _ _ _ (by omega) (by omega)).mono ?_ | refine (within_no _ _ _ _ (by omega)).mono ?_); rintro e w' ⟨rfl, rfl⟩))
      go_ret
      rw [show foldF c = [c + 32] from H.out]
      exact ⟨_, _, rfl, L1.out _ _ (by first | exact Below.refl _ _ | exact ((Below.refl _ _).alloc (Nat.le_refl _) _).trans (hb1.mono (by simp)))⟩
    · skip
      by_cases h931 : 931 ≤ c ∧ c ≤ 937
      · have H : Hid (foldF c = [c + 32]) := Lib.hid (by unfold foldF; rw [if_pos (by omega)])
        obtain ⟨ha, hb⟩ := h931
        clear h65 h913
        go_enter Tryz.func138, Tryz.ntmps138
        go_wp2_with (first | (go_at_call 51; (first | refine (within_yes _ _ _ _ (by omega) (by omega)).mono ?_ | refine (within_no _ _ _ _ (by omega)).mono ?_); rintro e w' ⟨rfl, rfl⟩))
        go_ret
        rw [show foldF c = [c + 32] from H.out]
        exact ⟨_, _, rfl, L1.out _ _ (by first | exact Below.refl _ _ | exact ((Below.refl _ _).alloc (Nat.le_refl _) _).trans (hb1.mono (by simp)))⟩
      · skip
        by_cases h1040 : 1040 ≤ c ∧ c ≤ 1071
        · have H : Hid (foldF c = [c + 32]) := Lib.hid (by unfold foldF; rw [if_pos (by omega)])
          obtain ⟨ha, hb⟩ := h1040
          clear h65 h913 h931
          go_enter Tryz.func138, Tryz.ntmps138
          go_wp2_with (first | (go_at_call 51; (first | refine (within_yes _ _ _ _ (by omega) (by omega)).mono ?_ | refine (within_no _ _ _ _ (by omega)).mono ?_); rintro e w' ⟨rfl, rfl⟩))
          go_ret
          rw [show foldF c = [c + 32] from H.out]
          exact ⟨_, _, rfl, L1.out _ _ (by first | exact Below.refl _ _ | exact ((Below.refl _ _).alloc (Nat.le_refl _) _).trans (hb1.mono (by simp)))⟩
        · skip
          by_cases e198 : c = 198
          · subst e198
            have H : Hid (foldF 198 = [230]) := Lib.hid (by decide)
            clear hc
            go_enter Tryz.func138, Tryz.ntmps138
            go_wp2_with (first | (go_at_call 51; (first | refine (within_yes _ _ _ _ (by omega) (by omega)).mono ?_ | refine (within_no _ _ _ _ (by omega)).mono ?_); rintro e w' ⟨rfl, rfl⟩))
            go_ret
            rw [show foldF 198 = [230] from H.out]
            exact ⟨_, _, rfl, L1.out _ _ (by first | exact Below.refl _ _ | exact ((Below.refl _ _).alloc (Nat.le_refl _) _).trans (hb1.mono (by simp)))⟩
          · have n198 : (c == 198) = false := by simpa using e198
            by_cases e208 : c = 208
            · subst e208
              have H : Hid (foldF 208 = [240]) := Lib.hid (by decide)
              clear hc
              go_enter Tryz.func138, Tryz.ntmps138
              go_wp2_with (first | (go_at_call 51; (first | refine (within_yes _ _ _ _ (by omega) (by omega)).mono ?_ | refine (within_no _ _ _ _ (by omega)).mono ?_); rintro e w' ⟨rfl, rfl⟩))
              go_ret
              rw [show foldF 208 = [240] from H.out]
              exact ⟨_, _, rfl, L1.out _ _ (by first | exact Below.refl _ _ | exact ((Below.refl _ _).alloc (Nat.le_refl _) _).trans (hb1.mono (by simp)))⟩
            · have n208 : (c == 208) = false := by simpa using e208
              by_cases e216 : c = 216
              · subst e216
                have H : Hid (foldF 216 = [248]) := Lib.hid (by decide)
                clear hc
                go_enter Tryz.func138, Tryz.ntmps138
                go_wp2_with (first | (go_at_call 51; (first | refine (within_yes _ _ _ _ (by omega) (by omega)).mono ?_ | refine (within_no _ _ _ _ (by omega)).mono ?_); rintro e w' ⟨rfl, rfl⟩))
                go_ret
                rw [show foldF 216 = [248] from H.out]
                exact ⟨_, _, rfl, L1.out _ _ (by first | exact Below.refl _ _ | exact ((Below.refl _ _).alloc (Nat.le_refl _) _).trans (hb1.mono (by simp)))⟩
              · have n216 : (c == 216) = false := by simpa using e216
                by_cases e222 : c = 222
                · subst e222
                  have H : Hid (foldF 222 = [254]) := Lib.hid (by decide)
                  clear hc
                  go_enter Tryz.func138, Tryz.ntmps138
                  go_wp2_with (first | (go_at_call 51; (first | refine (within_yes _ _ _ _ (by omega) (by omega)).mono ?_ | refine (within_no _ _ _ _ (by omega)).mono ?_); rintro e w' ⟨rfl, rfl⟩))
                  go_ret
                  rw [show foldF 222 = [254] from H.out]
                  exact ⟨_, _, rfl, L1.out _ _ (by first | exact Below.refl _ _ | exact ((Below.refl _ _).alloc (Nat.le_refl _) _).trans (hb1.mono (by simp)))⟩
                · have n222 : (c == 222) = false := by simpa using e222
                  by_cases e223 : c = 223
                  · subst e223
                    have H : Hid (foldF 223 = [115, 115]) := Lib.hid (by decide)
                    clear hc
                    go_enter Tryz.func138, Tryz.ntmps138
                    go_wp2_with (first | (go_at_call 51; (first | refine (within_yes _ _ _ _ (by omega) (by omega)).mono ?_ | refine (within_no _ _ _ _ (by omega)).mono ?_); rintro e w' ⟨rfl, rfl⟩))
                    go_ret
                    rw [show foldF 223 = [115, 115] from H.out]
                    exact ⟨_, _, rfl, L2.out _ _ _ (by first | exact Below.refl _ _ | exact ((Below.refl _ _).alloc (Nat.le_refl _) _).trans (hb1.mono (by simp)))⟩
                  · have n223 : (c == 223) = false := by simpa using e223
                    by_cases e962 : c = 962
                    · subst e962
                      have H : Hid (foldF 962 = [963]) := Lib.hid (by decide)
                      clear hc
                      go_enter Tryz.func138, Tryz.ntmps138
                      go_wp2_with (first | (go_at_call 51; (first | refine (within_yes _ _ _ _ (by omega) (by omega)).mono ?_ | refine (within_no _ _ _ _ (by omega)).mono ?_); rintro e w' ⟨rfl, rfl⟩))
                      go_ret
                      rw [show foldF 962 = [963] from H.out]
                      exact ⟨_, _, rfl, L1.out _ _ (by first | exact Below.refl _ _ | exact ((Below.refl _ _).alloc (Nat.le_refl _) _).trans (hb1.mono (by simp)))⟩
                    · have n962 : (c == 962) = false := by simpa using e962
                      have H : Hid (foldF c = [c]) := Lib.hid (by unfold foldF; rw [if_neg (by omega), if_neg (by omega), if_neg (by omega)])
                      go_enter Tryz.func138, Tryz.ntmps138
                      go_wp2_with (first | (go_at_call 51; (first | refine (within_yes _ _ _ _ (by omega) (by omega)).mono ?_ | refine (within_no _ _ _ _ (by omega)).mono ?_); rintro e w' ⟨rfl, rfl⟩))
                      go_ret
                      rw [show foldF c = [c] from H.out]
                      exact ⟨_, _, rfl, L1.out _ _ (by first | exact Below.refl _ _ | exact ((Below.refl _ _).alloc (Nat.le_refl _) _).trans (hb1.mono (by simp)))⟩

set_option maxRecDepth 1000000 in
set_option maxHeartbeats 6000000 in
theorem specFoldOf_any (c : Int) (w : World) (hc : -9223372036854775808 ≤ c ∧ c ≤ 9223372036854775807) :
    Calls Tryz.prog 132 #[.int .i64 c] w fun e w' => ∃ g cp, e = .returned (.slice (some ⟨g, 0, none⟩) (foldF c).length cp) ∧ Own 3 1 w.heap.size w (.slice (some ⟨g, 0, none⟩) (foldF c).length cp) (foldF c).length (ints (foldF c)) w' := by
  have lit1 : ∀ (W : World) (x : Int), Below w.heap.size w W → Own 3 1 w.heap.size w (.slice (some ⟨W.heap.size, 0, none⟩) 1 1) 1 (ints [x]) (W.alloc (.cells #[.int .i64 x] 3)) := fun W x hb => Own.lit hb hb.size #[.int .i64 x] rfl (by decide)
  have lit2 : ∀ (W : World) (x y : Int), Below w.heap.size w W → Own 3 1 w.heap.size w (.slice (some ⟨W.heap.size, 0, none⟩) 2 2) 2 (ints [x, y]) (W.alloc (.cells #[.int .i64 x, .int .i64 y] 3)) := fun W x y hb => Own.lit hb hb.size #[.int .i64 x, .int .i64 y] rfl (by decide)
  have L1 := Lib.hid lit1
  have L2 := Lib.hid lit2
  clear lit1 lit2
  have bl : ∀ (W : World) o, Below w.heap.size w W → Below w.heap.size w (W.alloc o) := fun W o hb => hb.alloc hb.size o
  have BL := Lib.hid bl
  clear bl
  by_cases h65 : 65 ≤ c ∧ c ≤ 90
  · have H : Hid (foldF c = [c + 32]) := Lib.hid (by unfold foldF; rw [if_pos (by omega)])
    obtain ⟨ha, hb⟩ := h65
    go_enter Tryz.func132, Tryz.ntmps132
    go_wp2_with (first | (go_at_call 39; (first | refine (l1In_yes _ _ _ _ (by omega) (by omega)).mono ?_ | refine (l1In_no _ _ _ _ (by omega)).mono ?_); rintro e w' ⟨rfl, rfl⟩) | (go_at_call 144; refine (among_any2 c _ 4 4 [198, 208, 216, 222] _ (lit_rd rfl (by decide))).mono ?_; rintro e w1 ⟨rfl, hb1⟩; rw [AM]))
    go_ret
    rw [show foldF c = [c + 32] from H.out]
    exact ⟨_, _, rfl, L1.out _ _ (by first | exact Below.refl _ _ | exact ((Below.refl _ _).alloc (Nat.le_refl _) _).trans (hb1.mono (by simp)))⟩
  · skip
    by_cases h913 : 913 ≤ c ∧ c ≤ 929
    · have H : Hid (foldF c = [c + 32]) := Lib.hid (by unfold foldF; rw [if_pos (by omega)])
      obtain ⟨ha, hb⟩ := h913
      clear h65
      go_enter Tryz.func132, Tryz.ntmps132
      go_wp2_with (first | (go_at_call 39; (first | refine (l1In_yes _ _ _ _ (by omega) (by omega)).mono ?_ | refine (l1In_no _ _ _ _ (by omega)).mono ?_); rintro e w' ⟨rfl, rfl⟩) | (go_at_call 144; refine (among_any2 c _ 4 4 [198, 208, 216, 222] _ (lit_rd rfl (by decide))).mono ?_; rintro e w1 ⟨rfl, hb1⟩; rw [AM]))
      go_ret
      rw [show foldF c = [c + 32] from H.out]
      exact ⟨_, _, rfl, L1.out _ _ (by first | exact Below.refl _ _ | exact ((Below.refl _ _).alloc (Nat.le_refl _) _).trans (hb1.mono (by simp)))⟩
    · skip
      by_cases h931 : 931 ≤ c ∧ c ≤ 937
      · have H : Hid (foldF c = [c + 32]) := Lib.hid (by unfold foldF; rw [if_pos (by omega)])
        obtain ⟨ha, hb⟩ := h931
        clear h65 h913
        go_enter Tryz.func132, Tryz.ntmps132
        go_wp2_with (first | (go_at_call 39; (first | refine (l1In_yes _ _ _ _ (by omega) (by omega)).mono ?_ | refine (l1In_no _ _ _ _ (by omega)).mono ?_); rintro e w' ⟨rfl, rfl⟩) | (go_at_call 144; refine (among_any2 c _ 4 4 [198, 208, 216, 222] _ (lit_rd rfl (by decide))).mono ?_; rintro e w1 ⟨rfl, hb1⟩; rw [AM]))
        go_ret
        rw [show foldF c = [c + 32] from H.out]
        exact ⟨_, _, rfl, L1.out _ _ (by first | exact Below.refl _ _ | exact ((Below.refl _ _).alloc (Nat.le_refl _) _).trans (hb1.mono (by simp)))⟩
      · skip
        by_cases h1040 : 1040 ≤ c ∧ c ≤ 1071
        · have H : Hid (foldF c = [c + 32]) := Lib.hid (by unfold foldF; rw [if_pos (by omega)])
          obtain ⟨ha, hb⟩ := h1040
          clear h65 h913 h931
          go_enter Tryz.func132, Tryz.ntmps132
          go_wp2_with (first | (go_at_call 39; (first | refine (l1In_yes _ _ _ _ (by omega) (by omega)).mono ?_ | refine (l1In_no _ _ _ _ (by omega)).mono ?_); rintro e w' ⟨rfl, rfl⟩) | (go_at_call 144; refine (among_any2 c _ 4 4 [198, 208, 216, 222] _ (lit_rd rfl (by decide))).mono ?_; rintro e w1 ⟨rfl, hb1⟩; rw [AM]))
          go_ret
          rw [show foldF c = [c + 32] from H.out]
          exact ⟨_, _, rfl, L1.out _ _ (by first | exact Below.refl _ _ | exact ((Below.refl _ _).alloc (Nat.le_refl _) _).trans (hb1.mono (by simp)))⟩
        · skip
          have AM : among c [198, 208, 216, 222] = decide (c = 198 ∨ c = 208 ∨ c = 216 ∨ c = 222) := by
            rw [Bool.eq_iff_iff]
            simp [among]
            omega
          by_cases e198 : c = 198
          · subst e198
            have H : Hid (foldF 198 = [230]) := Lib.hid (by decide)
            have AM : among 198 [198, 208, 216, 222] = true := by decide
            clear hc
            go_enter Tryz.func132, Tryz.ntmps132
            go_wp2_with (first | (go_at_call 39; (first | refine (l1In_yes _ _ _ _ (by omega) (by omega)).mono ?_ | refine (l1In_no _ _ _ _ (by omega)).mono ?_); rintro e w' ⟨rfl, rfl⟩) | (go_at_call 144; refine (among_any2 198 _ 4 4 [198, 208, 216, 222] _ (lit_rd rfl (by decide))).mono ?_; rintro e w1 ⟨rfl, hb1⟩; rw [AM]))
            go_ret
            rw [show foldF 198 = [230] from H.out]
            exact ⟨_, _, rfl, L1.out _ _ (by first | exact Below.refl _ _ | exact ((Below.refl _ _).alloc (Nat.le_refl _) _).trans (hb1.mono (by simp)))⟩
          · have n198 : (c == 198) = false := by simpa using e198
            by_cases e208 : c = 208
            · subst e208
              have H : Hid (foldF 208 = [240]) := Lib.hid (by decide)
              have AM : among 208 [198, 208, 216, 222] = true := by decide
              clear hc
              go_enter Tryz.func132, Tryz.ntmps132
              go_wp2_with (first | (go_at_call 39; (first | refine (l1In_yes _ _ _ _ (by omega) (by omega)).mono ?_ | refine (l1In_no _ _ _ _ (by omega)).mono ?_); rintro e w' ⟨rfl, rfl⟩) | (go_at_call 144; refine (among_any2 208 _ 4 4 [198, 208, 216, 222] _ (lit_rd rfl (by decide))).mono ?_; rintro e w1 ⟨rfl, hb1⟩; rw [AM]))
              go_ret
              rw [show foldF 208 = [240] from H.out]
              exact ⟨_, _, rfl, L1.out _ _ (by first | exact Below.refl _ _ | exact ((Below.refl _ _).alloc (Nat.le_refl _) _).trans (hb1.mono (by simp)))⟩
            · have n208 : (c == 208) = false := by simpa using e208
              by_cases e216 : c = 216
              · subst e216
                have H : Hid (foldF 216 = [248]) := Lib.hid (by decide)
                have AM : among 216 [198, 208, 216, 222] = true := by decide
                clear hc
                go_enter Tryz.func132, Tryz.ntmps132
                go_wp2_with (first | (go_at_call 39; (first | refine (l1In_yes _ _ _ _ (by omega) (by omega)).mono ?_ | refine (l1In_no _ _ _ _ (by omega)).mono ?_); rintro e w' ⟨rfl, rfl⟩) | (go_at_call 144; refine (among_any2 216 _ 4 4 [198, 208, 216, 222] _ (lit_rd rfl (by decide))).mono ?_; rintro e w1 ⟨rfl, hb1⟩; rw [AM]))
                go_ret
                rw [show foldF 216 = [248] from H.out]
                exact ⟨_, _, rfl, L1.out _ _ (by first | exact Below.refl _ _ | exact ((Below.refl _ _).alloc (Nat.le_refl _) _).trans (hb1.mono (by simp)))⟩
              · have n216 : (c == 216) = false := by simpa using e216
                by_cases e222 : c = 222
                · subst e222
                  have H : Hid (foldF 222 = [254]) := Lib.hid (by decide)
                  have AM : among 222 [198, 208, 216, 222] = true := by decide
                  clear hc
                  go_enter Tryz.func132, Tryz.ntmps132
                  go_wp2_with (first | (go_at_call 39; (first | refine (l1In_yes _ _ _ _ (by omega) (by omega)).mono ?_ | refine (l1In_no _ _ _ _ (by omega)).mono ?_); rintro e w' ⟨rfl, rfl⟩) | (go_at_call 144; refine (among_any2 222 _ 4 4 [198, 208, 216, 222] _ (lit_rd rfl (by decide))).mono ?_; rintro e w1 ⟨rfl, hb1⟩; rw [AM]))
                  go_ret
                  rw [show foldF 222 = [254] from H.out]
                  exact ⟨_, _, rfl, L1.out _ _ (by first | exact Below.refl _ _ | exact ((Below.refl _ _).alloc (Nat.le_refl _) _).trans (hb1.mono (by simp)))⟩
                · have n222 : (c == 222) = false := by simpa using e222
                  by_cases e223 : c = 223
                  · subst e223
                    have H : Hid (foldF 223 = [115, 115]) := Lib.hid (by decide)
                    have AM : among 223 [198, 208, 216, 222] = false := by decide
                    clear hc
                    go_enter Tryz.func132, Tryz.ntmps132
                    go_wp2_with (first | (go_at_call 39; (first | refine (l1In_yes _ _ _ _ (by omega) (by omega)).mono ?_ | refine (l1In_no _ _ _ _ (by omega)).mono ?_); rintro e w' ⟨rfl, rfl⟩) | (go_at_call 144; refine (among_any2 223 _ 4 4 [198, 208, 216, 222] _ (lit_rd rfl (by decide))).mono ?_; rintro e w1 ⟨rfl, hb1⟩; rw [AM]))
                    go_ret
                    rw [show foldF 223 = [115, 115] from H.out]
                    exact ⟨_, _, rfl, L2.out _ _ _ (by first | exact Below.refl _ _ | exact ((Below.refl _ _).alloc (Nat.le_refl _) _).trans (hb1.mono (by simp)))⟩
                  · have n223 : (c == 223) = false := by simpa using e223
                    by_cases e962 : c = 962
                    · subst e962
                      have H : Hid (foldF 962 = [963]) := Lib.hid (by decide)
                      have AM : among 962 [198, 208, 216, 222] = false := by decide
                      clear hc
                      go_enter Tryz.func132, Tryz.ntmps132
                      go_wp2_with (first | (go_at_call 39; (first | refine (l1In_yes _ _ _ _ (by omega) (by omega)).mono ?_ | refine (l1In_no _ _ _ _ (by omega)).mono ?_); rintro e w' ⟨rfl, rfl⟩) | (go_at_call 144; refine (among_any2 962 _ 4 4 [198, 208, 216, 222] _ (lit_rd rfl (by decide))).mono ?_; rintro e w1 ⟨rfl, hb1⟩; rw [AM]))
                      go_ret
                      rw [show foldF 962 = [963] from H.out]
                      exact ⟨_, _, rfl, L1.out _ _ (by first | exact Below.refl _ _ | exact ((Below.refl _ _).alloc (Nat.le_refl _) _).trans (hb1.mono (by simp)))⟩
                    · have n962 : (c == 962) = false := by simpa using e962
                      have H : Hid (foldF c = [c]) := Lib.hid (by unfold foldF; rw [if_neg (by omega), if_neg (by omega), if_neg (by omega)])
                      have AM2 : among c [198, 208, 216, 222] = false := by rw [AM]; simp; omega
                      clear AM
                      have AM := AM2
                      go_enter Tryz.func132, Tryz.ntmps132
                      go_wp2_with (first | (go_at_call 39; (first | refine (l1In_yes _ _ _ _ (by omega) (by omega)).mono ?_ | refine (l1In_no _ _ _ _ (by omega)).mono ?_); rintro e w' ⟨rfl, rfl⟩) | (go_at_call 144; refine (among_any2 c _ 4 4 [198, 208, 216, 222] _ (lit_rd rfl (by decide))).mono ?_; rintro e w1 ⟨rfl, hb1⟩; rw [AM]))
                      go_ret
                      rw [show foldF c = [c] from H.out]
                      exact ⟨_, _, rfl, L1.out _ _ (by first | exact Below.refl _ _ | exact ((Below.refl _ _).alloc (Nat.le_refl _) _).trans (hb1.mono (by simp)))⟩

end Go.Proofs.YtlkfabkkjfmnmaaGreatDoor
