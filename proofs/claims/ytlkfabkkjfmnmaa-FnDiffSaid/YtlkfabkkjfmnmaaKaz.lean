import Derived.Test.YtlkfabkkjfmnmaaKaa
import Derived.Test.YtlkfabkkjfmnmaaKat
import Derived.Laws.Rows
namespace Go.Proofs.Ytlkfabkkjfmnmaa
open Go.RowKit
set_option linter.all false
def callV (k d : Int) (nm : ByteArray) (t : Int) (s dt : ByteArray) : Value := .agg #[.int .i64 k, .int .i64 d, .string nm, .int .i64 t, .string s, .string dt]
def callOkF (k d : Int) (nm : ByteArray) (t : Int) (s dt : ByteArray) : Bool :=
 decide ((1 ≤ k ∧ k ≤ 8) ∧ (0 ≤ d ∧ d ≤ 100000) ∧ (0 ≤ t ∧ t ≤ 100000) ∧ nm.size ≤ 24 ∧ s.size ≤ 24 ∧ dt.size ≤ 20 ∧ ((k = 5 ∨ k = 6) ∨ (t = 0 ∧ s.size = 0)) ∧ (k = 7 ∨ dt.size = 0))
theorem str_zero (s : ByteArray) : s.toList.isEmpty = decide (s.size = 0) := by
 rw [ByteArray.toList_eq, Bool.eq_iff_iff]
 obtain ⟨a⟩ := s
 simp [ByteArray.size]
set_option maxRecDepth 1000000 in
set_option maxHeartbeats 6000000 in
theorem str_yes (s : ByteArray) (h : s.size = 0) : s.toList.isEmpty = true := by rw [str_zero]; simpa using h
theorem str_no (s : ByteArray) (h : s.size ≠ 0) : s.toList.isEmpty = false := by rw [str_zero]; simpa using h
set_option maxRecDepth 1000000 in
set_option maxHeartbeats 6000000 in
theorem specCallOk_any (k d t : Int) (nm s dt : ByteArray) (h1 : nm.size ≤ maxLen) (h2 : s.size ≤ maxLen) (h3 : dt.size ≤ maxLen) (w : World) :
  Calls Try.prog 24 #[callV k d nm t s dt] w fun e w' => e = .returned (.bool (callOkF k d nm t s dt)) ∧ Below w.heap.size w w' := by
 unfold maxLen at h1 h2 h3
 unfold callV
 by_cases hk : 1 ≤ k ∧ k ≤ 8
 ·obtain ⟨hk1, hk2⟩ := hk
  by_cases hd : 0 ≤ d ∧ d ≤ 100000
  ·obtain ⟨hd1, hd2⟩ := hd
   by_cases ht : 0 ≤ t ∧ t ≤ 100000
   ·obtain ⟨ht1, ht2⟩ := ht
    by_cases hn : nm.size ≤ 24
    ·have HH := Lib.hid hn
     by_cases hs : s.size ≤ 24
     ·have HH := Lib.hid hs
      by_cases hq : dt.size ≤ 20
      ·have HH := Lib.hid hq
       by_cases k5 : k = 5
       ·skip
        by_cases hq0 : dt.size = 0
        ·have HF : Hid (callOkF k d nm t s dt = true) := Lib.hid (by unfold callOkF; simp only [decide_eq_true_eq]; omega)
         have f5 : ((k : Int) == 5) = true := by simp; omega
         have f7 : ((k : Int) == 7) = false := by simp; omega
         have fq := str_yes dt (by omega)
         go_enter Try.func24, Try.ntmps24
         go_wp2_with (first | (go_at_call 22; (first | refine (l1In_yes _ _ _ _ (by omega) (by omega)).mono ?_ | refine (l1In_no _ _ _ _ (by omega)).mono ?_); rintro e w' ⟨rfl, rfl⟩))
         all_goals go_ret
         all_goals first | exact ⟨ret_bool HF.out.symm, (Below.refl _ _).alloc (Nat.le_refl _) _⟩ | exact ⟨ret_bool (by rw [HF.out]; assumption), (Below.refl _ _).alloc (Nat.le_refl _) _⟩
        ·have HF : Hid (callOkF k d nm t s dt = false) := Lib.hid (by unfold callOkF; simp only [decide_eq_false_iff_not]; omega)
         have f5 : ((k : Int) == 5) = true := by simp; omega
         have f7 : ((k : Int) == 7) = false := by simp; omega
         have fq := str_no dt (by omega)
         go_enter Try.func24, Try.ntmps24
         go_wp2_with (first | (go_at_call 22; (first | refine (l1In_yes _ _ _ _ (by omega) (by omega)).mono ?_ | refine (l1In_no _ _ _ _ (by omega)).mono ?_); rintro e w' ⟨rfl, rfl⟩))
         all_goals go_ret
         all_goals first | exact ⟨ret_bool HF.out.symm, (Below.refl _ _).alloc (Nat.le_refl _) _⟩ | exact ⟨ret_bool (by rw [HF.out]; assumption), (Below.refl _ _).alloc (Nat.le_refl _) _⟩
       by_cases k6 : k = 6
       ·skip
        by_cases hq0 : dt.size = 0
        ·have HF : Hid (callOkF k d nm t s dt = true) := Lib.hid (by unfold callOkF; simp only [decide_eq_true_eq]; omega)
         have f5 : ((k : Int) == 5) = false := by simp; omega
         have f6 : ((k : Int) == 6) = true := by simp; omega
         have f7 : ((k : Int) == 7) = false := by simp; omega
         have fq := str_yes dt (by omega)
         go_enter Try.func24, Try.ntmps24
         go_wp2_with (first | (go_at_call 22; (first | refine (l1In_yes _ _ _ _ (by omega) (by omega)).mono ?_ | refine (l1In_no _ _ _ _ (by omega)).mono ?_); rintro e w' ⟨rfl, rfl⟩))
         all_goals go_ret
         all_goals first | exact ⟨ret_bool HF.out.symm, (Below.refl _ _).alloc (Nat.le_refl _) _⟩ | exact ⟨ret_bool (by rw [HF.out]; assumption), (Below.refl _ _).alloc (Nat.le_refl _) _⟩
        ·have HF : Hid (callOkF k d nm t s dt = false) := Lib.hid (by unfold callOkF; simp only [decide_eq_false_iff_not]; omega)
         have f5 : ((k : Int) == 5) = false := by simp; omega
         have f6 : ((k : Int) == 6) = true := by simp; omega
         have f7 : ((k : Int) == 7) = false := by simp; omega
         have fq := str_no dt (by omega)
         go_enter Try.func24, Try.ntmps24
         go_wp2_with (first | (go_at_call 22; (first | refine (l1In_yes _ _ _ _ (by omega) (by omega)).mono ?_ | refine (l1In_no _ _ _ _ (by omega)).mono ?_); rintro e w' ⟨rfl, rfl⟩))
         all_goals go_ret
         all_goals first | exact ⟨ret_bool HF.out.symm, (Below.refl _ _).alloc (Nat.le_refl _) _⟩ | exact ⟨ret_bool (by rw [HF.out]; assumption), (Below.refl _ _).alloc (Nat.le_refl _) _⟩
       by_cases ht0 : t = 0
       ·skip
        by_cases hs0 : s.size = 0
        ·skip
         by_cases k7 : k = 7
         ·have HF : Hid (callOkF k d nm t s dt = true) := Lib.hid (by unfold callOkF; simp only [decide_eq_true_eq]; omega)
          have f5 : ((k : Int) == 5) = false := by simp; omega
          have f6 : ((k : Int) == 6) = false := by simp; omega
          have ft : ((t : Int) == 0) = true := by simp; omega
          have fs := str_yes s (by omega)
          have f7 : ((k : Int) == 7) = true := by simp; omega
          go_enter Try.func24, Try.ntmps24
          go_wp2_with (first | (go_at_call 22; (first | refine (l1In_yes _ _ _ _ (by omega) (by omega)).mono ?_ | refine (l1In_no _ _ _ _ (by omega)).mono ?_); rintro e w' ⟨rfl, rfl⟩))
          all_goals go_ret
          all_goals first | exact ⟨ret_bool HF.out.symm, (Below.refl _ _).alloc (Nat.le_refl _) _⟩ | exact ⟨ret_bool (by rw [HF.out]; assumption), (Below.refl _ _).alloc (Nat.le_refl _) _⟩
         ·skip
          by_cases hq0 : dt.size = 0
          ·have HF : Hid (callOkF k d nm t s dt = true) := Lib.hid (by unfold callOkF; simp only [decide_eq_true_eq]; omega)
           have f5 : ((k : Int) == 5) = false := by simp; omega
           have f6 : ((k : Int) == 6) = false := by simp; omega
           have ft : ((t : Int) == 0) = true := by simp; omega
           have fs := str_yes s (by omega)
           have f7 : ((k : Int) == 7) = false := by simp; omega
           have fq := str_yes dt (by omega)
           go_enter Try.func24, Try.ntmps24
           go_wp2_with (first | (go_at_call 22; (first | refine (l1In_yes _ _ _ _ (by omega) (by omega)).mono ?_ | refine (l1In_no _ _ _ _ (by omega)).mono ?_); rintro e w' ⟨rfl, rfl⟩))
           all_goals go_ret
           all_goals first | exact ⟨ret_bool HF.out.symm, (Below.refl _ _).alloc (Nat.le_refl _) _⟩ | exact ⟨ret_bool (by rw [HF.out]; assumption), (Below.refl _ _).alloc (Nat.le_refl _) _⟩
          ·have HF : Hid (callOkF k d nm t s dt = false) := Lib.hid (by unfold callOkF; simp only [decide_eq_false_iff_not]; omega)
           have f5 : ((k : Int) == 5) = false := by simp; omega
           have f6 : ((k : Int) == 6) = false := by simp; omega
           have ft : ((t : Int) == 0) = true := by simp; omega
           have fs := str_yes s (by omega)
           have f7 : ((k : Int) == 7) = false := by simp; omega
           have fq := str_no dt (by omega)
           go_enter Try.func24, Try.ntmps24
           go_wp2_with (first | (go_at_call 22; (first | refine (l1In_yes _ _ _ _ (by omega) (by omega)).mono ?_ | refine (l1In_no _ _ _ _ (by omega)).mono ?_); rintro e w' ⟨rfl, rfl⟩))
           all_goals go_ret
           all_goals first | exact ⟨ret_bool HF.out.symm, (Below.refl _ _).alloc (Nat.le_refl _) _⟩ | exact ⟨ret_bool (by rw [HF.out]; assumption), (Below.refl _ _).alloc (Nat.le_refl _) _⟩
        ·have HF : Hid (callOkF k d nm t s dt = false) := Lib.hid (by unfold callOkF; simp only [decide_eq_false_iff_not]; omega)
         have f5 : ((k : Int) == 5) = false := by simp; omega
         have f6 : ((k : Int) == 6) = false := by simp; omega
         have ft : ((t : Int) == 0) = true := by simp; omega
         have fs := str_no s (by omega)
         go_enter Try.func24, Try.ntmps24
         go_wp2_with (first | (go_at_call 22; (first | refine (l1In_yes _ _ _ _ (by omega) (by omega)).mono ?_ | refine (l1In_no _ _ _ _ (by omega)).mono ?_); rintro e w' ⟨rfl, rfl⟩))
         all_goals go_ret
         all_goals first | exact ⟨ret_bool HF.out.symm, (Below.refl _ _).alloc (Nat.le_refl _) _⟩ | exact ⟨ret_bool (by rw [HF.out]; assumption), (Below.refl _ _).alloc (Nat.le_refl _) _⟩
       ·have HF : Hid (callOkF k d nm t s dt = false) := Lib.hid (by unfold callOkF; simp only [decide_eq_false_iff_not]; omega)
        have f5 : ((k : Int) == 5) = false := by simp; omega
        have f6 : ((k : Int) == 6) = false := by simp; omega
        have ft : ((t : Int) == 0) = false := by simp; omega
        go_enter Try.func24, Try.ntmps24
        go_wp2_with (first | (go_at_call 22; (first | refine (l1In_yes _ _ _ _ (by omega) (by omega)).mono ?_ | refine (l1In_no _ _ _ _ (by omega)).mono ?_); rintro e w' ⟨rfl, rfl⟩))
        all_goals go_ret
        all_goals first | exact ⟨ret_bool HF.out.symm, (Below.refl _ _).alloc (Nat.le_refl _) _⟩ | exact ⟨ret_bool (by rw [HF.out]; assumption), (Below.refl _ _).alloc (Nat.le_refl _) _⟩
      ·have HF : Hid (callOkF k d nm t s dt = false) := Lib.hid (by unfold callOkF; simp only [decide_eq_false_iff_not]; omega)
       have hq' : 20 < dt.size := by omega
       clear hq
       go_enter Try.func24, Try.ntmps24
       go_wp2_with (first | (go_at_call 22; (first | refine (l1In_yes _ _ _ _ (by omega) (by omega)).mono ?_ | refine (l1In_no _ _ _ _ (by omega)).mono ?_); rintro e w' ⟨rfl, rfl⟩))
       all_goals go_ret
       all_goals first | exact ⟨ret_bool HF.out.symm, (Below.refl _ _).alloc (Nat.le_refl _) _⟩ | exact ⟨ret_bool (by rw [HF.out]; assumption), (Below.refl _ _).alloc (Nat.le_refl _) _⟩
     ·have HF : Hid (callOkF k d nm t s dt = false) := Lib.hid (by unfold callOkF; simp only [decide_eq_false_iff_not]; omega)
      have hs' : 24 < s.size := by omega
      clear hs
      go_enter Try.func24, Try.ntmps24
      go_wp2_with (first | (go_at_call 22; (first | refine (l1In_yes _ _ _ _ (by omega) (by omega)).mono ?_ | refine (l1In_no _ _ _ _ (by omega)).mono ?_); rintro e w' ⟨rfl, rfl⟩))
      all_goals go_ret
      all_goals first | exact ⟨ret_bool HF.out.symm, (Below.refl _ _).alloc (Nat.le_refl _) _⟩ | exact ⟨ret_bool (by rw [HF.out]; assumption), (Below.refl _ _).alloc (Nat.le_refl _) _⟩
    ·have HF : Hid (callOkF k d nm t s dt = false) := Lib.hid (by unfold callOkF; simp only [decide_eq_false_iff_not]; omega)
     have hn' : 24 < nm.size := by omega
     clear hn
     go_enter Try.func24, Try.ntmps24
     go_wp2_with (first | (go_at_call 22; (first | refine (l1In_yes _ _ _ _ (by omega) (by omega)).mono ?_ | refine (l1In_no _ _ _ _ (by omega)).mono ?_); rintro e w' ⟨rfl, rfl⟩))
     all_goals go_ret
     all_goals first | exact ⟨ret_bool HF.out.symm, (Below.refl _ _).alloc (Nat.le_refl _) _⟩ | exact ⟨ret_bool (by rw [HF.out]; assumption), (Below.refl _ _).alloc (Nat.le_refl _) _⟩
   ·have HF : Hid (callOkF k d nm t s dt = false) := Lib.hid (by unfold callOkF; simp only [decide_eq_false_iff_not]; omega)
    have ht' : t < 0 ∨ 100000 < t := by omega
    clear ht
    go_enter Try.func24, Try.ntmps24
    go_wp2_with (first | (go_at_call 22; (first | refine (l1In_yes _ _ _ _ (by omega) (by omega)).mono ?_ | refine (l1In_no _ _ _ _ (by omega)).mono ?_); rintro e w' ⟨rfl, rfl⟩))
    all_goals go_ret
    all_goals first | exact ⟨ret_bool HF.out.symm, (Below.refl _ _).alloc (Nat.le_refl _) _⟩ | exact ⟨ret_bool (by rw [HF.out]; assumption), (Below.refl _ _).alloc (Nat.le_refl _) _⟩
  ·have HF : Hid (callOkF k d nm t s dt = false) := Lib.hid (by unfold callOkF; simp only [decide_eq_false_iff_not]; omega)
   have hd' : d < 0 ∨ 100000 < d := by omega
   clear hd
   go_enter Try.func24, Try.ntmps24
   go_wp2_with (first | (go_at_call 22; (first | refine (l1In_yes _ _ _ _ (by omega) (by omega)).mono ?_ | refine (l1In_no _ _ _ _ (by omega)).mono ?_); rintro e w' ⟨rfl, rfl⟩))
   all_goals go_ret
   all_goals first | exact ⟨ret_bool HF.out.symm, (Below.refl _ _).alloc (Nat.le_refl _) _⟩ | exact ⟨ret_bool (by rw [HF.out]; assumption), (Below.refl _ _).alloc (Nat.le_refl _) _⟩
 ·have HF : Hid (callOkF k d nm t s dt = false) := Lib.hid (by unfold callOkF; simp only [decide_eq_false_iff_not]; omega)
  have hk' : k < 1 ∨ 8 < k := by omega
  clear hk
  go_enter Try.func24, Try.ntmps24
  go_wp2_with (first | (go_at_call 22; (first | refine (l1In_yes _ _ _ _ (by omega) (by omega)).mono ?_ | refine (l1In_no _ _ _ _ (by omega)).mono ?_); rintro e w' ⟨rfl, rfl⟩))
  all_goals go_ret
  all_goals first | exact ⟨ret_bool HF.out.symm, (Below.refl _ _).alloc (Nat.le_refl _) _⟩ | exact ⟨ret_bool (by rw [HF.out]; assumption), (Below.refl _ _).alloc (Nat.le_refl _) _⟩
theorem Bx.pass {w W W' : World} {next : Int} {a : Option Addr} {n cap : Nat} {kd dir : Int} {nm : ByteArray} {tt : Int} {sa dt : ByteArray} (hb : Bx w next a n cap kd dir nm tt sa dt W') (hz : w.heap.size + 4 ≤ W.heap.size) {B : Nat} {W0 : World} {a0 a9 : Option Addr} {c0 c9 : Nat} {m0 m9 : List InoP} (h0 : VolOwn B W0 a0 c0 m0 w) {nx : Int} (hv : VolOwn B W' a9 c9 m9 W') (hi : Inv d0 nx (xs m9)) (hq : ∀ q, VolBl a9 c9 m9 q → VolBl a0 c0 m0 q ∨ W.heap.size ≤ q) (v0 v1 : Int) (v2 v3 : ByteArray) :
  VolAns B (VolBl a0 c0 m0) w (.returned (.tuple #[.agg #[.int .i64 nx, .slice a9 m9.length c9], .agg #[.int .i64 v0, .int .i64 v1, .string v2, .string v3]])) ((((((W'.setCell ⟨w.heap.size + 2, 0, none⟩ (.int .i64 nx)).setCell ⟨w.heap.size + 2, 1, none⟩ (.slice a9 m9.length c9)).setCell ⟨w.heap.size + 3, 0, none⟩ (.int .i64 v0)).setCell ⟨w.heap.size + 3, 1, none⟩ (.int .i64 v1)).setCell ⟨w.heap.size + 3, 2, none⟩ (.string v2)).setCell ⟨w.heap.size + 3, 3, none⟩ (.string v3)) := by
 have hs := hb.out (.int .i64 nx) (.slice a9 m9.length c9) (.int .i64 v0) (.int .i64 v1) (.string v2) (.string v3)
 have hne : ∀ r, w.heap.size ≤ r → r < w.heap.size + 4 → ∀ q, VolBl a9 c9 m9 q → q ≠ r := fun r h1 h2 q hq2 => by
  rcases hq q hq2 with h | h
  ·have := (h0.bl q h).2; omega
  ·omega
 exact ⟨nx, a9, c9, m9, v0, v1, v2, v3, rfl, hi, hv.res6 _ _ (hne _ (by omega) (by omega)) (hne _ (by omega) (by omega)) _ _ _ _ _ _, hs.2, fun q hq2 => by
  rcases hq q hq2 with h | h
  ·exact .inl h
  ·exact .inr (by omega)⟩
theorem hit_or (l : List EntL) (p : EntL → Bool) : l.any p = false ∨ ∃ (q : Nat) (hq : q < l.length), (l.take q).any p = false ∧ p l[q] = true := by
 by_cases h : l.any p = true
 ·right
  obtain ⟨x, hx, hp⟩ := List.any_eq_true.1 h
  have hq : l.findIdx p < l.length := List.findIdx_lt_length.2 ⟨x, hx, hp⟩
  refine ⟨l.findIdx p, hq, ?_, List.findIdx_getElem⟩
  rw [List.any_eq_false]
  intro y hy
  obtain ⟨i, hi, rfl⟩ := List.mem_iff_getElem.1 hy
  have hi2 : i < l.findIdx p := by have := List.length_take_le (l.findIdx p) l; omega
  rw [List.getElem_take]
  exact fun h => by rw [List.not_of_lt_findIdx hi2] at h; cases h
 ·left
  simpa using h
end Go.Proofs.Ytlkfabkkjfmnmaa
