/- Fold: the program's and the reference's come to one list; its law, walked. -/
import Derived.Test.YtlkfabkkjfmnmaaGreatDoorFoldOf
import Derived.Test.YtlkfabkkjfmnmaaGreatDoorLfoldof
namespace Go.Proofs.YtlkfabkkjfmnmaaGreatDoor
open Go.RowKit

/-- FoldOf of each, in order. -/
def foldL (l : List Int) : List Int := l.flatMap foldF
theorem foldL_len (l : List Int) : (foldL l).length ≤ 2 * l.length := by
  induction l with
  | nil => simp [foldL]
  | cons x l ih =>
    have := foldF_len x
    simp only [foldL, List.flatMap_cons, List.length_append, List.length_cons] at *
    omega

set_option maxRecDepth 1000000 in
set_option maxHeartbeats 6000000 in
theorem implFold_any (a : Option Addr) (n cap : Nat) (l : List Int) (w : World) (h : Rd w a n cap 1 (ints l)) (hn : n ≤ 1048576) (hw : ∀ x ∈ l, -9223372036854775808 ≤ x ∧ x ≤ 9223372036854775807) :
    Calls Tryz.prog 111 #[.slice a n cap] w fun e w' => ∃ a' c', e = .returned (.slice a' (foldL l).length c') ∧ Own 3 1 w.heap.size w (.slice a' (foldL l).length c') (foldL l).length (ints (foldL l)) w' := by
  have hl : l.length = n := by have := h.len; simpa using this
  subst hl
  go_enter Tryz.func111, Tryz.ntmps111
  go_wp2
  go_loopg [3, 9] l.length (fun gg o i wr => ∃ k : Nat, k + gg = l.length ∧ i = .int .i64 k ∧ Own 3 1 w.heap.size w o (foldL (l.take k)).length (ints (foldL (l.take k))) wr)
  case atStart => exact ⟨0, by omega, rfl, by simpa [foldL, ints] using Own.lit (e := 3) (size := 1) (n := 0) (Below.refl w.heap.size w) (Nat.le_refl _) #[] rfl (by decide)⟩
  case round =>
    obtain ⟨k, hk, rfl, hOk⟩ := hrel
    obtain ⟨av, cv, rfl, _, _⟩ := hOk.shape
    by_cases hlt : k < l.length
    · obtain ⟨b, off, rfl, hbs, hc⟩ := h.at' (by omega)
      have hc1 := hc k (by simpa using hlt)
      rw [← hOk.below.cell (p := ⟨b, off + k, none⟩) (by exact hbs), ints_get l k hlt] at hc1
      have hx := hw l[k] (List.getElem_mem _)
      have hS : Hid (foldL (l.take (k + 1)) = foldL (l.take k) ++ foldF l[k]) := Lib.hid (by rw [List.take_succ_eq_append_getElem hlt, foldL, List.flatMap_append]; simp [foldL])
      have hb1 : (foldL (l.take k)).length ≤ 2097152 := by have := foldL_len (l.take k); rw [List.length_take] at this; omega
      have hb2 := foldF_len l[k]
      clear hc h hw
      generalize foldL (l.take k) = pre at *
      generalize l[k] = x at *
      go_wp2_with fail
      refine (implFoldOf_any x _ hx).mono ?_
      rintro e w1 ⟨g1, c1, rfl, hF⟩
      have hOF := hOk.kept hF.below
      have hFr := hF.rd
      go_wp2_with (at_builtin; go_loud (refine wp_app rfl _ _ 40 rfl 3 (.int .i64 0) 1 8 Tryz.underlying40 info_i64 rfl (by decide) w.heap.size w _ _ _ (by rfl) (by exact hOF) _ _ _ _ (by rfl) (by exact hFr) (ints_one _) (by omega) (by unfold maxLen; omega) ?_); intro a2 c2 w2 hO2)
      go_wp2
      go_roundg (gk - 1)
      case measure => omega
      case rel => exact ⟨k + 1, by omega, by go_num, by rw [hS.out, List.length_append, ints_append]; exact hO2⟩
    · have hkl : k = l.length := by omega
      subst hkl
      rw [List.take_length] at hOk ⊢
      go_wp2
      go_ret
      exact ⟨_, _, rfl, hOk⟩

set_option maxRecDepth 1000000 in
set_option maxHeartbeats 6000000 in
theorem specFold_any (a : Option Addr) (n cap : Nat) (l : List Int) (w : World) (h : Rd w a n cap 1 (ints l)) (hn : n ≤ 1048576) (hw : ∀ x ∈ l, -9223372036854775808 ≤ x ∧ x ≤ 9223372036854775807) :
    Calls Tryz.prog 106 #[.slice a n cap] w fun e w' => ∃ a' c', e = .returned (.slice a' (foldL l).length c') ∧ Own 3 1 w.heap.size w (.slice a' (foldL l).length c') (foldL l).length (ints (foldL l)) w' := by
  have hl : l.length = n := by have := h.len; simpa using this
  subst hl
  go_enter Tryz.func106, Tryz.ntmps106
  go_wp2
  go_loopg [3, 4] l.length (fun gg o i wr => ∃ k : Nat, k + gg = l.length ∧ i = .int .i64 k ∧ Own 3 1 w.heap.size w o (foldL (l.take k)).length (ints (foldL (l.take k))) wr)
  case atStart => exact ⟨0, by omega, rfl, by simpa [foldL, ints] using Own.lit (e := 3) (size := 1) (n := 0) (Below.refl w.heap.size w) (Nat.le_refl _) #[] rfl (by decide)⟩
  case round =>
    obtain ⟨k, hk, rfl, hOk⟩ := hrel
    obtain ⟨av, cv, rfl, _, _⟩ := hOk.shape
    by_cases hlt : k < l.length
    · obtain ⟨b, off, rfl, hbs, hc⟩ := h.at' (by omega)
      have hc1 := hc k (by simpa using hlt)
      rw [← hOk.below.cell (p := ⟨b, off + k, none⟩) (by exact hbs), ints_get l k hlt] at hc1
      have hx := hw l[k] (List.getElem_mem _)
      have hS : Hid (foldL (l.take (k + 1)) = foldL (l.take k) ++ foldF l[k]) := Lib.hid (by rw [List.take_succ_eq_append_getElem hlt, foldL, List.flatMap_append]; simp [foldL])
      have hb1 : (foldL (l.take k)).length ≤ 2097152 := by have := foldL_len (l.take k); rw [List.length_take] at this; omega
      have hb2 := foldF_len l[k]
      clear hc h hw
      generalize foldL (l.take k) = pre at *
      generalize l[k] = x at *
      go_wp2_with fail
      refine (specFoldOf_any x _ hx).mono ?_
      rintro e w1 ⟨g1, c1, rfl, hF⟩
      have hOF := hOk.kept hF.below
      have hFr := hF.rd
      go_wp2_with (at_builtin; go_loud (refine wp_app rfl _ _ 40 rfl 3 (.int .i64 0) 1 8 Tryz.underlying40 info_i64 rfl (by decide) w.heap.size w _ _ _ (by rfl) (by exact hOF) _ _ _ _ (by rfl) (by exact hFr) (ints_one _) (by omega) (by unfold maxLen; omega) ?_); intro a2 c2 w2 hO2)
      go_wp2
      go_roundg (gk - 1)
      case measure => omega
      case rel => exact ⟨k + 1, by omega, by go_num, by rw [hS.out, List.length_append, ints_append]; exact hO2⟩
    · have hkl : k = l.length := by omega
      subst hkl
      rw [List.take_length] at hOk ⊢
      go_wp2
      go_ret
      exact ⟨_, _, rfl, hOk⟩

end Go.Proofs.YtlkfabkkjfmnmaaGreatDoor
