/- Fold: the program's and the reference's come to one list; its law, walked. -/
import Derived.Test.YtiakfclfipiaoaaFoldOf
import Derived.Test.YtiakfclfipiaoaaLfoldof
namespace Go.Proofs.Ytiakfclfipiaoaa
open Go.RowKit

/-- FoldOf of each, in order. -/
def foldL (l : List Int) : List Int := l.flatMap foldF
theorem foldL_len (l : List Int) : (foldL l).length ≤ 2 * l.length := by
  induction l with
  | nil => simp [foldL]
  | cons x l ih =>
    have := foldF_len x
    simp only [foldL, List.flatMap_cons, List.length_append, List.length_cons] at *
    omega

set_option maxRecDepth 100000 in
set_option maxHeartbeats 2000000 in
theorem implFold_any (a : Option Addr) (n cap : Nat) (l : List Int) (w : World) (h : Rd w a n cap 1 (ints l)) (hn : n ≤ 1048576) (hw : ∀ x ∈ l, -9223372036854775808 ≤ x ∧ x ≤ 9223372036854775807) :
    Calls Try.prog 22 #[.slice a n cap] w fun e w' => ∃ a' c', e = .returned (.slice a' (foldL l).length c') ∧ Own 3 1 w.heap.size w (.slice a' (foldL l).length c') (foldL l).length (ints (foldL l)) w' := by
  have hl : l.length = n := by have := h.len; simpa using this
  subst hl
  go_enter Try.func22, Try.ntmps22
  go_wp2
  go_loopg [3, 9] l.length (fun gg o i wr => ∃ k : Nat, k + gg = l.length ∧ i = .int .i64 k ∧ Own 3 1 w.heap.size w o (foldL (l.take k)).length (ints (foldL (l.take k))) wr)
  case atStart => exact ⟨0, by omega, rfl, by simpa [foldL, ints] using Own.lit (e := 3) (size := 1) (n := 0) (Below.refl w.heap.size w) (Nat.le_refl _) #[] rfl (by decide)⟩
  case round =>
    obtain ⟨k, hk, rfl, hOk⟩ := hrel
    obtain ⟨av, cv, rfl, _, _⟩ := hOk.shape
    by_cases hlt : k < l.length
    · obtain ⟨b, off, rfl, hbs, hc⟩ := h.at' (by omega)
      have hc1 := hc k (by simpa using hlt)
      rw [← hOk.below.cell (p := ⟨b, off + k, none⟩) (by exact hbs), ints_get l k hlt] at hc1
      have hx := hw l[k] (List.getElem_mem _)
      have hS : Hid (foldL (l.take (k + 1)) = foldL (l.take k) ++ foldF l[k]) := Lib.hid (by rw [List.take_succ_eq_append_getElem hlt, foldL, List.flatMap_append]; simp [foldL])
      have hb1 : (foldL (l.take k)).length ≤ 2097152 := by have := foldL_len (l.take k); rw [List.length_take] at this; omega
      have hb2 := foldF_len l[k]
      clear hc h hw
      generalize foldL (l.take k) = pre at *
      generalize l[k] = x at *
      go_wp2_with fail
      refine (implFoldOf_any x _ hx).mono ?_
      rintro e w1 ⟨g1, c1, rfl, hF⟩
      have hOF := hOk.kept hF.below
      have hFr := hF.rd
      go_wp2_with (at_builtin; go_loud (refine wp_app rfl _ _ 22 rfl 3 (.int .i64 0) 1 8 Try.underlying22 info_i64 rfl (by decide) w.heap.size w _ _ _ (by rfl) (by exact hOF) _ _ _ _ (by rfl) (by exact hFr) (ints_one _) (by omega) (by unfold maxLen; omega) ?_); intro a2 c2 w2 hO2)
      go_wp2
      go_roundg (gk - 1)
      case measure => omega
      case rel => exact ⟨k + 1, by omega, by go_num, by rw [hS.out, List.length_append, ints_append]; exact hO2⟩
    · have hkl : k = l.length := by omega
      subst hkl
      rw [List.take_length] at hOk ⊢
      go_wp2
      go_ret
      exact ⟨_, _, rfl, hOk⟩

set_option maxRecDepth 100000 in
set_option maxHeartbeats 2000000 in
theorem specFold_any (a : Option Addr) (n cap : Nat) (l : List Int) (w : World) (h : Rd w a n cap 1 (ints l)) (hn : n ≤ 1048576) (hw : ∀ x ∈ l, -9223372036854775808 ≤ x ∧ x ≤ 9223372036854775807) :
    Calls Try.prog 21 #[.slice a n cap] w fun e w' => ∃ a' c', e = .returned (.slice a' (foldL l).length c') ∧ Own 3 1 w.heap.size w (.slice a' (foldL l).length c') (foldL l).length (ints (foldL l)) w' := by
  have hl : l.length = n := by have := h.len; simpa using this
  subst hl
  go_enter Try.func21, Try.ntmps21
  go_wp2
  go_loopg [3, 4] l.length (fun gg o i wr => ∃ k : Nat, k + gg = l.length ∧ i = .int .i64 k ∧ Own 3 1 w.heap.size w o (foldL (l.take k)).length (ints (foldL (l.take k))) wr)
  case atStart => exact ⟨0, by omega, rfl, by simpa [foldL, ints] using Own.lit (e := 3) (size := 1) (n := 0) (Below.refl w.heap.size w) (Nat.le_refl _) #[] rfl (by decide)⟩
  case round =>
    obtain ⟨k, hk, rfl, hOk⟩ := hrel
    obtain ⟨av, cv, rfl, _, _⟩ := hOk.shape
    by_cases hlt : k < l.length
    · obtain ⟨b, off, rfl, hbs, hc⟩ := h.at' (by omega)
      have hc1 := hc k (by simpa using hlt)
      rw [← hOk.below.cell (p := ⟨b, off + k, none⟩) (by exact hbs), ints_get l k hlt] at hc1
      have hx := hw l[k] (List.getElem_mem _)
      have hS : Hid (foldL (l.take (k + 1)) = foldL (l.take k) ++ foldF l[k]) := Lib.hid (by rw [List.take_succ_eq_append_getElem hlt, foldL, List.flatMap_append]; simp [foldL])
      have hb1 : (foldL (l.take k)).length ≤ 2097152 := by have := foldL_len (l.take k); rw [List.length_take] at this; omega
      have hb2 := foldF_len l[k]
      clear hc h hw
      generalize foldL (l.take k) = pre at *
      generalize l[k] = x at *
      go_wp2_with fail
      refine (specFoldOf_any x _ hx).mono ?_
      rintro e w1 ⟨g1, c1, rfl, hF⟩
      have hOF := hOk.kept hF.below
      have hFr := hF.rd
      go_wp2_with (at_builtin; go_loud (refine wp_app rfl _ _ 22 rfl 3 (.int .i64 0) 1 8 Try.underlying22 info_i64 rfl (by decide) w.heap.size w _ _ _ (by rfl) (by exact hOF) _ _ _ _ (by rfl) (by exact hFr) (ints_one _) (by omega) (by unfold maxLen; omega) ?_); intro a2 c2 w2 hO2)
      go_wp2
      go_roundg (gk - 1)
      case measure => omega
      case rel => exact ⟨k + 1, by omega, by go_num, by rw [hS.out, List.length_append, ints_append]; exact hO2⟩
    · have hkl : k = l.length := by omega
      subst hkl
      rw [List.take_length] at hOk ⊢
      go_wp2
      go_ret
      exact ⟨_, _, rfl, hOk⟩

set_option maxRecDepth 100000 in
set_option maxHeartbeats 2000000 in
theorem lawFold_walk (a : Option Addr) (n cap : Nat) (zs : List Int) (w : World) (h : IsRow .i64 w a n cap zs) : Calls Try.prog 5 #[.slice a n cap] w fun e w' => e = .returned (.bool true) ∧ Below w.heap.size w w' := by
  obtain ⟨hR, hwf⟩ := h.rd
  have hm : n ≤ 9223372036854775807 := by have := hR.le; have := hR.max; unfold maxLen at *; omega
  have hl : (zs.take n).length = n := by have := hR.len; simpa using this
  have hw : ∀ x ∈ zs.take n, -9223372036854775808 ≤ x ∧ x ≤ 9223372036854775807 := fun x hx => wf_bounds (hwf x hx)
  generalize zs.take n = l at *
  clear h hwf
  have hR : Rd w a n cap 1 (ints l) := hR
  by_cases hs : (1048576 : Int) < (n : Int)
  · clear hw hl
    go_enter Try.func5, Try.ntmps5
    go_wp2
    go_ret
    exact ⟨rfl, Below.refl _ _⟩
  · have hn := foldL_len l
    rw [hl] at hn
    have HW := Lib.hid hw
    have HL := Lib.hid hl
    clear hw hl
    go_enter Try.func5, Try.ntmps5
    go_wp2_with fail
    refine (toInts_any _ _ _ l _ hR (by omega)).mono ?_
    rintro e w1 ⟨g1, c1, rfl, hX⟩
    go_wp2_with fail
    refine (specFold_any _ _ _ l _ hX.rd (by omega) HW.out).mono ?_
    rintro e w2 ⟨g2, c2, rfl, hA⟩
    have b2 : Below w.heap.size w w2 := hX.below.trans (hA.below.mono hX.below.size)
    go_wp2_with fail
    refine (toInts_any _ _ _ l _ (hR.below b2 (Nat.le_refl _)) (by omega)).mono ?_
    rintro e w3 ⟨g3, c3, rfl, hX0⟩
    go_wp2_with fail
    refine (implFold_any _ _ _ l _ hX0.rd (by omega) HW.out).mono ?_
    rintro e w4 ⟨g4, c4, rfl, hG⟩
    have b4 : Below w2.heap.size w2 w4 := hX0.below.trans (hG.below.mono hX0.below.size)
    go_wp2_with fail
    refine (eqInts_yes _ _ _ _ _ _ (foldL l) _ hG.rd (hA.rd.below b4 (Nat.le_refl _)) (by omega)).mono ?_
    rintro e w5 ⟨rfl, hb5⟩
    have b5 : Below w2.heap.size w2 w5 := b4.trans (hb5.mono b4.size)
    have bw5 : Below w.heap.size w w5 := b2.trans (b5.mono b2.size)
    go_wp2_with fail
    refine (toInts_any _ _ _ l _ (hR.below bw5 (Nat.le_refl _)) (by omega)).mono ?_
    rintro e w6 ⟨g6, c6, rfl, hY⟩
    have hX6 := (hX0.kept hG.below).kept hb5 |>.kept hY.below
    go_wp2_with fail
    refine (eqInts_yes _ _ _ _ _ _ l _ hX6.rd hY.rd (by omega)).mono ?_
    rintro e w7 ⟨rfl, hb7⟩
    have hX7 := hX6.kept hb7
    have hG7 := ((hG.kept hb5).kept hY.below).kept hb7
    go_wp2_with fail
    refine (markInts_any _ _ _ _ _ _ l 1 _ hX7 (by omega) (by omega) (by omega)).mono ?_
    rintro e w8 ⟨rfl, hX8, hgr⟩
    have hne : ∀ k, Value.ownBlock (.slice g4 (foldL l).length c4) = some k → Value.ownBlock (.slice (some ⟨g3, 0, none⟩) n c3) ≠ some k := by
      intro k hk e
      have h1 := (hG.row.lt k hk).1
      have h2 := (hX0.row.lt k e).2
      omega
    have hG8 := hG7.otherLow hgr hne
    go_wp2_with fail
    refine (eqInts_yes _ _ _ _ _ _ (foldL l) _ hG8.rd (hA.rd.below hX8.below (Nat.le_refl _)) (by omega)).mono ?_
    rintro e w9 ⟨rfl, hb9⟩
    have hG9 := hG8.kept hb9
    go_wp2_with fail
    refine (markInts_any _ _ _ _ _ _ (foldL l) 1 _ hG9 (by omega) (by omega) (by omega)).mono ?_
    rintro e w10 ⟨rfl, hG10, -⟩
    go_wp2_with fail
    refine (heldInts_yes _ _ _ 1 _ hG10.rd (by omega) (by omega) (by omega)).mono ?_
    rintro e w' ⟨rfl, rfl⟩
    have b10 : Below w2.heap.size w2 w10 := hX8.below.trans (hG10.below.mono hX0.below.size)
    have bw10 : Below w.heap.size w w10 := b2.trans (b10.mono b2.size)
    go_wp2_with fail
    refine (toInts_any _ _ _ l _ (hR.below bw10 (Nat.le_refl _)) (by omega)).mono ?_
    rintro e w11 ⟨g11, c11, rfl, hZ⟩
    go_wp2_with fail
    refine (implFold_any _ _ _ l _ hZ.rd (by omega) HW.out).mono ?_
    rintro e w12 ⟨g12, c12, rfl, hH⟩
    have b12 : Below w10.heap.size w10 w12 := hZ.below.trans (hH.below.mono hZ.below.size)
    have hG12 := hG10.kept b12
    have bA12 : Below w2.heap.size w2 w12 := b10.trans (b12.mono b10.size)
    go_wp2_with fail
    refine (eqInts_yes _ _ _ _ _ _ (foldL l) _ hH.rd (hA.rd.below bA12 (Nat.le_refl _)) (by omega)).mono ?_
    rintro e w13 ⟨rfl, hb13⟩
    have hG13 := hG12.kept hb13
    go_wp2_with fail
    refine (heldInts_yes _ _ _ 1 _ hG13.rd (by omega) (by omega) (by omega)).mono ?_
    rintro e w' ⟨rfl, rfl⟩
    go_wp2
    go_ret
    exact ⟨rfl, b2.trans ((bA12.trans (hb13.mono bA12.size)).mono b2.size)⟩
end Go.Proofs.Ytiakfclfipiaoaa
