/- The law of Decode, walked. -/
import Derived.Test.YtiakfclfipiaoaaDecode
namespace Go.Proofs.Ytiakfclfipiaoaa
open Go.RowKit

theorem decF_len : ∀ (f : Nat) (l : List UInt8) (r : List Int), decF f l = some r → r.length ≤ l.length := by
  intro f
  induction f with
  | zero =>
    intro l r h
    unfold decF at h
    split at h
    · cases h; simp
    · cases h
  | succ f ih =>
    intro l r h
    cases l with
    | nil => cases h; simp
    | cons b t =>
      rw [decF_cons] at h
      split at h
      · cases h
      · rename_i h0
        simp only [Option.map_eq_some_iff] at h
        obtain ⟨x, hx, rfl⟩ := h
        have := ih _ _ hx
        rw [List.length_drop, List.length_cons] at this
        simp only [List.length_cons]
        omega
theorem decR_len (l : List UInt8) : (decR l).length ≤ l.length := by
  unfold decR decO
  cases h : decF l.length l with
  | none => simp
  | some r => exact decF_len _ _ _ h

set_option maxRecDepth 1000000 in
set_option maxHeartbeats 6000000 in
theorem lawDecode_walk (s : ByteArray) (hm : s.size ≤ maxLen) (w : World) : Calls Try.prog 7 #[.string s] w fun e w' => e = .returned (.bool true) ∧ Below w.heap.size w w' := by
  unfold maxLen at hm
  by_cases hs : (1048576 : Int) < (s.size : Int)
  · go_enter Try.func7, Try.ntmps7
    go_wp2
    go_ret
    exact ⟨rfl, Below.refl _ _⟩
  · have hn : (decR s.data.toList).length ≤ 1048576 := by have := decR_len s.data.toList; simp at this; omega
    have hbb : (decB s.data.toList != decB s.data.toList) = false := by simp
    generalize hR : decR s.data.toList = r at *
    generalize hB' : decB s.data.toList = bb at *
    have HR := Lib.hid hR
    have HB := Lib.hid hB'
    clear hR hB'
    go_enter Try.func7, Try.ntmps7
    go_wp2_with fail
    refine (specDecode_any s _ (by omega)).mono ?_
    rw [HR.out, HB.out]
    rintro e w1 ⟨g1, c1, rfl, hA⟩
    go_wp2_with fail
    refine (implDecode_any s _ (by omega)).mono ?_
    rw [HR.out, HB.out]
    rintro e w2 ⟨g2, c2, rfl, hB⟩
    go_wp2_with fail
    refine (eqInts_yes _ _ _ _ _ _ r _ hB.rd (hA.rd.below hB.below (Nat.le_refl _)) (by omega)).mono ?_
    rintro e w3 ⟨rfl, hb3⟩
    have hB3 := hB.kept hb3
    go_wp2_with fail
    refine (markInts_any _ _ _ _ _ _ r 1 _ hB3 (by omega) (by omega) (by omega)).mono ?_
    rintro e w4 ⟨rfl, hB4, -⟩
    go_wp2_with fail
    refine (heldInts_yes _ _ _ 1 _ hB4.rd (by omega) (by omega) (by omega)).mono ?_
    rintro e w' ⟨rfl, rfl⟩
    go_wp2_with fail
    refine (implDecode_any s _ (by omega)).mono ?_
    rw [HR.out, HB.out]
    rintro e w5 ⟨g5, c5, rfl, hC⟩
    have hB5 := hB4.kept hC.below
    go_wp2_with fail
    refine (eqInts_yes _ _ _ _ _ _ r _ hC.rd (hA.rd.below hB5.below (Nat.le_refl _)) (by omega)).mono ?_
    rintro e w6 ⟨rfl, hb6⟩
    have hB6 := hB5.kept hb6
    go_wp2_with fail
    refine (heldInts_yes _ _ _ 1 _ hB6.rd (by omega) (by omega) (by omega)).mono ?_
    rintro e w' ⟨rfl, rfl⟩
    go_wp2
    go_ret
    exact ⟨rfl, hA.below.trans (hB6.below.mono hA.below.size)⟩
end Go.Proofs.Ytiakfclfipiaoaa
