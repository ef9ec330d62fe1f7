/- The parts of a sign: the program's Parts, walked. -/
import Derived.Test.YtlkfabkkjfmnmaaGreatDoorPartsR
namespace Go.Proofs.YtlkfabkkjfmnmaaGreatDoor
open Go.RowKit

set_option maxRecDepth 1000000 in
set_option maxHeartbeats 6000000 in
theorem implPartsH_any (c : Int) (hh : 44032 ≤ c ∧ c ≤ 55203) (w : World) :
    Calls Tryz.prog 146 #[.int .i64 c] w fun e w' => ∃ g cp, e = .returned (.slice (some ⟨g, 0, none⟩) (partsF c).length cp) ∧ Own 3 1 w.heap.size w (.slice (some ⟨g, 0, none⟩) (partsF c).length cp) (partsF c).length (ints (partsF c)) w' := by
  have lit0 : ∀ (W : World), Below w.heap.size w W → Own 3 1 w.heap.size w (.slice (some ⟨W.heap.size, 0, none⟩) 0 0) 0 (ints []) (W.alloc (.cells #[] 3)) := fun W hb => Own.lit hb hb.size #[] rfl (by decide)
  have lit1 : ∀ (W : World) (x : Int), Below w.heap.size w W → Own 3 1 w.heap.size w (.slice (some ⟨W.heap.size, 0, none⟩) 1 1) 1 (ints [x]) (W.alloc (.cells #[.int .i64 x] 3)) := fun W x hb => Own.lit hb hb.size #[.int .i64 x] rfl (by decide)
  have lit2 : ∀ (W : World) (x y : Int), Below w.heap.size w W → Own 3 1 w.heap.size w (.slice (some ⟨W.heap.size, 0, none⟩) 2 2) 2 (ints [x, y]) (W.alloc (.cells #[.int .i64 x, .int .i64 y] 3)) := fun W x y hb => Own.lit hb hb.size #[.int .i64 x, .int .i64 y] rfl (by decide)
  have L0 := Lib.hid lit0
  have L1 := Lib.hid lit1
  have L2 := Lib.hid lit2
  clear lit0 lit1 lit2
  have H : Hid (partsF c = hang c) := Lib.hid (by unfold partsF; rw [if_pos hh])
  obtain ⟨ha, hb⟩ := hh
  obtain ⟨n, hn⟩ : ∃ n, n = c - 44032 := ⟨_, rfl⟩
  have hc : c = n + 44032 := by omega
  by_cases h28 : 0 < (c - 44032) % 28
  · have H2 : Hid (hang c = [4352 + (c - 44032) / 588, 4449 + (c - 44032) % 588 / 28] ++ [4519 + (c - 44032) % 28]) := Lib.hid (by unfold hang; rw [if_pos h28])
    rw [← hn] at h28 H2
    subst hc
    clear hn
    have hq : 0 ≤ n / 588 ∧ n / 588 ≤ 18 := by omega
    have hr : 0 ≤ n % 588 ∧ n % 588 ≤ 587 := by omega
    have hx := (L2.out w (4352 + n / 588) (4449 + n % 588 / 28) (Below.refl _ _)).alloc (.cells #[.int .i64 (4519 + n % 28)] 3)
    have hR2 : Rd ((w.alloc (.cells #[.int .i64 (4352 + n / 588), .int .i64 (4449 + n % 588 / 28)] 3)).alloc (.cells #[.int .i64 (4519 + n % 28)] 3)) (some ⟨w.heap.size + 1, 0, none⟩) 1 1 1 (ints [4519 + n % 28]) := lit_rd2 (by simp) rfl (by decide)
    go_enter Tryz.func146, Tryz.ntmps146
    go_wp2_with (first | (go_at_call 51; (first | refine (within_yes _ _ _ _ (by omega) (by omega)).mono ?_ | refine (within_no _ _ _ _ (by omega)).mono ?_); rintro e w' ⟨rfl, rfl⟩) | (at_builtin; go_loud (refine wp_app rfl _ _ 40 rfl 3 (.int .i64 0) 1 8 Tryz.underlying40 info_i64 rfl (by decide) w.heap.size w _ _ _ (by rfl) (by exact hx) _ _ _ _ (by rfl) (by exact hR2) (ints_one _) (by omega) (by unfold maxLen; omega) ?_); intro a2 c2 w2 hO2))
    go_ret
    rw [H.out, H2.out]
    obtain ⟨g, cp, he, _⟩ := hO2.shape1 (by omega)
    cases he
    exact ⟨_, _, rfl, hO2⟩
  · have H2 : Hid (hang c = [4352 + (c - 44032) / 588, 4449 + (c - 44032) % 588 / 28]) := Lib.hid (by unfold hang; rw [if_neg h28]; rfl)
    rw [← hn] at h28 H2
    subst hc
    clear hn
    have hq : 0 ≤ n / 588 ∧ n / 588 ≤ 18 := by omega
    have hr : 0 ≤ n % 588 ∧ n % 588 ≤ 587 := by omega
    have hx := L2.out w (4352 + n / 588) (4449 + n % 588 / 28) (Below.refl _ _)
    go_enter Tryz.func146, Tryz.ntmps146
    go_wp2_with (go_at_call 51; (first | refine (within_yes _ _ _ _ (by omega) (by omega)).mono ?_ | refine (within_no _ _ _ _ (by omega)).mono ?_); rintro e w' ⟨rfl, rfl⟩)
    go_ret
    rw [H.out, H2.out]
    exact ⟨_, _, rfl, hx⟩

set_option maxRecDepth 1000000 in
set_option maxHeartbeats 6000000 in
theorem implPartsO_any (c : Int) (hh : ¬ (44032 ≤ c ∧ c ≤ 55203)) (hr : c < 192 ∨ 8491 < c) (w : World) :
    Calls Tryz.prog 146 #[.int .i64 c] w fun e w' => ∃ g cp, e = .returned (.slice (some ⟨g, 0, none⟩) (partsF c).length cp) ∧ Own 3 1 w.heap.size w (.slice (some ⟨g, 0, none⟩) (partsF c).length cp) (partsF c).length (ints (partsF c)) w' := by
  have lit0 : ∀ (W : World), Below w.heap.size w W → Own 3 1 w.heap.size w (.slice (some ⟨W.heap.size, 0, none⟩) 0 0) 0 (ints []) (W.alloc (.cells #[] 3)) := fun W hb => Own.lit hb hb.size #[] rfl (by decide)
  have lit1 : ∀ (W : World) (x : Int), Below w.heap.size w W → Own 3 1 w.heap.size w (.slice (some ⟨W.heap.size, 0, none⟩) 1 1) 1 (ints [x]) (W.alloc (.cells #[.int .i64 x] 3)) := fun W x hb => Own.lit hb hb.size #[.int .i64 x] rfl (by decide)
  have lit2 : ∀ (W : World) (x y : Int), Below w.heap.size w W → Own 3 1 w.heap.size w (.slice (some ⟨W.heap.size, 0, none⟩) 2 2) 2 (ints [x, y]) (W.alloc (.cells #[.int .i64 x, .int .i64 y] 3)) := fun W x y hb => Own.lit hb hb.size #[.int .i64 x, .int .i64 y] rfl (by decide)
  have L0 := Lib.hid lit0
  have L1 := Lib.hid lit1
  have L2 := Lib.hid lit2
  clear lit0 lit1 lit2
  have H : Hid (partsF c = []) := Lib.hid (partsF_out c hr hh)
  have hx := L0.out w (Below.refl _ _)
  have hh' : c < 44032 ∨ 55203 < c := by omega
  go_enter Tryz.func146, Tryz.ntmps146
  go_wp2_with (go_at_call 51; (first | refine (within_yes _ _ _ _ (by omega) (by omega)).mono ?_ | refine (within_no _ _ _ _ (by omega)).mono ?_); rintro e w' ⟨rfl, rfl⟩)
  go_ret
  rw [H.out]
  exact ⟨_, _, rfl, hx⟩
end Go.Proofs.YtlkfabkkjfmnmaaGreatDoor
