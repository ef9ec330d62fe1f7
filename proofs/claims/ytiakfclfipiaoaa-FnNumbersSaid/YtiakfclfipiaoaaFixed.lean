/- Fixed and ReadFixed: the program's and the reference's come to one. -/
import Derived.Test.YtiakfclfipiaoaaIn
import Derived.Test.YtiakfclfipiaoaaNum
namespace Go.Proofs.Ytiakfclfipiaoaa
open Go.RowKit

def rdFixed (s : ByteArray) (width : Int) : Value := if 1 ≤ width ∧ width ≤ 7 ∧ width ≤ s.size then .tuple #[.int .i64 (rdF (s.data.toList.take width.toNat)), .bool true] else .tuple #[.int .i64 0, .bool false]

theorem rdF_take_lt (s : ByteArray) (k : Nat) (h : k ≤ 6) : rdF (s.data.toList.take k) < 281474976710656 := by
  have h1 := rdF_lt (s.data.toList.take k)
  have h2 : (s.data.toList.take k).length ≤ 6 := by rw [List.length_take]; omega
  have h3 := pow_le_of 256 _ 6 h2 (by decide)
  exact Nat.lt_of_lt_of_le h1 h3

set_option maxRecDepth 1000000 in
set_option maxHeartbeats 2000000 in
theorem implReadFixed_any (s : ByteArray) (width : Int) (w : World) :
    Calls Try.prog 42 #[.string s, .int .i64 width] w fun e w' => e = .returned (rdFixed s width) ∧ w = w' := by
  by_cases h1 : 1 ≤ width
  · by_cases h2 : width ≤ 7
    · by_cases h3 : width ≤ s.size
      · obtain ⟨m, rfl⟩ := Int.eq_ofNat_of_zero_le (show 0 ≤ width by omega)
        have h4 : ¬ ((s.size : Int) < m) := by omega
        go_enter Try.func42, Try.ntmps42
        go_wp2_with (go_at_call 52; (first | refine (within_yes _ _ _ _ (by omega) (by omega)).mono ?_ | refine (within_no _ _ _ _ (by omega)).mono ?_); rintro e w' ⟨rfl, rfl⟩)
        go_loopg [6, 7] m (fun g n i wr => ∃ k : Nat, k + g = m ∧ i = .int .i64 k ∧ n = .int .i64 (rdF (s.data.toList.take k)) ∧ wr = w)
        case atStart => exact ⟨0, by omega, rfl, rfl, rfl⟩
        case round =>
          obtain ⟨k, hk, rfl, rfl, rfl⟩ := hrel
          by_cases hlt : k < m
          · have hb := rdF_take_lt s k (by omega)
            have hks : k < s.size := by omega
            have H : Hid (rdF (s.data.toList.take (k + 1)) = rdF (s.data.toList.take k) * 256 + s[k].toNat) := Lib.hid (by rw [take_snoc s k hks, rdF_snoc])
            have hb0 : (s[k].toNat : Int) < 256 := by have := s[k].toNat_lt; omega
            have hor := i64_or 8 ((rdF (s.data.toList.take k) : Int) * 256) (s[k].toNat : Int) (by omega) (by omega) (by omega) (by omega) (by omega) (by omega)
            generalize rdF (s.data.toList.take k) = r at *
            go_wp2
            go_roundg (gk - 1)
            case measure => omega
            case rel => exact ⟨k + 1, by omega, by go_num, by rw [H.out]; go_num, rfl⟩
          · have hkm : k = m := by omega
            subst hkm
            go_wp2
            go_ret2
            exact ⟨by rw [rdFixed, if_pos (by omega)]; rfl, rfl⟩
      · go_enter Try.func42, Try.ntmps42
        go_wp2_with (go_at_call 52; (first | refine (within_yes _ _ _ _ (by omega) (by omega)).mono ?_ | refine (within_no _ _ _ _ (by omega)).mono ?_); rintro e w' ⟨rfl, rfl⟩)
        go_ret2
        exact ⟨by rw [rdFixed, if_neg (by omega)]; rfl, rfl⟩
    · go_enter Try.func42, Try.ntmps42
      go_wp2_with (go_at_call 52; (first | refine (within_yes _ _ _ _ (by omega) (by omega)).mono ?_ | refine (within_no _ _ _ _ (by omega)).mono ?_); rintro e w' ⟨rfl, rfl⟩)
      go_ret2
      exact ⟨by rw [rdFixed, if_neg (by omega)]; rfl, rfl⟩
  · go_enter Try.func42, Try.ntmps42
    go_wp2_with (go_at_call 52; (first | refine (within_yes _ _ _ _ (by omega) (by omega)).mono ?_ | refine (within_no _ _ _ _ (by omega)).mono ?_); rintro e w' ⟨rfl, rfl⟩)
    go_ret2
    exact ⟨by rw [rdFixed, if_neg (by omega)]; rfl, rfl⟩

end Go.Proofs.Ytiakfclfipiaoaa
