/- Fixed: the program's and the reference's come to one text. -/
import Derived.Test.YtbokgbbdjcpgbaaIn
import Derived.Test.YtbokgbbdjcpgbaaNum
namespace Go.Proofs.Ytbokgbbdjcpgbaa
open Go.RowKit

theorem shl_fixed (m : Nat) (h : m ≤ 7) : wrap64 ((2 : Int) ^ (8 * m)) = ((256 ^ m : Nat) : Int) := by
  match m, h with
  | 0, _ => decide +kernel
  | 1, _ => decide +kernel
  | 2, _ => decide +kernel
  | 3, _ => decide +kernel
  | 4, _ => decide +kernel
  | 5, _ => decide +kernel
  | 6, _ => decide +kernel
  | 7, _ => decide +kernel

theorem pow256_le (m : Nat) (h : m ≤ 7) : 256 ^ m ≤ 72057594037927936 := by
  have := pow_le_of 256 m 7 h (by decide)
  simpa using this

theorem fixedL_no (n width : Int) (h : width < 1 ∨ 7 < width ∨ n < 0) : fixedL n width = [] := by rw [fixedL, if_neg (by omega)]
theorem fixedL_no' (n m : Nat) (h : ¬ n < 256 ^ m) : fixedL n m = [] := by
  rw [fixedL, if_neg ?_]
  rintro ⟨_, _, _, h5⟩
  exact h (by simpa using h5)
set_option maxRecDepth 1000000 in
set_option maxHeartbeats 6000000 in
theorem fixedL_yes (n m : Nat) (h1 : 1 ≤ m) (h2 : m ≤ 7) (h : n < 256 ^ m) : fixedL n m = lowBE n m := by
  rw [fixedL, if_pos ⟨by omega, by omega, by omega, by simpa using h⟩]
  simp

set_option maxRecDepth 1000000 in
set_option maxHeartbeats 6000000 in
theorem implFixed_any (n width : Int) (wf : (Lit.int .i64 n).wf = true) (w : World) :
    Calls Try.prog 97 #[.int .i64 n, .int .i64 width] w fun e w' => e = .returned (.string ⟨(fixedL n width).toArray⟩) ∧ Below w.heap.size w w' := by
  have hx : -9223372036854775808 ≤ n ∧ n ≤ 9223372036854775807 := by simpa [Lit.wf, IntKind.min, IntKind.max, IntKind.signed, IntKind.bits] using wf
  clear wf
  by_cases h1 : 1 ≤ width
  · by_cases h2 : width ≤ 7
    · by_cases h0 : 0 ≤ n
      · obtain ⟨m, rfl⟩ := Int.eq_ofNat_of_zero_le (show 0 ≤ width by omega)
        obtain ⟨n, rfl⟩ := Int.eq_ofNat_of_zero_le h0
        have hsh := shl_fixed m (by omega)
        have hpl := pow256_le m (by omega)
        by_cases h3 : n < 256 ^ m
        · have H1 := Lib.hid (fixedL_yes n m (by omega) (by omega) h3)
          have h3' : (n : Int) < ((256 ^ m : Nat) : Int) := by exact_mod_cast h3
          have hno : ¬ ((256 ^ m : Nat) : Int) ≤ (n : Int) := by omega
          clear h3
          generalize 256 ^ m = p at *
          have hn0 : ¬ (n : Int) < 0 := by omega
          go_enter Try.func97, Try.ntmps97
          go_wp2_with (first | (go_at_call 65; (first | refine (within_yes _ _ _ _ (by omega) (by omega)).mono ?_ | refine (within_no _ _ _ _ (by omega)).mono ?_); rintro e w' ⟨rfl, rfl⟩) | (at_make; refine wp_maken rfl _ _ 47 rfl 5 (.int .u8 0) 1 Try.underlying47 info_u8 rfl w.heap.size w (Below.refl _ _) (Nat.le_refl _) _ _ _ _ m rfl rfl rfl rfl (by omega) (by unfold maxLen; omega) ?_; intro w1 hO))
          go_loopg [0, 6] m (fun g nv i wr => ∃ k : Nat, k + g = m ∧ i = .int .i64 ((m : Int) - 1 - k) ∧ nv = .int .i64 ((n / 256 ^ k : Nat) : Int) ∧
            Own 5 1 w.heap.size w (.slice (some ⟨w.heap.size, 0, none⟩) m m) m (List.replicate (m - k) (.int .u8 0) ++ u8s (lowBE n k)) wr)
          case atStart => exact ⟨0, by omega, by simp, by simp, by simpa [lowBE, u8s] using hO⟩
          case round =>
            obtain ⟨k, hk, rfl, rfl, hOk⟩ := hrel
            by_cases hlt : k < m
            · have hc := hOk.cell (m - 1 - k) (by simp [lowBE_length]; omega)
              have hfr := hOk.free (m - 1 - k)
              have hS : Hid (Own 5 1 w.heap.size w (.slice (some ⟨w.heap.size, 0, none⟩) m m) m (List.replicate (m - (k + 1)) (.int .u8 0) ++ u8s (lowBE n (k + 1))) (wr.setCell ⟨w.heap.size, m - 1 - k, none⟩ (.int .u8 ((n / 256 ^ k : Nat) % 256 : Int)))) := by
                rw [← lowBE_set n m k hlt]; exact hOk.set _ _
              have hq : Hid (n / 256 ^ (k + 1) = n / 256 ^ k / 256) := Lib.hid (by rw [Nat.div_div_eq_div_mul, Nat.pow_succ])
              have hqn : n / 256 ^ k ≤ n := Nat.div_le_self _ _
              generalize (List.replicate (m - k) (Value.int IntKind.u8 0) ++ u8s (lowBE n k))[m - 1 - k]'(by simp [lowBE_length]; omega) = u at hc
              generalize n / 256 ^ k = q at *
              have h255 := i64_and255 (q : Int) (by omega) (by omega)
              have hi0 : (0 : Int) ≤ (m : Int) - 1 - k := by omega
              have hi1 : (m : Int) - 1 - k < (m : Int) := by omega
              go_wp2
              go_roundg (gk - 1)
              case measure => omega
              case rel => exact ⟨k + 1, by omega, by go_num, by rw [hq.out]; go_num, hS.out⟩
            · have hkm : k = m := by omega
              subst hkm
              have hr := hOk.rd
              have hr' : Rd wr (some ⟨w.heap.size, 0, none⟩) k k 1 (u8s (lowBE n k)) := by simpa using hr
              go_wp2_with (refine wp_str rfl _ 47 9 5 rfl Try.underlying47 Try.underlying5 Try.underlying9 _ _ _ _ rfl hr' ?_)
              go_ret
              exact ⟨by rw [H1.out]; rfl, hOk.below⟩
        · have H1 := Lib.hid (fixedL_no' n m h3)
          have h3' : ((256 ^ m : Nat) : Int) ≤ (n : Int) := by
            have := Nat.le_of_not_lt h3
            exact Int.ofNat_le.2 this
          clear h3
          generalize 256 ^ m = p at *
          go_enter Try.func97, Try.ntmps97
          go_wp2_with (go_at_call 65; (first | refine (within_yes _ _ _ _ (by omega) (by omega)).mono ?_ | refine (within_no _ _ _ _ (by omega)).mono ?_); rintro e w' ⟨rfl, rfl⟩)
          go_ret
          exact ⟨by rw [H1.out]; rfl, Below.refl _ _⟩
      · have H1 := Lib.hid (fixedL_no n width (by omega))
        go_enter Try.func97, Try.ntmps97
        go_wp2_with (go_at_call 65; (first | refine (within_yes _ _ _ _ (by omega) (by omega)).mono ?_ | refine (within_no _ _ _ _ (by omega)).mono ?_); rintro e w' ⟨rfl, rfl⟩)
        go_ret
        exact ⟨by rw [H1.out]; rfl, Below.refl _ _⟩
    · have H1 := Lib.hid (fixedL_no n width (by omega))
      go_enter Try.func97, Try.ntmps97
      go_wp2_with (go_at_call 65; (first | refine (within_yes _ _ _ _ (by omega) (by omega)).mono ?_ | refine (within_no _ _ _ _ (by omega)).mono ?_); rintro e w' ⟨rfl, rfl⟩)
      go_ret
      exact ⟨by rw [H1.out]; rfl, Below.refl _ _⟩
  · have H1 := Lib.hid (fixedL_no n width (by omega))
    go_enter Try.func97, Try.ntmps97
    go_wp2_with (go_at_call 65; (first | refine (within_yes _ _ _ _ (by omega) (by omega)).mono ?_ | refine (within_no _ _ _ _ (by omega)).mono ?_); rintro e w' ⟨rfl, rfl⟩)
    go_ret
    exact ⟨by rw [H1.out]; rfl, Below.refl _ _⟩

set_option maxRecDepth 1000000 in
set_option maxHeartbeats 6000000 in
theorem specFixed_any (n width : Int) (wf : (Lit.int .i64 n).wf = true) (w : World) :
    Calls Try.prog 92 #[.int .i64 n, .int .i64 width] w fun e w' => e = .returned (.string ⟨(fixedL n width).toArray⟩) ∧ Below w.heap.size w w' := by
  have hx : -9223372036854775808 ≤ n ∧ n ≤ 9223372036854775807 := by simpa [Lit.wf, IntKind.min, IntKind.max, IntKind.signed, IntKind.bits] using wf
  clear wf
  by_cases h1 : 1 ≤ width
  · by_cases h2 : width ≤ 7
    · by_cases h0 : 0 ≤ n
      · obtain ⟨m, rfl⟩ := Int.eq_ofNat_of_zero_le (show 0 ≤ width by omega)
        obtain ⟨n, rfl⟩ := Int.eq_ofNat_of_zero_le h0
        have hn0 : ¬ (n : Int) < 0 := by omega
        go_enter Try.func92, Try.ntmps92
        go_wp2_with (go_at_call 64; (first | refine (l1In_yes _ _ _ _ (by omega) (by omega)).mono ?_ | refine (l1In_no _ _ _ _ (by omega)).mono ?_); rintro e w' ⟨rfl, rfl⟩)
        go_loopg [0, 5, 6] m (fun g nv o i wr => ∃ k : Nat, k + g = m ∧ i = .int .i64 k ∧ nv = .int .i64 ((n / 256 ^ k : Nat) : Int) ∧ o = .string ⟨(lowBE n k).toArray⟩ ∧ Below w.heap.size w wr)
        case atStart => exact ⟨0, by omega, rfl, by simp, rfl, Below.refl _ _⟩
        case round =>
          obtain ⟨k, hk, rfl, rfl, rfl, hb⟩ := hrel
          have hqn : n / 256 ^ k ≤ n := Nat.div_le_self _ _
          by_cases hlt : k < m
          · have hL : (lowBE n k).length ≤ 7 := by rw [lowBE_length]; omega
            have hS : Hid (lowBE n (k + 1) = UInt8.ofNat (n / 256 ^ k % 256) :: lowBE n k) := rfl
            have hq : Hid (n / 256 ^ (k + 1) = n / 256 ^ k / 256) := Lib.hid (by rw [Nat.div_div_eq_div_mul, Nat.pow_succ])
            generalize lowBE n k = l at *
            generalize n / 256 ^ k = q at *
            go_wp2_with (refine wp_str rfl (.tmp 22) 47 9 5 rfl Try.underlying47 Try.underlying5 Try.underlying9 _ _ _ _ rfl (rd_byte _ _ _ (by omega) (by omega)) ?_)
            go_roundg (gk - 1)
            case measure => omega
            case rel => exact ⟨k + 1, by omega, by go_num, by rw [hq.out]; go_num, by rw [hS.out]; exact congrArg Value.string (ByteArray.mk_append_mk [_] l), hb.alloc hb.size _⟩
          · have hkm : k = m := by omega
            subst hkm
            by_cases h3 : n < 256 ^ k
            · have H1 := Lib.hid (fixedL_yes n k (by omega) (by omega) h3)
              have hz : n / 256 ^ k = 0 := Nat.div_eq_of_lt h3
              clear h3
              rw [hz]
              clear hz hqn
              go_wp2
              go_ret
              exact ⟨by rw [H1.out]; rfl, hb⟩
            · have H1 := Lib.hid (fixedL_no' n k h3)
              have hz : 0 < n / 256 ^ k := Nat.div_pos (Nat.le_of_not_lt h3) (Nat.pow_pos (by decide))
              clear h3
              generalize n / 256 ^ k = q at *
              go_wp2
              go_ret
              exact ⟨by rw [H1.out]; rfl, hb⟩
      · have H1 := Lib.hid (fixedL_no n width (by omega))
        go_enter Try.func92, Try.ntmps92
        go_wp2_with (go_at_call 64; (first | refine (l1In_yes _ _ _ _ (by omega) (by omega)).mono ?_ | refine (l1In_no _ _ _ _ (by omega)).mono ?_); rintro e w' ⟨rfl, rfl⟩)
        go_ret
        exact ⟨by rw [H1.out]; rfl, Below.refl _ _⟩
    · have H1 := Lib.hid (fixedL_no n width (by omega))
      go_enter Try.func92, Try.ntmps92
      go_wp2_with (go_at_call 64; (first | refine (l1In_yes _ _ _ _ (by omega) (by omega)).mono ?_ | refine (l1In_no _ _ _ _ (by omega)).mono ?_); rintro e w' ⟨rfl, rfl⟩)
      go_ret
      exact ⟨by rw [H1.out]; rfl, Below.refl _ _⟩
  · have H1 := Lib.hid (fixedL_no n width (by omega))
    go_enter Try.func92, Try.ntmps92
    go_wp2_with (go_at_call 64; (first | refine (l1In_yes _ _ _ _ (by omega) (by omega)).mono ?_ | refine (l1In_no _ _ _ _ (by omega)).mono ?_); rintro e w' ⟨rfl, rfl⟩)
    go_ret
    exact ⟨by rw [H1.out]; rfl, Below.refl _ _⟩
end Go.Proofs.Ytbokgbbdjcpgbaa
