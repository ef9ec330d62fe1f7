/- Dec: the program's and the reference's come to one text. -/
import Derived.Test.YtiakfclfipiaoaaIn
import Derived.Test.YtiakfclfipiaoaaNum
namespace Go.Proofs.Ytiakfclfipiaoaa
open Go.RowKit

/-- The last digit of m. -/
def dig10 (m : Nat) : UInt8 := UInt8.ofNat (48 + m % 10)
/-- The digits of m, the lowest first; none of 0. -/
def rdec (m : Nat) : List UInt8 := if h : m = 0 then [] else dig10 m :: rdec (m / 10)
termination_by m
decreasing_by omega
theorem rdec_zero : rdec 0 = [] := by rw [rdec]; simp
theorem rdec_pos {m : Nat} (h : 0 < m) : rdec m = dig10 m :: rdec (m / 10) := by rw [rdec, dif_neg (by omega)]
theorem rdec_len (k : Nat) : ∀ m, m < 10 ^ k → (rdec m).length ≤ k := by
  induction k with
  | zero => intro m h; have : m = 0 := by simpa using h
            rw [this, rdec_zero]; simp
  | succ k ih =>
    intro m h
    by_cases h0 : m = 0
    · rw [h0, rdec_zero]; simp
    · rw [rdec_pos (by omega)]
      have := ih (m / 10) (by rw [Nat.pow_succ] at h; omega)
      simp only [List.length_cons]
      omega
theorem rdec_len19 (m : Nat) (h : m ≤ 9223372036854775808) : (rdec m).length ≤ 19 := rdec_len 19 m (by omega)
/-- What Dec comes to. -/
def decL (n : Int) : List UInt8 := if n = 0 then [48] else (if n < 0 then [45] else []) ++ (rdec n.natAbs).reverse

/-- The last loop of Dec, and what stands behind it: the bytes turned round, as a text. -/
theorem u8s_reverse (l : List UInt8) : u8s l.reverse = (u8s l).reverse := by simp [u8s]

set_option maxRecDepth 1000000 in
set_option maxHeartbeats 2000000 in
theorem implDec_any (n : Int) (wf : (Lit.int .i64 n).wf = true) (w : World) :
    Calls Try.prog 44 #[.int .i64 n] w fun e w' => e = .returned (.string ⟨(decL n).toArray⟩) ∧ Below w.heap.size w w' := by
  have hx : -9223372036854775808 ≤ n ∧ n ≤ 9223372036854775807 := by simpa [Lit.wf, IntKind.min, IntKind.max, IntKind.signed, IntKind.bits] using wf
  clear wf
  by_cases h0 : n = 0
  · subst h0
    go_enter Try.func44, Try.ntmps44
    go_wp2
    go_ret
    exact ⟨rfl, Below.refl _ _⟩
  · by_cases hp : 0 < n
    · obtain ⟨n, rfl⟩ := Int.eq_ofNat_of_zero_le (show 0 ≤ n by omega)
      have H1 : Hid (decL n = (rdec n).reverse) := Lib.hid (by unfold decL; rw [if_neg h0, if_neg (by omega)]; simp)
      have hl := rdec_len19 n (by omega)
      have hl1 : 0 < (rdec n).length := by rw [rdec_pos (by omega)]; simp
      have hz : ((n : Int) == 0) = false := by simp; omega
      have hn : ¬ (n : Int) < 0 := by omega
      clear h0
      go_enter Try.func44, Try.ntmps44
      go_wp2
      go_loopg [3, 4] n (fun g o nv wr => ∃ (m : Nat) (pre : List UInt8), m = g ∧ m ≤ 9223372036854775807 ∧ nv = .int .i64 m ∧ pre ++ rdec m = rdec n ∧ Own 5 1 w.heap.size w o pre.length (u8s pre) wr)
      case atStart => exact ⟨n, [], rfl, by omega, rfl, rfl, by simpa [u8s] using Own.lit (e := 5) (size := 1) (n := 0) (Below.refl w.heap.size w) (Nat.le_refl _) #[] rfl (by decide)⟩
      case round =>
        obtain ⟨m, pre, rfl, hm, rfl, hpre, hOk⟩ := hrel
        have hpl : pre.length ≤ 19 := by have := congrArg List.length hpre; rw [List.length_append] at this; omega
        by_cases hm0 : m = 0
        · subst hm0
          have H2 : pre = rdec n := by rw [rdec_zero] at hpre; simpa using hpre
          rw [← H2] at hl1
          have H3 := Lib.hid H2
          clear hpre H2 hl hm
          obtain ⟨g, cap, rfl, hg⟩ := hOk.shape1 hl1
          go_wp2
          go_loopg [6, 7] pre.length (fun gg i j wr2 => ∃ t : Nat, t + gg = pre.length ∧ i = .int .i64 t ∧ j = .int .i64 ((pre.length : Int) - 1 - t) ∧ Own 5 1 w.heap.size w (.slice (some ⟨g, 0, none⟩) pre.length cap) pre.length (mixed (u8s pre) t) wr2)
          case atStart => exact ⟨0, by omega, rfl, by simp, by rw [mixed_zero]; exact hOk⟩
          case round =>
            obtain ⟨t, ht, rfl, rfl, hOt⟩ := hrel
            by_cases hlt : (t : Int) < (pre.length : Int) - 1 - t
            · have hc1 := hOt.cell t (by rw [mixed_length]; simp; omega)
              have hc2 := hOt.cell (pre.length - 1 - t) (by rw [mixed_length]; simp; omega)
              have hf1 := hOt.free t
              have hf2 := hOt.free (pre.length - 1 - t)
              obtain ⟨x, hx1⟩ := u8s_mem (mixed_mem (u8s pre) t t (by rw [mixed_length]; simp; omega))
              obtain ⟨y, hy1⟩ := u8s_mem (mixed_mem (u8s pre) t (pre.length - 1 - t) (by rw [mixed_length]; simp; omega))
              obtain ⟨u, hu⟩ : ∃ u, u = (mixed (u8s pre) t)[t]'(by rw [mixed_length]; simp; omega) := ⟨_, rfl⟩
              obtain ⟨v, hv⟩ : ∃ v, v = (mixed (u8s pre) t)[pre.length - 1 - t]'(by rw [mixed_length]; simp; omega) := ⟨_, rfl⟩
              have hm1 := mixed_step (u8s pre) t (by simp; omega) u v hu.symm (by rw [hv]; simp)
              rw [u8s_length] at hm1
              have hO3 := (hOt.set t v).set (pre.length - 1 - t) u
              rw [hm1] at hO3
              rw [← hu] at hc1
              rw [← hv] at hc2
              rw [← hu] at hx1
              rw [← hv] at hy1
              subst hx1
              subst hy1
              clear hu hv hm1 hOt
              have hb1 : (t : Int) < (pre.length : Int) := by omega
              have hb2 : (0 : Int) ≤ (pre.length : Int) - 1 - t := by omega
              have hb3 : (pre.length : Int) - 1 - t < (pre.length : Int) := by omega
              go_wp2
              go_region
              go_wp2
              go_roundg (gk - 1)
              case measure => omega
              case rel => exact ⟨t + 1, by omega, by go_num, by go_num, hO3.drew⟩
            · rw [mixed_end (u8s pre) t (by simp; omega), ← u8s_reverse] at hOt
              have hrl : pre.reverse.length = pre.length := by simp
              have hr := hOt.rd
              have H4 : Hid (pre.reverse = (rdec n).reverse) := Lib.hid (by rw [H3.out])
              generalize pre.reverse = pr at *
              clear hrl
              go_wp2_with (refine wp_str rfl _ 30 9 5 rfl Try.underlying30 Try.underlying5 Try.underlying9 _ _ _ _ (by rfl) (by exact hr) ?_)
              go_ret
              exact ⟨by rw [H1.out, H4.out]; rfl, hOt.below⟩
        · have hm1 : 0 < m := by omega
          have hmz : ((m : Int) != 0) = true := by simp; omega
          have H2 : Hid ((pre ++ [dig10 m]) ++ rdec (m / 10) = rdec n) := Lib.hid (by rw [rdec_pos (by omega)] at hpre; rw [← hpre]; simp)
          have H3 : Hid (u8s (pre ++ [dig10 m]) = u8s pre ++ [.int .u8 (48 + (m : Int) % 10)]) := Lib.hid (by
            rw [u8s_append]
            have := u8s_one (48 + (m : Int) % 10) (by omega) (by omega)
            rw [show (48 + (m : Int) % 10).toNat = 48 + m % 10 from by omega] at this
            rw [← this]; rfl)
          clear hpre hm0
          obtain ⟨av, cv, rfl, _, _⟩ := hOk.shape
          go_wp2_with (at_builtin; go_loud (refine wp_app1 rfl _ _ 30 rfl 5 (.int .u8 0) 1 1 Try.underlying30 info_u8 rfl (by decide) w.heap.size w _ _ _ (by rfl) (by exact hOk) _ _ (by rfl) (by rfl) (by intro u hu; simp at hu; first | (subst hu; rfl) | (rcases hu with rfl | rfl <;> rfl) | (rcases hu with rfl | rfl | rfl <;> rfl) | (rcases hu with rfl | rfl | rfl | rfl <;> rfl)) (by omega) (by unfold maxLen; omega) ?_); intro a2 c2 w2 hO2)
          go_wp2
          go_roundg (m / 10)
          case measure => omega
          case rel => exact ⟨m / 10, pre ++ [dig10 m], rfl, by omega, by go_num, H2.out, by rw [H3.out, List.length_append]; exact hO2⟩
    · obtain ⟨n, rfl⟩ : ∃ m : Nat, n = -(m : Int) := ⟨n.natAbs, by omega⟩
      have H1 : Hid (decL (-(n : Int)) = (rdec n ++ [45]).reverse) := Lib.hid (by unfold decL; rw [if_neg h0, if_pos (by omega)]; simp)
      have hl := rdec_len19 n (by omega)
      have hl1 : 0 < (rdec n).length := by rw [rdec_pos (by omega)]; simp
      have hz : (-(n : Int) == 0) = false := by simp; omega
      have hn : -(n : Int) < 0 := by omega
      clear h0
      go_enter Try.func44, Try.ntmps44
      go_wp2
      go_loopg [3, 4] n (fun g o nv wr => ∃ (m : Nat) (pre : List UInt8), m = g ∧ m ≤ 9223372036854775808 ∧ nv = .int .i64 (-(m : Int)) ∧ pre ++ rdec m = rdec n ∧ Own 5 1 w.heap.size w o pre.length (u8s pre) wr)
      case atStart => exact ⟨n, [], rfl, by omega, rfl, rfl, by simpa [u8s] using Own.lit (e := 5) (size := 1) (n := 0) (Below.refl w.heap.size w) (Nat.le_refl _) #[] rfl (by decide)⟩
      case round =>
        obtain ⟨m, pre, rfl, hm, rfl, hpre, hOk⟩ := hrel
        have hpl : pre.length ≤ 19 := by have := congrArg List.length hpre; rw [List.length_append] at this; omega
        by_cases hm0 : m = 0
        · subst hm0
          have H2 : pre = rdec n := by rw [rdec_zero] at hpre; simpa using hpre
          rw [← H2] at hl1
          have H3 := Lib.hid H2
          clear hpre H2 hl hm
          obtain ⟨av, cv, rfl, _, _⟩ := hOk.shape
          go_wp2_with (at_builtin; go_loud (refine wp_app1 rfl _ _ 30 rfl 5 (.int .u8 0) 1 1 Try.underlying30 info_u8 rfl (by decide) w.heap.size w _ _ _ (by rfl) (by exact hOk) _ _ (by rfl) (by rfl) (by intro u hu; simp at hu; first | (subst hu; rfl) | (rcases hu with rfl | rfl <;> rfl) | (rcases hu with rfl | rfl | rfl <;> rfl) | (rcases hu with rfl | rfl | rfl | rfl <;> rfl)) (by omega) (by unfold maxLen; omega) ?_); intro a2 c2 w2 hO2)
          obtain ⟨g, cap, he, hg⟩ := hO2.shape1 (by omega)
          simp only [Value.slice.injEq] at he
          obtain ⟨rfl, _, rfl⟩ := he
          have hOm : Own 5 1 w.heap.size w (.slice (some ⟨g, 0, none⟩) (pre ++ [45]).length c2) (pre ++ [45]).length (u8s (pre ++ [45])) w2 := by
            rw [u8s_append, List.length_append]; exact hO2
          have hpm : (pre ++ [45]).length = pre.length + 1 := by simp
          have H5 : Hid (pre ++ [45] = rdec n ++ [45]) := Lib.hid (by rw [H3.out])
          have hpl2 : (pre ++ [(45 : UInt8)]).length ≤ 20 := by simp; omega
          rw [← hpm]
          have H6 := Lib.hid hpm
          clear hO2 hOk H3 hpm hpl
          generalize pre ++ [(45 : UInt8)] = pre at *
          have H3 := H5
          have hOk := hOm
          obtain ⟨cap, hcap⟩ : ∃ c, c = c2 := ⟨_, rfl⟩
          subst hcap
          go_loopg [6, 7] pre.length (fun gg i j wr2 => ∃ t : Nat, t + gg = pre.length ∧ i = .int .i64 t ∧ j = .int .i64 ((pre.length : Int) - 1 - t) ∧ Own 5 1 w.heap.size w (.slice (some ⟨g, 0, none⟩) pre.length cap) pre.length (mixed (u8s pre) t) wr2)
          case atStart => exact ⟨0, by omega, rfl, by have := H6.out; simp; omega, by rw [mixed_zero]; exact hOk⟩
          case round =>
            obtain ⟨t, ht, rfl, rfl, hOt⟩ := hrel
            by_cases hlt : (t : Int) < (pre.length : Int) - 1 - t
            · have hc1 := hOt.cell t (by rw [mixed_length]; simp; omega)
              have hc2 := hOt.cell (pre.length - 1 - t) (by rw [mixed_length]; simp; omega)
              have hf1 := hOt.free t
              have hf2 := hOt.free (pre.length - 1 - t)
              obtain ⟨x, hx1⟩ := u8s_mem (mixed_mem (u8s pre) t t (by rw [mixed_length]; simp; omega))
              obtain ⟨y, hy1⟩ := u8s_mem (mixed_mem (u8s pre) t (pre.length - 1 - t) (by rw [mixed_length]; simp; omega))
              obtain ⟨u, hu⟩ : ∃ u, u = (mixed (u8s pre) t)[t]'(by rw [mixed_length]; simp; omega) := ⟨_, rfl⟩
              obtain ⟨v, hv⟩ : ∃ v, v = (mixed (u8s pre) t)[pre.length - 1 - t]'(by rw [mixed_length]; simp; omega) := ⟨_, rfl⟩
              have hm1 := mixed_step (u8s pre) t (by simp; omega) u v hu.symm (by rw [hv]; simp)
              rw [u8s_length] at hm1
              have hO3 := (hOt.set t v).set (pre.length - 1 - t) u
              rw [hm1] at hO3
              rw [← hu] at hc1
              rw [← hv] at hc2
              rw [← hu] at hx1
              rw [← hv] at hy1
              subst hx1
              subst hy1
              clear hu hv hm1 hOt
              have hb1 : (t : Int) < (pre.length : Int) := by omega
              have hb2 : (0 : Int) ≤ (pre.length : Int) - 1 - t := by omega
              have hb3 : (pre.length : Int) - 1 - t < (pre.length : Int) := by omega
              go_wp2
              go_region
              go_wp2
              go_roundg (gk - 1)
              case measure => omega
              case rel => exact ⟨t + 1, by omega, by go_num, by go_num, hO3.drew⟩
            · rw [mixed_end (u8s pre) t (by simp; omega), ← u8s_reverse] at hOt
              have hrl : pre.reverse.length = pre.length := by simp
              have hr := hOt.rd
              have H4 : Hid (pre.reverse = (rdec n ++ [45]).reverse) := Lib.hid (by rw [H3.out])
              generalize pre.reverse = pr at *
              clear hrl
              go_wp2_with (refine wp_str rfl _ 30 9 5 rfl Try.underlying30 Try.underlying5 Try.underlying9 _ _ _ _ (by rfl) (by exact hr) ?_)
              go_ret
              exact ⟨by rw [H1.out, H4.out]; rfl, hOt.below⟩
        · have hm1 : 0 < m := by omega
          have hmz : (-(m : Int) != 0) = true := by simp; omega
          have H2 : Hid ((pre ++ [dig10 m]) ++ rdec (m / 10) = rdec n) := Lib.hid (by rw [rdec_pos (by omega)] at hpre; rw [← hpre]; simp)
          have H3 : Hid (u8s (pre ++ [dig10 m]) = u8s pre ++ [.int .u8 (48 + (m : Int) % 10)]) := Lib.hid (by
            rw [u8s_append]
            have := u8s_one (48 + (m : Int) % 10) (by omega) (by omega)
            rw [show (48 + (m : Int) % 10).toNat = 48 + m % 10 from by omega] at this
            rw [← this]; rfl)
          clear hpre hm0
          obtain ⟨av, cv, rfl, _, _⟩ := hOk.shape
          by_cases h10 : m % 10 = 0
          · have H4 : Hid (u8s (pre ++ [dig10 m]) = u8s pre ++ [.int .u8 (48 + -((m : Int) % 10))]) := Lib.hid (by rw [H3.out, show (48 + (m : Int) % 10) = 48 + -((m : Int) % 10) from by omega])
            have h11 : (m : Int) % 10 ≤ 0 := by omega
            clear h10
            go_wp2_with (at_builtin; go_loud (refine wp_app1 rfl _ _ 30 rfl 5 (.int .u8 0) 1 1 Try.underlying30 info_u8 rfl (by decide) w.heap.size w _ _ _ (by rfl) (by exact hOk) _ _ (by rfl) (by rfl) (by intro u hu; simp at hu; first | (subst hu; rfl) | (rcases hu with rfl | rfl <;> rfl) | (rcases hu with rfl | rfl | rfl <;> rfl) | (rcases hu with rfl | rfl | rfl | rfl <;> rfl)) (by omega) (by unfold maxLen; omega) ?_); intro a2 c2 w2 hO2)
            go_wp2
            go_roundg (m / 10)
            case measure => omega
            case rel => exact ⟨m / 10, pre ++ [dig10 m], rfl, by omega, by go_num, H2.out, by rw [H4.out, List.length_append]; exact hO2⟩
          · have h11 : 0 < (m : Int) % 10 := by omega
            clear h10
            go_wp2_with (at_builtin; go_loud (refine wp_app1 rfl _ _ 30 rfl 5 (.int .u8 0) 1 1 Try.underlying30 info_u8 rfl (by decide) w.heap.size w _ _ _ (by rfl) (by exact hOk) _ _ (by rfl) (by rfl) (by intro u hu; simp at hu; first | (subst hu; rfl) | (rcases hu with rfl | rfl <;> rfl) | (rcases hu with rfl | rfl | rfl <;> rfl) | (rcases hu with rfl | rfl | rfl | rfl <;> rfl)) (by omega) (by unfold maxLen; omega) ?_); intro a2 c2 w2 hO2)
            go_wp2
            go_roundg (m / 10)
            case measure => omega
            case rel => exact ⟨m / 10, pre ++ [dig10 m], rfl, by omega, by go_num, H2.out, by rw [H3.out, List.length_append]; exact hO2⟩

end Go.Proofs.Ytiakfclfipiaoaa
