/- The laws' own helpers: a byte of the code; is the code too long; are two lists alike. -/
import Derived.Test.YtiakfclfipiaoaaInts
namespace Go.Proofs.Ytiakfclfipiaoaa
open Go.RowKit

set_option maxRecDepth 1000000 in
set_option maxHeartbeats 2000000 in
theorem big_no_any (a : Option Addr) (n cap : Nat) (w : World) (hn : n ≤ 1048576) : Calls Try.prog 23 #[.slice a n cap] w fun e w' => e = .returned (.bool false) ∧ w = w' := by
  go_enter Try.func23, Try.ntmps23
  go_wp2
  go_ret
  exact ⟨ret_bool (by simp; omega), rfl⟩
set_option maxRecDepth 1000000 in
set_option maxHeartbeats 2000000 in
theorem big_any_any (a : Option Addr) (n cap : Nat) (w : World) (hn : 1048576 < n) (hm : n ≤ maxLen) : Calls Try.prog 23 #[.slice a n cap] w fun e w' => e = .returned (.bool true) ∧ w = w' := by
  unfold maxLen at hm
  go_enter Try.func23, Try.ntmps23
  go_wp2
  go_ret
  exact ⟨ret_bool (by simp; omega), rfl⟩

set_option maxRecDepth 1000000 in
set_option maxHeartbeats 2000000 in
theorem at_any (a : Option Addr) (n cap : Nat) (zs : List Int) (k : Nat) (w : World) (h : Rd w a n cap 1 (zs.map (Value.int .u8))) (hz : ∀ z ∈ zs, (Lit.int .u8 z).wf = true) (hn : n ≤ 1048576) (hk : k ≤ 1048576) :
    Calls Try.prog 24 #[.slice a n cap, .int .i64 k] w fun e w' => (∃ x : Int, (0 ≤ x ∧ x ≤ 255) ∧ e = .returned (.int .i64 x)) ∧ w = w' := by
  have hl : zs.length = n := by have := h.len; simpa using this
  subst hl
  by_cases hlt : k < zs.length
  · obtain ⟨b, off, rfl, hbs, hc⟩ := h.at' (by omega)
    have hc1 := hc k (by simpa using hlt)
    rw [List.getElem_map] at hc1
    have hb0 : 0 ≤ zs[k] ∧ zs[k] ≤ 255 := by have := hz zs[k] (List.getElem_mem _); simpa [Lit.wf, IntKind.min, IntKind.max, IntKind.signed, IntKind.bits] using this
    obtain ⟨hb0, hb1⟩ := hb0
    clear hc h hz
    generalize zs[k] = q at *
    go_enter Try.func24, Try.ntmps24
    go_wp2
    go_ret
    exact ⟨⟨_, by omega, rfl⟩, rfl⟩
  · clear h hz
    go_enter Try.func24, Try.ntmps24
    go_wp2
    go_ret
    exact ⟨⟨_, by omega, rfl⟩, rfl⟩

set_option maxRecDepth 1000000 in
set_option maxHeartbeats 2000000 in
theorem sameInts_any (a b : Option Addr) (n m c d : Nat) (l r : List Int) (w : World) (ha : Rd w a n c 1 (ints l)) (hb : Rd w b m d 1 (ints r)) (hn : n ≤ 1073741824) (hm : m ≤ 1073741824) :
    Calls Try.prog 26 #[.slice a n c, .slice b m d] w fun e w' => e = .returned (.bool (decide (l = r))) ∧ Below w.heap.size w w' := by
  have hl : l.length = n := by have := ha.len; simpa using this
  have hl2 : r.length = m := by have := hb.len; simpa using this
  by_cases hnm : n = m
  · subst hnm
    have HL := Lib.hid hl
    have HL2 := Lib.hid hl2
    clear hl hl2
    go_enter Try.func26, Try.ntmps26
    go_wp2
    go_loopg [5] n (fun gg i wr => ∃ k : Nat, k + gg = n ∧ i = .int .i64 k ∧ l.take k = r.take k ∧ Below w.heap.size w wr)
    case atStart => exact ⟨0, by omega, rfl, rfl, Below.refl _ _⟩
    case round =>
      obtain ⟨k, hk, rfl, hT, hB⟩ := hrel
      have HT := Lib.hid hT
      clear hT
      by_cases hlt : k < n
      · have h1 : k < l.length := by have := HL.out; omega
        have h2 : k < r.length := by have := HL2.out; omega
        obtain ⟨ba, oa, rfl, hba, hca⟩ := ha.at' (by omega)
        obtain ⟨bb, ob, rfl, hbb, hcb⟩ := hb.at' (by omega)
        have hc1 := hca k (by simpa using h1)
        have hc2 := hcb k (by simpa using h2)
        rw [← hB.cell (p := ⟨ba, oa + k, none⟩) (by exact hba), ints_get l k h1] at hc1
        rw [← hB.cell (p := ⟨bb, ob + k, none⟩) (by exact hbb), ints_get r k h2] at hc2
        clear hca hcb ha hb
        have HB := Lib.hid hB
        clear hB
        by_cases he : l[k] = r[k]
        · have hne : (l[k] != r[k]) = false := by simp [he]
          have HE : Hid (l.take (k + 1) = r.take (k + 1)) := Lib.hid (by rw [List.take_succ_eq_append_getElem h1, List.take_succ_eq_append_getElem h2, HT.out, he])
          clear he
          go_wp2
          go_quiet (fail)
          go_wp2
          go_roundg (gk - 1)
          case measure => omega
          case rel => exact ⟨k + 1, by omega, by go_num, HE.out, below_drewN HB.out _⟩
        · have hne : (l[k] != r[k]) = true := by simpa using he
          have HE : Hid (l ≠ r) := Lib.hid (fun e => he (by subst e; rfl))
          clear he
          go_wp2
          go_quiet (fail)
          go_wp2
          go_ret
          exact ⟨ret_bool (by simpa using HE.out), below_drewN HB.out _⟩
      · have HE : Hid (l = r) := Lib.hid (by
          have h := HT.out
          rwa [List.take_of_length_le (by have := HL.out; omega), List.take_of_length_le (by have := HL2.out; omega)] at h)
        go_wp2
        go_ret
        exact ⟨ret_bool (by simpa using HE.out), hB⟩
  · have HE : Hid (l ≠ r) := Lib.hid (fun e => hnm (by rw [← hl, ← hl2, e]))
    clear hl hl2 ha hb
    have hne : ((n : Int) != (m : Int)) = true := by simp; omega
    go_enter Try.func26, Try.ntmps26
    go_wp2
    go_ret
    exact ⟨ret_bool (by simpa using HE.out), Below.refl _ _⟩
end Go.Proofs.Ytiakfclfipiaoaa
