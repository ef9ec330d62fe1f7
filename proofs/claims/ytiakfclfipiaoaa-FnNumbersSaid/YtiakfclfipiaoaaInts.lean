/- The laws' own helpers on lists of whole numbers: a copy; are two alike; marks laid, and looked at again. -/
import Derived.Test.YtiakfclfipiaoaaIn
namespace Go.Proofs.Ytiakfclfipiaoaa
open Go.RowKit

theorem info_i64 : (Try.prog.info? 3).map (fun i => (i.zero, i.size, i.bytes)) = some (some (.int .i64 0), 1, 8) := by kernel_rfl

theorem set_step (l : List Int) (k : Nat) (h : k < l.length) (z : Value) : ((ints (l.take k)) ++ List.replicate (l.length - k) z).set k (.int .i64 l[k]) = ints (l.take (k + 1)) ++ List.replicate (l.length - (k + 1)) z := by
  have e : l.length - k = (l.length - (k + 1)) + 1 := by omega
  rw [List.set_append_right _ _ (by simp; omega), e, List.replicate_succ, List.take_succ_eq_append_getElem h, ints_append]
  have e2 : k - (ints (l.take k)).length = 0 := by simp; omega
  rw [e2]
  simp [ints]

set_option maxRecDepth 1000000 in
set_option maxHeartbeats 2000000 in
theorem toInts_any (a : Option Addr) (n cap : Nat) (l : List Int) (w : World) (h : Rd w a n cap 1 (ints l)) (hn : n ≤ 1048576) :
    Calls Try.prog 14 #[.slice a n cap] w fun e w' => ∃ g c, e = .returned (.slice (some ⟨g, 0, none⟩) n c) ∧ Own 3 1 w.heap.size w (.slice (some ⟨g, 0, none⟩) n c) n (ints l) w' := by
  have hl : l.length = n := by have := h.len; simpa using this
  subst hl
  go_enter Try.func14, Try.ntmps14
  go_wp2_with (at_make; refine wp_maken rfl _ _ 22 rfl 3 (.int .i64 0) 8 Try.underlying22 info_i64 rfl w.heap.size w (Below.refl _ _) (Nat.le_refl _) _ _ _ _ l.length (by rfl) (by rfl) (by rfl) (by rfl) (by omega) (by unfold maxLen; omega) ?_; intro w1 hO)
  go_loopg [4] l.length (fun gg i wr => ∃ k : Nat, k + gg = l.length ∧ i = .int .i64 k ∧ Own 3 1 w.heap.size w (.slice (some ⟨w.heap.size, 0, none⟩) l.length l.length) l.length (ints (l.take k) ++ List.replicate (l.length - k) (.int .i64 0)) wr)
  case atStart => exact ⟨0, by omega, rfl, by simpa [ints] using hO⟩
  case round =>
    obtain ⟨k, hk, rfl, hOk⟩ := hrel
    by_cases hlt : k < l.length
    · obtain ⟨b, off, rfl, hbs, hc⟩ := h.at' (by omega)
      have hc1 := hc k (by simpa using hlt)
      have hB := hOk.below
      rw [← hB.cell (p := ⟨b, off + k, none⟩) (by exact hbs), ints_get l k hlt] at hc1
      have hc2 := hOk.cell k (by simp; omega)
      have hf := hOk.free k
      have hS := hOk.set k (.int .i64 l[k])
      rw [set_step l k hlt] at hS
      generalize (ints (l.take k) ++ List.replicate (l.length - k) (Value.int .i64 0))[k]'(by simp; omega) = u at hc2
      clear hc hOk hO hB h
      go_wp2
      go_roundg (gk - 1)
      case measure => omega
      case rel => exact ⟨k + 1, by omega, by go_num, hS⟩
    · have hkl : k = l.length := by omega
      subst hkl
      rw [List.take_length, Nat.sub_self, List.replicate_zero, List.append_nil] at hOk
      go_wp2
      go_ret
      exact ⟨_, _, rfl, hOk⟩
set_option maxRecDepth 1000000 in
set_option maxHeartbeats 2000000 in
theorem eqInts_yes (a b : Option Addr) (n m c d : Nat) (l : List Int) (w : World) (ha : Rd w a n c 1 (ints l)) (hb : Rd w b m d 1 (ints l)) (hn : n ≤ 1073741824) :
    Calls Try.prog 16 #[.slice a n c, .slice b m d] w fun e w' => e = .returned (.bool true) ∧ Below w.heap.size w w' := by
  have hl : l.length = n := by have := ha.len; simpa using this
  have hl2 : l.length = m := by have := hb.len; simpa using this
  subst hl
  subst hl2
  go_enter Try.func16, Try.ntmps16
  go_wp2
  go_loopg [5] l.length (fun gg i wr => ∃ k : Nat, k + gg = l.length ∧ i = .int .i64 k ∧ Below w.heap.size w wr)
  case atStart => exact ⟨0, by omega, rfl, Below.refl _ _⟩
  case round =>
    obtain ⟨k, hk, rfl, hB⟩ := hrel
    by_cases hlt : k < l.length
    · obtain ⟨ba, oa, rfl, hba, hca⟩ := ha.at' (by omega)
      obtain ⟨bb, ob, rfl, hbb, hcb⟩ := hb.at' (by omega)
      have hc1 := hca k (by simpa using hlt)
      have hc2 := hcb k (by simpa using hlt)
      rw [← hB.cell (p := ⟨ba, oa + k, none⟩) (by exact hba), ints_get l k hlt] at hc1
      rw [← hB.cell (p := ⟨bb, ob + k, none⟩) (by exact hbb), ints_get l k hlt] at hc2
      have hi : (k : Int) < (l.length : Int) := by omega
      have hne : ((l[k] : Int) != l[k]) = false := by simp
      clear hca hcb ha hb
      go_wp2
      go_quiet (fail)
      go_wp2
      go_roundg (gk - 1)
      case measure => omega
      case rel => exact ⟨k + 1, by omega, by go_num, below_drewN hB _⟩
    · go_wp2
      go_ret
      exact ⟨rfl, hB⟩
theorem marks_set (k : Int) (n j : Nat) (l : List Int) (hl : l.length = n) (h : j < n) : (ints (marks k j) ++ ints (l.drop j)).set j (.int .i64 (k + j)) = ints (marks k (j + 1)) ++ ints (l.drop (j + 1)) := by
  have e : marks k (j + 1) = marks k j ++ [k + (j : Int)] := by simp [marks, List.range_succ]
  have e2 : ints (l.drop j) = .int .i64 l[j] :: ints (l.drop (j + 1)) := by rw [List.drop_eq_getElem_cons (by omega)]; rfl
  rw [e, ints_append, e2, List.set_append_right _ _ (by simp), show j - (ints (marks k j)).length = 0 from by simp, List.set_cons_zero]
  simp [ints]
set_option maxRecDepth 1000000 in
set_option maxHeartbeats 2000000 in
theorem markInts_any (e : TypeId) (B : Nat) (W0 : World) (a : Option Addr) (n cap : Nat) (l : List Int) (k : Int) (w : World) (h : Own e 1 B W0 (.slice a n cap) n (ints l) w) (hn : n ≤ 1073741824) (hk0 : 0 ≤ k) (hk1 : k ≤ 1073741824) :
    Calls Try.prog 19 #[.slice a n cap, .int .i64 k] w fun e' w' => e' = .returned (.int .i64 (k + n)) ∧ Own e 1 B W0 (.slice a n cap) n (ints (marks k n)) w' ∧ w.grownBy w' (Value.ownBlock (.slice a n cap)) := by
  have hl : l.length = n := by have := h.rd.len; simpa using this
  go_enter Try.func19, Try.ntmps19
  go_wp2
  go_loopg [1, 5] n (fun gg m i wr => ∃ j : Nat, j + gg = n ∧ i = .int .i64 j ∧ m = .int .i64 (k + j) ∧ Own e 1 B W0 (.slice a n cap) n (ints (marks k j) ++ ints (l.drop j)) wr ∧ w.grownBy wr (Value.ownBlock (.slice a n cap)))
  case atStart => exact ⟨0, by omega, rfl, by simp, by simpa [marks, ints] using h, World.grownBy.refl _ _⟩
  case round =>
    obtain ⟨j, hj, rfl, rfl, hO, hG⟩ := hrel
    by_cases hlt : j < n
    · obtain ⟨g, cap', he, hg⟩ := hO.shape1 (by omega)
      simp only [Value.slice.injEq] at he
      obtain ⟨rfl, _, rfl⟩ := he
      have hc := hO.cell j (by simp; omega)
      have hf := hO.free j
      have hS := hO.set j (.int .i64 (k + j))
      have hGs : wr.grownBy (wr.setCell ⟨g, j, none⟩ (.int .i64 (k + j))) (Value.ownBlock (.slice (some ⟨g, 0, none⟩) n cap)) := (hO.row.stored j _).2
      have hG2 : w.grownBy (wr.setCell ⟨g, j, none⟩ (.int .i64 (k + j))) (Value.ownBlock (.slice (some ⟨g, 0, none⟩) n cap)) :=
        ⟨hGs.os.trans hG.os, hGs.tape.trans hG.tape, hGs.output.trans hG.output, Nat.le_trans hG.size hGs.size, fun q hq hne => (hGs.block q (Nat.lt_of_lt_of_le hq hG.size) hne).trans (hG.block q hq hne)⟩
      rw [marks_set k n j l hl hlt] at hS
      generalize (ints (marks k j) ++ ints (l.drop j))[j]'(by simp; omega) = u at hc
      clear hG hGs hO h
      go_wp2
      go_roundg (gk - 1)
      case measure => omega
      case rel => exact ⟨j + 1, by omega, by go_num, by go_num, hS, hG2⟩
    · have hjn : j = n := by omega
      subst hjn
      rw [List.drop_of_length_le (by omega)] at hO
      go_wp2
      go_ret
      exact ⟨rfl, by simpa [ints] using hO, hG⟩
set_option maxRecDepth 1000000 in
set_option maxHeartbeats 2000000 in
theorem heldInts_yes (a : Option Addr) (n cap : Nat) (k : Int) (w : World) (h : Rd w a n cap 1 (ints (marks k n))) (hn : n ≤ 1073741824) (hk0 : 0 ≤ k) (hk1 : k ≤ 1073741824) :
    Calls Try.prog 20 #[.slice a n cap, .int .i64 k] w fun e' w' => e' = .returned (.int .i64 (k + n)) ∧ w = w' := by
  go_enter Try.func20, Try.ntmps20
  go_wp2
  go_loopg [1, 5] n (fun gg m i wr => ∃ j : Nat, j + gg = n ∧ i = .int .i64 j ∧ m = .int .i64 (k + j) ∧ wr = w)
  case atStart => exact ⟨0, by omega, rfl, by simp, rfl⟩
  case round =>
    obtain ⟨j, hj, rfl, rfl, rfl⟩ := hrel
    by_cases hlt : j < n
    · obtain ⟨b, off, rfl, hbs, hc⟩ := h.at' (by omega)
      have hc1 := hc j (by simpa using hlt)
      rw [ints_get _ j (by simpa using hlt), marks_get k n j hlt] at hc1
      have hne : ((k + (j : Int)) != k + (j : Int)) = false := by simp
      clear hc h
      go_wp2
      go_roundg (gk - 1)
      case measure => omega
      case rel => exact ⟨j + 1, by omega, by go_num, by go_num, rfl⟩
    · have hjn : j = n := by omega
      subst hjn
      go_wp2
      go_ret
      exact ⟨rfl, rfl⟩
end Go.Proofs.Ytiakfclfipiaoaa
