/- Is a number among a list: the reference's helper. -/
import Derived.Test.YtlkfabkkjfmnmaaGreatDoorIn
namespace Go.Proofs.YtlkfabkkjfmnmaaGreatDoor
open Go.RowKit

def among (c : Int) (l : List Int) : Bool := l.any (· == c)

theorem among_take_succ (c : Int) (l : List Int) (k : Nat) (h : k < l.length) : among c (l.take (k + 1)) = (among c (l.take k) || l[k] == c) := by
  unfold among
  rw [List.take_succ_eq_append_getElem h, List.any_append]
  simp only [List.any_cons, List.any_nil, Bool.or_false]

theorem among_of_take (c : Int) (l : List Int) (k : Nat) (h : among c (l.take k) = true) : among c l = true := by
  simp only [among, List.any_eq_true] at h ⊢
  obtain ⟨x, hx, e⟩ := h
  exact ⟨x, List.mem_of_mem_take hx, e⟩

set_option maxRecDepth 1000000 in
set_option maxHeartbeats 6000000 in
theorem among_any (c : Int) (a : Option Addr) (cap n : Nat) (l : List Int) (w : World) (h : Rd w a n cap 1 (l.map (.int .i64))) :
    Calls Tryz.prog 144 #[.int .i64 c, .slice a n cap] w fun e w' => e = .returned (.bool (among c l)) ∧ w = w' := by
  obtain ⟨hl, hle, hm, -, hr⟩ := h
  simp at hl
  subst hl
  unfold maxLen at hm
  go_enter Tryz.func144, Tryz.ntmps144
  go_wp2
  go_loop [5] (fun i => ∃ k : Nat, k ≤ l.length ∧ i = .int .i64 k ∧ among c (l.take k) = false) (fun i => l.length - (intOf i).toNat)
  case atStart => exact ⟨0, by omega, rfl, rfl⟩
  case round =>
    obtain ⟨k, hk, rfl, hf⟩ := hrel
    have hs := among_take_succ c l k
    by_cases hlt : k < l.length
    · obtain ⟨b, off, rfl, hbz, hc⟩ := hr (by omega)
      have hc1 := hc k (by simpa using hlt)
      simp only [List.getElem_map] at hc1
      clear hc
      have H := Lib.hid (hs hlt)
      have HF := Lib.hid hf
      clear hf hs
      go_wp2
      · go_ret
        have e : (l[k] == c) = true := by assumption
        exact ⟨ret_bool (by have := H.out; rw [e, HF.out] at this; exact (among_of_take c l _ (by simpa using this)).symm), rfl⟩
      · go_round
        case rel => 
          have e : (l[k] == c) = false := by assumption
          exact ⟨k + 1, by omega, by go_num, by rw [H.out, HF.out, e]; rfl⟩
        case measure => simp [intOf]; omega
    · go_wp2
      go_ret
      exact ⟨ret_bool (by rw [List.take_of_length_le (by omega)] at hf; exact hf.symm), rfl⟩

theorem among_any2 (c : Int) (a : Option Addr) (cap n : Nat) (l : List Int) (w : World) (h : Rd w a n cap 1 (l.map (.int .i64))) :
    Calls Tryz.prog 144 #[.int .i64 c, .slice a n cap] w fun e w' => e = .returned (.bool (among c l)) ∧ Below w.heap.size w w' :=
  (among_any c a cap n l w h).mono fun e w' ⟨h1, h2⟩ => ⟨h1, by subst h2; exact Below.refl _ _⟩
end Go.Proofs.YtlkfabkkjfmnmaaGreatDoor
