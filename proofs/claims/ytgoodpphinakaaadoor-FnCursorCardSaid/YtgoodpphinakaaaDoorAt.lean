/- The laws' own helpers: a byte of the code; is the code too long; are two lists alike. -/
import Derived.Test.YtgoodpphinakaaaDoorInts
namespace Go.Proofs.YtgoodpphinakaaaDoor
open Go.RowKit

set_option maxRecDepth 1000000 in
set_option maxHeartbeats 6000000 in
theorem big_no_any (a : Option Addr) (n cap : Nat) (w : World) (hn : n ≤ 1048576) : Calls Tryd.prog 25 #[.slice a n cap] w fun e w' => e = .returned (.bool false) ∧ w = w' := by
  go_enter Tryd.func25, Tryd.ntmps25
  go_wp2
  go_ret
  exact ⟨ret_bool (by simp; omega), rfl⟩
set_option maxRecDepth 1000000 in
set_option maxHeartbeats 6000000 in
theorem big_any_any (a : Option Addr) (n cap : Nat) (w : World) (hn : 1048576 < n) (hm : n ≤ maxLen) : Calls Tryd.prog 25 #[.slice a n cap] w fun e w' => e = .returned (.bool true) ∧ w = w' := by
  unfold maxLen at hm
  go_enter Tryd.func25, Tryd.ntmps25
  go_wp2
  go_ret
  exact ⟨ret_bool (by simp; omega), rfl⟩

set_option maxRecDepth 1000000 in
set_option maxHeartbeats 6000000 in
theorem at_any (a : Option Addr) (n cap : Nat) (zs : List Int) (k : Nat) (w : World) (h : Rd w a n cap 1 (zs.map (Value.int .u8))) (hz : ∀ z ∈ zs, (Lit.int .u8 z).wf = true) (hn : n ≤ 1048576) (hk : k ≤ 1048576) :
    Calls Tryd.prog 49 #[.slice a n cap, .int .i64 k] w fun e w' => (∃ x : Int, (0 ≤ x ∧ x ≤ 255) ∧ e = .returned (.int .i64 x)) ∧ w = w' := by
  have hl : zs.length = n := by have := h.len; simpa using this
  subst hl
  by_cases hlt : k < zs.length
  · obtain ⟨b, off, rfl, hbs, hc⟩ := h.at' (by omega)
    have hc1 := hc k (by simpa using hlt)
    rw [List.getElem_map] at hc1
    have hb0 : 0 ≤ zs[k] ∧ zs[k] ≤ 255 := by have := hz zs[k] (List.getElem_mem _); simpa [Lit.wf, IntKind.min, IntKind.max, IntKind.signed, IntKind.bits] using this
    obtain ⟨hb0, hb1⟩ := hb0
    clear hc h hz
    generalize zs[k] = q at *
    go_enter Tryd.func49, Tryd.ntmps49
    go_wp2
    go_ret
    exact ⟨⟨_, by omega, rfl⟩, rfl⟩
  · clear h hz
    go_enter Tryd.func49, Tryd.ntmps49
    go_wp2
    go_ret
    exact ⟨⟨_, by omega, rfl⟩, rfl⟩

end Go.Proofs.YtgoodpphinakaaaDoor
