/- A cursor is made; numbers and texts that are drawn from it. -/
import Derived.Test.YtgoodpphinakaaaDoorCur
namespace Go.Proofs.YtgoodpphinakaaaDoor
open Go.RowKit

/-- The number at the beginning. -/
def newH (bs : List Int) : Int := (bs.take 4000).foldl (fun h b => (h * 131 + b + 7) % 1073741824) (10101 + bs.length)
theorem newH_take (bs : List Int) (k : Nat) (h : k < bs.length) (h0 : ∀ z ∈ bs, 0 ≤ z ∧ z ≤ 255) : (bs.take (k + 1)).foldl (fun h b => (h * 131 + b + 7) % 1073741824) (10101 + bs.length : Int) = ((bs.take k).foldl (fun h b => (h * 131 + b + 7) % 1073741824) (10101 + bs.length : Int) * 131 + bs[k] + 7) % 1073741824 := by
  rw [List.take_succ_eq_append_getElem h, List.foldl_append]
  rfl
theorem newH_range (l : List Int) (x : Int) (hx : 0 ≤ x ∧ x ≤ 1073741823) : 0 ≤ l.foldl (fun h b => (h * 131 + b + 7) % 1073741824) x ∧ l.foldl (fun h b => (h * 131 + b + 7) % 1073741824) x ≤ 1073741823 := by
  induction l generalizing x with
  | nil => exact hx
  | cons b l ih => rw [List.foldl_cons]; exact ih _ (by omega)
theorem i64_and30 (x : Int) (h₀ : 0 ≤ x) (h₁ : x < 9223372036854775808) : bits .and .i64 x 1073741823 = x % 1073741824 := bits_mask .i64 63 (by decide) wraps_i64 30 (by decide) x h₀ h₁

def MadeCur (a : Option Addr) (n cap : Nat) (bs : List Int) (w : World) (e : Ending) (w' : World) : Prop :=
  e = .returned (.pointer (some ⟨w.heap.size, 0, none⟩)) ∧ CurAt a n cap bs w.heap.size ⟨0, newH bs⟩ w' ∧ Below w.heap.size w w'
set_option maxRecDepth 1000000 in
set_option maxHeartbeats 6000000 in
theorem l1New_any (a : Option Addr) (n cap : Nat) (bs : List Int) (w : World) (h : Rd w a n cap 1 (bs.map (Value.int .u8))) (hb : ∀ z ∈ bs, 0 ≤ z ∧ z ≤ 255) (hn : n ≤ 1048576) :
    Calls Tryd.prog 58 #[.slice a n cap] w (MadeCur a n cap bs w) := by
  have hl : bs.length = n := by have := h.len; simpa using this
  subst hl
  have HB := Lib.hid hb
  have HN := Lib.hid h
  clear hb
  go_enter Tryd.func58, Tryd.ntmps58
  go_wp2
  go_loopg [3, 4] bs.length (fun gg hh i wr => ∃ k : Nat, k + gg = bs.length ∧ k ≤ 4000 ∧ i = .int .i64 (k : Int) ∧ hh = .int .i64 ((bs.take k).foldl (fun h b => (h * 131 + b + 7) % 1073741824) (10101 + bs.length : Int)) ∧ wr = w)
  case atStart => exact ⟨0, by omega, by omega, rfl, by simp, rfl⟩
  case round =>
    obtain ⟨k, hk, hk4, rfl, rfl, rfl⟩ := hrel
    have hr := newH_range (bs.take k) (10101 + bs.length : Int) (by omega)
    by_cases hlt : k < bs.length
    · by_cases hlt4 : k < 4000
      · obtain ⟨b, off, rfl, hbs, hc⟩ := h.at' (by omega)
        have hc1 := hc k (by simpa using hlt)
        rw [List.getElem_map] at hc1
        have hq := HB.out _ (List.getElem_mem hlt)
        have hS := Lib.hid (newH_take bs k hlt HB.out)
        obtain ⟨hq0, hq1⟩ := hq
        obtain ⟨hr0, hr1⟩ := hr
        generalize bs[k] = q at *
        generalize (bs.take k).foldl (fun h b => (h * 131 + b + 7) % 1073741824) (10101 + bs.length : Int) = H at *
        have hm := Lib.hid (i64_and30 (H * 131 + q + 7) (by omega) (by omega))
        clear hc h
        go_wp2
        rw [hm.out]
        go_roundg (gk - 1)
        case measure => omega
        case rel => exact ⟨k + 1, by omega, by omega, by go_num, by rw [hS.out], rfl⟩
      · have hk0 : k = 4000 := by omega
        have hF : Hid ((bs.take k).foldl (fun h b => (h * 131 + b + 7) % 1073741824) (10101 + bs.length : Int) = newH bs) := Lib.hid (by rw [hk0]; rfl)
        have hd : decide ((k : Int) < 4000) = false := by simp; omega
        have hd2 : ¬ (k : Int) < 4000 := by omega
        rw [hF.out]
        clear hk0 hlt4 h
        go_wp2
        go_ret
        refine ⟨rfl, ⟨by go_simp, by go_simp, by go_simp, by go_simp, by go_simp, HN.out.alloc _, ?_, HB.out, hn, Nat.zero_le _⟩, (Below.refl _ _).alloc (Nat.le_refl _) _⟩
        intro x hx _
        obtain ⟨b, off, e, hlt, _⟩ := HN.out.at' (by omega)
        rw [hx] at e; cases e
        exact hlt
    · have hF : Hid ((bs.take k).foldl (fun h b => (h * 131 + b + 7) % 1073741824) (10101 + bs.length : Int) = newH bs) := Lib.hid (by rw [List.take_of_length_le (by omega)]; unfold newH; rw [List.take_of_length_le (by omega)])
      have hkl : k = bs.length := by omega
      have hlt2 : ¬ (k : Int) < (bs.length : Int) := by omega
      rw [hF.out]
      clear hkl h
      go_wp2
      go_ret
      refine ⟨rfl, ⟨by go_simp, by go_simp, by go_simp, by go_simp, by go_simp, HN.out.alloc _, ?_, HB.out, hn, Nat.zero_le _⟩, (Below.refl _ _).alloc (Nat.le_refl _) _⟩
      intro x hx h0
      obtain ⟨b, off, e, hlt, _⟩ := HN.out.at' h0
      rw [hx] at e; cases e
      exact hlt

/-- A number, small, at a limit, or any. -/
def numL : List Int := [-1, 0, 127, 128, 255, 256, 16383, 16384, 65535, 65536, 562949953421311, 562949953421312, 999999999, 1000000000, -999999999, 9223372036854775807, -9223372036854775808]
def numF (bs : List Int) (s : CS) : Int × CS :=
  let r := belowF bs 8 s
  if r.1 = 0 then (numL.getD (belowF bs 17 r.2).1.toNat 0, (belowF bs 17 r.2).2)
  else if r.1 = 1 then ((belowF bs 1000000000 r.2).1 * (belowF bs 1000000000 (belowF bs 1000000000 r.2).2).1, (belowF bs 1000000000 (belowF bs 1000000000 r.2).2).2)
  else if r.1 = 2 then (-(belowF bs 100000 r.2).1, (belowF bs 100000 r.2).2)
  else belowF bs 70000 r.2
theorem numL_range : ∀ k : Nat, -9223372036854775808 ≤ numL.getD k 0 ∧ numL.getD k 0 ≤ 9223372036854775807 := by
  intro k
  have h : ∀ x ∈ numL, -9223372036854775808 ≤ x ∧ x ≤ (9223372036854775807 : Int) := by decide
  by_cases hk : k < numL.length
  · rw [List.getD_eq_getElem?_getD, List.getElem?_eq_getElem hk]; exact h _ (List.getElem_mem hk)
  · rw [List.getD_eq_getElem?_getD, List.getElem?_eq_none (by omega)]; decide
theorem numF_range (bs : List Int) (s : CS) : -9223372036854775808 ≤ (numF bs s).1 ∧ (numF bs s).1 ≤ 9223372036854775807 := by
  unfold numF
  simp only
  split
  · exact numL_range _
  · split
    · have h1 := belowF_range bs 1000000000 (belowF bs 8 s).2 (by omega)
      have h2 := belowF_range bs 1000000000 (belowF bs 1000000000 (belowF bs 8 s).2).2 (by omega)
      simp only
      generalize (belowF bs 1000000000 (belowF bs 8 s).2).1 = x at *
      generalize (belowF bs 1000000000 (belowF bs 1000000000 (belowF bs 8 s).2).2).1 = y at *
      have h3 := Int.mul_nonneg h1.1 h2.1
      have h4 : x * y ≤ 1000000000 * 1000000000 := Int.mul_le_mul (by omega) (by omega) h2.1 (by omega)
      omega
    · split
      · have h1 := belowF_range bs 100000 (belowF bs 8 s).2 (by omega)
        simp only; omega
      · have h1 := belowF_range bs 70000 (belowF bs 8 s).2 (by omega)
        omega
end Go.Proofs.YtgoodpphinakaaaDoor
