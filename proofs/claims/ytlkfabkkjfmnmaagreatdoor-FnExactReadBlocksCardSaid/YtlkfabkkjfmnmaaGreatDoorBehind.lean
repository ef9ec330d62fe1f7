/- The order of entries; is an id in range; is a text among texts. -/
import Derived.Test.YtlkfabkkjfmnmaaGreatDoorEnts
import Derived.Test.YtlkfabkkjfmnmaaGreatDoorKeyOf
namespace Go.Proofs.YtlkfabkkjfmnmaaGreatDoor
open Go.RowKit

def lessH (h1 k1 h2 k2 : Int) : Bool := decide (h1 < h2) || (decide (h1 = h2) && decide (k1 < k2))
theorem lessH_lt {h1 k1 h2 k2 : Int} (h : h1 < h2) : lessH h1 k1 h2 k2 = true := by unfold lessH; rw [decide_eq_true h]; rfl
theorem lessH_gt {h1 k1 h2 k2 : Int} (h : h2 < h1) : lessH h1 k1 h2 k2 = false := by unfold lessH; rw [decide_eq_false (by omega), decide_eq_false (by omega)]; rfl
theorem lessH_eq {h k1 k2 : Int} : lessH h k1 h k2 = decide (k1 < k2) := by unfold lessH; rw [decide_eq_false (by omega), decide_eq_true rfl]; rfl
set_option maxRecDepth 1000000 in
set_option maxHeartbeats 6000000 in
theorem isBehind_any (x : EntL) (h k : Int) (w : World) : Calls Tryz.prog 114 #[enV x, .int .i64 h, .int .i64 k] w fun e w' => e = .returned (.bool (lessH h k x.hash x.index)) ∧ Below w.heap.size w w' := by
  obtain ⟨a, b, c, d⟩ := x
  unfold enV
  simp only
  by_cases h1 : h < a
  · rw [lessH_lt h1]
    go_enter Tryz.func114, Tryz.ntmps114
    go_wp2
    go_ret
    exact ⟨rfl, ((Below.refl _ _).alloc (Nat.le_refl _) _)⟩
  · by_cases h2 : a = h
    · subst h2
      rw [lessH_eq]
      go_enter Tryz.func114, Tryz.ntmps114
      go_wp2
      go_ret
      exact ⟨rfl, ((Below.refl _ _).alloc (Nat.le_refl _) _)⟩
    · rw [lessH_gt (by omega)]
      go_enter Tryz.func114, Tryz.ntmps114
      go_wp2
      go_ret
      exact ⟨rfl, ((Below.refl _ _).alloc (Nat.le_refl _) _)⟩
set_option maxRecDepth 1000000 in
set_option maxHeartbeats 6000000 in
theorem l5Less_any (x : EntL) (h k : Int) (w : World) : Calls Tryz.prog 94 #[enV x, .int .i64 h, .int .i64 k] w fun e w' => e = .returned (.bool (lessH x.hash x.index h k)) ∧ Below w.heap.size w w' := by
  obtain ⟨a, b, c, d⟩ := x
  unfold enV
  simp only
  by_cases h1 : a < h
  · rw [lessH_lt h1]
    go_enter Tryz.func94, Tryz.ntmps94
    go_wp2
    go_ret
    exact ⟨rfl, ((Below.refl _ _).alloc (Nat.le_refl _) _)⟩
  · by_cases h2 : a = h
    · subst h2
      rw [lessH_eq]
      go_enter Tryz.func94, Tryz.ntmps94
      go_wp2
      go_ret
      exact ⟨rfl, ((Below.refl _ _).alloc (Nat.le_refl _) _)⟩
    · rw [lessH_gt (by omega)]
      go_enter Tryz.func94, Tryz.ntmps94
      go_wp2
      go_ret
      exact ⟨rfl, ((Below.refl _ _).alloc (Nat.le_refl _) _)⟩
set_option maxRecDepth 1000000 in
set_option maxHeartbeats 6000000 in
theorem isId_yes (x : Int) (w : World) (h : 1 ≤ x ∧ x ≤ 100000) : Calls Tryz.prog 113 #[.int .i64 x] w fun e w' => e = .returned (.bool true) ∧ w = w' := by
  obtain ⟨h0, h1⟩ := h
  go_enter Tryz.func113, Tryz.ntmps113
  go_wp2_with (first | (go_at_call 51; (first | refine (within_yes _ _ _ _ (by omega) (by omega)).mono ?_ | refine (within_no _ _ _ _ (by omega)).mono ?_); rintro e w' ⟨rfl, rfl⟩))
  go_ret
  exact ⟨rfl, rfl⟩
theorem isId_no (x : Int) (w : World) (h : x < 1 ∨ 100000 < x) : Calls Tryz.prog 113 #[.int .i64 x] w fun e w' => e = .returned (.bool false) ∧ w = w' := by
  go_enter Tryz.func113, Tryz.ntmps113
  go_wp2_with (first | (go_at_call 51; (first | refine (within_yes _ _ _ _ (by omega) (by omega)).mono ?_ | refine (within_no _ _ _ _ (by omega)).mono ?_); rintro e w' ⟨rfl, rfl⟩))
  go_ret
  exact ⟨rfl, rfl⟩
/-- Is a text among texts. -/
def amongB (l : List ByteArray) (x : ByteArray) : Bool := l.any (fun t => x.toList == t.toList)
def IdxR (l : List ByteArray) (x : ByteArray) (w : World) (e : Ending) (w' : World) : Prop := ∃ r : Int, e = .returned (.int .i64 r) ∧ decide (0 ≤ r) = amongB l x ∧ w = w'
set_option maxRecDepth 1000000 in
set_option maxHeartbeats 6000000 in
theorem idx_any (a : Option Addr) (n cap : Nat) (l : List ByteArray) (x : ByteArray) (w : World) (h : Rd w a n cap 1 (strs l)) (hn : n ≤ 1073741824) :
    Calls Tryz.prog 139 #[.slice a n cap, .string x] w (IdxR l x w) := by
  have hl : l.length = n := by have := h.len; simp at this; omega
  subst hl
  have H := Lib.hid h
  clear h
  go_enter Tryz.func139, Tryz.ntmps139
  go_wp2
  go_loopg [8] l.length (fun gg i wr => ∃ k : Nat, k + gg = l.length ∧ i = .int .i64 (k : Int) ∧ Hid (amongB (l.take k) x = false) ∧ wr = w)
  case atStart => exact ⟨0, by omega, rfl, Lib.hid rfl, rfl⟩
  case round =>
    obtain ⟨k, hk, rfl, HA, rfl⟩ := hrel
    by_cases hlt : k < l.length
    · obtain ⟨b, off, rfl, hbs, hc⟩ := H.out.at' (by omega)
      have hc0 := hc k (by simpa using hlt)
      rw [strs_get l k hlt] at hc0
      have hi : (k : Int) < (l.length : Int) := by omega
      have hi0 : (0 : Int) ≤ (k : Int) := by omega
      have HY : Hid ((x.toList == l[k].toList) = true → amongB l x = true) := Lib.hid (fun e => List.any_eq_true.2 ⟨l[k], List.getElem_mem hlt, e⟩)
      have HN : Hid ((x.toList == l[k].toList) = false → amongB (l.take (k + 1)) x = false) := Lib.hid (fun e => by
        have := HA.out
        unfold amongB at this ⊢
        rw [List.take_succ_eq_append_getElem hlt, List.any_append, this, List.any_cons, e]; rfl)
      clear hc H
      generalize l[k] = y at *
      cases hq : (x.toList == y.toList) with
      | true =>
        have HY2 := Lib.hid (HY.out hq)
        clear HY HN
        go_wp2
        go_ret
        exact ⟨_, rfl, by rw [HY2.out]; exact decide_eq_true hi0, rfl⟩
      | false =>
        have HN2 := Lib.hid (HN.out hq)
        clear HY HN
        go_wp2
        go_roundg (gk - 1)
        case measure => omega
        case rel => exact ⟨k + 1, by omega, by go_num, HN2, rfl⟩
    · have hkl : k = l.length := by omega
      subst hkl
      rw [List.take_length] at HA
      go_wp2
      go_ret
      exact ⟨-1, rfl, by rw [HA.out]; decide, rfl⟩
set_option maxRecDepth 1000000 in
set_option maxHeartbeats 6000000 in
theorem cont_any (a : Option Addr) (n cap : Nat) (l : List ByteArray) (x : ByteArray) (w : World) (h : Rd w a n cap 1 (strs l)) (hn : n ≤ 1073741824) :
    Calls Tryz.prog 112 #[.slice a n cap, .string x] w fun e w' => e = .returned (.bool (amongB l x)) ∧ w = w' := by
  have H := Lib.hid h
  clear h
  go_enter Tryz.func112, Tryz.ntmps112
  go_wp2_with fail
  refine (idx_any a n cap l x _ H.out hn).mono ?_
  rintro e w1 ⟨r, rfl, hr, rfl⟩
  have HR := Lib.hid hr
  clear hr
  go_wp2
  go_ret
  exact ⟨ret_bool HR.out, rfl⟩
end Go.Proofs.YtlkfabkkjfmnmaaGreatDoor
