/- Encode: the program's and the reference's come to one text; its law, walked. -/
import Derived.Test.YtlkfabkkjfmnmaaGreatDoorInts
namespace Go.Proofs.YtlkfabkkjfmnmaaGreatDoor
open Go.RowKit

def isSgn (c : Int) : Bool := decide (0 ≤ c ∧ c ≤ 1114111 ∧ ¬ (55296 ≤ c ∧ c ≤ 57343))
/-- The bytes of a sign. -/
def enc1 (c : Int) : List UInt8 :=
  if c < 128 then [ub c]
  else if c < 2048 then [ub (192 + c / 64), ub (128 + c % 64)]
  else if c < 65536 then [ub (224 + c / 4096), ub (128 + c / 64 % 64), ub (128 + c % 64)]
  else [ub (240 + c / 262144), ub (128 + c / 4096 % 64), ub (128 + c / 64 % 64), ub (128 + c % 64)]
def encs (l : List Int) : List UInt8 := l.flatMap enc1
/-- What Encode comes to. -/
def encL (l : List Int) : List UInt8 := if ∀ x ∈ l, isSgn x = true then encs l else []
theorem enc1_len (c : Int) : (enc1 c).length ≤ 4 := by unfold enc1; (repeat' split) <;> simp
theorem encs_len (l : List Int) : (encs l).length ≤ 4 * l.length := by
  induction l with
  | nil => simp [encs]
  | cons x l ih =>
    have := enc1_len x
    simp only [encs, List.flatMap_cons, List.length_append, List.length_cons] at *
    omega
theorem enc1_cells1 (c : Int) (h0 : 0 ≤ c) (h1 : c < 128) : u8s (enc1 c) = [.int .u8 c] ∧ (enc1 c).length = 1 := by
  unfold enc1; rw [if_pos h1]; exact ⟨u8s_ub1 _ (by omega) (by omega), rfl⟩
theorem enc1_cells2 (c : Int) (h0 : 128 ≤ c) (h1 : c < 2048) : u8s (enc1 c) = [.int .u8 (192 + c / 64), .int .u8 (128 + c % 64)] ∧ (enc1 c).length = 2 := by
  unfold enc1; rw [if_neg (by omega), if_pos h1]; exact ⟨u8s_ub2 _ _ (by omega) (by omega) (by omega) (by omega), rfl⟩
theorem enc1_cells3 (c : Int) (h0 : 2048 ≤ c) (h1 : c < 65536) : u8s (enc1 c) = [.int .u8 (224 + c / 4096), .int .u8 (128 + c / 64 % 64), .int .u8 (128 + c % 64)] ∧ (enc1 c).length = 3 := by
  unfold enc1; rw [if_neg (by omega), if_neg (by omega), if_pos h1]; exact ⟨u8s_ub3 _ _ _ (by omega) (by omega) (by omega) (by omega) (by omega) (by omega), rfl⟩
theorem enc1_cells4 (c : Int) (h0 : 65536 ≤ c) (h1 : c ≤ 1114111) : u8s (enc1 c) = [.int .u8 (240 + c / 262144), .int .u8 (128 + c / 4096 % 64), .int .u8 (128 + c / 64 % 64), .int .u8 (128 + c % 64)] ∧ (enc1 c).length = 4 := by
  unfold enc1; rw [if_neg (by omega), if_neg (by omega), if_neg (by omega)]; exact ⟨u8s_ub4 _ _ _ _ (by omega) (by omega) (by omega) (by omega) (by omega) (by omega) (by omega) (by omega), rfl⟩

set_option maxRecDepth 1000000 in
set_option maxHeartbeats 6000000 in
theorem isSign_yes (c : Int) (w : World) (h0 : 0 ≤ c) (h1 : c ≤ 1114111) (h2 : c < 55296 ∨ 57343 < c) : Calls Tryz.prog 135 #[.int .i64 c] w fun e w' => e = .returned (.bool true) ∧ w = w' := by
  rcases h2 with h2 | h2
  all_goals
    go_enter Tryz.func135, Tryz.ntmps135
    go_wp2_with (go_at_call 51; (first | refine (within_yes _ _ _ _ (by omega) (by omega)).mono ?_ | refine (within_no _ _ _ _ (by omega)).mono ?_); rintro e w' ⟨rfl, rfl⟩)
    go_ret
    exact ⟨rfl, rfl⟩
theorem isSign_no (c : Int) (w : World) (h : c < 0 ∨ 1114111 < c ∨ (55296 ≤ c ∧ c ≤ 57343)) : Calls Tryz.prog 135 #[.int .i64 c] w fun e w' => e = .returned (.bool false) ∧ w = w' := by
  rcases h with h | h | ⟨h, h'⟩
  all_goals
    go_enter Tryz.func135, Tryz.ntmps135
    go_wp2_with (go_at_call 51; (first | refine (within_yes _ _ _ _ (by omega) (by omega)).mono ?_ | refine (within_no _ _ _ _ (by omega)).mono ?_); rintro e w' ⟨rfl, rfl⟩)
    go_ret
    exact ⟨rfl, rfl⟩

set_option maxRecDepth 1000000 in
set_option maxHeartbeats 6000000 in
theorem l3Sign_yes (c : Int) (w : World) (h0 : 0 ≤ c) (h1 : c ≤ 1114111) (h2 : c < 55296 ∨ 57343 < c) : Calls Tryz.prog 129 #[.int .i64 c] w fun e w' => e = .returned (.bool true) ∧ w = w' := by
  rcases h2 with h2 | h2
  all_goals
    go_enter Tryz.func129, Tryz.ntmps129
    go_wp2_with (go_at_call 39; (first | refine (l1In_yes _ _ _ _ (by omega) (by omega)).mono ?_ | refine (l1In_no _ _ _ _ (by omega)).mono ?_); rintro e w' ⟨rfl, rfl⟩)
    go_ret
    exact ⟨rfl, rfl⟩
theorem l3Sign_no (c : Int) (w : World) (h : c < 0 ∨ 1114111 < c ∨ (55296 ≤ c ∧ c ≤ 57343)) : Calls Tryz.prog 129 #[.int .i64 c] w fun e w' => e = .returned (.bool false) ∧ w = w' := by
  rcases h with h | h | ⟨h, h'⟩
  all_goals
    go_enter Tryz.func129, Tryz.ntmps129
    go_wp2_with (go_at_call 39; (first | refine (l1In_yes _ _ _ _ (by omega) (by omega)).mono ?_ | refine (l1In_no _ _ _ _ (by omega)).mono ?_); rintro e w' ⟨rfl, rfl⟩)
    go_ret
    exact ⟨rfl, rfl⟩

set_option maxRecDepth 1000000 in
set_option maxHeartbeats 6000000 in
theorem implEncode_any (a : Option Addr) (n cap : Nat) (l : List Int) (w : World) (h : Rd w a n cap 1 (ints l)) (hn : n ≤ 1048576) :
    Calls Tryz.prog 109 #[.slice a n cap] w fun e w' => e = .returned (.string ⟨(encL l).toArray⟩) ∧ Below w.heap.size w w' := by
  have hl : l.length = n := by have := h.len; simpa using this
  subst hl
  go_enter Tryz.func109, Tryz.ntmps109
  go_wp2
  go_loopg [3, 9] l.length (fun gg o i wr => ∃ k : Nat, k + gg = l.length ∧ i = .int .i64 k ∧ (∀ x ∈ l.take k, isSgn x = true) ∧ Own 5 1 w.heap.size w o (encs (l.take k)).length (u8s (encs (l.take k))) wr)
  case atStart => exact ⟨0, by omega, rfl, by simp, by simpa [encs, u8s] using Own.lit (e := 5) (size := 1) (n := 0) (Below.refl w.heap.size w) (Nat.le_refl _) #[] rfl (by decide)⟩
  case round =>
    obtain ⟨k, hk, rfl, hA, hOk⟩ := hrel
    obtain ⟨av, cv, rfl, _, _⟩ := hOk.shape
    by_cases hlt : k < l.length
    · obtain ⟨b, off, rfl, hbs, hc⟩ := h.at' (by omega)
      have hc1 := hc k (by simpa using hlt)
      rw [← hOk.below.cell (p := ⟨b, off + k, none⟩) (by exact hbs), ints_get l k hlt] at hc1
      have hts : l.take (k + 1) = l.take k ++ [l[k]] := List.take_succ_eq_append_getElem hlt
      have hS : Hid (encs (l.take (k + 1)) = encs (l.take k) ++ enc1 l[k]) := Lib.hid (by rw [hts, encs, List.flatMap_append]; simp [encs])
      have hb1 : (encs (l.take k)).length ≤ 4194304 := by have := encs_len (l.take k); rw [List.length_take] at this; omega
      have hmem : l[k] ∈ l := List.getElem_mem _
      clear hc h
      by_cases hsg : isSgn l[k] = true
      · have hA2 : Hid (∀ x ∈ l.take (k + 1), isSgn x = true) := Lib.hid (by
          rw [hts]
          intro x hx
          rcases List.mem_append.1 hx with hx | hx
          · exact hA x hx
          · rw [List.mem_singleton.1 hx]; exact hsg)
        simp only [isSgn, decide_eq_true_eq] at hsg
        obtain ⟨s0, s1, s2⟩ := hsg
        have s3 : l[k] < 55296 ∨ 57343 < l[k] := by omega
        clear hts hmem hA s2
        generalize encs (l.take k) = pre at *
        generalize l[k] = c at *
        have HS3 := Lib.hid s3
        by_cases h128 : c < 128
        · have hU := enc1_cells1 c (by omega) (by omega)
          have HU := Lib.hid hU
          clear hU
          go_wp2_with (first | (go_at_call 135; refine (isSign_yes _ _ (by omega) (by omega) (by omega)).mono ?_; rintro e w' ⟨rfl, rfl⟩) | (at_builtin; go_loud (refine wp_app1 rfl _ _ 34 rfl 5 (.int .u8 0) 1 1 Tryz.underlying34 info_u8 rfl (by decide) w.heap.size w _ _ _ (by rfl) (by exact hOk) _ _ (by rfl) (by rfl) (by intro u hu; simp at hu; first | (subst hu; rfl) | (rcases hu with rfl | rfl <;> rfl) | (rcases hu with rfl | rfl | rfl <;> rfl) | (rcases hu with rfl | rfl | rfl | rfl <;> rfl)) (by omega) (by unfold maxLen; omega) ?_); intro a2 c2 w2 hO2))
          go_wp2
          go_roundg (gk - 1)
          case measure => omega
          case rel => exact ⟨k + 1, by omega, by go_num, hA2.out, by rw [hS.out, List.length_append, u8s_append, HU.out.1, HU.out.2]; exact hO2⟩
        · skip
          by_cases h2048 : c < 2048
          · have q1 := i64_and63 c (by omega) (by omega)
            have o1 : bits .or .i64 128 (c % 64) = 128 + c % 64 := i64_or 7 128 _ (by decide) (by decide) (by decide) (by omega) (by omega) (by omega)
            have o4 : bits .or .i64 192 (c / 64) = 192 + c / 64 := i64_or 5 192 _ (by decide) (by decide) (by decide) (by omega) (by omega) (by omega)
            have hU := enc1_cells2 c (by omega) (by omega)
            have HU := Lib.hid hU
            clear hU
            go_wp2_with (first | (go_at_call 135; refine (isSign_yes _ _ (by omega) (by omega) (by omega)).mono ?_; rintro e w' ⟨rfl, rfl⟩) | (at_builtin; go_loud (refine wp_app1 rfl _ _ 34 rfl 5 (.int .u8 0) 1 1 Tryz.underlying34 info_u8 rfl (by decide) w.heap.size w _ _ _ (by rfl) (by exact hOk) _ _ (by rfl) (by rfl) (by intro u hu; simp at hu; first | (subst hu; rfl) | (rcases hu with rfl | rfl <;> rfl) | (rcases hu with rfl | rfl | rfl <;> rfl) | (rcases hu with rfl | rfl | rfl | rfl <;> rfl)) (by omega) (by unfold maxLen; omega) ?_); intro a2 c2 w2 hO2))
            go_wp2
            go_roundg (gk - 1)
            case measure => omega
            case rel => exact ⟨k + 1, by omega, by go_num, hA2.out, by rw [hS.out, List.length_append, u8s_append, HU.out.1, HU.out.2]; exact hO2⟩
          · skip
            by_cases h65536 : c < 65536
            · have q1 := i64_and63 c (by omega) (by omega)
              have o1 : bits .or .i64 128 (c % 64) = 128 + c % 64 := i64_or 7 128 _ (by decide) (by decide) (by decide) (by omega) (by omega) (by omega)
              have q2 := i64_and63 (c / 64) (by omega) (by omega)
              have o2 : bits .or .i64 128 (c / 64 % 64) = 128 + c / 64 % 64 := i64_or 7 128 _ (by decide) (by decide) (by decide) (by omega) (by omega) (by omega)
              have o4 : bits .or .i64 224 (c / 4096) = 224 + c / 4096 := i64_or 4 224 _ (by decide) (by decide) (by decide) (by omega) (by omega) (by omega)
              have hU := enc1_cells3 c (by omega) (by omega)
              have HU := Lib.hid hU
              clear hU
              go_wp2_with (first | (go_at_call 135; refine (isSign_yes _ _ (by omega) (by omega) (by omega)).mono ?_; rintro e w' ⟨rfl, rfl⟩) | (at_builtin; go_loud (refine wp_app1 rfl _ _ 34 rfl 5 (.int .u8 0) 1 1 Tryz.underlying34 info_u8 rfl (by decide) w.heap.size w _ _ _ (by rfl) (by exact hOk) _ _ (by rfl) (by rfl) (by intro u hu; simp at hu; first | (subst hu; rfl) | (rcases hu with rfl | rfl <;> rfl) | (rcases hu with rfl | rfl | rfl <;> rfl) | (rcases hu with rfl | rfl | rfl | rfl <;> rfl)) (by omega) (by unfold maxLen; omega) ?_); intro a2 c2 w2 hO2))
              go_wp2
              go_roundg (gk - 1)
              case measure => omega
              case rel => exact ⟨k + 1, by omega, by go_num, hA2.out, by rw [hS.out, List.length_append, u8s_append, HU.out.1, HU.out.2]; exact hO2⟩
            · skip
              have q1 := i64_and63 c (by omega) (by omega)
              have o1 : bits .or .i64 128 (c % 64) = 128 + c % 64 := i64_or 7 128 _ (by decide) (by decide) (by decide) (by omega) (by omega) (by omega)
              have q2 := i64_and63 (c / 64) (by omega) (by omega)
              have o2 : bits .or .i64 128 (c / 64 % 64) = 128 + c / 64 % 64 := i64_or 7 128 _ (by decide) (by decide) (by decide) (by omega) (by omega) (by omega)
              have q3 := i64_and63 (c / 4096) (by omega) (by omega)
              have o3 : bits .or .i64 128 (c / 4096 % 64) = 128 + c / 4096 % 64 := i64_or 7 128 _ (by decide) (by decide) (by decide) (by omega) (by omega) (by omega)
              have o4 : bits .or .i64 240 (c / 262144) = 240 + c / 262144 := i64_or 3 240 _ (by decide) (by decide) (by decide) (by omega) (by omega) (by omega)
              have hU := enc1_cells4 c (by omega) (by omega)
              have HU := Lib.hid hU
              clear hU
              go_wp2_with (first | (go_at_call 135; refine (isSign_yes _ _ (by omega) (by omega) (by omega)).mono ?_; rintro e w' ⟨rfl, rfl⟩) | (at_builtin; go_loud (refine wp_app1 rfl _ _ 34 rfl 5 (.int .u8 0) 1 1 Tryz.underlying34 info_u8 rfl (by decide) w.heap.size w _ _ _ (by rfl) (by exact hOk) _ _ (by rfl) (by rfl) (by intro u hu; simp at hu; first | (subst hu; rfl) | (rcases hu with rfl | rfl <;> rfl) | (rcases hu with rfl | rfl | rfl <;> rfl) | (rcases hu with rfl | rfl | rfl | rfl <;> rfl)) (by omega) (by unfold maxLen; omega) ?_); intro a2 c2 w2 hO2))
              go_wp2
              go_roundg (gk - 1)
              case measure => omega
              case rel => exact ⟨k + 1, by omega, by go_num, hA2.out, by rw [hS.out, List.length_append, u8s_append, HU.out.1, HU.out.2]; exact hO2⟩
      · have hV : Hid (encL l = []) := Lib.hid (by
          unfold encL
          rw [if_neg]
          intro hall
          exact hsg (hall _ hmem))
        have s3 : l[k] < 0 ∨ 1114111 < l[k] ∨ (55296 ≤ l[k] ∧ l[k] ≤ 57343) := by
          simp only [isSgn, decide_eq_true_eq] at hsg
          omega
        clear hts hmem hA hsg
        generalize encs (l.take k) = pre at *
        generalize l[k] = c at *
        go_wp2_with (go_at_call 135; refine (isSign_no _ _ s3).mono ?_; rintro e w' ⟨rfl, rfl⟩)
        go_ret
        exact ⟨by rw [hV.out]; rfl, hOk.below⟩
    · have hkl : k = l.length := by omega
      subst hkl
      simp only [List.take_length] at hOk hA ⊢
      have hV : Hid (encL l = encs l) := Lib.hid (by unfold encL; rw [if_pos hA])
      clear hA
      have hr := hOk.rd
      go_wp2_with (refine wp_str rfl _ 34 9 5 rfl Tryz.underlying34 Tryz.underlying5 Tryz.underlying9 _ _ _ _ (by rfl) (by exact hr) ?_)
      go_ret
      exact ⟨by rw [hV.out]; rfl, hOk.below⟩

set_option maxRecDepth 1000000 in
set_option maxHeartbeats 6000000 in
theorem specEncode_any (a : Option Addr) (n cap : Nat) (l : List Int) (w : World) (h : Rd w a n cap 1 (ints l)) (hn : n ≤ 1048576) :
    Calls Tryz.prog 104 #[.slice a n cap] w fun e w' => e = .returned (.string ⟨(encL l).toArray⟩) ∧ Below w.heap.size w w' := by
  have hl : l.length = n := by have := h.len; simpa using this
  subst hl
  go_enter Tryz.func104, Tryz.ntmps104
  go_wp2
  go_loopg [3, 4] l.length (fun gg o i wr => ∃ k : Nat, k + gg = l.length ∧ i = .int .i64 k ∧ (∀ x ∈ l.take k, isSgn x = true) ∧ Own 5 1 w.heap.size w o (encs (l.take k)).length (u8s (encs (l.take k))) wr)
  case atStart => exact ⟨0, by omega, rfl, by simp, by simpa [encs, u8s] using Own.lit (e := 5) (size := 1) (n := 0) (Below.refl w.heap.size w) (Nat.le_refl _) #[] rfl (by decide)⟩
  case round =>
    obtain ⟨k, hk, rfl, hA, hOk⟩ := hrel
    obtain ⟨av, cv, rfl, _, _⟩ := hOk.shape
    by_cases hlt : k < l.length
    · obtain ⟨b, off, rfl, hbs, hc⟩ := h.at' (by omega)
      have hc1 := hc k (by simpa using hlt)
      rw [← hOk.below.cell (p := ⟨b, off + k, none⟩) (by exact hbs), ints_get l k hlt] at hc1
      have hts : l.take (k + 1) = l.take k ++ [l[k]] := List.take_succ_eq_append_getElem hlt
      have hS : Hid (encs (l.take (k + 1)) = encs (l.take k) ++ enc1 l[k]) := Lib.hid (by rw [hts, encs, List.flatMap_append]; simp [encs])
      have hb1 : (encs (l.take k)).length ≤ 4194304 := by have := encs_len (l.take k); rw [List.length_take] at this; omega
      have hmem : l[k] ∈ l := List.getElem_mem _
      clear hc h
      by_cases hsg : isSgn l[k] = true
      · have hA2 : Hid (∀ x ∈ l.take (k + 1), isSgn x = true) := Lib.hid (by
          rw [hts]
          intro x hx
          rcases List.mem_append.1 hx with hx | hx
          · exact hA x hx
          · rw [List.mem_singleton.1 hx]; exact hsg)
        simp only [isSgn, decide_eq_true_eq] at hsg
        obtain ⟨s0, s1, s2⟩ := hsg
        have s3 : l[k] < 55296 ∨ 57343 < l[k] := by omega
        clear hts hmem hA s2
        generalize encs (l.take k) = pre at *
        generalize l[k] = c at *
        have HS3 := Lib.hid s3
        by_cases h128 : c < 128
        · have hU := enc1_cells1 c (by omega) (by omega)
          have HU := Lib.hid hU
          clear hU
          go_wp2_with (first | (go_at_call 129; refine (l3Sign_yes _ _ (by omega) (by omega) (by omega)).mono ?_; rintro e w' ⟨rfl, rfl⟩) | (at_builtin; go_loud (refine wp_app1 rfl _ _ 34 rfl 5 (.int .u8 0) 1 1 Tryz.underlying34 info_u8 rfl (by decide) w.heap.size w _ _ _ (by rfl) (by exact hOk) _ _ (by rfl) (by rfl) (by intro u hu; simp at hu; first | (subst hu; rfl) | (rcases hu with rfl | rfl <;> rfl) | (rcases hu with rfl | rfl | rfl <;> rfl) | (rcases hu with rfl | rfl | rfl | rfl <;> rfl)) (by omega) (by unfold maxLen; omega) ?_); intro a2 c2 w2 hO2))
          go_wp2
          go_roundg (gk - 1)
          case measure => omega
          case rel => exact ⟨k + 1, by omega, by go_num, hA2.out, by rw [hS.out, List.length_append, u8s_append, HU.out.1, HU.out.2]; exact hO2⟩
        · skip
          by_cases h2048 : c < 2048
          · have q1 := i64_and63 c (by omega) (by omega)
            have hU := enc1_cells2 c (by omega) (by omega)
            have HU := Lib.hid hU
            clear hU
            go_wp2_with (first | (go_at_call 129; refine (l3Sign_yes _ _ (by omega) (by omega) (by omega)).mono ?_; rintro e w' ⟨rfl, rfl⟩) | (at_builtin; go_loud (refine wp_app1 rfl _ _ 34 rfl 5 (.int .u8 0) 1 1 Tryz.underlying34 info_u8 rfl (by decide) w.heap.size w _ _ _ (by rfl) (by exact hOk) _ _ (by rfl) (by rfl) (by intro u hu; simp at hu; first | (subst hu; rfl) | (rcases hu with rfl | rfl <;> rfl) | (rcases hu with rfl | rfl | rfl <;> rfl) | (rcases hu with rfl | rfl | rfl | rfl <;> rfl)) (by omega) (by unfold maxLen; omega) ?_); intro a2 c2 w2 hO2))
            go_wp2
            go_roundg (gk - 1)
            case measure => omega
            case rel => exact ⟨k + 1, by omega, by go_num, hA2.out, by rw [hS.out, List.length_append, u8s_append, HU.out.1, HU.out.2]; exact hO2⟩
          · skip
            by_cases h65536 : c < 65536
            · have q1 := i64_and63 c (by omega) (by omega)
              have q2 := i64_and63 (c / 64) (by omega) (by omega)
              have hU := enc1_cells3 c (by omega) (by omega)
              have HU := Lib.hid hU
              clear hU
              go_wp2_with (first | (go_at_call 129; refine (l3Sign_yes _ _ (by omega) (by omega) (by omega)).mono ?_; rintro e w' ⟨rfl, rfl⟩) | (at_builtin; go_loud (refine wp_app1 rfl _ _ 34 rfl 5 (.int .u8 0) 1 1 Tryz.underlying34 info_u8 rfl (by decide) w.heap.size w _ _ _ (by rfl) (by exact hOk) _ _ (by rfl) (by rfl) (by intro u hu; simp at hu; first | (subst hu; rfl) | (rcases hu with rfl | rfl <;> rfl) | (rcases hu with rfl | rfl | rfl <;> rfl) | (rcases hu with rfl | rfl | rfl | rfl <;> rfl)) (by omega) (by unfold maxLen; omega) ?_); intro a2 c2 w2 hO2))
              go_wp2
              go_roundg (gk - 1)
              case measure => omega
              case rel => exact ⟨k + 1, by omega, by go_num, hA2.out, by rw [hS.out, List.length_append, u8s_append, HU.out.1, HU.out.2]; exact hO2⟩
            · skip
              have q1 := i64_and63 c (by omega) (by omega)
              have q2 := i64_and63 (c / 64) (by omega) (by omega)
              have q3 := i64_and63 (c / 4096) (by omega) (by omega)
              have hU := enc1_cells4 c (by omega) (by omega)
              have HU := Lib.hid hU
              clear hU
              go_wp2_with (first | (go_at_call 129; refine (l3Sign_yes _ _ (by omega) (by omega) (by omega)).mono ?_; rintro e w' ⟨rfl, rfl⟩) | (at_builtin; go_loud (refine wp_app1 rfl _ _ 34 rfl 5 (.int .u8 0) 1 1 Tryz.underlying34 info_u8 rfl (by decide) w.heap.size w _ _ _ (by rfl) (by exact hOk) _ _ (by rfl) (by rfl) (by intro u hu; simp at hu; first | (subst hu; rfl) | (rcases hu with rfl | rfl <;> rfl) | (rcases hu with rfl | rfl | rfl <;> rfl) | (rcases hu with rfl | rfl | rfl | rfl <;> rfl)) (by omega) (by unfold maxLen; omega) ?_); intro a2 c2 w2 hO2))
              go_wp2
              go_roundg (gk - 1)
              case measure => omega
              case rel => exact ⟨k + 1, by omega, by go_num, hA2.out, by rw [hS.out, List.length_append, u8s_append, HU.out.1, HU.out.2]; exact hO2⟩
      · have hV : Hid (encL l = []) := Lib.hid (by
          unfold encL
          rw [if_neg]
          intro hall
          exact hsg (hall _ hmem))
        have s3 : l[k] < 0 ∨ 1114111 < l[k] ∨ (55296 ≤ l[k] ∧ l[k] ≤ 57343) := by
          simp only [isSgn, decide_eq_true_eq] at hsg
          omega
        clear hts hmem hA hsg
        generalize encs (l.take k) = pre at *
        generalize l[k] = c at *
        go_wp2_with (go_at_call 129; refine (l3Sign_no _ _ s3).mono ?_; rintro e w' ⟨rfl, rfl⟩)
        go_ret
        exact ⟨by rw [hV.out]; rfl, hOk.below⟩
    · have hkl : k = l.length := by omega
      subst hkl
      simp only [List.take_length] at hOk hA ⊢
      have hV : Hid (encL l = encs l) := Lib.hid (by unfold encL; rw [if_pos hA])
      clear hA
      have hr := hOk.rd
      go_wp2_with (refine wp_str rfl _ 34 9 5 rfl Tryz.underlying34 Tryz.underlying5 Tryz.underlying9 _ _ _ _ (by rfl) (by exact hr) ?_)
      go_ret
      exact ⟨by rw [hV.out]; rfl, hOk.below⟩

end Go.Proofs.YtlkfabkkjfmnmaaGreatDoor
