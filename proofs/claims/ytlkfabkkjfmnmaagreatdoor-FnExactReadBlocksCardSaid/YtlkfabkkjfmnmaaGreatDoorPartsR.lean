/- The parts of a sign: the program's own walk. -/
import Derived.Test.YtlkfabkkjfmnmaaGreatDoorPartsF
import Derived.Test.YtlkfabkkjfmnmaaGreatDoorNum
import Derived.OwnWalk
namespace Go.Proofs.YtlkfabkkjfmnmaaGreatDoor
open Go.RowKit

/-- The bytes of a text as whole numbers. -/
def nums (l : List UInt8) : List Int := l.map fun b => (b.toNat : Int)

theorem lit_rd2 {w0 : World} {e : TypeId} {size m b : Nat} {news : Array Value} (hb : b = w0.heap.size) (hl : news.size = m * size) (hm : m ≤ maxLen) : Rd (w0.alloc (.cells news e)) (some ⟨b, 0, none⟩) m m size news.toList := by
  subst hb
  exact lit_rd hl hm

set_option maxRecDepth 1000000 in
set_option maxHeartbeats 6000000 in
theorem signs_any (s : ByteArray) (hs : s.size ≤ 1024) (w : World) :
    Calls Tryz.prog 149 #[.string s] w fun e w' => ∃ a c, e = .returned (.slice a s.size c) ∧ Own 3 1 w.heap.size w (.slice a s.size c) s.size (ints (nums s.data.toList)) w' := by
  go_enter Tryz.func149, Tryz.ntmps149
  go_wp2
  go_loopg [3, 4] s.size (fun gg o i wr => ∃ k : Nat, k + gg = s.size ∧ i = .int .i64 k ∧ Own 3 1 w.heap.size w o k (ints (nums (s.data.toList.take k))) wr)
  case atStart => exact ⟨0, by omega, rfl, by simpa [nums, ints] using Own.lit (e := 3) (size := 1) (n := 0) (Below.refl w.heap.size w) (Nat.le_refl _) #[] rfl (by decide)⟩
  case round =>
    obtain ⟨k, hk, rfl, hOk⟩ := hrel
    obtain ⟨av, cv, rfl, _, _⟩ := hOk.shape
    by_cases hlt : k < s.size
    · have hb0 : s[k].toNat < 256 := s[k].toNat_lt
      have HW : Hid (wrap64 ((s[k].toNat : Nat) : Int) = ((s[k].toNat : Nat) : Int)) := Lib.hid (by unfold wrap64; omega)
      have HS : Hid (ints (nums (s.data.toList.take (k + 1))) = ints (nums (s.data.toList.take k)) ++ [.int .i64 (s[k].toNat : Int)]) := Lib.hid (by rw [take_snoc s k hlt]; simp [nums, ints])
      go_wp2_with (at_builtin; go_loud (refine wp_app1 rfl _ _ 40 rfl 3 (.int .i64 0) 1 8 Tryz.underlying40 info_i64 rfl (by decide) w.heap.size w _ _ _ (by rfl) (by exact hOk) _ _ (by rfl) (by rfl) (by intro u hu; simp at hu; first | (subst hu; rfl) | (rcases hu with rfl | rfl <;> rfl) | (rcases hu with rfl | rfl | rfl <;> rfl)) (by omega) (by unfold maxLen; omega) ?_); intro a2 c2 w2 hO2)
      go_wp2
      go_roundg (gk - 1)
      case measure => omega
      case rel => exact ⟨k + 1, by omega, by go_num, by rw [HS.out]; exact hO2⟩
    · have hks : k = s.size := by omega
      subst hks
      have hfull : s.data.toList.take s.size = s.data.toList := List.take_of_length_le (by simp)
      rw [hfull] at hOk
      clear hfull
      go_wp2
      go_ret
      exact ⟨_, _, rfl, hOk⟩

set_option maxRecDepth 1000000 in
set_option maxHeartbeats 6000000 in
theorem index_any (c : Int) (a : Option Addr) (n cap : Nat) (l : List Int) (w : World) (h : Rd w a n cap 1 (ints l)) (hn : n ≤ 1024) :
    Calls Tryz.prog 88 #[.slice a n cap, .int .i64 c] w fun e w' => w = w' ∧ ((∃ k : Nat, ∃ hk : k < l.length, e = .returned (.int .i64 k) ∧ l[k] = c ∧ ∀ j (hj : j < k), l[j]'(by omega) ≠ c) ∨ (e = .returned (.int .i64 (-1)) ∧ c ∉ l)) := by
  have hl : l.length = n := by have := h.len; simpa using this
  subst hl
  go_enter Tryz.func88, Tryz.ntmps88
  go_wp2
  go_loopg [8] l.length (fun gg i wr => ∃ k : Nat, k + gg = l.length ∧ i = .int .i64 k ∧ c ∉ l.take k ∧ wr = w)
  case atStart => exact ⟨0, by omega, rfl, by simp, rfl⟩
  case round =>
    obtain ⟨k, hk, rfl, hno, rfl⟩ := hrel
    have HN := Lib.hid hno
    clear hno
    by_cases hlt : k < l.length
    · obtain ⟨b, off, rfl, hbs, hc⟩ := h.at' (by omega)
      have hc1 := hc k (by simpa using hlt)
      rw [ints_get l k hlt] at hc1
      clear hc h
      go_wp2
      · go_ret
        have e : (c == l[k]) = true := by assumption
        have e' : c = l[k] := by simpa using e
        refine ⟨rfl, .inl ⟨k, hlt, rfl, e'.symm, fun j hj he => HN.out ?_⟩⟩
        rw [List.mem_take_iff_getElem]
        exact ⟨j, by omega, he⟩
      · have e : (c == l[k]) = false := by assumption
        have e' : ¬ c = l[k] := by simpa using e
        go_roundg (gk - 1)
        case measure => omega
        case rel => exact ⟨k + 1, by omega, by go_num, by rw [List.take_succ_eq_append_getElem hlt]; simp only [List.mem_append, List.mem_singleton, not_or]; exact ⟨HN.out, e'⟩, rfl⟩
    · have hkl : k = l.length := by omega
      subst hkl
      go_wp2
      go_ret
      exact ⟨rfl, .inr ⟨rfl, by have := HN.out; rwa [List.take_length] at this⟩⟩

/-- What the row function comes to. -/
def rowR (w : World) (r : PRow) (e : Ending) (w' : World) : Prop :=
  ∃ a1 c1 a2 c2, e = .returned (.tuple #[.slice a1 r.1.length c1, .slice a2 r.2.1.length c2, .int .i64 r.2.2]) ∧ Rd w' a1 r.1.length c1 1 (ints r.1) ∧ Rd w' a2 r.2.1.length c2 1 (ints r.2.1) ∧ Below w.heap.size w w'

set_option maxRecDepth 1000000 in
set_option maxHeartbeats 6000000 in
theorem row0_any (w : World) : Calls Tryz.prog 148 #[.int .i64 0] w (rowR w ([192, 200, 204, 210, 217, 224, 232, 236, 242, 249], [65, 69, 73, 79, 85, 97, 101, 105, 111, 117], 768)) := by
  go_enter Tryz.func148, Tryz.ntmps148
  go_wp2_with fail
  refine (signs_any ⟨#[65, 69, 73, 79, 85, 97, 101, 105, 111, 117]⟩ (by decide) _).mono ?_
  rintro e w2 ⟨a2, c2, rfl, hO⟩
  go_wp2
  (try simp only [Exit.inBlock, Exit.then])
  refine bodyPost_ret (results_tmp3 rfl _ _ _) rfl ?_
  exact ⟨_, _, _, _, rfl, (lit_rd (w0 := w) (e := 3) (size := 1) (m := 10) (news := #[.int .i64 192, .int .i64 200, .int .i64 204, .int .i64 210, .int .i64 217, .int .i64 224, .int .i64 232, .int .i64 236, .int .i64 242, .int .i64 249]) rfl (by decide)).below hO.below (Nat.le_refl _), hO.rd, ((Below.refl _ _).alloc (Nat.le_refl _) _).trans (hO.below.mono (by simp))⟩
set_option maxRecDepth 1000000 in
set_option maxHeartbeats 6000000 in
theorem row1_any (w : World) : Calls Tryz.prog 148 #[.int .i64 1] w (rowR w ([193, 201, 205, 211, 218, 221, 225, 233, 237, 243, 250, 253], [65, 69, 73, 79, 85, 89, 97, 101, 105, 111, 117, 121], 769)) := by
  go_enter Tryz.func148, Tryz.ntmps148
  go_wp2_with fail
  refine (signs_any ⟨#[65, 69, 73, 79, 85, 89, 97, 101, 105, 111, 117, 121]⟩ (by decide) _).mono ?_
  rintro e w2 ⟨a2, c2, rfl, hO⟩
  go_wp2
  (try simp only [Exit.inBlock, Exit.then])
  refine bodyPost_ret (results_tmp3 rfl _ _ _) rfl ?_
  exact ⟨_, _, _, _, rfl, (lit_rd (w0 := w) (e := 3) (size := 1) (m := 12) (news := #[.int .i64 193, .int .i64 201, .int .i64 205, .int .i64 211, .int .i64 218, .int .i64 221, .int .i64 225, .int .i64 233, .int .i64 237, .int .i64 243, .int .i64 250, .int .i64 253]) rfl (by decide)).below hO.below (Nat.le_refl _), hO.rd, ((Below.refl _ _).alloc (Nat.le_refl _) _).trans (hO.below.mono (by simp))⟩
set_option maxRecDepth 1000000 in
set_option maxHeartbeats 6000000 in
theorem row2_any (w : World) : Calls Tryz.prog 148 #[.int .i64 2] w (rowR w ([194, 202, 206, 212, 219, 226, 234, 238, 244, 251], [65, 69, 73, 79, 85, 97, 101, 105, 111, 117], 770)) := by
  go_enter Tryz.func148, Tryz.ntmps148
  go_wp2_with fail
  refine (signs_any ⟨#[65, 69, 73, 79, 85, 97, 101, 105, 111, 117]⟩ (by decide) _).mono ?_
  rintro e w2 ⟨a2, c2, rfl, hO⟩
  go_wp2
  (try simp only [Exit.inBlock, Exit.then])
  refine bodyPost_ret (results_tmp3 rfl _ _ _) rfl ?_
  exact ⟨_, _, _, _, rfl, (lit_rd (w0 := w) (e := 3) (size := 1) (m := 10) (news := #[.int .i64 194, .int .i64 202, .int .i64 206, .int .i64 212, .int .i64 219, .int .i64 226, .int .i64 234, .int .i64 238, .int .i64 244, .int .i64 251]) rfl (by decide)).below hO.below (Nat.le_refl _), hO.rd, ((Below.refl _ _).alloc (Nat.le_refl _) _).trans (hO.below.mono (by simp))⟩
set_option maxRecDepth 1000000 in
set_option maxHeartbeats 6000000 in
theorem row3_any (w : World) : Calls Tryz.prog 148 #[.int .i64 3] w (rowR w ([195, 209, 213, 227, 241, 245], [65, 78, 79, 97, 110, 111], 771)) := by
  go_enter Tryz.func148, Tryz.ntmps148
  go_wp2_with fail
  refine (signs_any ⟨#[65, 78, 79, 97, 110, 111]⟩ (by decide) _).mono ?_
  rintro e w2 ⟨a2, c2, rfl, hO⟩
  go_wp2
  (try simp only [Exit.inBlock, Exit.then])
  refine bodyPost_ret (results_tmp3 rfl _ _ _) rfl ?_
  exact ⟨_, _, _, _, rfl, (lit_rd (w0 := w) (e := 3) (size := 1) (m := 6) (news := #[.int .i64 195, .int .i64 209, .int .i64 213, .int .i64 227, .int .i64 241, .int .i64 245]) rfl (by decide)).below hO.below (Nat.le_refl _), hO.rd, ((Below.refl _ _).alloc (Nat.le_refl _) _).trans (hO.below.mono (by simp))⟩
set_option maxRecDepth 1000000 in
set_option maxHeartbeats 6000000 in
theorem row4_any (w : World) : Calls Tryz.prog 148 #[.int .i64 4] w (rowR w ([196, 203, 207, 214, 220, 228, 235, 239, 246, 252, 255], [65, 69, 73, 79, 85, 97, 101, 105, 111, 117, 121], 776)) := by
  go_enter Tryz.func148, Tryz.ntmps148
  go_wp2_with fail
  refine (signs_any ⟨#[65, 69, 73, 79, 85, 97, 101, 105, 111, 117, 121]⟩ (by decide) _).mono ?_
  rintro e w2 ⟨a2, c2, rfl, hO⟩
  go_wp2
  (try simp only [Exit.inBlock, Exit.then])
  refine bodyPost_ret (results_tmp3 rfl _ _ _) rfl ?_
  exact ⟨_, _, _, _, rfl, (lit_rd (w0 := w) (e := 3) (size := 1) (m := 11) (news := #[.int .i64 196, .int .i64 203, .int .i64 207, .int .i64 214, .int .i64 220, .int .i64 228, .int .i64 235, .int .i64 239, .int .i64 246, .int .i64 252, .int .i64 255]) rfl (by decide)).below hO.below (Nat.le_refl _), hO.rd, ((Below.refl _ _).alloc (Nat.le_refl _) _).trans (hO.below.mono (by simp))⟩
set_option maxRecDepth 1000000 in
set_option maxHeartbeats 6000000 in
theorem row5_any (w : World) : Calls Tryz.prog 148 #[.int .i64 5] w (rowR w ([197, 229], [65, 97], 778)) := by
  go_enter Tryz.func148, Tryz.ntmps148
  go_wp2_with fail
  refine (signs_any ⟨#[65, 97]⟩ (by decide) _).mono ?_
  rintro e w2 ⟨a2, c2, rfl, hO⟩
  go_wp2
  (try simp only [Exit.inBlock, Exit.then])
  refine bodyPost_ret (results_tmp3 rfl _ _ _) rfl ?_
  exact ⟨_, _, _, _, rfl, (lit_rd (w0 := w) (e := 3) (size := 1) (m := 2) (news := #[.int .i64 197, .int .i64 229]) rfl (by decide)).below hO.below (Nat.le_refl _), hO.rd, ((Below.refl _ _).alloc (Nat.le_refl _) _).trans (hO.below.mono (by simp))⟩
set_option maxRecDepth 1000000 in
set_option maxHeartbeats 6000000 in
theorem row6_any (w : World) : Calls Tryz.prog 148 #[.int .i64 6] w (rowR w ([199, 231], [67, 99], 807)) := by
  go_enter Tryz.func148, Tryz.ntmps148
  go_wp2_with fail
  refine (signs_any ⟨#[67, 99]⟩ (by decide) _).mono ?_
  rintro e w2 ⟨a2, c2, rfl, hO⟩
  go_wp2
  (try simp only [Exit.inBlock, Exit.then])
  refine bodyPost_ret (results_tmp3 rfl _ _ _) rfl ?_
  exact ⟨_, _, _, _, rfl, (lit_rd (w0 := w) (e := 3) (size := 1) (m := 2) (news := #[.int .i64 199, .int .i64 231]) rfl (by decide)).below hO.below (Nat.le_refl _), hO.rd, ((Below.refl _ _).alloc (Nat.le_refl _) _).trans (hO.below.mono (by simp))⟩
set_option maxRecDepth 1000000 in
set_option maxHeartbeats 6000000 in
theorem row7_any (w : World) : Calls Tryz.prog 148 #[.int .i64 7] w (rowR w ([902, 904, 905, 906, 908, 910, 911], [913, 917, 919, 921, 927, 933, 937], 769)) := by
  go_enter Tryz.func148, Tryz.ntmps148
  go_wp2
  (try simp only [Exit.inBlock, Exit.then])
  refine bodyPost_ret (results_tmp3 rfl _ _ _) rfl ?_
  exact ⟨_, _, _, _, rfl, (lit_rd (w0 := w) (e := 3) (size := 1) (m := 7) (news := #[.int .i64 902, .int .i64 904, .int .i64 905, .int .i64 906, .int .i64 908, .int .i64 910, .int .i64 911]) rfl (by decide)).alloc _, lit_rd2 (w0 := w.alloc (.cells #[.int .i64 902, .int .i64 904, .int .i64 905, .int .i64 906, .int .i64 908, .int .i64 910, .int .i64 911] 3)) (e := 3) (size := 1) (m := 7) (news := #[.int .i64 913, .int .i64 917, .int .i64 919, .int .i64 921, .int .i64 927, .int .i64 933, .int .i64 937]) (by simp) rfl (by decide), ((Below.refl _ _).alloc (Nat.le_refl _) _).alloc (by simp) _⟩
set_option maxRecDepth 1000000 in
set_option maxHeartbeats 6000000 in
theorem row8_any (w : World) : Calls Tryz.prog 148 #[.int .i64 8] w (rowR w ([940, 941, 942, 943, 972, 973, 974], [945, 949, 951, 953, 959, 965, 969], 769)) := by
  go_enter Tryz.func148, Tryz.ntmps148
  go_wp2
  (try simp only [Exit.inBlock, Exit.then])
  refine bodyPost_ret (results_tmp3 rfl _ _ _) rfl ?_
  exact ⟨_, _, _, _, rfl, (lit_rd (w0 := w) (e := 3) (size := 1) (m := 7) (news := #[.int .i64 940, .int .i64 941, .int .i64 942, .int .i64 943, .int .i64 972, .int .i64 973, .int .i64 974]) rfl (by decide)).alloc _, lit_rd2 (w0 := w.alloc (.cells #[.int .i64 940, .int .i64 941, .int .i64 942, .int .i64 943, .int .i64 972, .int .i64 973, .int .i64 974] 3)) (e := 3) (size := 1) (m := 7) (news := #[.int .i64 945, .int .i64 949, .int .i64 951, .int .i64 953, .int .i64 959, .int .i64 965, .int .i64 969]) (by simp) rfl (by decide), ((Below.refl _ _).alloc (Nat.le_refl _) _).alloc (by simp) _⟩
set_option maxRecDepth 1000000 in
set_option maxHeartbeats 6000000 in
theorem row9_any (w : World) : Calls Tryz.prog 148 #[.int .i64 9] w (rowR w ([469, 470], [220, 252], 772)) := by
  go_enter Tryz.func148, Tryz.ntmps148
  go_wp2
  (try simp only [Exit.inBlock, Exit.then])
  refine bodyPost_ret (results_tmp3 rfl _ _ _) rfl ?_
  exact ⟨_, _, _, _, rfl, (lit_rd (w0 := w) (e := 3) (size := 1) (m := 2) (news := #[.int .i64 469, .int .i64 470]) rfl (by decide)).alloc _, lit_rd2 (w0 := w.alloc (.cells #[.int .i64 469, .int .i64 470] 3)) (e := 3) (size := 1) (m := 2) (news := #[.int .i64 220, .int .i64 252]) (by simp) rfl (by decide), ((Below.refl _ _).alloc (Nat.le_refl _) _).alloc (by simp) _⟩
set_option maxRecDepth 1000000 in
set_option maxHeartbeats 6000000 in
theorem row10_any (w : World) : Calls Tryz.prog 148 #[.int .i64 10] w (rowR w ([7840, 7841], [65, 97], 803)) := by
  go_enter Tryz.func148, Tryz.ntmps148
  go_wp2_with fail
  refine (signs_any ⟨#[65, 97]⟩ (by decide) _).mono ?_
  rintro e w2 ⟨a2, c2, rfl, hO⟩
  go_wp2
  (try simp only [Exit.inBlock, Exit.then])
  refine bodyPost_ret (results_tmp3 rfl _ _ _) rfl ?_
  exact ⟨_, _, _, _, rfl, (lit_rd (w0 := w) (e := 3) (size := 1) (m := 2) (news := #[.int .i64 7840, .int .i64 7841]) rfl (by decide)).below hO.below (Nat.le_refl _), hO.rd, ((Below.refl _ _).alloc (Nat.le_refl _) _).trans (hO.below.mono (by simp))⟩
set_option maxRecDepth 1000000 in
set_option maxHeartbeats 6000000 in
theorem row11_any (w : World) : Calls Tryz.prog 148 #[.int .i64 11] w (rowR w ([7852, 7853], [7840, 7841], 770)) := by
  go_enter Tryz.func148, Tryz.ntmps148
  go_wp2
  (try simp only [Exit.inBlock, Exit.then])
  refine bodyPost_ret (results_tmp3 rfl _ _ _) rfl ?_
  exact ⟨_, _, _, _, rfl, (lit_rd (w0 := w) (e := 3) (size := 1) (m := 2) (news := #[.int .i64 7852, .int .i64 7853]) rfl (by decide)).alloc _, lit_rd2 (w0 := w.alloc (.cells #[.int .i64 7852, .int .i64 7853] 3)) (e := 3) (size := 1) (m := 2) (news := #[.int .i64 7840, .int .i64 7841]) (by simp) rfl (by decide), ((Below.refl _ _).alloc (Nat.le_refl _) _).alloc (by simp) _⟩
set_option maxRecDepth 1000000 in
set_option maxHeartbeats 6000000 in
theorem row12_any (w : World) : Calls Tryz.prog 148 #[.int .i64 12] w (rowR w ([8486, 8491], [937, 197], 0)) := by
  go_enter Tryz.func148, Tryz.ntmps148
  go_wp2
  (try simp only [Exit.inBlock, Exit.then])
  refine bodyPost_ret (results_tmp3 rfl _ _ _) rfl ?_
  exact ⟨_, _, _, _, rfl, (lit_rd (w0 := w) (e := 3) (size := 1) (m := 2) (news := #[.int .i64 8486, .int .i64 8491]) rfl (by decide)).alloc _, lit_rd2 (w0 := w.alloc (.cells #[.int .i64 8486, .int .i64 8491] 3)) (e := 3) (size := 1) (m := 2) (news := #[.int .i64 937, .int .i64 197]) (by simp) rfl (by decide), ((Below.refl _ _).alloc (Nat.le_refl _) _).alloc (by simp) _⟩
theorem row_all (i : Nat) (r : PRow) (h : tabI[i]? = some r) (w : World) : Calls Tryz.prog 148 #[.int .i64 i] w (rowR w r) := by
  match i, h with
  | 0, h => cases h; exact row0_any w
  | 1, h => cases h; exact row1_any w
  | 2, h => cases h; exact row2_any w
  | 3, h => cases h; exact row3_any w
  | 4, h => cases h; exact row4_any w
  | 5, h => cases h; exact row5_any w
  | 6, h => cases h; exact row6_any w
  | 7, h => cases h; exact row7_any w
  | 8, h => cases h; exact row8_any w
  | 9, h => cases h; exact row9_any w
  | 10, h => cases h; exact row10_any w
  | 11, h => cases h; exact row11_any w
  | 12, h => cases h; exact row12_any w
  | _ + 13, h => simp [tabI] at h
theorem tabI_len : ∀ (i : Nat) (r : PRow), tabI[i]? = some r → r.1.length = r.2.1.length ∧ r.1.length ≤ 12 ∧ (r.2.2 = 0 ∨ 768 ≤ r.2.2 ∧ r.2.2 ≤ 900) := by
  intro i r h
  have h2 : ∀ r ∈ tabI, r.1.length = r.2.1.length ∧ r.1.length ≤ 12 ∧ (r.2.2 = 0 ∨ 768 ≤ r.2.2 ∧ r.2.2 ≤ 900) := by decide +kernel
  exact h2 r (List.mem_of_getElem? h)
end Go.Proofs.YtlkfabkkjfmnmaaGreatDoor
