/- Diff: the program's and the reference's come to one list of writes; its law, walked. -/
import Derived.Test.YtbokgbbdjcpgbaaWrs
namespace Go.Proofs.Ytbokgbbdjcpgbaa
open Go.RowKit

/-- Where two lists differ, from the beginning to k. -/
def diffN (a b : List ByteArray) : Nat → List (Int × ByteArray)
  | 0 => []
  | k + 1 => diffN a b k ++ (if a.getD k ByteArray.empty = b.getD k ByteArray.empty then [] else [((k : Int), b.getD k ByteArray.empty)])
theorem diffN_len (a b : List ByteArray) : ∀ k, (diffN a b k).length ≤ k
  | 0 => Nat.le_refl _
  | k + 1 => by
    have := diffN_len a b k
    unfold diffN
    rw [List.length_append]
    split <;> simp <;> omega
def diffL (a b : List ByteArray) : List (Int × ByteArray) := if a.length = 17 ∧ b.length = 17 then diffN a b 17 else []
theorem diffL_len (a b : List ByteArray) : (diffL a b).length ≤ 17 := by
  unfold diffL
  split
  · exact diffN_len a b 17
  · simp
structure StrNe (s t : ByteArray) : Prop where
  h1 : (s.data.toList == t.data.toList) = false
  h2 : (s.toList == t.toList) = false
theorem strNe (s t : ByteArray) (h : ¬ s = t) : StrNe s t := by
  have h0 : ¬ s.data.toList = t.data.toList := fun e => h (ByteArray.ext (by rw [← Array.toList_inj]; exact e))
  exact ⟨by simpa using h0, by rw [ByteArray.toList_eq, ByteArray.toList_eq]; simpa using h0⟩

def DiffPost (l : List (Int × ByteArray)) (w : World) (e : Ending) (w' : World) : Prop :=
  ∃ a c, e = .returned (.slice a l.length c) ∧ Own 53 2 w.heap.size w (.slice a l.length c) l.length (wrs l) w'
theorem getD_at (l : List ByteArray) (k : Nat) (h : k < l.length) : l.getD k ByteArray.empty = l[k] := by rw [List.getD_eq_getElem?_getD, List.getElem?_eq_getElem h]; rfl

set_option maxRecDepth 1000000 in
set_option maxHeartbeats 6000000 in
theorem implDiff_any (pa pb : Option Addr) (n m c d : Nat) (a b : List ByteArray) (w : World) (ha : Rd w pa n c 1 (strs a)) (hb : Rd w pb m d 1 (strs b)) :
    Calls Try.prog 38 #[.slice pa n c, .slice pb m d] w (DiffPost (diffL a b) w) := by
  have hla : a.length = n := by have := ha.len; simpa using this
  have hlb : b.length = m := by have := hb.len; simpa using this
  have hma : n ≤ maxLen := Nat.le_trans ha.le ha.max
  have hmb : m ≤ maxLen := Nat.le_trans hb.le hb.max
  unfold maxLen at hma hmb
  have HLit := Lib.hid (Own.lit (e := 53) (size := 2) (n := 0) (Below.refl w.heap.size w) (Nat.le_refl _) #[] rfl (by decide))
  by_cases h1 : n = 17
  · by_cases h2 : m = 17
    · have HF : Hid (diffL a b = diffN a b 17) := Lib.hid (by unfold diffL; rw [if_pos ⟨by omega, by omega⟩])
      have HLA := Lib.hid hla
      have HLB := Lib.hid hlb
      subst h1 h2
      clear hla hlb
      go_enter Try.func38, Try.ntmps38
      go_wp2
      go_loopg [5, 6, 7, 20] 17 (fun gg o t6 t7 i wr => ∃ k : Nat, k + gg = 17 ∧ i = .int .i64 (k : Int) ∧ Own 53 2 w.heap.size w o (diffN a b k).length (wrs (diffN a b k)) wr)
      case atStart => exact ⟨0, by omega, rfl, HLit.out⟩
      case round =>
        obtain ⟨k, hk, rfl, hO⟩ := hrel
        obtain ⟨av, cv, rfl, _, _⟩ := hO.shape
        by_cases hlt : k < 17
        · obtain ⟨ba, oa, rfl, hba, hca⟩ := ha.at' (by omega)
          obtain ⟨bb, ob, rfl, hbb, hcb⟩ := hb.at' (by omega)
          have hka : k < a.length := by have := HLA.out; omega
          have hkb : k < b.length := by have := HLB.out; omega
          have hc1 := hca k (by simpa using hka)
          have hc2 := hcb k (by simpa using hkb)
          have hB := hO.below
          rw [← hB.cell (p := ⟨ba, oa + k, none⟩) (by exact hba), strs_get a k hka] at hc1
          rw [← hB.cell (p := ⟨bb, ob + k, none⟩) (by exact hbb), strs_get b k hkb] at hc2
          have hlen := diffN_len a b k
          by_cases he : a[k] = b[k]
          · have HN : Hid (diffN a b (k + 1) = diffN a b k) := Lib.hid (by rw [diffN, getD_at a k hka, getD_at b k hkb, if_pos he, List.append_nil])
            rw [he] at hc1
            clear he hca hcb ha hb hB
            generalize diffN a b k = pre at *
            generalize b[k] = s at *
            go_wp2
            go_roundg (gk - 1)
            case measure => omega
            case rel => exact ⟨k + 1, by omega, by go_num, by rw [HN.out]; exact hO⟩
          · have HN : Hid (diffN a b (k + 1) = diffN a b k ++ [((k : Int), b[k])]) := Lib.hid (by rw [diffN, getD_at a k hka, getD_at b k hkb, if_neg he])
            obtain ⟨hn1, hn2⟩ := strNe _ _ he
            clear he hca hcb ha hb hB
            generalize diffN a b k = pre at *
            generalize b[k] = s at *
            generalize a[k] = s0 at *
            go_wp2_with (at_builtin; go_loud (refine wp_app1g rfl _ _ 30 rfl 53 (.agg #[.int .i64 0, .string ByteArray.empty]) 2 24 Try.underlying30 info_wr rfl (by decide) _ _ _ _ _ (by rfl) (by exact hO) _ _ (by rfl) (by rfl) (by intro u hu; simp at hu; first | (subst hu; rfl) | (rcases hu with rfl | rfl <;> rfl) | (rcases hu with rfl | rfl | rfl <;> rfl) | (rcases hu with rfl | rfl | rfl | rfl <;> rfl)) (by omega) (by unfold maxLen; omega) ?_); intro a2 c2 w2 hO2 hG2 hN2)
            go_wp2
            go_roundg (gk - 1)
            case measure => omega
            case rel => exact ⟨k + 1, by omega, by go_num, by rw [HN.out, List.length_append, wrs_append]; exact hO2⟩
        · have hkl : k = 17 := by omega
          subst hkl
          rw [← HF.out] at hO ⊢
          go_wp2
          go_ret
          exact ⟨_, _, rfl, hO⟩
    · have HF : Hid (diffL a b = []) := Lib.hid (by unfold diffL; rw [if_neg (by omega)])
      have hne : ((m : Int) != 17) = true := by simp; omega
      subst h1
      clear hla hlb
      go_enter Try.func38, Try.ntmps38
      go_wp2
      go_ret
      rw [HF.out]
      exact ⟨_, _, rfl, HLit.out⟩
  · have HF : Hid (diffL a b = []) := Lib.hid (by unfold diffL; rw [if_neg (by omega)])
    have hne : ((n : Int) != 17) = true := by simp; omega
    clear hla hlb
    go_enter Try.func38, Try.ntmps38
    go_wp2
    go_ret
    rw [HF.out]
    exact ⟨_, _, rfl, HLit.out⟩

set_option maxRecDepth 1000000 in
set_option maxHeartbeats 6000000 in
theorem specDiff_any (pa pb : Option Addr) (n m c d : Nat) (a b : List ByteArray) (w : World) (ha : Rd w pa n c 1 (strs a)) (hb : Rd w pb m d 1 (strs b)) :
    Calls Try.prog 36 #[.slice pa n c, .slice pb m d] w (DiffPost (diffL a b) w) := by
  have hla : a.length = n := by have := ha.len; simpa using this
  have hlb : b.length = m := by have := hb.len; simpa using this
  have hma : n ≤ maxLen := Nat.le_trans ha.le ha.max
  have hmb : m ≤ maxLen := Nat.le_trans hb.le hb.max
  unfold maxLen at hma hmb
  have HLit := Lib.hid (Own.lit (e := 53) (size := 2) (n := 0) (Below.refl w.heap.size w) (Nat.le_refl _) #[] rfl (by decide))
  by_cases h1 : n = 17
  · by_cases h2 : m = 17
    · have HF : Hid (diffL a b = diffN a b 17) := Lib.hid (by unfold diffL; rw [if_pos ⟨by omega, by omega⟩])
      have HLA := Lib.hid hla
      have HLB := Lib.hid hlb
      subst h1 h2
      clear hla hlb
      go_enter Try.func36, Try.ntmps36
      go_wp2
      go_loopg [5, 6] 17 (fun gg o i wr => ∃ k : Nat, k + gg = 17 ∧ i = .int .i64 (k : Int) ∧ Own 53 2 w.heap.size w o (diffN a b k).length (wrs (diffN a b k)) wr)
      case atStart => exact ⟨0, by omega, rfl, HLit.out⟩
      case round =>
        obtain ⟨k, hk, rfl, hO⟩ := hrel
        obtain ⟨av, cv, rfl, _, _⟩ := hO.shape
        by_cases hlt : k < 17
        · obtain ⟨ba, oa, rfl, hba, hca⟩ := ha.at' (by omega)
          obtain ⟨bb, ob, rfl, hbb, hcb⟩ := hb.at' (by omega)
          have hka : k < a.length := by have := HLA.out; omega
          have hkb : k < b.length := by have := HLB.out; omega
          have hc1 := hca k (by simpa using hka)
          have hc2 := hcb k (by simpa using hkb)
          have hB := hO.below
          rw [← hB.cell (p := ⟨ba, oa + k, none⟩) (by exact hba), strs_get a k hka] at hc1
          rw [← hB.cell (p := ⟨bb, ob + k, none⟩) (by exact hbb), strs_get b k hkb] at hc2
          have hlen := diffN_len a b k
          have hk0 : (0 : Int) ≤ (k : Int) := by omega
          have hk1 : (k : Int) < 17 := by omega
          by_cases he : a[k] = b[k]
          · have HN : Hid (diffN a b (k + 1) = diffN a b k) := Lib.hid (by rw [diffN, getD_at a k hka, getD_at b k hkb, if_pos he, List.append_nil])
            rw [he] at hc1
            clear he hca hcb ha hb hB
            generalize diffN a b k = pre at *
            generalize b[k] = s at *
            go_wp2
            go_quiet (fail)
            go_wp2
            go_roundg (gk - 1)
            case measure => omega
            case rel => exact ⟨k + 1, by omega, by go_num, by rw [HN.out]; exact hO.drewN _⟩
          · have HN : Hid (diffN a b (k + 1) = diffN a b k ++ [((k : Int), b[k])]) := Lib.hid (by rw [diffN, getD_at a k hka, getD_at b k hkb, if_neg he])
            obtain ⟨hn1, hn2⟩ := strNe _ _ he
            clear he hca hcb ha hb hB
            generalize diffN a b k = pre at *
            generalize b[k] = s at *
            generalize a[k] = s0 at *
            go_wp2
            go_quiet (fail)
            have hOq := hO.drewN nq
            go_wp2_with (at_builtin; go_loud (refine wp_app1g rfl _ _ 30 rfl 53 (.agg #[.int .i64 0, .string ByteArray.empty]) 2 24 Try.underlying30 info_wr rfl (by decide) _ _ _ _ _ (by rfl) (by exact hOq) _ _ (by rfl) (by rfl) (by intro u hu; simp at hu; first | (subst hu; rfl) | (rcases hu with rfl | rfl <;> rfl) | (rcases hu with rfl | rfl | rfl <;> rfl) | (rcases hu with rfl | rfl | rfl | rfl <;> rfl)) (by omega) (by unfold maxLen; omega) ?_); intro a2 c2 w2 hO2 hG2 hN2)
            go_wp2
            go_roundg (gk - 1)
            case measure => omega
            case rel => exact ⟨k + 1, by omega, by go_num, by rw [HN.out, List.length_append, wrs_append]; exact hO2⟩
        · have hkl : k = 17 := by omega
          subst hkl
          rw [← HF.out] at hO ⊢
          go_wp2
          go_ret
          exact ⟨_, _, rfl, hO⟩
    · have HF : Hid (diffL a b = []) := Lib.hid (by unfold diffL; rw [if_neg (by omega)])
      have hne : ((m : Int) != 17) = true := by simp; omega
      subst h1
      clear hla hlb
      go_enter Try.func36, Try.ntmps36
      go_wp2
      go_ret
      rw [HF.out]
      exact ⟨_, _, rfl, HLit.out⟩
  · have HF : Hid (diffL a b = []) := Lib.hid (by unfold diffL; rw [if_neg (by omega)])
    have hne : ((n : Int) != 17) = true := by simp; omega
    clear hla hlb
    go_enter Try.func36, Try.ntmps36
    go_wp2
    go_ret
    rw [HF.out]
    exact ⟨_, _, rfl, HLit.out⟩
end Go.Proofs.Ytbokgbbdjcpgbaa
