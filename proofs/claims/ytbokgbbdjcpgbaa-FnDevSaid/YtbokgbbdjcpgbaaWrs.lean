/- The laws' own helpers on lists of writes: sizes, a copy; are two alike; marks laid, and looked at again. -/
import Derived.Test.YtbokgbbdjcpgbaaStrs
namespace Go.Proofs.Ytbokgbbdjcpgbaa
open Go.RowKit

theorem info_wr : (Try.prog.info? 53).map (fun i => (i.zero, i.size, i.bytes)) = some (some (.agg #[.int .i64 0, .string ByteArray.empty]), 2, 24) := by kernel_rfl

def wrV (x : Int × ByteArray) : Value := .agg #[.int .i64 x.1, .string x.2]
theorem wrs_cells {w : World} {a : Option Addr} {n cap : Nat} {l : List (Int × ByteArray)} (h : Rd w a n cap 2 (wrs l)) (k : Nat) (hk : k < l.length) :
    ∃ b off, a = some ⟨b, off, none⟩ ∧ b < w.heap.size ∧ w.cell? ⟨b, off + k * 2, none⟩ = some (.int .i64 l[k].1) ∧ w.cell? ⟨b, off + k * 2 + 1, none⟩ = some (.string l[k].2) := by
  have hl : l.length = n := by have := h.len; simp at this; omega
  obtain ⟨b, off, e, hlt, hc⟩ := h.at' (by omega)
  refine ⟨b, off, e, hlt, ?_, ?_⟩
  · rw [hc (k * 2) (by simp; omega), wrs_get0 l k hk]
  · rw [Nat.add_assoc, hc (k * 2 + 1) (by simp; omega), wrs_get1 l k hk]

set_option maxRecDepth 1000000 in
set_option maxHeartbeats 6000000 in
theorem toWrite_any (x : Int × ByteArray) (w : World) : Calls Try.prog 108 #[wrV x] w fun e w' => e = .returned (wrV x) ∧ Below w.heap.size w w' := by
  unfold wrV
  go_enter Try.func108, Try.ntmps108
  go_wp2
  go_returns
  exact ⟨rfl, (((Below.refl _ _).alloc (Nat.le_refl _) _).alloc (by simp) _).alloc (by simp; omega) _⟩

theorem set_stepW (l : List (Int × ByteArray)) (k : Nat) (h : k < l.length) (z : Int × ByteArray) : (((wrs (l.take k)) ++ wrs (List.replicate (l.length - k) z)).set (k * 2) (.int .i64 l[k].1)).set (k * 2 + 1) (.string l[k].2) = wrs (l.take (k + 1)) ++ wrs (List.replicate (l.length - (k + 1)) z) := by
  have e : l.length - k = (l.length - (k + 1)) + 1 := by omega
  have hk : (wrs (l.take k)).length = k * 2 := by simp; omega
  rw [List.set_append_right _ _ (by omega), List.set_append_right _ _ (by omega), e, List.replicate_succ, List.take_succ_eq_append_getElem h, wrs_append, hk, Nat.sub_self, show k * 2 + 1 - k * 2 = 1 from by omega]
  simp [wrs, wr1]
set_option maxRecDepth 1000000 in
set_option maxHeartbeats 6000000 in
theorem toWrs_any (a : Option Addr) (n cap : Nat) (l : List (Int × ByteArray)) (w : World) (h : Rd w a n cap 2 (wrs l)) (hn : n ≤ 1048576) :
    Calls Try.prog 69 #[.slice a n cap] w fun e w' => ∃ g c, e = .returned (.slice (some ⟨g, 0, none⟩) n c) ∧ Own 53 2 w.heap.size w (.slice (some ⟨g, 0, none⟩) n c) n (wrs l) w' := by
  have hl : l.length = n := by have := h.len; simp at this; omega
  subst hl
  go_enter Try.func69, Try.ntmps69
  go_wp2_with (at_make; refine wp_makes wr1 2 (by omega) wr1_len (0, ByteArray.empty) rfl _ _ 30 rfl 53 (.agg #[.int .i64 0, .string ByteArray.empty]) 24 Try.underlying30 info_wr rfl w.heap.size w (Below.refl _ _) (Nat.le_refl _) _ _ _ _ l.length (by rfl) (by rfl) (by rfl) (by rfl) (by omega) (by unfold maxLen; omega) ?_; intro w1 hO)
  go_loopg [4] l.length (fun gg i wr => ∃ k : Nat, k + gg = l.length ∧ i = .int .i64 (k : Int) ∧ Own 53 2 w.heap.size w (.slice (some ⟨w.heap.size, 0, none⟩) l.length l.length) l.length (wrs (l.take k) ++ wrs (List.replicate (l.length - k) (0, ByteArray.empty))) wr)
  case atStart => exact ⟨0, by omega, rfl, by simpa [wrs] using hO⟩
  case round =>
    obtain ⟨k, hk, rfl, hOk⟩ := hrel
    by_cases hlt : k < l.length
    · obtain ⟨b, off, rfl, hbs, hc0, hc1⟩ := wrs_cells h k hlt
      have hB := hOk.below
      rw [← hB.cell (p := ⟨b, off + k * 2, none⟩) (by exact hbs)] at hc0
      rw [← hB.cell (p := ⟨b, off + k * 2 + 1, none⟩) (by exact hbs)] at hc1
      have hkl : (k : Int) < (l.length : Int) := by omega
      clear hO
      go_wp2_with fail
      refine (toWrite_any l[k] _).mono ?_
      rintro e w2 ⟨rfl, hb2⟩
      have hO2 := hOk.kept hb2
      have hf0 := hO2.free (k * 2)
      have hf1 := hO2.free (k * 2 + 1)
      have hv0 := hO2.cell (k * 2) (by simp; omega)
      have hv1 := hO2.cell (k * 2 + 1) (by simp; omega)
      have hS := (hO2.set (k * 2) (.int .i64 l[k].1)).set (k * 2 + 1) (.string l[k].2)
      rw [set_stepW l k hlt] at hS
      generalize (wrs (l.take k) ++ wrs (List.replicate (l.length - k) (0, ByteArray.empty)))[k * 2]'(by simp; omega) = u0 at hv0
      generalize (wrs (l.take k) ++ wrs (List.replicate (l.length - k) (0, ByteArray.empty)))[k * 2 + 1]'(by simp; omega) = u1 at hv1
      have HS := Lib.hid hS
      clear hc0 hc1 hOk hB hb2 hO2 hS h
      unfold wrV
      go_wp2
      go_roundg (gk - 1)
      case measure => omega
      case rel => exact ⟨k + 1, by omega, by go_num, HS.out⟩
    · have hkl : k = l.length := by omega
      subst hkl
      rw [List.take_length, Nat.sub_self, List.replicate_zero] at hOk
      go_wp2
      go_ret
      exact ⟨_, _, rfl, by simpa [wrs] using hOk⟩

set_option maxRecDepth 1000000 in
set_option maxHeartbeats 6000000 in
theorem eqWrite_yes (x : Int × ByteArray) (w : World) : Calls Try.prog 82 #[wrV x, wrV x] w fun e w' => e = .returned (.bool true) ∧ Below w.heap.size w w' := by
  unfold wrV
  go_enter Try.func82, Try.ntmps82
  go_wp2
  go_ret
  exact ⟨rfl, ((Below.refl _ _).alloc (Nat.le_refl _) _).alloc (by simp) _⟩
set_option maxRecDepth 1000000 in
set_option maxHeartbeats 6000000 in
theorem eqWrs_yes (a b : Option Addr) (n m c d : Nat) (l : List (Int × ByteArray)) (w : World) (ha : Rd w a n c 2 (wrs l)) (hb : Rd w b m d 2 (wrs l)) (hn : n ≤ 1073741824) :
    Calls Try.prog 39 #[.slice a n c, .slice b m d] w fun e w' => e = .returned (.bool true) ∧ Below w.heap.size w w' := by
  have hl : l.length = n := by have := ha.len; simp at this; omega
  have hl2 : l.length = m := by have := hb.len; simp at this; omega
  subst hl
  subst hl2
  go_enter Try.func39, Try.ntmps39
  go_wp2
  go_loopg [5] l.length (fun gg i wr => ∃ k : Nat, k + gg = l.length ∧ i = .int .i64 (k : Int) ∧ Hid (Below w.heap.size w wr))
  case atStart => exact ⟨0, by omega, rfl, Lib.hid (Below.refl _ _)⟩
  case round =>
    obtain ⟨k, hk, rfl, hB⟩ := hrel
    by_cases hlt : k < l.length
    · obtain ⟨ba, oa, rfl, hba, ha0, ha1⟩ := wrs_cells ha k hlt
      obtain ⟨bb, ob, rfl, hbb, hb0, hb1⟩ := wrs_cells hb k hlt
      have HALL : Hid (∀ W, Below w.heap.size w W → (W.cell? ⟨ba, oa + k * 2, none⟩ = some (.int .i64 l[k].1) ∧ W.cell? ⟨ba, oa + k * 2 + 1, none⟩ = some (.string l[k].2) ∧ W.cell? ⟨bb, ob + k * 2, none⟩ = some (.int .i64 l[k].1) ∧ W.cell? ⟨bb, ob + k * 2 + 1, none⟩ = some (.string l[k].2) ∧ Below w.heap.size w W)) :=
        Lib.hid (fun W hW => ⟨(hW.cell (p := ⟨ba, oa + k * 2, none⟩) (by exact hba)).trans ha0, (hW.cell (p := ⟨ba, oa + k * 2 + 1, none⟩) (by exact hba)).trans ha1, (hW.cell (p := ⟨bb, ob + k * 2, none⟩) (by exact hbb)).trans hb0, (hW.cell (p := ⟨bb, ob + k * 2 + 1, none⟩) (by exact hbb)).trans hb1, hW⟩)
      have HEQ : Hid (∀ W, Calls Try.prog 82 #[.agg #[.int .i64 l[k].1, .string l[k].2], .agg #[.int .i64 l[k].1, .string l[k].2]] W fun e w' => e = .returned (.bool true) ∧ Below W.heap.size W w') := Lib.hid (fun W => eqWrite_yes l[k] W)
      have hi : (k : Int) < (l.length : Int) := by omega
      have hi0 : (0 : Int) ≤ (k : Int) := by omega
      have hB0 := hB.out
      clear ha hb ha0 ha1 hb0 hb1
      generalize l[k].1 = x at *
      generalize l[k].2 = y at *
      go_wp2
      go_region_held3 (fun W => W.cell? ⟨ba, oa + k * 2, none⟩ = some (.int .i64 x) ∧ W.cell? ⟨ba, oa + k * 2 + 1, none⟩ = some (.string y) ∧ W.cell? ⟨bb, ob + k * 2, none⟩ = some (.int .i64 x) ∧ W.cell? ⟨bb, ob + k * 2 + 1, none⟩ = some (.string y) ∧ Below w.heap.size w W)
        ((go_split_ands; first | exact HALL.out _ (by assumption) | exact HALL.out _ (Below.drew (by assumption)) | exact HALL.out _ (below_step1 (by assumption) (by assumption))))
        (first | (go_at_call 82; refine (HEQ.out _).mono ?_; rintro e w' ⟨rfl, hbk⟩))
      go_split_ands
      rename_i hB9
      go_wp2
      go_roundg (gk - 1)
      case measure => omega
      case rel => exact ⟨k + 1, by omega, by go_num, Lib.hid hB9⟩
    · go_wp2
      go_ret
      exact ⟨rfl, hB.out⟩

/-- Marks of writes: k, and k + 1 as a text; and so on. -/
def mkw (k : Nat) (n : Nat) : List (Int × ByteArray) := (List.range n).map fun i => (((k + 2 * i : Nat) : Int), mtF (k + 2 * i + 1))
@[simp] theorem mkw_length (k n : Nat) : (mkw k n).length = n := by simp [mkw]
theorem mkw_get (k n i : Nat) (h : i < n) : (mkw k n)[i]'(by simpa using h) = (((k + 2 * i : Nat) : Int), mtF (k + 2 * i + 1)) := by simp [mkw]
theorem mkw_set (k n j : Nat) (l : List (Int × ByteArray)) (hl : l.length = n) (h : j < n) : ((wrs (mkw k j) ++ wrs (l.drop j)).set (j * 2) (.int .i64 ((k + 2 * j : Nat) : Int))).set (j * 2 + 1) (.string (mtF (k + 2 * j + 1))) = wrs (mkw k (j + 1)) ++ wrs (l.drop (j + 1)) := by
  have e : mkw k (j + 1) = mkw k j ++ [(((k + 2 * j : Nat) : Int), mtF (k + 2 * j + 1))] := by simp [mkw, List.range_succ]
  have e2 : wrs (l.drop j) = .int .i64 (l[j]'(by omega)).1 :: .string (l[j]'(by omega)).2 :: wrs (l.drop (j + 1)) := by rw [List.drop_eq_getElem_cons (by omega)]; rfl
  have hk : (wrs (mkw k j)).length = j * 2 := by simp
  rw [e, wrs_append, e2, List.set_append_right _ _ (by omega), List.set_append_right _ _ (by omega), hk, Nat.sub_self, show j * 2 + 1 - j * 2 = 1 from by omega]
  simp [wrs, wr1]
set_option maxRecDepth 1000000 in
set_option maxHeartbeats 6000000 in
theorem markWrs_any (e : TypeId) (B : Nat) (W0 : World) (a : Option Addr) (n cap : Nat) (l : List (Int × ByteArray)) (k : Nat) (w : World) (h : Own e 2 B W0 (.slice a n cap) n (wrs l) w) (hn : n ≤ 1073741824) (hk0 : 0 < k) (hk1 : k ≤ 1073741824) :
    Calls Try.prog 42 #[.slice a n cap, .int .i64 (k : Int)] w fun e' w' => e' = .returned (.int .i64 ((k + 2 * n : Nat) : Int)) ∧ Own e 2 B W0 (.slice a n cap) n (wrs (mkw k n)) w' ∧ w.grownBy w' (Value.ownBlock (.slice a n cap)) := by
  have hl : l.length = n := by have := h.rd.len; simp at this; omega
  have HL := Lib.hid hl
  clear hl
  go_enter Try.func42, Try.ntmps42
  go_wp2
  go_loopg [1, 5] n (fun gg m i wr => ∃ j : Nat, j + gg = n ∧ i = .int .i64 (j : Int) ∧ m = .int .i64 ((k : Int) + 2 * (j : Int)) ∧ Own e 2 B W0 (.slice a n cap) n (wrs (mkw k j) ++ wrs (l.drop j)) wr ∧ w.grownBy wr (Value.ownBlock (.slice a n cap)))
  case atStart => exact ⟨0, by omega, rfl, by simp, by simpa [mkw, wrs] using h, World.grownBy.refl _ _⟩
  case round =>
    obtain ⟨j, hj, rfl, rfl, hO, hG⟩ := hrel
    by_cases hlt : j < n
    · obtain ⟨g, cap', he, hg⟩ := hO.shape1 (by omega)
      simp only [Value.slice.injEq] at he
      obtain ⟨rfl, _, rfl⟩ := he
      have hjn : (j : Int) < (n : Int) := by omega
      have hf0 := hO.free (j * 2)
      have hv0 := hO.cell (j * 2) (by simp; have := HL.out; omega)
      have hS0 := hO.set (j * 2) (.int .i64 ((k + 2 * j : Nat) : Int))
      have hG0 : Hid (w.grownBy (wr.setCell ⟨g, j * 2, none⟩ (.int .i64 ((k + 2 * j : Nat) : Int))) (Value.ownBlock (.slice (some ⟨g, 0, none⟩) n cap))) := Lib.hid (hG.trans (hO.row.stored _ _).2)
      have HS0 := Lib.hid hS0
      generalize (wrs (mkw k j) ++ wrs (l.drop j))[j * 2]'(by simp; have := HL.out; omega) = u0 at hv0
      rw [show ((k + 2 * j : Nat) : Int) = (k : Int) + 2 * (j : Int) from by omega] at HS0 hG0
      clear hS0 hG hO h
      go_wp2_with fail
      have hmt := markText_any (k + 2 * j + 1) (wr.setCell ⟨g, j * 2, none⟩ (.int .i64 ((k : Int) + 2 * (j : Int)))) (by omega) (by omega)
      rw [show ((k + 2 * j + 1 : Nat) : Int) = (k : Int) + 2 * (j : Int) + 1 from by omega] at hmt
      refine hmt.mono ?_
      clear hmt
      rintro e' w2 ⟨rfl, hb2⟩
      have hO2 := HS0.out.kept hb2
      have hf1 := hO2.free (j * 2 + 1)
      obtain ⟨u1, hv1⟩ : ∃ u, w2.cell? ⟨g, j * 2 + 1, none⟩ = some u := ⟨_, hO2.cell (j * 2 + 1) (by simp; have := HL.out; omega)⟩
      have hS := hO2.set (j * 2 + 1) (.string (mtF (k + 2 * j + 1)))
      have hG2 : Hid (w.grownBy (w2.setCell ⟨g, j * 2 + 1, none⟩ (.string (mtF (k + 2 * j + 1)))) (Value.ownBlock (.slice (some ⟨g, 0, none⟩) n cap))) := Lib.hid ((hG0.out.trans (grown_of_below _ hb2)).trans (hO2.row.stored _ _).2)
      rw [show (k : Int) + 2 * (j : Int) = ((k + 2 * j : Nat) : Int) from by omega, mkw_set k n j l HL.out hlt] at hS
      have HS := Lib.hid hS
      clear hO2 hS hb2 HS0 hG0 hv0 hf0
      go_wp2
      go_roundg (gk - 1)
      case measure => omega
      case rel => exact ⟨j + 1, by omega, by go_num, by go_num, HS.out, hG2.out⟩
    · have hjn : j = n := by omega
      subst hjn
      rw [List.drop_of_length_le (by have := HL.out; omega)] at hO
      go_wp2
      go_ret
      exact ⟨by go_num, by simpa [wrs] using hO, hG⟩
set_option maxRecDepth 1000000 in
set_option maxHeartbeats 6000000 in
theorem heldWrs_yes (a : Option Addr) (n cap : Nat) (k : Nat) (w : World) (h : Rd w a n cap 2 (wrs (mkw k n))) (hn : n ≤ 1073741824) (hk0 : 0 < k) (hk1 : k ≤ 1073741824) :
    Calls Try.prog 43 #[.slice a n cap, .int .i64 (k : Int)] w fun e' w' => e' = .returned (.int .i64 ((k + 2 * n : Nat) : Int)) ∧ Below w.heap.size w w' := by
  go_enter Try.func43, Try.ntmps43
  go_wp2
  go_loopg [1, 5] n (fun gg m i wr => ∃ j : Nat, j + gg = n ∧ i = .int .i64 (j : Int) ∧ m = .int .i64 ((k : Int) + 2 * (j : Int)) ∧ Hid (Below w.heap.size w wr))
  case atStart => exact ⟨0, by omega, rfl, by simp, Lib.hid (Below.refl _ _)⟩
  case round =>
    obtain ⟨j, hj, rfl, rfl, hB⟩ := hrel
    by_cases hlt : j < n
    · obtain ⟨b, off, rfl, hbs, hc0, hc1⟩ := wrs_cells h j (by simpa using hlt)
      rw [mkw_get k n j hlt] at hc0 hc1
      simp only at hc0 hc1
      rw [show ((k + 2 * j : Nat) : Int) = (k : Int) + 2 * (j : Int) from by omega] at hc0
      have HALL : Hid (∀ W, Below w.heap.size w W → (W.cell? ⟨b, off + j * 2 + 1, none⟩ = some (.string (mtF (k + 2 * j + 1))) ∧ Below w.heap.size w W)) := Lib.hid (fun W hW => ⟨(hW.cell (p := ⟨b, off + j * 2 + 1, none⟩) (by exact hbs)).trans hc1, hW⟩)
      have hjn : (j : Int) < (n : Int) := by omega
      have hj0 : (0 : Int) ≤ (j : Int) := by omega
      have hB0 := hB.out
      have hcr : wr.cell? ⟨b, off + j * 2, none⟩ = some (.int .i64 ((k : Int) + 2 * (j : Int))) := (hB0.cell (p := ⟨b, off + j * 2, none⟩) (by exact hbs)).trans hc0
      have HM : Hid (∀ W, Calls Try.prog 83 #[.int .i64 ((k : Int) + 2 * (j : Int) + 1)] W fun e w' => e = .returned (.string (mtF (k + 2 * j + 1))) ∧ Below W.heap.size W w') := Lib.hid (fun W => by
        have := markText_any (k + 2 * j + 1) W (by omega) (by omega)
        rwa [show ((k + 2 * j + 1 : Nat) : Int) = (k : Int) + 2 * (j : Int) + 1 from by omega] at this)
      have hne : (((k : Int) + 2 * (j : Int)) != (k : Int) + 2 * (j : Int)) = false := by simp
      clear hc0 hc1 h
      generalize mtF (k + 2 * j + 1) = mt at *
      go_wp2
      go_region_held3 (fun W => W.cell? ⟨b, off + j * 2 + 1, none⟩ = some (.string mt) ∧ Below w.heap.size w W)
        ((go_split_ands; first | exact HALL.out _ (by assumption) | exact HALL.out _ (Below.drew (by assumption)) | exact HALL.out _ (below_step1 (by assumption) (by assumption))))
        (first | (go_at_call 83; refine (HM.out _).mono ?_; rintro e w' ⟨rfl, hbk⟩))
      go_split_ands
      rename_i hB9
      go_wp2
      go_roundg (gk - 1)
      case measure => omega
      case rel => exact ⟨j + 1, by omega, by go_num, by go_num, Lib.hid hB9⟩
    · have hjn : j = n := by omega
      subst hjn
      go_wp2
      go_ret
      exact ⟨by go_num, hB.out⟩

def SzWs (left : Int) (l : List (Int × ByteArray)) (w : World) (e : Ending) (w' : World) : Prop := ∃ x : Int, e = .returned (.int .i64 x) ∧ -1 ≤ x ∧ x ≤ left ∧ (0 ≤ x → (l.length : Int) ≤ left ∧ ∀ s ∈ l, (s.2.size : Int) ≤ left) ∧ Below w.heap.size w w'
set_option maxRecDepth 1000000 in
set_option maxHeartbeats 6000000 in
theorem szWrite_any (x : Int × ByteArray) (left : Int) (w : World) (hs : x.2.size ≤ maxLen) (h0 : 0 ≤ left) (h1 : left ≤ 1048576) :
    Calls Try.prog 107 #[wrV x, .int .i64 left] w fun e w' => e = .returned (.int .i64 (if left - (x.2.size : Int) < 0 then -1 else left - (x.2.size : Int))) ∧ Below w.heap.size w w' := by
  unfold maxLen at hs
  unfold wrV
  by_cases h : left - (x.2.size : Int) < 0
  · rw [if_pos h]
    go_enter Try.func107, Try.ntmps107
    go_wp2
    go_ret
    exact ⟨rfl, (Below.refl _ _).alloc (Nat.le_refl _) _⟩
  · rw [if_neg h]
    go_enter Try.func107, Try.ntmps107
    go_wp2
    go_ret
    exact ⟨rfl, (Below.refl _ _).alloc (Nat.le_refl _) _⟩
set_option maxRecDepth 1000000 in
set_option maxHeartbeats 6000000 in
theorem szWrs_any (a : Option Addr) (n cap : Nat) (l : List (Int × ByteArray)) (left : Int) (w : World) (h : Rd w a n cap 2 (wrs l)) (hs : ∀ s ∈ l, s.2.size ≤ maxLen) (h0 : 0 ≤ left) (h1 : left ≤ 1048576) :
    Calls Try.prog 67 #[.slice a n cap, .int .i64 left] w (SzWs left l w) := by
  have hl : l.length = n := by have := h.len; simp at this; omega
  have hm : n ≤ maxLen := Nat.le_trans h.le h.max
  unfold maxLen at hm
  subst hl
  have HS := Lib.hid hs
  clear hs
  by_cases hlen : left - (l.length : Int) < 0
  · go_enter Try.func67, Try.ntmps67
    go_wp2
    go_ret
    exact ⟨-1, rfl, by omega, by omega, fun h => by omega, Below.refl _ _⟩
  · go_enter Try.func67, Try.ntmps67
    go_wp2
    go_loopg [1, 5] l.length (fun gg x i wr => ∃ (j : Nat) (y : Int), j + gg = l.length ∧ i = .int .i64 (j : Int) ∧ x = .int .i64 y ∧ 0 ≤ y ∧ y ≤ left - (l.length : Int) ∧ Hid (∀ s ∈ l.take j, (s.2.size : Int) ≤ left) ∧ Hid (Below w.heap.size w wr))
    case atStart => exact ⟨0, left - (l.length : Int), by omega, rfl, rfl, by omega, by omega, Lib.hid (by simp), Lib.hid (Below.refl _ _)⟩
    case round =>
      obtain ⟨j, y, hj, rfl, rfl, hy0, hy1, HT, hB⟩ := hrel
      by_cases hlt : j < l.length
      · obtain ⟨b, off, rfl, hbs, hc0, hc1⟩ := wrs_cells h j hlt
        rw [← hB.out.cell (p := ⟨b, off + j * 2, none⟩) (by exact hbs)] at hc0
        rw [← hB.out.cell (p := ⟨b, off + j * 2 + 1, none⟩) (by exact hbs)] at hc1
        have hsz := HS.out l[j] (List.getElem_mem hlt)
        have HN : Hid (∀ s : Int × ByteArray, (s.2.size : Int) ≤ left → s = l[j] → ∀ s ∈ l.take (j + 1), (s.2.size : Int) ≤ left) := Lib.hid (by
          intro s h3 h2 s' hs'
          rw [List.take_succ_eq_append_getElem hlt] at hs'
          rcases List.mem_append.1 hs' with h5 | h5
          · exact HT.out _ h5
          · rw [List.mem_singleton] at h5; subst h5; rw [← h2]; exact h3)
        obtain ⟨s, hse⟩ : ∃ s, s = l[j] := ⟨_, rfl⟩
        rw [← hse] at hc0 hc1 hsz
        have HSE := Lib.hid hse
        have hjl : (j : Int) < (l.length : Int) := by omega
        clear hse h
        have hcon := szWrite_any s y wr hsz hy0 (by omega)
        unfold maxLen at hsz
        by_cases hz : y - (s.2.size : Int) < 0
        · rw [if_pos hz] at hcon
          have HCON := Lib.hid hcon
          clear hcon
          go_wp2_with fail
          refine HCON.out.mono ?_
          rintro e w2 ⟨rfl, hb2⟩
          have HB2 := Lib.hid (below_step1 hB.out hb2)
          clear hb2
          go_wp2
          go_ret
          exact ⟨-1, rfl, by omega, by omega, fun h => by omega, HB2.out⟩
        · rw [if_neg hz] at hcon
          have HCON := Lib.hid hcon
          clear hcon
          go_wp2_with fail
          refine HCON.out.mono ?_
          rintro e w2 ⟨rfl, hb2⟩
          have HB2 := Lib.hid (below_step1 hB.out hb2)
          clear hb2
          go_wp2
          go_roundg (gk - 1)
          case measure => omega
          case rel => exact ⟨j + 1, y - (s.2.size : Int), by omega, by go_num, by go_num, by omega, by omega, Lib.hid (HN.out s (by omega) HSE.out), HB2⟩
      · have hjl : j = l.length := by omega
        subst hjl
        rw [List.take_length] at HT
        go_wp2
        go_ret
        exact ⟨y, rfl, by omega, by omega, fun _ => ⟨by omega, HT.out⟩, hB.out⟩
end Go.Proofs.Ytbokgbbdjcpgbaa
