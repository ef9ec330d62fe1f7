/- The laws' own helpers on lists of texts: sizes, a copy; are two alike; marks laid, and looked at again. -/
import Derived.Test.YtlkfabkkjfmnmaaGreatDoorShape
import Derived.Test.YtlkfabkkjfmnmaaGreatDoorMore
import Derived.Test.YtlkfabkkjfmnmaaGreatDoorDec
namespace Go.Proofs.YtlkfabkkjfmnmaaGreatDoor
open Go.RowKit

theorem info_str : (Tryz.prog.info? 9).map (fun i => (i.zero, i.size, i.bytes)) = some (some (.string ByteArray.empty), 1, 16) := by kernel_rfl

theorem below_step1 {w0 w w' : World} (h : Below w0.heap.size w0 w) (hb : Below w.heap.size w w') : Below w0.heap.size w0 w' := h.trans (hb.mono h.size)
theorem set_stepS (l : List ByteArray) (k : Nat) (h : k < l.length) (z : Value) : ((strs (l.take k)) ++ List.replicate (l.length - k) z).set k (.string l[k]) = strs (l.take (k + 1)) ++ List.replicate (l.length - (k + 1)) z := by
  have e : l.length - k = (l.length - (k + 1)) + 1 := by omega
  rw [List.set_append_right _ _ (by simp; omega), e, List.replicate_succ, List.take_succ_eq_append_getElem h, strs_append]
  have e2 : k - (strs (l.take k)).length = 0 := by simp; omega
  rw [e2]
  simp [strs_eq]

set_option maxRecDepth 1000000 in
set_option maxHeartbeats 6000000 in
theorem toStrs_any (a : Option Addr) (n cap : Nat) (l : List ByteArray) (w : World) (h : Rd w a n cap 1 (strs l)) (hn : n ≤ 1048576) :
    Calls Tryz.prog 7 #[.slice a n cap] w fun e w' => ∃ g c, e = .returned (.slice (some ⟨g, 0, none⟩) n c) ∧ Own 9 1 w.heap.size w (.slice (some ⟨g, 0, none⟩) n c) n (strs l) w' := by
  have hl : l.length = n := by have := h.len; simpa using this
  subst hl
  go_enter Tryz.func7, Tryz.ntmps7
  go_wp2_with (at_make; refine wp_maken rfl _ _ 22 rfl 9 (.string ByteArray.empty) 16 Tryz.underlying22 info_str rfl w.heap.size w (Below.refl _ _) (Nat.le_refl _) _ _ _ _ l.length (by rfl) (by rfl) (by rfl) (by rfl) (by omega) (by unfold maxLen; omega) ?_; intro w1 hO)
  go_loopg [4] l.length (fun gg i wr => ∃ k : Nat, k + gg = l.length ∧ i = .int .i64 k ∧ Own 9 1 w.heap.size w (.slice (some ⟨w.heap.size, 0, none⟩) l.length l.length) l.length (strs (l.take k) ++ List.replicate (l.length - k) (.string ByteArray.empty)) wr)
  case atStart => exact ⟨0, by omega, rfl, by simpa [strs] using hO⟩
  case round =>
    obtain ⟨k, hk, rfl, hOk⟩ := hrel
    by_cases hlt : k < l.length
    · obtain ⟨b, off, rfl, hbs, hc⟩ := h.at' (by omega)
      have hc1 := hc k (by simpa using hlt)
      have hB := hOk.below
      rw [← hB.cell (p := ⟨b, off + k, none⟩) (by exact hbs), strs_get l k hlt] at hc1
      have hc2 := hOk.cell k (by simp; omega)
      have hf := hOk.free k
      have hS := hOk.set k (.string l[k])
      rw [set_stepS l k hlt] at hS
      generalize (strs (l.take k) ++ List.replicate (l.length - k) (Value.string ByteArray.empty))[k]'(by simp; omega) = u at hc2
      clear hc hOk hO hB h
      go_wp2
      go_roundg (gk - 1)
      case measure => omega
      case rel => exact ⟨k + 1, by omega, by go_num, hS⟩
    · have hkl : k = l.length := by omega
      subst hkl
      rw [List.take_length, Nat.sub_self, List.replicate_zero, List.append_nil] at hOk
      go_wp2
      go_ret
      exact ⟨_, _, rfl, hOk⟩

set_option maxRecDepth 1000000 in
set_option maxHeartbeats 6000000 in
theorem eqStrs_yes (a b : Option Addr) (n m c d : Nat) (l : List ByteArray) (w : World) (ha : Rd w a n c 1 (strs l)) (hb : Rd w b m d 1 (strs l)) (hn : n ≤ 1073741824) :
    Calls Tryz.prog 10 #[.slice a n c, .slice b m d] w fun e w' => e = .returned (.bool true) ∧ Below w.heap.size w w' := by
  have hl : l.length = n := by have := ha.len; simpa using this
  have hl2 : l.length = m := by have := hb.len; simpa using this
  subst hl
  subst hl2
  go_enter Tryz.func10, Tryz.ntmps10
  go_wp2
  go_loopg [5] l.length (fun gg i wr => ∃ k : Nat, k + gg = l.length ∧ i = .int .i64 k ∧ Below w.heap.size w wr)
  case atStart => exact ⟨0, by omega, rfl, Below.refl _ _⟩
  case round =>
    obtain ⟨k, hk, rfl, hB⟩ := hrel
    by_cases hlt : k < l.length
    · obtain ⟨ba, oa, rfl, hba, hca⟩ := ha.at' (by omega)
      obtain ⟨bb, ob, rfl, hbb, hcb⟩ := hb.at' (by omega)
      have hc1 := hca k (by simpa using hlt)
      have hc2 := hcb k (by simpa using hlt)
      rw [← hB.cell (p := ⟨ba, oa + k, none⟩) (by exact hba), strs_get l k hlt] at hc1
      rw [← hB.cell (p := ⟨bb, ob + k, none⟩) (by exact hbb), strs_get l k hlt] at hc2
      have hi : (k : Int) < (l.length : Int) := by omega
      have hi0 : (0 : Int) ≤ (k : Int) := by omega
      clear hca hcb ha hb
      go_wp2
      go_quiet (fail)
      go_wp2
      go_roundg (gk - 1)
      case measure => omega
      case rel => exact ⟨k + 1, by omega, by go_num, below_drewN hB _⟩
    · go_wp2
      go_ret
      exact ⟨rfl, hB⟩

/-- A mark's text. -/
def mtF (k : Nat) : ByteArray := ⟨#[109] ++ (rdec k).reverse.toArray⟩
set_option maxRecDepth 1000000 in
set_option maxHeartbeats 6000000 in
theorem markText_any (k : Nat) (w : World) (hk : 0 < k) (hm : k ≤ 9223372036854775807) :
    Calls Tryz.prog 33 #[.int .i64 (k : Int)] w fun e w' => e = .returned (.string (mtF k)) ∧ Below w.heap.size w w' := by
  have hkz : (0 : Int) < (k : Int) := by omega
  have hkz2 : ¬ (k : Int) ≤ 0 := by omega
  go_enter Tryz.func33, Tryz.ntmps33
  go_wp2
  go_loopg [0, 3] k (fun gg kk o wr => ∃ (q : Nat) (pre : List UInt8), gg = q ∧ q ≤ k ∧ kk = .int .i64 (q : Int) ∧ o = .string ⟨pre.toArray⟩ ∧ Hid ((rdec q).reverse ++ pre = (rdec k).reverse) ∧ pre.length + (rdec q).length = (rdec k).length ∧ Below w.heap.size w wr)
  case atStart => exact ⟨k, [], rfl, Nat.le_refl _, rfl, rfl, Lib.hid (by simp), by simp, Below.refl _ _⟩
  case round =>
    obtain ⟨q, pre, rfl, hq, rfl, rfl, HP, hlen, hB⟩ := hrel
    have h19 := rdec_len19 k (by omega)
    by_cases h0 : 0 < gk
    · have HP2 : Hid ((rdec (gk / 10)).reverse ++ (dig10 gk :: pre) = (rdec k).reverse) := Lib.hid (by rw [← HP.out, rdec_pos h0]; simp)
      have hl2 : (dig10 gk :: pre).length + (rdec (gk / 10)).length = (rdec k).length := by rw [← hlen, rdec_pos h0, List.length_cons, List.length_cons]; omega
      have HD : Hid (48 + UInt8.ofNat (gk % 10) = dig10 gk) := Lib.hid (by unfold dig10; rw [UInt8.ofNat_add]; rfl)
      have hg0 : (0 : Int) < (gk : Int) := by omega
      clear HP
      go_wp2_with (refine wp_str rfl (.tmp 12) 34 9 5 rfl Tryz.underlying34 Tryz.underlying5 Tryz.underlying9 _ _ _ _ rfl (rd_byte _ _ _ (by omega) (by omega)) ?_)
      go_roundg (gk / 10)
      case measure => omega
      case rel => exact ⟨gk / 10, dig10 gk :: pre, rfl, by omega, by go_num, by first | exact congrArg Value.string (ByteArray.mk_append_mk [_] pre) | (rw [HD.out]; exact congrArg Value.string (ByteArray.mk_append_mk [_] pre)), HP2, hl2, hB.alloc hB.size _⟩
    · have hz : gk = 0 := by omega
      subst hz
      have HP2 : Hid (pre = (rdec k).reverse) := Lib.hid (by rw [← HP.out, rdec_zero]; rfl)
      clear HP
      go_wp2
      go_ret
      refine ⟨ret_str ?_, hB⟩
      rw [HP2.out]
      unfold mtF
      first | rfl | (exact (ByteArray.mk_append_mk [109] _)) | (simp [ByteArray.ext_iff])

/-- Marks, k, k + 1, .. -/
def mks (k : Nat) (n : Nat) : List ByteArray := (List.range n).map fun i => mtF (k + i)
@[simp] theorem mks_length (k n : Nat) : (mks k n).length = n := by simp [mks]
theorem mks_set (k n j : Nat) (l : List ByteArray) (hl : l.length = n) (h : j < n) : (strs (mks k j) ++ strs (l.drop j)).set j (.string (mtF (k + j))) = strs (mks k (j + 1)) ++ strs (l.drop (j + 1)) := by
  have e : mks k (j + 1) = mks k j ++ [mtF (k + j)] := by simp [mks, List.range_succ]
  have e2 : strs (l.drop j) = .string l[j] :: strs (l.drop (j + 1)) := by rw [List.drop_eq_getElem_cons (by omega)]; rfl
  rw [e, strs_append, e2, List.set_append_right _ _ (by simp), show j - (strs (mks k j)).length = 0 from by simp, List.set_cons_zero]
  simp [strs_eq]
set_option maxRecDepth 1000000 in
set_option maxHeartbeats 6000000 in
theorem markStrs_any (e : TypeId) (B : Nat) (W0 : World) (a : Option Addr) (n cap : Nat) (l : List ByteArray) (k : Nat) (w : World) (h : Own e 1 B W0 (.slice a n cap) n (strs l) w) (hn : n ≤ 1073741824) (hk0 : 0 < k) (hk1 : k ≤ 1073741824) :
    Calls Tryz.prog 11 #[.slice a n cap, .int .i64 (k : Int)] w fun e' w' => e' = .returned (.int .i64 ((k + n : Nat) : Int)) ∧ Own e 1 B W0 (.slice a n cap) n (strs (mks k n)) w' ∧ w.grownBy w' (Value.ownBlock (.slice a n cap)) := by
  have hl : l.length = n := by have := h.rd.len; simpa using this
  have HL := Lib.hid hl
  clear hl
  go_enter Tryz.func11, Tryz.ntmps11
  go_wp2
  go_loopg [1, 5] n (fun gg m i wr => ∃ j : Nat, j + gg = n ∧ i = .int .i64 (j : Int) ∧ m = .int .i64 ((k : Int) + (j : Int)) ∧ Own e 1 B W0 (.slice a n cap) n (strs (mks k j) ++ strs (l.drop j)) wr ∧ w.grownBy wr (Value.ownBlock (.slice a n cap)))
  case atStart => exact ⟨0, by omega, rfl, by simp, by simpa [mks, strs] using h, World.grownBy.refl _ _⟩
  case round =>
    obtain ⟨j, hj, rfl, rfl, hO, hG⟩ := hrel
    by_cases hlt : j < n
    · obtain ⟨g, cap', he, hg⟩ := hO.shape1 (by omega)
      simp only [Value.slice.injEq] at he
      obtain ⟨rfl, _, rfl⟩ := he
      go_wp2_with fail
      have hmt := markText_any (k + j) wr (by omega) (by omega)
      rw [show ((k + j : Nat) : Int) = (k : Int) + (j : Int) from by omega] at hmt
      refine hmt.mono ?_
      clear hmt
      rintro e' w2 ⟨rfl, hb2⟩
      have hO2 := hO.kept hb2
      have hc := hO2.cell j (by simp; have := HL.out; omega)
      have hf := hO2.free j
      have hS := hO2.set j (.string (mtF (k + j)))
      have hGs : w2.grownBy (w2.setCell ⟨g, j, none⟩ (.string (mtF (k + j)))) (Value.ownBlock (.slice (some ⟨g, 0, none⟩) n cap)) := (hO2.row.stored j _).2
      have hG2 : Hid (w.grownBy (w2.setCell ⟨g, j, none⟩ (.string (mtF (k + j)))) (Value.ownBlock (.slice (some ⟨g, 0, none⟩) n cap))) := Lib.hid ((hG.trans (grown_of_below _ hb2)).trans hGs)
      rw [mks_set k n j l HL.out hlt] at hS
      have HS := Lib.hid hS
      generalize (strs (mks k j) ++ strs (l.drop j))[j]'(by simp; have := HL.out; omega) = u at hc
      clear hG hGs hO hO2 h hS hb2
      have hjn : (j : Int) < (n : Int) := by omega
      go_wp2
      go_roundg (gk - 1)
      case measure => omega
      case rel => exact ⟨j + 1, by omega, by go_num, by go_num, HS.out, hG2.out⟩
    · have hjn : j = n := by omega
      subst hjn
      rw [List.drop_of_length_le (by have := HL.out; omega)] at hO
      go_wp2
      go_ret
      exact ⟨by go_num, by simpa [strs] using hO, hG⟩

/-- A text's length, and the texts' lengths, taken from what is left. -/
def SzOk (left : Int) (l : List ByteArray) (x : Int) : Prop := x ≤ left ∧ (0 ≤ x → (l.length : Int) ≤ left ∧ ∀ s ∈ l, (s.size : Int) ≤ left)
def SzPost (left : Int) (l : List ByteArray) (w : World) (e : Ending) (w' : World) : Prop := ∃ x : Int, e = .returned (.int .i64 x) ∧ -1 ≤ x ∧ SzOk left l x ∧ w = w'
set_option maxRecDepth 1000000 in
set_option maxHeartbeats 6000000 in
theorem szStrs_any (a : Option Addr) (n cap : Nat) (l : List ByteArray) (left : Int) (w : World) (h : Rd w a n cap 1 (strs l)) (hs : ∀ s ∈ l, s.size ≤ maxLen) (h0 : 0 ≤ left) (h1 : left ≤ 1048576) :
    Calls Tryz.prog 5 #[.slice a n cap, .int .i64 left] w (SzPost left l w) := by
  have hl : l.length = n := by have := h.len; simpa using this
  have hm : n ≤ maxLen := Nat.le_trans h.le h.max
  unfold maxLen at hm
  subst hl
  have HS := Lib.hid hs
  clear hs
  by_cases hlen : left - (l.length : Int) < 0
  · go_enter Tryz.func5, Tryz.ntmps5
    go_wp2
    go_ret
    exact ⟨-1, rfl, by omega, ⟨by omega, fun h => by omega⟩, rfl⟩
  · go_enter Tryz.func5, Tryz.ntmps5
    go_wp2
    go_loopg [1, 5] l.length (fun gg x i wr => ∃ (j : Nat) (y : Int), j + gg = l.length ∧ i = .int .i64 (j : Int) ∧ x = .int .i64 y ∧ 0 ≤ y ∧ y ≤ left - (l.length : Int) ∧ Hid (∀ s ∈ l.take j, (s.size : Int) ≤ left) ∧ wr = w)
    case atStart => exact ⟨0, left - (l.length : Int), by omega, rfl, rfl, by omega, by omega, Lib.hid (by simp), rfl⟩
    case round =>
      obtain ⟨j, y, hj, rfl, rfl, hy0, hy1, HT, rfl⟩ := hrel
      by_cases hlt : j < l.length
      · obtain ⟨b, off, rfl, hbs, hc⟩ := h.at' (by omega)
        have hc1 := hc j (by simpa using hlt)
        rw [strs_get l j hlt] at hc1
        have hsz := HS.out l[j] (List.getElem_mem hlt)
        unfold maxLen at hsz
        have HN : Hid (∀ s : ByteArray, (s.size : Int) ≤ left → s = l[j] → ∀ s ∈ l.take (j + 1), (s.size : Int) ≤ left) := Lib.hid (by
          intro s h3 h2 s' hs'
          rw [List.take_succ_eq_append_getElem hlt] at hs'
          rcases List.mem_append.1 hs' with h5 | h5
          · exact HT.out _ h5
          · rw [List.mem_singleton] at h5; subst h5; rw [← h2]; exact h3)
        have HE : Hid (l[j] = l[j]) := Lib.hid rfl
        obtain ⟨s, hse⟩ : ∃ s, s = l[j] := ⟨_, rfl⟩
        rw [← hse] at hc1 hsz
        have HSE := Lib.hid hse
        clear hse hc h HE
        by_cases hz : y - (s.size : Int) < 0
        · go_wp2
          go_ret
          exact ⟨-1, rfl, by omega, ⟨by omega, fun h => by omega⟩, rfl⟩
        · go_wp2
          go_roundg (gk - 1)
          case measure => omega
          case rel => exact ⟨j + 1, y - (s.size : Int), by omega, by go_num, by go_num, by omega, by omega, Lib.hid (HN.out s (by omega) HSE.out), rfl⟩
      · have hjl : j = l.length := by omega
        subst hjl
        rw [List.take_length] at HT
        go_wp2
        go_ret
        exact ⟨y, rfl, by omega, ⟨by omega, fun _ => ⟨by omega, HT.out⟩⟩, rfl⟩
end Go.Proofs.YtlkfabkkjfmnmaaGreatDoor
