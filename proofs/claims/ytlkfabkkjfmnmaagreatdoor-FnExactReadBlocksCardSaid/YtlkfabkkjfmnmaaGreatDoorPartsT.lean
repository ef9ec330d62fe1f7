/- The parts of a sign: the program's Parts, walked through its table. -/
import Derived.Test.YtlkfabkkjfmnmaaGreatDoorPartsI
namespace Go.Proofs.YtlkfabkkjfmnmaaGreatDoor
open Go.RowKit

set_option maxRecDepth 1000000 in
set_option maxHeartbeats 6000000 in
theorem implPartsT_any (c : Int) (hh : ¬ (44032 ≤ c ∧ c ≤ 55203)) (hr1 : 192 ≤ c) (hr2 : c ≤ 8491) (w : World) :
    Calls Tryz.prog 146 #[.int .i64 c] w fun e w' => ∃ g cp, e = .returned (.slice (some ⟨g, 0, none⟩) (partsF c).length cp) ∧ Own 3 1 w.heap.size w (.slice (some ⟨g, 0, none⟩) (partsF c).length cp) (partsF c).length (ints (partsF c)) w' := by
  have lit0 : ∀ (W : World), Below w.heap.size w W → Own 3 1 w.heap.size w (.slice (some ⟨W.heap.size, 0, none⟩) 0 0) 0 (ints []) (W.alloc (.cells #[] 3)) := fun W hb => Own.lit hb hb.size #[] rfl (by decide)
  have lit1 : ∀ (W : World) (x : Int), Below w.heap.size w W → Own 3 1 w.heap.size w (.slice (some ⟨W.heap.size, 0, none⟩) 1 1) 1 (ints [x]) (W.alloc (.cells #[.int .i64 x] 3)) := fun W x hb => Own.lit hb hb.size #[.int .i64 x] rfl (by decide)
  have lit2 : ∀ (W : World) (x y : Int), Below w.heap.size w W → Own 3 1 w.heap.size w (.slice (some ⟨W.heap.size, 0, none⟩) 2 2) 2 (ints [x, y]) (W.alloc (.cells #[.int .i64 x, .int .i64 y] 3)) := fun W x y hb => Own.lit hb hb.size #[.int .i64 x, .int .i64 y] rfl (by decide)
  have L0 := Lib.hid lit0
  have L1 := Lib.hid lit1
  have L2 := Lib.hid lit2
  clear lit0 lit1 lit2
  have H : Hid (partsF c = (asc (flat tabI) c).getD []) := Lib.hid (by unfold partsF; rw [if_neg hh])
  clear hh
  go_enter Tryz.func146, Tryz.ntmps146
  go_wp2_with (go_at_call 51; (first | refine (within_yes _ _ _ _ (by omega) (by omega)).mono ?_ | refine (within_no _ _ _ _ (by omega)).mono ?_); rintro e w' ⟨rfl, rfl⟩)
  go_loopg [36] 13 (fun gg i wr => ∃ k : Nat, k + gg = 13 ∧ i = .int .i64 k ∧ asc (flat (tabI.drop k)) c = asc (flat tabI) c ∧ Below w.heap.size w wr)
  case atStart => exact ⟨0, by omega, rfl, rfl, Below.refl _ _⟩
  case round =>
    obtain ⟨k, hk, rfl, hAsc, hB⟩ := hrel
    have HA := Lib.hid hAsc
    clear hAsc
    by_cases hlt : k < 13
    · obtain ⟨r, hrr⟩ : ∃ r, tabI[k]? = some r := ⟨_, List.getElem?_eq_getElem (by exact hlt)⟩
      have hD := Lib.hid (flat_drop tabI k r hrr c)
      have hT := tabI_len k r hrr
      have hRow := Lib.hid (row_all k r hrr)
      obtain ⟨f, l, m⟩ := r
      simp only at hT hRow
      obtain ⟨hT1, hT2, hT3⟩ := hT
      have HT1 := Lib.hid hT1
      clear hrr
      have HT2 := Lib.hid hT2
      go_wp2_with fail
      refine (hRow.out _).mono ?_
      rintro e w2 ⟨a1, c1, a2, c2, rfl, hR1, hR2, hB2⟩
      simp only at hR1 hR2 ⊢
      have hB3 := hB.trans (hB2.mono hB.size)
      have HB3 := Lib.hid hB3
      clear hB3 hB hB2 hRow hT2 hT1
      have hfl : f.length ≤ 12 := HT2.out
      go_wp2_with fail
      refine (index_any c _ _ _ f _ hR1 (by omega)).mono ?_
      rintro e w3 ⟨rfl, hI⟩
      rcases hI with ⟨q, hq, rfl, hI1, hI2⟩ | ⟨rfl, hI⟩
      · have HQ := Lib.hid (row_hit f l m c q hq HT1.out hI1 hI2)
        obtain ⟨b, off, rfl, hbs, hc⟩ := hR2.at' (by have := HT1.out; omega)
        have hc1 := hc q (by simp; have := HT1.out; omega)
        rw [ints_get l q (by have := HT1.out; omega)] at hc1
        clear hc hI1 hI2 hR1 hR2
        have hql : q < l.length := by have := HT1.out; omega
        have Hres : Hid (partsF c = if 0 < m then [l[q], m] else [l[q]]) := Lib.hid (by rw [H.out, ← HA.out, hD.out, HQ.out]; rfl)
        clear HA hD HQ H
        rcases hT3 with rfl | ⟨hT3, hT4⟩
        · go_wp2
          go_ret
          rw [show partsF c = [l[q]] from by rw [Hres.out]; rfl]
          exact ⟨_, _, rfl, L1.out _ _ HB3.out⟩
        · go_wp2
          go_ret
          rw [show partsF c = [l[q], m] from by rw [Hres.out, if_pos (by omega)]]
          exact ⟨_, _, rfl, L2.out _ _ _ HB3.out⟩
      · have HQ := Lib.hid (row_miss f l m c hI)
        clear hI hR1 hR2
        go_wp2
        go_roundg (gk - 1)
        case measure => omega
        case rel => exact ⟨k + 1, by omega, by go_num, by rw [← HA.out, hD.out, HQ.out]; rfl, HB3.out⟩
    · have hkl : k = 13 := by omega
      subst hkl
      have Hres : Hid (partsF c = []) := Lib.hid (by rw [H.out, ← HA.out]; rfl)
      have hx := L0.out _ hB
      go_wp2
      go_ret
      rw [Hres.out]
      exact ⟨_, _, rfl, hx⟩
set_option maxRecDepth 1000000 in
set_option maxHeartbeats 6000000 in
theorem implParts_any (c : Int) (w : World) :
    Calls Tryz.prog 146 #[.int .i64 c] w fun e w' => ∃ g cp, e = .returned (.slice (some ⟨g, 0, none⟩) (partsF c).length cp) ∧ Own 3 1 w.heap.size w (.slice (some ⟨g, 0, none⟩) (partsF c).length cp) (partsF c).length (ints (partsF c)) w' := by
  by_cases hh : 44032 ≤ c ∧ c ≤ 55203
  · exact implPartsH_any c hh w
  · by_cases hr : c < 192 ∨ 8491 < c
    · exact implPartsO_any c hh hr w
    · exact implPartsT_any c hh (by omega) (by omega) w
end Go.Proofs.YtlkfabkkjfmnmaaGreatDoor
