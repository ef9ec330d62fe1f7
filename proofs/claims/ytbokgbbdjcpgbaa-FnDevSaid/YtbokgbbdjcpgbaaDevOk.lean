/- DevOk: the program's and the reference's come to one answer. -/
import Derived.Test.YtbokgbbdjcpgbaaNewDev
import Derived.Test.YtbokgbbdjcpgbaaIn
namespace Go.Proofs.Ytbokgbbdjcpgbaa
open Go.RowKit

def wrOk (u : Int × ByteArray) : Bool := decide (0 ≤ u.1 ∧ u.1 < 18 ∧ u.2.size ≤ 4000)
def txOk (s : ByteArray) : Bool := decide (s.size ≤ 4000)
def devOkB (ss : List ByteArray) (us : List (Int × ByteArray)) : Bool := decide (ss.length = 18) && decide (us.length ≤ 40) && ss.all txOk && us.all wrOk
theorem all_step {α : Type} (l : List α) (p : α → Bool) (k : Nat) (h : k < l.length) (h0 : (l.take k).all p = true) (hp : p l[k] = true) : (l.take (k + 1)).all p = true := by
  rw [List.take_succ_eq_append_getElem h, List.all_append, h0, List.all_cons, List.all_nil, hp]; rfl
theorem all_no {α : Type} (l : List α) (p : α → Bool) (k : Nat) (h : k < l.length) (hp : p l[k] = false) : l.all p = false := by
  rw [Bool.eq_false_iff]
  intro c
  rw [List.all_eq_true] at c
  rw [c _ (List.getElem_mem h)] at hp
  cases hp
theorem devOk_no1 {ss : List ByteArray} {us : List (Int × ByteArray)} (h : ss.all txOk = false) : devOkB ss us = false := by simp [devOkB, h]
theorem devOk_no2 {ss : List ByteArray} {us : List (Int × ByteArray)} (h : us.all wrOk = false) : devOkB ss us = false := by simp [devOkB, h]

set_option maxRecDepth 1000000 in
set_option maxHeartbeats 6000000 in
theorem writeOk_any (x : Int × ByteArray) (w : World) : Calls Try.prog 70 #[wrV x] w fun e w' => e = .returned (.bool (wrOk x)) ∧ Below w.heap.size w w' := by
  unfold wrV wrOk
  by_cases h : 0 ≤ x.1 ∧ x.1 ≤ 17
  · obtain ⟨h0, h1⟩ := h
    by_cases hs : x.2.size ≤ 4000
    · rw [decide_eq_true (by omega)]
      go_enter Try.func70, Try.ntmps70
      go_wp2_with fail
      refine (within_yes _ _ _ _ h0 h1).mono ?_
      rintro e w1 ⟨rfl, rfl⟩
      go_wp2
      go_ret
      exact ⟨by show Ending.returned (.bool (decide ((x.2.size : Int) ≤ 4000))) = _; rw [decide_eq_true (by omega)], box_alloc _ _⟩
    · rw [decide_eq_false (by omega)]
      go_enter Try.func70, Try.ntmps70
      go_wp2_with fail
      refine (within_yes _ _ _ _ h0 h1).mono ?_
      rintro e w1 ⟨rfl, rfl⟩
      go_wp2
      go_ret
      exact ⟨by show Ending.returned (.bool (decide ((x.2.size : Int) ≤ 4000))) = _; rw [decide_eq_false (by omega)], box_alloc _ _⟩
  · have h' : x.1 < 0 ∨ 17 < x.1 := by omega
    rw [decide_eq_false (by omega)]
    clear h
    go_enter Try.func70, Try.ntmps70
    go_wp2_with fail
    refine (within_no _ _ _ _ h').mono ?_
    rintro e w1 ⟨rfl, rfl⟩
    go_wp2
    go_ret
    exact ⟨rfl, box_alloc _ _⟩
set_option maxRecDepth 1000000 in
set_option maxHeartbeats 6000000 in
theorem l8WriteOk_any (x : Int × ByteArray) (w : World) : Calls Try.prog 68 #[wrV x] w fun e w' => e = .returned (.bool (wrOk x)) ∧ Below w.heap.size w w' := by
  unfold wrV wrOk
  by_cases h0 : 0 ≤ x.1
  · by_cases h1 : x.1 < 18
    · by_cases hs : x.2.size ≤ 4000
      · rw [decide_eq_true (by omega)]
        go_enter Try.func68, Try.ntmps68
        go_wp2
        go_ret
        exact ⟨by show Ending.returned (.bool (decide ((x.2.size : Int) ≤ 4000))) = _; rw [decide_eq_true (by omega)], box_alloc _ _⟩
      · rw [decide_eq_false (by omega)]
        go_enter Try.func68, Try.ntmps68
        go_wp2
        go_ret
        exact ⟨by show Ending.returned (.bool (decide ((x.2.size : Int) ≤ 4000))) = _; rw [decide_eq_false (by omega)], box_alloc _ _⟩
    · rw [decide_eq_false (by omega)]
      go_enter Try.func68, Try.ntmps68
      go_wp2
      go_ret
      exact ⟨rfl, box_alloc _ _⟩
  · rw [decide_eq_false (by omega)]
    go_enter Try.func68, Try.ntmps68
    go_wp2
    go_ret
    exact ⟨rfl, box_alloc _ _⟩
set_option maxRecDepth 1000000 in
set_option maxHeartbeats 6000000 in
theorem specDevOk_any (v : Value) (ss : List ByteArray) (us : List (Int × ByteArray)) (w : World) (h : DevRd w v ss us) :
    Calls Try.prog 25 #[v] w fun e w' => e = .returned (.bool (devOkB ss us)) ∧ Below w.heap.size w w' := by
  obtain ⟨a, c, b, d, rfl, h1, h2⟩ := h.ex
  clear h
  by_cases hn : ss.length = 18
  · by_cases hm : us.length ≤ 40
    · have HF : Hid (devOkB ss us = (ss.all txOk && us.all wrOk)) := Lib.hid (by simp [devOkB, hn, hm])
      unfold dvV
      rw [hn] at h1 ⊢
      have HBX := Lib.hid (box_alloc w (.cells #[.slice a 18 c, .slice b us.length d] 32))
      have H1 := Lib.hid (h1.below HBX.out (Nat.le_refl _))
      have H2 := Lib.hid (h2.below HBX.out (Nat.le_refl _))
      have HS := Lib.hid hn
      clear h1 h2 hn
      go_enter Try.func25, Try.ntmps25
      go_wp2
      go_loopg [3] 18 (fun gg i wr => ∃ k : Nat, k + gg = 18 ∧ i = .int .i64 (k : Int) ∧ Hid ((ss.take k).all txOk = true) ∧ wr = w.alloc (.cells #[.slice a 18 c, .slice b us.length d] 32))
      case atStart => exact ⟨0, by omega, rfl, Lib.hid rfl, rfl⟩
      case round =>
        obtain ⟨k, hk, rfl, HT, rfl⟩ := hrel
        by_cases hlt : k < 18
        · obtain ⟨ba, off, rfl, hbs, hc⟩ := H1.out.at' (by omega)
          have hkl : k < ss.length := by have := HS.out; omega
          have hc1 := hc k (by simpa using hkl)
          rw [strs_get ss k hkl] at hc1
          have HN := Lib.hid (all_step ss txOk k hkl HT.out)
          have HX := Lib.hid (all_no ss txOk k hkl)
          have hi : (k : Int) < 18 := by omega
          clear hc H2
          generalize ss[k]'_ = s at *
          clear hkl
          by_cases hs : s.size ≤ 4000
          · have hs' : ¬ 4000 < (s.size : Int) := by omega
            go_wp2
            go_roundg (gk - 1)
            case measure => omega
            case rel => exact ⟨k + 1, by omega, by go_num, Lib.hid (HN.out (by simp [txOk, hs])), rfl⟩
          · have hs' : 4000 < (s.size : Int) := by omega
            have HE : Hid (devOkB ss us = false) := Lib.hid (devOk_no1 (HX.out (by simp [txOk, hs])))
            go_wp2
            go_ret
            exact ⟨by rw [HE.out]; rfl, HBX.out⟩
        · have hkl : k = 18 := by omega
          subst hkl
          have hAll : ss.all txOk = true := by have := HT.out; rwa [List.take_of_length_le (by have := HS.out; omega)] at this
          have HF2 : Hid (devOkB ss us = us.all wrOk) := Lib.hid (by rw [HF.out, hAll, Bool.true_and])
          clear hAll HT HF
          go_wp2
          go_loopg [4] us.length (fun gg i wr => ∃ k : Nat, k + gg = us.length ∧ i = .int .i64 (k : Int) ∧ Hid ((us.take k).all wrOk = true) ∧ Hid (Below (w.heap.size + 1) (w.alloc (.cells #[.slice a 18 c, .slice b us.length d] 32)) wr))
          case atStart => exact ⟨0, by omega, rfl, Lib.hid rfl, Lib.hid (Below.refl _ _)⟩
          case round =>
            obtain ⟨k, hk, rfl, HT, HB⟩ := hrel
            have hb0 : wr.cell? ⟨w.heap.size, 0, none⟩ = some (.slice a 18 c) := box_below (box0 w 32 (.slice a 18 c) (.slice b us.length d)) (by simpa using HB.out)
            have hb1 : wr.cell? ⟨w.heap.size, 1, none⟩ = some (.slice b us.length d) := box_below (box1 w 32 (.slice a 18 c) (.slice b us.length d)) (by simpa using HB.out)
            have HBW : Hid (Below w.heap.size w wr) := Lib.hid (HBX.out.trans (HB.out.mono (by omega)))
            by_cases hlt : k < us.length
            · obtain ⟨bb, off, rfl, hbs, hc0, hc1⟩ := wrs_cells H2.out k hlt
              rw [← HB.out.cell (p := ⟨bb, off + k * 2, none⟩) (by simpa using hbs)] at hc0
              rw [← HB.out.cell (p := ⟨bb, off + k * 2 + 1, none⟩) (by simpa using hbs)] at hc1
              have HN := Lib.hid (all_step us wrOk k hlt HT.out)
              have HX := Lib.hid (all_no us wrOk k hlt)
              have hi : (k : Int) < (us.length : Int) := by omega
              generalize us[k]'_ = u at *
              clear hlt
              go_wp2_with fail
              refine (l8WriteOk_any u _).mono ?_
              rintro e w2 ⟨rfl, hb⟩
              have HB2 := Lib.hid (HB.out.trans (hb.mono (by have := HB.out.size; simp at this; omega)))
              have HW2 := Lib.hid (below_step1 HBW.out hb)
              clear hb hb0 hb1 hc0 hc1 HBW HB
              by_cases hw : wrOk u = true
              · rw [hw]
                have HW := Lib.hid hw
                clear hw
                go_wp2
                go_roundg (gk - 1)
                case measure => omega
                case rel => exact ⟨k + 1, by omega, by go_num, Lib.hid (HN.out HW.out), HB2⟩
              · have hw : wrOk u = false := by simpa using hw
                have HE : Hid (devOkB ss us = false) := Lib.hid (devOk_no2 (HX.out hw))
                rw [hw]
                clear hw
                go_wp2
                go_ret
                exact ⟨by rw [HE.out]; rfl, HW2.out⟩
            · have hkl : k = us.length := by omega
              subst hkl
              have hAll : us.all wrOk = true := by have := HT.out; rwa [List.take_length] at this
              have HE : Hid (devOkB ss us = true) := Lib.hid (by rw [HF2.out, hAll])
              clear hAll HT
              go_wp2
              go_ret
              exact ⟨by rw [HE.out]; rfl, HBW.out⟩
    · rw [show devOkB ss us = false from by simp [devOkB, hm]]
      unfold dvV
      have hm' : ¬ (us.length : Int) ≤ 40 := by omega
      have hn' : (ss.length : Int) = 18 := by omega
      clear h1 h2
      go_enter Try.func25, Try.ntmps25
      go_wp2
      go_ret
      exact ⟨rfl, box_alloc _ _⟩
  · rw [show devOkB ss us = false from by simp [devOkB, hn]]
    unfold dvV
    have hn' : ¬ (ss.length : Int) = 18 := by omega
    clear h1 h2
    go_enter Try.func25, Try.ntmps25
    go_wp2
    go_ret
    exact ⟨rfl, box_alloc _ _⟩
set_option maxRecDepth 1000000 in
set_option maxHeartbeats 6000000 in
theorem implDevOk_any (v : Value) (ss : List ByteArray) (us : List (Int × ByteArray)) (w : World) (h : DevRd w v ss us) :
    Calls Try.prog 27 #[v] w fun e w' => e = .returned (.bool (devOkB ss us)) ∧ Below w.heap.size w w' := by
  obtain ⟨a, c, b, d, rfl, h1, h2⟩ := h.ex
  clear h
  unfold dvV
  have HBX := Lib.hid (box_alloc w (.cells #[.slice a ss.length c, .slice b us.length d] 32))
  have hm1 : ss.length ≤ maxLen := Nat.le_trans h1.le h1.max
  have hm2 : us.length ≤ maxLen := Nat.le_trans h2.le h2.max
  unfold maxLen at hm1 hm2
  have H1 := Lib.hid (h1.below HBX.out (Nat.le_refl _))
  have H2 := Lib.hid (h2.below HBX.out (Nat.le_refl _))
  clear h1 h2
  go_enter Try.func27, Try.ntmps27
  go_wp2
  go_loopg [4, 10] ss.length (fun gg x i wr => ∃ k : Nat, k + gg = ss.length ∧ i = .int .i64 (k : Int) ∧ Hid ((ss.take k).all txOk = true) ∧ wr = w.alloc (.cells #[.slice a ss.length c, .slice b us.length d] 32))
  case atStart => exact ⟨0, by omega, rfl, Lib.hid rfl, rfl⟩
  case round =>
    obtain ⟨k, hk, rfl, HT, rfl⟩ := hrel
    by_cases hlt : k < ss.length
    · obtain ⟨ba, off, rfl, hbs, hc⟩ := H1.out.at' (by omega)
      have hc1 := hc k (by simpa using hlt)
      rw [strs_get ss k hlt] at hc1
      have HN := Lib.hid (all_step ss txOk k hlt HT.out)
      have HX := Lib.hid (all_no ss txOk k hlt)
      have hi : (k : Int) < (ss.length : Int) := by omega
      clear hc H2
      generalize ss[k]'_ = s at *
      by_cases hs : s.size ≤ 4000
      · have hs' : ¬ 4000 < (s.size : Int) := by omega
        go_wp2
        go_roundg (gk - 1)
        case measure => omega
        case rel => exact ⟨k + 1, by omega, by go_num, Lib.hid (HN.out (by simp [txOk, hs])), rfl⟩
      · have hs' : 4000 < (s.size : Int) := by omega
        have HE : Hid (devOkB ss us = false) := Lib.hid (devOk_no1 (HX.out (by simp [txOk, hs])))
        go_wp2
        go_ret
        exact ⟨by rw [HE.out]; rfl, HBX.out⟩
    · have hkl : k = ss.length := by omega
      subst hkl
      have HA : Hid (ss.all txOk = true) := Lib.hid (by have := HT.out; rwa [List.take_length] at this)
      clear HT
      go_wp2
      go_loopg [6, 21] us.length (fun gg x i wr => ∃ k : Nat, k + gg = us.length ∧ i = .int .i64 (k : Int) ∧ Hid ((us.take k).all wrOk = true) ∧ Hid (Below (w.heap.size + 1) (w.alloc (.cells #[.slice a ss.length c, .slice b us.length d] 32)) wr))
      case atStart => exact ⟨0, by omega, rfl, Lib.hid rfl, Lib.hid (Below.refl _ _)⟩
      case round =>
        obtain ⟨k, hk, rfl, HT, HB⟩ := hrel
        have hb0 : wr.cell? ⟨w.heap.size, 0, none⟩ = some (.slice a ss.length c) := box_below (box0 w 32 (.slice a ss.length c) (.slice b us.length d)) (by simpa using HB.out)
        have hb1 : wr.cell? ⟨w.heap.size, 1, none⟩ = some (.slice b us.length d) := box_below (box1 w 32 (.slice a ss.length c) (.slice b us.length d)) (by simpa using HB.out)
        have HBW : Hid (Below w.heap.size w wr) := Lib.hid (HBX.out.trans (HB.out.mono (by omega)))
        by_cases hlt : k < us.length
        · obtain ⟨bb, off, rfl, hbs, hc0, hc1⟩ := wrs_cells H2.out k hlt
          rw [← HB.out.cell (p := ⟨bb, off + k * 2, none⟩) (by simpa using hbs)] at hc0
          rw [← HB.out.cell (p := ⟨bb, off + k * 2 + 1, none⟩) (by simpa using hbs)] at hc1
          have HN := Lib.hid (all_step us wrOk k hlt HT.out)
          have HX := Lib.hid (all_no us wrOk k hlt)
          have hi : (k : Int) < (us.length : Int) := by omega
          generalize us[k]'_ = u at *
          clear hlt
          go_wp2_with fail
          refine (writeOk_any u _).mono ?_
          rintro e w2 ⟨rfl, hb⟩
          have HB2 := Lib.hid ((HB.out.trans ((box_alloc wr _).mono (by have := HB.out.size; simp at this; omega))).trans (hb.mono (by have := HB.out.size; simp at this ⊢; omega)))
          have HW2 := Lib.hid (below_step1 (below_step1 HBW.out (box_alloc wr _)) hb)
          clear hb hb0 hb1 hc0 hc1 HBW HB
          by_cases hw : wrOk u = true
          · rw [hw]
            have HW := Lib.hid hw
            clear hw
            go_wp2
            go_roundg (gk - 1)
            case measure => omega
            case rel => exact ⟨k + 1, by omega, by go_num, Lib.hid (HN.out HW.out), HB2⟩
          · have hw : wrOk u = false := by simpa using hw
            have HE : Hid (devOkB ss us = false) := Lib.hid (devOk_no2 (HX.out hw))
            rw [hw]
            clear hw
            go_wp2
            go_ret
            exact ⟨by rw [HE.out]; rfl, HW2.out⟩
        · have hkl : k = us.length := by omega
          subst hkl
          have hAll : us.all wrOk = true := by have := HT.out; rwa [List.take_length] at this
          have HE : Hid (devOkB ss us = (decide (ss.length = 18) && decide (us.length ≤ 40))) := Lib.hid (by rw [devOkB, hAll, HA.out, Bool.and_true, Bool.and_true])
          clear hAll HT HA
          by_cases hn : ss.length = 18
          · have HE2 : Hid (devOkB ss us = decide ((us.length : Int) ≤ 40)) := Lib.hid (by rw [HE.out, decide_eq_true hn, Bool.true_and, decide_eq_decide]; omega)
            have hn' : (ss.length : Int) = 18 := by omega
            clear hn HE
            go_wp2
            go_ret
            exact ⟨by rw [HE2.out]; rfl, HBW.out⟩
          · have HE2 : Hid (devOkB ss us = false) := Lib.hid (by rw [HE.out, decide_eq_false hn, Bool.false_and])
            have hn' : ¬ (ss.length : Int) = 18 := by omega
            clear hn HE
            go_wp2
            go_ret
            exact ⟨by rw [HE2.out]; rfl, HBW.out⟩
end Go.Proofs.Ytbokgbbdjcpgbaa
