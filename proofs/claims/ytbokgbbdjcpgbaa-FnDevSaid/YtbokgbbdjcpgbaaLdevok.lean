/- The law of DevOk, walked. -/
import Derived.Test.YtbokgbbdjcpgbaaDevOk
namespace Go.Proofs.Ytbokgbbdjcpgbaa
open Go.RowKit

set_option maxRecDepth 1000000 in
set_option maxHeartbeats 6000000 in
theorem szDev_any (a b : Option Addr) (n c m d : Nat) (ss : List ByteArray) (us : List (Int × ByteArray)) (left : Int) (w : World) (h1 : Rd w a n c 1 (strs ss)) (h2 : Rd w b m d 2 (wrs us)) (hs1 : ∀ s ∈ ss, s.size ≤ maxLen) (hs2 : ∀ s ∈ us, s.2.size ≤ maxLen) (h0 : 0 ≤ left) (h1' : left ≤ 1048576) :
    Calls Try.prog 24 #[dvV a n c b m d, .int .i64 left] w fun e w' => ∃ x : Int, e = .returned (.int .i64 x) ∧ -1 ≤ x ∧ x ≤ left ∧ (0 ≤ x → (ss.length : Int) ≤ left ∧ (us.length : Int) ≤ left) ∧ Below w.heap.size w w' := by
  have H1 := Lib.hid h1
  have H2 := Lib.hid h2
  have HS1 := Lib.hid hs1
  have HS2 := Lib.hid hs2
  clear h1 h2 hs1 hs2
  unfold dvV
  have HBX := Lib.hid (box_alloc w (.cells #[.slice a n c, .slice b m d] 39))
  go_enter Try.func24, Try.ntmps24
  go_wp2_with fail
  refine (szStrs_any _ _ _ ss left _ (H1.out.below HBX.out (Nat.le_refl _)) HS1.out (by omega) (by omega)).mono ?_
  rintro e w' ⟨x, rfl, hx, ⟨hxl, hok⟩, rfl⟩
  by_cases hx0 : x < 0
  · clear hok
    go_wp2
    go_ret
    exact ⟨-1, rfl, by omega, by omega, fun h => by omega, HBX.out⟩
  · have hok2 := (hok (by omega)).1
    clear hok
    go_wp2_with fail
    refine (szWrs_any _ _ _ us x _ (H2.out.below HBX.out (Nat.le_refl _)) HS2.out (by omega) (by omega)).mono ?_
    rintro e w2 ⟨y, rfl, hy, hyl, hok, hb⟩
    have HB2 := Lib.hid (below_step1 HBX.out hb)
    clear hb
    by_cases hy0 : y < 0
    · clear hok
      go_wp2
      go_ret
      exact ⟨-1, rfl, by omega, by omega, fun h => by omega, HB2.out⟩
    · have hok3 := (hok (by omega)).1
      clear hok
      go_wp2
      go_ret
      exact ⟨y, rfl, by omega, by omega, fun h => ⟨by omega, by omega⟩, HB2.out⟩
set_option maxRecDepth 1000000 in
set_option maxHeartbeats 6000000 in
theorem lawDevOk_walk (a b : Option Addr) (n c m d : Nat) (ss : List ByteArray) (us : List (Int × ByteArray)) (w : World) (hs1 : ∀ s ∈ ss, s.size ≤ maxLen) (h1 : Rd w a n c 1 (strs ss)) (hs2 : ∀ s ∈ us, OkInt s.1 ∧ s.2.size ≤ maxLen) (h2 : Rd w b m d 2 (wrs us)) :
    Calls Try.prog 5 #[.agg #[.slice a n c, .slice b m d]] w fun e w' => e = .returned (.bool true) ∧ Below w.heap.size w w' := by
  have hl1 : ss.length = n := by have := h1.len; simpa using this
  have hl2 : us.length = m := by have := h2.len; simp at this; omega
  subst hl1 hl2
  have HBX := Lib.hid (box_alloc w (.cells #[.slice a ss.length c, .slice b us.length d] 39))
  have H1 := Lib.hid (h1.below HBX.out (Nat.le_refl _))
  have H2 := Lib.hid (h2.below HBX.out (Nat.le_refl _))
  have HS1 := Lib.hid hs1
  have HS2 := Lib.hid (fun s hs => (hs2 s hs).2)
  clear h1 h2 hs1 hs2
  go_enter Try.func5, Try.ntmps5
  go_wp2_with fail
  have c0 := box0 w 39 (.slice a ss.length c) (.slice b us.length d)
  have c1 := box1 w 39 (.slice a ss.length c) (.slice b us.length d)
  refine (szDev_any _ _ _ _ _ _ ss us 1048576 _ H1.out H2.out HS1.out HS2.out (by omega) (by omega)).mono ?_
  rintro e w1 ⟨x, rfl, hx, hxl, hok, hb⟩
  replace c0 := box_below c0 hb
  replace c1 := box_below c1 hb
  have H1b := Lib.hid (H1.out.below hb (Nat.le_refl _))
  have H2b := Lib.hid (H2.out.below hb (Nat.le_refl _))
  have HB1 := Lib.hid (below_step1 HBX.out hb)
  clear hb H1 H2 HBX
  by_cases hx0 : x < 0
  · clear hok
    go_wp2
    go_ret
    exact ⟨rfl, HB1.out⟩
  · obtain ⟨hn, hm⟩ := hok (by omega)
    have hn : ss.length ≤ 1048576 := by omega
    have hm : us.length ≤ 1048576 := by omega
    clear hok
    go_wp2_with fail
    refine (toDev_any _ _ _ _ _ _ ss us _ H1b.out H2b.out hn hm).mono ?_
    rintro e w2 ⟨v1, rfl, hO, hb⟩
    replace c0 := box_below c0 hb
    replace c1 := box_below c1 hb
    have H1c := Lib.hid (H1b.out.below hb (Nat.le_refl _))
    have H2c := Lib.hid (H2b.out.below hb (Nat.le_refl _))
    have HB2 := Lib.hid (below_step1 HB1.out hb)
    have hR := hO.rd
    have HR := Lib.hid hR
    clear hb H1b H2b HB1 hO hR
    go_wp2_with fail
    refine (specDevOk_any _ ss us _ HR.out).mono ?_
    rintro e w3 ⟨rfl, hb⟩
    replace c0 := box_below c0 hb
    replace c1 := box_below c1 hb
    have H1d := Lib.hid (H1c.out.below hb (Nat.le_refl _))
    have H2d := Lib.hid (H2c.out.below hb (Nat.le_refl _))
    have HB3 := Lib.hid (below_step1 HB2.out hb)
    clear hb H1c H2c HB2 HR
    go_wp2_with fail
    refine (toDev_any _ _ _ _ _ _ ss us _ H1d.out H2d.out hn hm).mono ?_
    rintro e w4 ⟨v2, rfl, hO, hb⟩
    replace c0 := box_below c0 hb
    replace c1 := box_below c1 hb
    have H1e := Lib.hid (H1d.out.below hb (Nat.le_refl _))
    have H2e := Lib.hid (H2d.out.below hb (Nat.le_refl _))
    have HB4 := Lib.hid (below_step1 HB3.out hb)
    obtain ⟨p2, q2, r2, s2, rfl, -⟩ := hO.ex
    have hR := hO.rd
    have HR := Lib.hid hR
    clear hb H1d H2d HB3 hO hR
    unfold dvV at HR ⊢
    go_wp2_with fail
    have HBX := Lib.hid (box_alloc w4 (.cells #[.slice p2 ss.length q2, .slice r2 us.length s2] 32))
    refine (implDevOk_any _ ss us _ (HR.out.below HBX.out (Nat.le_refl _))).mono ?_
    rintro e w5 ⟨rfl, hb⟩
    replace c0 := box_below (box_below c0 HBX.out) hb
    replace c1 := box_below (box_below c1 HBX.out) hb
    have g0 := box_below (box0 w4 32 (.slice p2 ss.length q2) (.slice r2 us.length s2)) hb
    have g1 := box_below (box1 w4 32 (.slice p2 ss.length q2) (.slice r2 us.length s2)) hb
    have H1f := Lib.hid ((H1e.out.below HBX.out (Nat.le_refl _)).below hb (Nat.le_refl _))
    have H2f := Lib.hid ((H2e.out.below HBX.out (Nat.le_refl _)).below hb (Nat.le_refl _))
    have HRf := Lib.hid ((HR.out.below HBX.out (Nat.le_refl _)).below hb (Nat.le_refl _))
    have HB5 := Lib.hid (below_step1 (below_step1 HB4.out HBX.out) hb)
    have hwz : w.heap.size < w5.heap.size := World.block_lt_of_cell? w5 _ c0
    have hwz4 : w4.heap.size < w5.heap.size := World.block_lt_of_cell? w5 _ g0
    clear hb HB4 HBX H1e H2e HR
    generalize devOkB ss us = D
    have HALL : Hid (∀ W, Below w5.heap.size w5 W → (W.cell? ⟨w.heap.size, 0, none⟩ = some (.slice a ss.length c) ∧ W.cell? ⟨w.heap.size, 1, none⟩ = some (.slice b us.length d) ∧ W.cell? ⟨w4.heap.size, 0, none⟩ = some (.slice p2 ss.length q2) ∧ W.cell? ⟨w4.heap.size, 1, none⟩ = some (.slice r2 us.length s2) ∧ Below w5.heap.size w5 W)) := Lib.hid (fun W hW => ⟨box_below c0 hW, box_below c1 hW, box_below g0 hW, box_below g1 hW, hW⟩)
    have hB0 := Below.refl w5.heap.size w5
    clear c0 c1 g0 g1
    go_wp2
    refine wp_region_held_drew (S := (fun W => W.cell? ⟨w.heap.size, 0, none⟩ = some (.slice a ss.length c) ∧ W.cell? ⟨w.heap.size, 1, none⟩ = some (.slice b us.length d) ∧ W.cell? ⟨w4.heap.size, 0, none⟩ = some (.slice p2 ss.length q2) ∧ W.cell? ⟨w4.heap.size, 1, none⟩ = some (.slice r2 us.length s2) ∧ Below w5.heap.size w5 W)) (by kernel_rfl) ?_ (fun hHeld => ?_)
    · try dsimp only
      (go_split_ands; first | exact HALL.out _ (by assumption) | exact HALL.out _ (Below.drew (by assumption)) | exact HALL.out _ (below_step1 (by assumption) (by assumption)))
    change wpAnyH _ _ _ _ _ 5 #[false, false, false, false, false] _ _
    clear hB0
    refine wpH_take (i := 0) (v := ?_) rfl (by kernel_rfl) (by kernel_rfl) (by kernel_rfl) (fun _ _ _ h => h) (by rfl) ?_ (by assumption) ?_; rotate_left; (focus (intro w hSw; (try dsimp only at hSw); go_simp; try with_reducible rfl)); try simp only [Act.put, List.setIfInBounds_toArray, List.set_cons_zero, List.set_cons_succ]
    refine wpH_take (i := 1) (v := ?_) rfl (by kernel_rfl) (by kernel_rfl) (by kernel_rfl) (fun _ _ _ h => h) (by rfl) ?_ (by assumption) ?_; rotate_left; (focus (intro w hSw; (try dsimp only at hSw); go_simp; try with_reducible rfl)); try simp only [Act.put, List.setIfInBounds_toArray, List.set_cons_zero, List.set_cons_succ]
    refine wpAnyH_ready (rs := [2]) (by kernel_rfl) (by simp) ?_
    refine AllReadyH.cons rfl (fun K hK => ?_) AllReadyH.nil
    try dsimp only at hHeld
    go_simp
    (go_at_call 26; refine (toDev_any _ _ _ _ _ _ ss us _ (H1f.out.below hHeld.2.2.2.2 (Nat.le_refl _)) (H2f.out.below hHeld.2.2.2.2 (Nat.le_refl _)) hn hm).mono ?_; rintro e w6 ⟨v3, rfl, hO3, hbk⟩)
    refine hK.out _ _ ?_ (fun hHeld2 => ?_)
    · try dsimp only
      (go_split_ands; first | exact HALL.out _ (by assumption) | exact HALL.out _ (Below.drew (by assumption)) | exact HALL.out _ (below_step1 (by assumption) (by assumption)))
    clear hK K hHeld
    have hHeld := hHeld2
    clear hHeld2
    have HO3 := Lib.hid hO3.rd
    clear hO3 hbk
    refine wpAnyH_ready (rs := [3]) (by kernel_rfl) (by simp) ?_
    refine AllReadyH.cons rfl (fun K hK => ?_) AllReadyH.nil
    try dsimp only at hHeld
    go_simp
    (go_at_call 21; refine (eqDev_yes _ _ ss us _ (HRf.out.below hHeld.2.2.2.2 (Nat.le_refl _)) HO3.out (by omega) (by omega)).mono ?_; rintro e w7 ⟨rfl, hbk⟩)
    refine hK.out _ _ ?_ (fun hHeld2 => ?_)
    · try dsimp only
      (go_split_ands; first | exact HALL.out _ (by assumption) | exact HALL.out _ (Below.drew (by assumption)) | exact HALL.out _ (below_step1 (by assumption) (by assumption)))
    clear hK K hHeld
    have hHeld := hHeld2
    clear hHeld2
    clear hbk
    refine wpH_take (i := 4) (v := ?_) rfl (by kernel_rfl) (by kernel_rfl) (by kernel_rfl) (fun _ _ _ h => h) (by rfl) ?_ (by assumption) ?_; rotate_left; (focus (intro w hSw; (try dsimp only at hSw); go_simp; try with_reducible rfl)); try simp only [Act.put, List.setIfInBounds_toArray, List.set_cons_zero, List.set_cons_succ]
    refine wpAnyH_done (by kernel_rfl) ?_ _
    try dsimp only at hHeld
    have HB7 := Lib.hid (below_step1 HB5.out hHeld.2.2.2.2)
    clear hHeld
    go_wp2
    go_ret
    exact ⟨rfl, HB7.out⟩
end Go.Proofs.Ytbokgbbdjcpgbaa
