/- The reference's Flush and Crash. (Printed by gen_lput2.py.) -/
import Derived.Test.YtbokgbbdjcpgbaaLput
namespace Go.Proofs.Ytbokgbbdjcpgbaa
open Go.RowKit

set_option maxRecDepth 1000000 in
set_option maxHeartbeats 6000000 in
theorem specFlush_any (v : Value) (ss : List ByteArray) (us : List (Int × ByteArray)) (w : World) (h : DevRd w v ss us) :
    Calls Try.prog 30 #[v] w (DevPost (doneF (fun _ => true) ss us) [] w) := by
  obtain ⟨a, c, b, d, rfl, h1, h2⟩ := h.ex
  clear h
  unfold dvV
  have HB0 := Lib.hid ((box_alloc w (.cells #[.slice a ss.length c, .slice b us.length d] 32)).alloc (by simp) (.cells #[.slice none 0 0, .slice none 0 0] 32))
  have H1 := Lib.hid (h1.below HB0.out (Nat.le_refl _))
  have H2 := Lib.hid (h2.below HB0.out (Nat.le_refl _))
  clear h1 h2
  go_enter Try.func30, Try.ntmps30
  go_wp2_with fail
  refine (specDevOk_any _ ss us _ ⟨a, c, b, d, rfl, H1.out, H2.out⟩).mono ?_
  rintro e w1 ⟨rfl, hb⟩
  obtain ⟨hc, hf⟩ := bcell hb
  have hz : w.heap.size + 1 < w1.heap.size := by have := hb.size; simp at this; omega
  have hz0 : w.heap.size < w1.heap.size := by omega
  have e00 : w1.cell? ⟨w.heap.size, 0, none⟩ = some (.slice a ss.length c) := (hc _ _ (by simp; omega)).trans (by go_simp)
  have e01 : w1.cell? ⟨w.heap.size, 1, none⟩ = some (.slice b us.length d) := (hc _ _ (by simp; omega)).trans (by go_simp)
  have e10 : w1.cell? ⟨w.heap.size + 1, 0, none⟩ = some (.slice none 0 0) := (hc _ _ (by simp)).trans (by go_simp)
  have e11 : w1.cell? ⟨w.heap.size + 1, 1, none⟩ = some (.slice none 0 0) := (hc _ _ (by simp)).trans (by go_simp)
  have f10 : w1.frozen? ⟨w.heap.size + 1, 0, none⟩ = false := (hf _ _ (by simp)).trans (by go_simp)
  have f11 : w1.frozen? ⟨w.heap.size + 1, 1, none⟩ = false := (hf _ _ (by simp)).trans (by go_simp)
  have H1b := Lib.hid (H1.out.below hb (Nat.le_refl _))
  have H2b := Lib.hid (H2.out.below hb (Nat.le_refl _))
  have HB1 := Lib.hid (below_step1 HB0.out hb)
  clear hb hc hf H1 H2 HB0
  by_cases hok : devOkB ss us = true
  · obtain ⟨hl, hm, hus⟩ := devOk_len hok
    have HF : Hid (doneF (fun _ => true) ss us = doneN (fun _ => true) ss us us.length) := Lib.hid (by unfold doneF; rw [if_pos hok])
    have HU := Lib.hid hus
    have HS := Lib.hid hl
    rw [hok]
    have hl2 : ss.length ≤ 1048576 := by omega
    clear hok hus hl
    go_wp2_with fail
    refine (l8Copy_any _ ss us _ ⟨a, c, b, d, rfl, H1b.out, H2b.out⟩ hl2 (by omega)).mono ?_
    rintro e w2 ⟨v, rfl, hO, hb⟩
    obtain ⟨p, q, r, t, rfl, -⟩ := hO.ex
    have r10 := box_below e10 hb
    have r11 := box_below e11 hb
    have y10 : w2.frozen? ⟨w.heap.size + 1, 0, none⟩ = false := ((bcell hb).2 _ _ hz).trans f10
    have y11 : w2.frozen? ⟨w.heap.size + 1, 1, none⟩ = false := ((bcell hb).2 _ _ hz).trans f11
    have HO := Lib.hid hO
    have HB2 := Lib.hid (below_step1 HB1.out hb)
    have hz2 : w.heap.size + 1 < w2.heap.size := by have := hb.size; omega
    have hz21 : w1.heap.size ≤ w2.heap.size := hb.size
    clear hO hb e00 e01 e10 e11 f10 f11 H1b H2b hl2
    unfold dvV at HO ⊢
    rw [HS.out] at HO ⊢
    go_wp2_with fail
    refine (specDoneF_any p r q t ss us 0 _ _ HO.out HS.out HU.out hm).mono ?_
    rintro e w3 ⟨v, rfl, hO3, hb3⟩
    obtain ⟨p2, q2, r2, t2, rfl, -⟩ := hO3.ex
    have s10 : w3.cell? ⟨w.heap.size + 1, 0, none⟩ = some (.slice none 0 0) := cell_block r10 (hb3.block _ hz)
    have s11 : w3.cell? ⟨w.heap.size + 1, 1, none⟩ = some (.slice none 0 0) := cell_block r11 (hb3.block _ hz)
    have z10 : w3.frozen? ⟨w.heap.size + 1, 0, none⟩ = false := (World.frozen?_of_block (a := ⟨w.heap.size + 1, 0, none⟩) (hb3.block _ hz)).trans y10
    have z11 : w3.frozen? ⟨w.heap.size + 1, 1, none⟩ = false := (World.frozen?_of_block (a := ⟨w.heap.size + 1, 1, none⟩) (hb3.block _ hz)).trans y11
    have hB := HB2.out.trans (hb3.mono (by omega))
    have hO2 := Lib.hid (((hO3.setFar (w.heap.size + 1) 0 (.slice p2 (doneN (fun _ => true) ss us us.length).length q2) hz).setFar (w.heap.size + 1) 1 (.slice r2 ([] : List (Int × ByteArray)).length t2) hz).low (by omega : w.heap.size ≤ w1.heap.size))
    have hB2 := Lib.hid ((hB.setCell (p := ⟨w.heap.size + 1, 0, none⟩) (by dsimp only; omega) (.slice p2 (doneN (fun _ => true) ss us us.length).length q2)).setCell (p := ⟨w.heap.size + 1, 1, none⟩) (by dsimp only; omega) (.slice r2 ([] : List (Int × ByteArray)).length t2))
    have hln : (doneN (fun _ => true) ss us us.length).length = 18 := (doneN_len _ _ _ _).trans HS.out
    have hz3 : w.heap.size + 1 < w3.heap.size := by have := hb3.size; omega
    unfold dvV at hO2 ⊢
    rw [hln, List.length_nil] at hO2 hB2 ⊢
    clear hO3 hb3 r10 r11 y10 y11 hB hln
    go_wp2
    refine bodyPost_ret (v := .agg #[.slice p2 18 q2, .slice r2 0 t2]) (by simp [results, Try.results30, go_sem, s10, s11, hz3]) rfl ?_
    exact ⟨_, rfl, by rw [HF.out]; exact hO2.out, hB2.out⟩
  · have HF : Hid (doneF (fun _ => true) ss us = []) := Lib.hid (by unfold doneF; rw [if_neg hok])
    have hok : devOkB ss us = false := by simpa using hok
    rw [hok]
    clear hok
    go_wp2
    have hB2 := Lib.hid ((HB1.out.setCell (p := ⟨w.heap.size + 1, 0, none⟩) (by dsimp only; omega) (.slice none 0 0)).setCell (p := ⟨w.heap.size + 1, 1, none⟩) (by dsimp only; omega) (.slice none 0 0))
    refine bodyPost_ret (v := .agg #[.slice none 0 0, .slice none 0 0]) (by simp [results, Try.results30, go_sem, e10, e11]) rfl ?_
    exact ⟨_, rfl, by rw [HF.out]; exact dev_nil _ _ hB2.out.size, hB2.out⟩
set_option maxRecDepth 1000000 in
set_option maxHeartbeats 6000000 in
theorem specCrash_any (v : Value) (mask : Int) (hmr : -9223372036854775808 ≤ mask ∧ mask ≤ 9223372036854775807) (ss : List ByteArray) (us : List (Int × ByteArray)) (w : World) (h : DevRd w v ss us) :
    Calls Try.prog 28 #[v, .int .i64 mask] w (DevPost (doneF (tkM mask) ss us) [] w) := by
  obtain ⟨a, c, b, d, rfl, h1, h2⟩ := h.ex
  clear h
  unfold dvV
  have HB0 := Lib.hid ((box_alloc w (.cells #[.slice a ss.length c, .slice b us.length d] 32)).alloc (by simp) (.cells #[.slice none 0 0, .slice none 0 0] 32))
  have H1 := Lib.hid (h1.below HB0.out (Nat.le_refl _))
  have H2 := Lib.hid (h2.below HB0.out (Nat.le_refl _))
  clear h1 h2
  go_enter Try.func28, Try.ntmps28
  go_wp2_with fail
  refine (specDevOk_any _ ss us _ ⟨a, c, b, d, rfl, H1.out, H2.out⟩).mono ?_
  rintro e w1 ⟨rfl, hb⟩
  obtain ⟨hc, hf⟩ := bcell hb
  have hz : w.heap.size + 1 < w1.heap.size := by have := hb.size; simp at this; omega
  have hz0 : w.heap.size < w1.heap.size := by omega
  have e00 : w1.cell? ⟨w.heap.size, 0, none⟩ = some (.slice a ss.length c) := (hc _ _ (by simp; omega)).trans (by go_simp)
  have e01 : w1.cell? ⟨w.heap.size, 1, none⟩ = some (.slice b us.length d) := (hc _ _ (by simp; omega)).trans (by go_simp)
  have e10 : w1.cell? ⟨w.heap.size + 1, 0, none⟩ = some (.slice none 0 0) := (hc _ _ (by simp)).trans (by go_simp)
  have e11 : w1.cell? ⟨w.heap.size + 1, 1, none⟩ = some (.slice none 0 0) := (hc _ _ (by simp)).trans (by go_simp)
  have f10 : w1.frozen? ⟨w.heap.size + 1, 0, none⟩ = false := (hf _ _ (by simp)).trans (by go_simp)
  have f11 : w1.frozen? ⟨w.heap.size + 1, 1, none⟩ = false := (hf _ _ (by simp)).trans (by go_simp)
  have H1b := Lib.hid (H1.out.below hb (Nat.le_refl _))
  have H2b := Lib.hid (H2.out.below hb (Nat.le_refl _))
  have HB1 := Lib.hid (below_step1 HB0.out hb)
  clear hb hc hf H1 H2 HB0
  by_cases hok : devOkB ss us = true
  · obtain ⟨hl, hm, hus⟩ := devOk_len hok
    have HF : Hid (doneF (tkM mask) ss us = doneN (tkM mask) ss us us.length) := Lib.hid (by unfold doneF; rw [if_pos hok])
    have HU := Lib.hid hus
    have HS := Lib.hid hl
    rw [hok]
    have hl2 : ss.length ≤ 1048576 := by omega
    clear hok hus hl
    go_wp2_with fail
    refine (l8Copy_any _ ss us _ ⟨a, c, b, d, rfl, H1b.out, H2b.out⟩ hl2 (by omega)).mono ?_
    rintro e w2 ⟨v, rfl, hO, hb⟩
    obtain ⟨p, q, r, t, rfl, -⟩ := hO.ex
    have r10 := box_below e10 hb
    have r11 := box_below e11 hb
    have y10 : w2.frozen? ⟨w.heap.size + 1, 0, none⟩ = false := ((bcell hb).2 _ _ hz).trans f10
    have y11 : w2.frozen? ⟨w.heap.size + 1, 1, none⟩ = false := ((bcell hb).2 _ _ hz).trans f11
    have HO := Lib.hid hO
    have HB2 := Lib.hid (below_step1 HB1.out hb)
    have hz2 : w.heap.size + 1 < w2.heap.size := by have := hb.size; omega
    have hz21 : w1.heap.size ≤ w2.heap.size := hb.size
    clear hO hb e00 e01 e10 e11 f10 f11 H1b H2b hl2
    unfold dvV at HO ⊢
    rw [HS.out] at HO ⊢
    go_wp2_with fail
    refine (specDoneM_any p r q t ss us mask _ _ HO.out HS.out HU.out hm hmr).mono ?_
    rintro e w3 ⟨v, rfl, hO3, hb3⟩
    obtain ⟨p2, q2, r2, t2, rfl, -⟩ := hO3.ex
    have s10 : w3.cell? ⟨w.heap.size + 1, 0, none⟩ = some (.slice none 0 0) := cell_block r10 (hb3.block _ hz)
    have s11 : w3.cell? ⟨w.heap.size + 1, 1, none⟩ = some (.slice none 0 0) := cell_block r11 (hb3.block _ hz)
    have z10 : w3.frozen? ⟨w.heap.size + 1, 0, none⟩ = false := (World.frozen?_of_block (a := ⟨w.heap.size + 1, 0, none⟩) (hb3.block _ hz)).trans y10
    have z11 : w3.frozen? ⟨w.heap.size + 1, 1, none⟩ = false := (World.frozen?_of_block (a := ⟨w.heap.size + 1, 1, none⟩) (hb3.block _ hz)).trans y11
    have hB := HB2.out.trans (hb3.mono (by omega))
    have hO2 := Lib.hid (((hO3.setFar (w.heap.size + 1) 0 (.slice p2 (doneN (tkM mask) ss us us.length).length q2) hz).setFar (w.heap.size + 1) 1 (.slice r2 ([] : List (Int × ByteArray)).length t2) hz).low (by omega : w.heap.size ≤ w1.heap.size))
    have hB2 := Lib.hid ((hB.setCell (p := ⟨w.heap.size + 1, 0, none⟩) (by dsimp only; omega) (.slice p2 (doneN (tkM mask) ss us us.length).length q2)).setCell (p := ⟨w.heap.size + 1, 1, none⟩) (by dsimp only; omega) (.slice r2 ([] : List (Int × ByteArray)).length t2))
    have hln : (doneN (tkM mask) ss us us.length).length = 18 := (doneN_len _ _ _ _).trans HS.out
    have hz3 : w.heap.size + 1 < w3.heap.size := by have := hb3.size; omega
    unfold dvV at hO2 ⊢
    rw [hln, List.length_nil] at hO2 hB2 ⊢
    clear hO3 hb3 r10 r11 y10 y11 hB hln
    go_wp2
    refine bodyPost_ret (v := .agg #[.slice p2 18 q2, .slice r2 0 t2]) (by simp [results, Try.results28, go_sem, s10, s11, hz3]) rfl ?_
    exact ⟨_, rfl, by rw [HF.out]; exact hO2.out, hB2.out⟩
  · have HF : Hid (doneF (tkM mask) ss us = []) := Lib.hid (by unfold doneF; rw [if_neg hok])
    have hok : devOkB ss us = false := by simpa using hok
    rw [hok]
    clear hok
    go_wp2
    have hB2 := Lib.hid ((HB1.out.setCell (p := ⟨w.heap.size + 1, 0, none⟩) (by dsimp only; omega) (.slice none 0 0)).setCell (p := ⟨w.heap.size + 1, 1, none⟩) (by dsimp only; omega) (.slice none 0 0))
    refine bodyPost_ret (v := .agg #[.slice none 0 0, .slice none 0 0]) (by simp [results, Try.results28, go_sem, e10, e11]) rfl ?_
    exact ⟨_, rfl, by rw [HF.out]; exact dev_nil _ _ hB2.out.size, hB2.out⟩
end Go.Proofs.Ytbokgbbdjcpgbaa
