/- The laws of Flush and Crash, walked. (Printed by gen_lflush.py.) -/
import Derived.Test.YtbokgbbdjcpgbaaLput2
namespace Go.Proofs.Ytbokgbbdjcpgbaa
open Go.RowKit

set_option maxRecDepth 1000000 in
set_option maxHeartbeats 6000000 in
theorem lawFlush_walk (a b : Option Addr) (n c m d : Nat) (ss : List ByteArray) (us : List (Int × ByteArray)) (w : World) (hs1 : ∀ s ∈ ss, s.size ≤ maxLen) (h1 : Rd w a n c 1 (strs ss)) (hs2 : ∀ s ∈ us, OkInt s.1 ∧ s.2.size ≤ maxLen) (h2 : Rd w b m d 2 (wrs us)) :
    Calls Try.prog 7 #[.agg #[.slice a n c, .slice b m d]] w fun e w' => e = .returned (.bool true) ∧ Below w.heap.size w w' := by
  have hl1 : ss.length = n := by have := h1.len; simpa using this
  have hl2 : us.length = m := by have := h2.len; simp at this; omega
  subst hl1 hl2
  obtain ⟨R, hR⟩ : ∃ R, R = doneF (fun _ => true) ss us := ⟨_, rfl⟩
  have hRl : R.length ≤ 1048576 := by rw [hR]; have := doneF_len (fun _ => true) ss us; omega
  obtain ⟨U, hU⟩ : ∃ U : List (Int × ByteArray), U = [] := ⟨_, rfl⟩
  have hUl : U.length ≤ 1048576 := by rw [hU]; decide
  have HI : Hid (∀ v W, DevRd W v ss us → Calls Try.prog 31 #[v] W (DevPost R U W)) := Lib.hid (fun v W h => by rw [hR, hU]; exact implFlush_any v ss us W h)
  have HS : Hid (∀ v W, DevRd W v ss us → Calls Try.prog 30 #[v] W (DevPost R U W)) := Lib.hid (fun v W h => by rw [hR, hU]; exact specFlush_any v ss us W h)
  clear hR hU
  have HC := Lib.hid (box_alloc w (.cells #[.slice a ss.length c, .slice b us.length d] 39))
  have H1 := Lib.hid (h1.below HC.out (Nat.le_refl _))
  have H2 := Lib.hid (h2.below HC.out (Nat.le_refl _))
  have HS1 := Lib.hid hs1
  have HS2 := Lib.hid (fun s hs => (hs2 s hs).2)
  have H1o := Lib.hid h1
  have H2o := Lib.hid h2
  clear h1 h2 hs1 hs2
  go_enter Try.func7, Try.ntmps7
  go_wp2_with fail
  have c0 := box0 w 39 (.slice a ss.length c) (.slice b us.length d)
  have c1 := box1 w 39 (.slice a ss.length c) (.slice b us.length d)
  refine (szDev_any _ _ _ _ _ _ ss us 1048576 _ H1.out H2.out HS1.out HS2.out (by omega) (by omega)).mono ?_
  rintro e w1 ⟨x, rfl, hx, hxl, hok, hb⟩
  replace c0 := box_below c0 hb
  replace c1 := box_below c1 hb
  replace H1 := Lib.hid (H1.out.below hb (Nat.le_refl _))
  replace H2 := Lib.hid (H2.out.below hb (Nat.le_refl _))
  replace HC := Lib.hid (below_step1 HC.out hb)
  clear hb
  by_cases hx0 : x < 0
  · clear hok
    go_wp2
    go_ret
    exact ⟨rfl, HC.out⟩
  · obtain ⟨hn, hm⟩ := hok (by omega)
    have hn : ss.length ≤ 1048576 := by omega
    have hm : us.length ≤ 1048576 := by omega
    clear hok
    go_wp2_with fail
    refine (toDev_any _ _ _ _ _ _ ss us _ H1.out H2.out hn hm).mono ?_
    rintro e w2 ⟨v1, rfl, hO, hb⟩
    have HV := Lib.hid hO.rd
    clear hO
    replace c0 := box_below c0 hb
    replace c1 := box_below c1 hb
    replace H1 := Lib.hid (H1.out.below hb (Nat.le_refl _))
    replace H2 := Lib.hid (H2.out.below hb (Nat.le_refl _))
    replace HC := Lib.hid (below_step1 HC.out hb)
    clear hb
    go_wp2_with fail
    refine (HS.out _ _ HV.out).mono ?_
    rintro e w3 ⟨v0, rfl, hO, hb⟩
    obtain ⟨p1, q1, r1, s1, rfl, -⟩ := hO.ex
    have HW := Lib.hid hO.rd
    clear HV hO
    replace c0 := box_below c0 hb
    replace c1 := box_below c1 hb
    replace H1 := Lib.hid (H1.out.below hb (Nat.le_refl _))
    replace H2 := Lib.hid (H2.out.below hb (Nat.le_refl _))
    replace HC := Lib.hid (below_step1 HC.out hb)
    clear hb
    have t3 : w.heap.size < w3.heap.size := World.block_lt_of_cell? w3 _ c0
    unfold dvV at HW ⊢
    go_wp2_with fail
    have hz3 := Below.refl w3.heap.size w3
    have HC3 := Lib.hid hz3
    have HWo := HW
    clear hz3
    have HBX := Lib.hid (box_alloc w3 (.cells #[.slice p1 R.length q1, .slice r1 U.length s1] 32))
    replace c0 := box_below c0 HBX.out
    replace c1 := box_below c1 HBX.out
    replace H1 := Lib.hid (H1.out.below HBX.out (Nat.le_refl _))
    replace H2 := Lib.hid (H2.out.below HBX.out (Nat.le_refl _))
    replace HW := Lib.hid (HW.out.below HBX.out (Nat.le_refl _))
    replace HC := Lib.hid (below_step1 HC.out HBX.out)
    have d0 := box0 w3 32 (.slice p1 R.length q1) (.slice r1 U.length s1)
    have d1 := box1 w3 32 (.slice p1 R.length q1) (.slice r1 U.length s1)
    clear HBX
    replace HC3 := Lib.hid (box_alloc w3 (.cells #[.slice p1 R.length q1, .slice r1 U.length s1] 32))
    refine (toDev_any _ _ _ _ _ _ ss us _ H1.out H2.out hn hm).mono ?_
    rintro e w4 ⟨v2, rfl, hX, hb⟩
    replace c0 := box_below c0 hb
    replace c1 := box_below c1 hb
    replace d0 := box_below d0 hb
    replace d1 := box_below d1 hb
    replace H1 := Lib.hid (H1.out.below hb (Nat.le_refl _))
    replace H2 := Lib.hid (H2.out.below hb (Nat.le_refl _))
    replace HW := Lib.hid (HW.out.below hb (Nat.le_refl _))
    replace HC := Lib.hid (below_step1 HC.out hb)
    have t4 : w3.heap.size < w4.heap.size := World.block_lt_of_cell? w4 _ d0
    replace HC3 := Lib.hid (below_step1 HC3.out hb)
    clear hb
    obtain ⟨p2, q2, r2, s2, rfl, -⟩ := hX.ex
    have HX := Lib.hid hX
    clear hX
    unfold dvV at HX ⊢
    have HBK : Hid (∀ k, ((Value.slice p2 ss.length q2).ownBlock = some k ∨ (Value.slice r2 us.length s2).ownBlock = some k) → w3.heap.size + 1 ≤ k ∧ k < w4.heap.size) := Lib.hid (fun k hk => by have := HX.out.blk2 k hk; simpa using this)
    go_wp2_with fail
    replace HC3 := Lib.hid (below_step1 HC3.out (box_alloc w4 (.cells #[.slice p2 ss.length q2, .slice r2 us.length s2] 32)))
    have HBX := Lib.hid (box_alloc w4 (.cells #[.slice p2 ss.length q2, .slice r2 us.length s2] 32))
    replace c0 := box_below c0 HBX.out
    replace c1 := box_below c1 HBX.out
    replace d0 := box_below d0 HBX.out
    replace d1 := box_below d1 HBX.out
    replace H1 := Lib.hid (H1.out.below HBX.out (Nat.le_refl _))
    replace H2 := Lib.hid (H2.out.below HBX.out (Nat.le_refl _))
    replace HW := Lib.hid (HW.out.below HBX.out (Nat.le_refl _))
    replace HX := Lib.hid (HX.out.stay HBX.out)
    replace HC := Lib.hid (below_step1 HC.out HBX.out)
    have x0 := box0 w4 32 (.slice p2 ss.length q2) (.slice r2 us.length s2)
    have x1 := box1 w4 32 (.slice p2 ss.length q2) (.slice r2 us.length s2)
    clear HBX
    refine (HI.out _ _ HX.out.rd).mono ?_
    rintro e w5 ⟨v3, rfl, hG, hb⟩
    replace c0 := box_below c0 hb
    replace c1 := box_below c1 hb
    replace d0 := box_below d0 hb
    replace d1 := box_below d1 hb
    replace x0 := box_below x0 hb
    replace x1 := box_below x1 hb
    replace H1 := Lib.hid (H1.out.below hb (Nat.le_refl _))
    replace H2 := Lib.hid (H2.out.below hb (Nat.le_refl _))
    replace HW := Lib.hid (HW.out.below hb (Nat.le_refl _))
    replace HX := Lib.hid (HX.out.stay hb)
    replace HC := Lib.hid (below_step1 HC.out hb)
    have t5 : w4.heap.size < w5.heap.size := World.block_lt_of_cell? w5 _ x0
    replace HC3 := Lib.hid (below_step1 HC3.out hb)
    have zcw5 : w.heap.size < w5.heap.size := World.block_lt_of_cell? w5 _ c0
    have zdw5 : w3.heap.size < w5.heap.size := World.block_lt_of_cell? w5 _ d0
    have zxw5 : w4.heap.size < w5.heap.size := World.block_lt_of_cell? w5 _ x0
    clear hb
    obtain ⟨p3, q3, r3, s3, rfl, -⟩ := hG.ex
    have HG := Lib.hid hG
    clear hG
    unfold dvV at HG ⊢
    have HGK : Hid (∀ k, ((Value.slice p3 R.length q3).ownBlock = some k ∨ (Value.slice r3 U.length s3).ownBlock = some k) → w4.heap.size + 1 ≤ k ∧ k < w5.heap.size) := Lib.hid (fun k hk => by have := HG.out.blk2 k hk; simpa using this)
    go_wp2_with fail
    replace HC3 := Lib.hid (below_step1 HC3.out (box_alloc w5 (.cells #[.slice p3 R.length q3, .slice r3 U.length s3] 32)))
    have HBX := Lib.hid (box_alloc w5 (.cells #[.slice p3 R.length q3, .slice r3 U.length s3] 32))
    replace c0 := box_below c0 HBX.out
    replace c1 := box_below c1 HBX.out
    replace d0 := box_below d0 HBX.out
    replace d1 := box_below d1 HBX.out
    replace x0 := box_below x0 HBX.out
    replace x1 := box_below x1 HBX.out
    replace H1 := Lib.hid (H1.out.below HBX.out (Nat.le_refl _))
    replace H2 := Lib.hid (H2.out.below HBX.out (Nat.le_refl _))
    replace HW := Lib.hid (HW.out.below HBX.out (Nat.le_refl _))
    replace HX := Lib.hid (HX.out.stay HBX.out)
    replace HG := Lib.hid (HG.out.stay HBX.out)
    replace HC := Lib.hid (below_step1 HC.out HBX.out)
    have g0 := box0 w5 32 (.slice p3 R.length q3) (.slice r3 U.length s3)
    have g1 := box1 w5 32 (.slice p3 R.length q3) (.slice r3 U.length s3)
    clear HBX
    refine (eqDev_yes _ _ R U _ HG.out.rd HW.out (by omega) (by omega)).mono ?_
    rintro e w6 ⟨rfl, hb⟩
    replace c0 := box_below c0 hb
    replace c1 := box_below c1 hb
    replace d0 := box_below d0 hb
    replace d1 := box_below d1 hb
    replace x0 := box_below x0 hb
    replace x1 := box_below x1 hb
    replace g0 := box_below g0 hb
    replace g1 := box_below g1 hb
    replace H1 := Lib.hid (H1.out.below hb (Nat.le_refl _))
    replace H2 := Lib.hid (H2.out.below hb (Nat.le_refl _))
    replace HW := Lib.hid (HW.out.below hb (Nat.le_refl _))
    replace HX := Lib.hid (HX.out.stay hb)
    replace HG := Lib.hid (HG.out.stay hb)
    replace HC := Lib.hid (below_step1 HC.out hb)
    replace HC3 := Lib.hid (below_step1 HC3.out hb)
    clear hb
    have zcw6 : w.heap.size < w6.heap.size := World.block_lt_of_cell? w6 _ c0
    have zdw6 : w3.heap.size < w6.heap.size := World.block_lt_of_cell? w6 _ d0
    have zxw6 : w4.heap.size < w6.heap.size := World.block_lt_of_cell? w6 _ x0
    have zgw6 : w5.heap.size < w6.heap.size := World.block_lt_of_cell? w6 _ g0
    have HALL : Hid (∀ W, Below w6.heap.size w6 W → (W.cell? ⟨w.heap.size, 0, none⟩ = some (.slice a ss.length c) ∧ W.cell? ⟨w.heap.size, 1, none⟩ = some (.slice b us.length d) ∧ W.cell? ⟨w4.heap.size, 0, none⟩ = some (.slice p2 ss.length q2) ∧ W.cell? ⟨w4.heap.size, 1, none⟩ = some (.slice r2 us.length s2) ∧ Below w6.heap.size w6 W)) := Lib.hid (fun W hW => ⟨box_below c0 hW, box_below c1 hW, box_below x0 hW, box_below x1 hW, hW⟩)
    have hB0 := Below.refl w6.heap.size w6
    have HCELLS : Hid ((w6.cell? ⟨w.heap.size, 0, none⟩ = some (.slice a ss.length c) ∧ w6.cell? ⟨w.heap.size, 1, none⟩ = some (.slice b us.length d)) ∧ (w6.cell? ⟨w3.heap.size, 0, none⟩ = some (.slice p1 R.length q1) ∧ w6.cell? ⟨w3.heap.size, 1, none⟩ = some (.slice r1 U.length s1)) ∧ (w6.cell? ⟨w4.heap.size, 0, none⟩ = some (.slice p2 ss.length q2) ∧ w6.cell? ⟨w4.heap.size, 1, none⟩ = some (.slice r2 us.length s2)) ∧ (w6.cell? ⟨w5.heap.size, 0, none⟩ = some (.slice p3 R.length q3) ∧ w6.cell? ⟨w5.heap.size, 1, none⟩ = some (.slice r3 U.length s3))) := Lib.hid ⟨⟨c0, c1⟩, ⟨d0, d1⟩, ⟨x0, x1⟩, ⟨g0, g1⟩⟩
    clear c0 c1 d0 d1 x0 x1 g0 g1
    go_wp2
    refine wp_region_held_drew (S := (fun W => W.cell? ⟨w.heap.size, 0, none⟩ = some (.slice a ss.length c) ∧ W.cell? ⟨w.heap.size, 1, none⟩ = some (.slice b us.length d) ∧ W.cell? ⟨w4.heap.size, 0, none⟩ = some (.slice p2 ss.length q2) ∧ W.cell? ⟨w4.heap.size, 1, none⟩ = some (.slice r2 us.length s2) ∧ Below w6.heap.size w6 W)) (by kernel_rfl) ?_ (fun hHeld => ?_)
    · try dsimp only
      (go_split_ands; first | exact HALL.out _ (by assumption) | exact HALL.out _ (Below.drew (by assumption)) | exact HALL.out _ (below_step1 (by assumption) (by assumption)))
    change wpAnyH _ _ _ _ _ 5 #[false, false, false, false, false] _ _
    clear hB0
    refine wpH_take (i := 0) (v := ?_) rfl (by kernel_rfl) (by kernel_rfl) (by kernel_rfl) (fun _ _ _ h => h) (by rfl) ?_ (by assumption) ?_; rotate_left; (focus (intro w hSw; (try dsimp only at hSw); go_simp; try with_reducible rfl)); try simp only [Act.put, List.setIfInBounds_toArray, List.set_cons_zero, List.set_cons_succ]
    refine wpH_take (i := 1) (v := ?_) rfl (by kernel_rfl) (by kernel_rfl) (by kernel_rfl) (fun _ _ _ h => h) (by rfl) ?_ (by assumption) ?_; rotate_left; (focus (intro w hSw; (try dsimp only at hSw); go_simp; try with_reducible rfl)); try simp only [Act.put, List.setIfInBounds_toArray, List.set_cons_zero, List.set_cons_succ]
    refine wpAnyH_ready (rs := [2]) (by kernel_rfl) (by simp) ?_
    refine AllReadyH.cons rfl (fun K hK => ?_) AllReadyH.nil
    try dsimp only at hHeld
    go_simp
    (go_at_call 26; refine (toDev_any _ _ _ _ _ _ ss us _ (H1.out.below hHeld.2.2.2.2 (Nat.le_refl _)) (H2.out.below hHeld.2.2.2.2 (Nat.le_refl _)) hn hm).mono ?_; rintro e w7 ⟨v4, rfl, hO4, hbk⟩)
    refine hK.out _ _ ?_ (fun hHeld2 => ?_)
    · try dsimp only
      (go_split_ands; first | exact HALL.out _ (by assumption) | exact HALL.out _ (Below.drew (by assumption)) | exact HALL.out _ (below_step1 (by assumption) (by assumption)))
    clear hK K hHeld
    have hHeld := hHeld2
    clear hHeld2
    have HO4 := Lib.hid hO4.rd
    clear hO4 hbk
    refine wpAnyH_ready (rs := [3]) (by kernel_rfl) (by simp) ?_
    refine AllReadyH.cons rfl (fun K hK => ?_) AllReadyH.nil
    try dsimp only at hHeld
    go_simp
    (go_at_call 21; refine (eqDev_yes _ _ ss us _ (HX.out.rd.below hHeld.2.2.2.2 (Nat.le_refl _)) HO4.out (by omega) (by omega)).mono ?_; rintro e w8 ⟨rfl, hbk⟩)
    refine hK.out _ _ ?_ (fun hHeld2 => ?_)
    · try dsimp only
      (go_split_ands; first | exact HALL.out _ (by assumption) | exact HALL.out _ (Below.drew (by assumption)) | exact HALL.out _ (below_step1 (by assumption) (by assumption)))
    clear hK K hHeld
    have hHeld := hHeld2
    clear hHeld2
    clear hbk HO4
    refine wpH_take (i := 4) (v := ?_) rfl (by kernel_rfl) (by kernel_rfl) (by kernel_rfl) (fun _ _ _ h => h) (by rfl) ?_ (by assumption) ?_; rotate_left; (focus (intro w hSw; (try dsimp only at hSw); go_simp; try with_reducible rfl)); try simp only [Act.put, List.setIfInBounds_toArray, List.set_cons_zero, List.set_cons_succ]
    refine wpAnyH_done (by kernel_rfl) ?_ _
    try dsimp only at hHeld
    obtain ⟨⟨c0, c1⟩, ⟨d0, d1⟩, ⟨x0, x1⟩, ⟨g0, g1⟩⟩ := HCELLS.out
    have hb := hHeld.2.2.2.2
    clear hHeld HALL HCELLS
    replace c0 := box_below c0 hb
    replace c1 := box_below c1 hb
    replace d0 := box_below d0 hb
    replace d1 := box_below d1 hb
    replace x0 := box_below x0 hb
    replace x1 := box_below x1 hb
    replace g0 := box_below g0 hb
    replace g1 := box_below g1 hb
    replace H1 := Lib.hid (H1.out.below hb (Nat.le_refl _))
    replace H2 := Lib.hid (H2.out.below hb (Nat.le_refl _))
    replace HW := Lib.hid (HW.out.below hb (Nat.le_refl _))
    replace HX := Lib.hid (HX.out.stay hb)
    replace HG := Lib.hid (HG.out.stay hb)
    replace HC := Lib.hid (below_step1 HC.out hb)
    replace HC3 := Lib.hid (below_step1 HC3.out hb)
    have hsz6 := hb.size
    have hb8 := hb
    clear hb
    replace zcw6 := Nat.lt_of_lt_of_le zcw6 hsz6
    replace zdw6 := Nat.lt_of_lt_of_le zdw6 hsz6
    replace zxw6 := Nat.lt_of_lt_of_le zxw6 hsz6
    replace zgw6 := Nat.lt_of_lt_of_le zgw6 hsz6
    clear hsz6 hb8
    go_wp2_with fail
    refine (markDev_any _ _ ss us 1 _ HX.out hn hm (by omega) (by omega)).mono ?_
    rintro e w9 ⟨rfl, -, hbm, hfar⟩
    have hf2 := far_of hfar HBK.out
    clear hfar
    replace c0 := cell_block c0 (hf2 _ zcw6 (by omega))
    replace c1 := cell_block c1 (hf2 _ zcw6 (by omega))
    replace d0 := cell_block d0 (hf2 _ zdw6 (by omega))
    replace d1 := cell_block d1 (hf2 _ zdw6 (by omega))
    replace x0 := cell_block x0 (hf2 _ zxw6 (by omega))
    replace x1 := cell_block x1 (hf2 _ zxw6 (by omega))
    replace g0 := cell_block g0 (hf2 _ zgw6 (by omega))
    replace g1 := cell_block g1 (hf2 _ zgw6 (by omega))
    have hz9 := hbm.size
    replace HG := Lib.hid (HG.out.far hz9 (fun k hk1 hk2 => hf2 k hk2 (by simp at hk1; omega)))
    replace HC := Lib.hid (HC.out.trans (hbm.mono (by simp; omega)))
    replace HC3 := Lib.hid (HC3.out.trans (hbm.mono (by simp)))
    replace HW := Lib.hid (HWo.out.below HC3.out (Nat.le_refl _))
    replace H1 := Lib.hid (H1o.out.below HC.out (Nat.le_refl _))
    replace H2 := Lib.hid (H2o.out.below HC.out (Nat.le_refl _))
    replace zcw6 := Nat.lt_of_lt_of_le zcw6 hz9
    replace zdw6 := Nat.lt_of_lt_of_le zdw6 hz9
    replace zxw6 := Nat.lt_of_lt_of_le zxw6 hz9
    replace zgw6 := Nat.lt_of_lt_of_le zgw6 hz9
    clear hbm hf2 hz9 HX x0 x1 zxw6
    have hneg : ¬ ((1 + ss.length + 2 * us.length : Nat) : Int) < 0 := by omega
    go_wp2_with fail
    refine (eqDev_yes _ _ R U _ HG.out.rd HW.out (by omega) (by omega)).mono ?_
    rintro e w10 ⟨rfl, hb⟩
    replace c0 := box_below c0 hb
    replace c1 := box_below c1 hb
    replace d0 := box_below d0 hb
    replace d1 := box_below d1 hb
    replace g0 := box_below g0 hb
    replace g1 := box_below g1 hb
    replace H1 := Lib.hid (H1.out.below hb (Nat.le_refl _))
    replace H2 := Lib.hid (H2.out.below hb (Nat.le_refl _))
    replace HW := Lib.hid (HW.out.below hb (Nat.le_refl _))
    replace HG := Lib.hid (HG.out.stay hb)
    replace HC := Lib.hid (below_step1 HC.out hb)
    replace HC3 := Lib.hid (below_step1 HC3.out hb)
    replace zcw6 := Nat.lt_of_lt_of_le zcw6 hb.size
    replace zdw6 := Nat.lt_of_lt_of_le zdw6 hb.size
    replace zgw6 := Nat.lt_of_lt_of_le zgw6 hb.size
    clear hb
    go_wp2_with fail
    refine (markDev_any _ _ R U 1 _ HG.out hRl hUl (by omega) (by omega)).mono ?_
    rintro e w11 ⟨rfl, hO, hbm, hfar⟩
    have hf2 := far_of hfar HGK.out
    clear hfar
    replace c0 := cell_block c0 (hf2 _ zcw6 (by omega))
    replace c1 := cell_block c1 (hf2 _ zcw6 (by omega))
    replace d0 := cell_block d0 (hf2 _ zdw6 (by omega))
    replace d1 := cell_block d1 (hf2 _ zdw6 (by omega))
    replace g0 := cell_block g0 (hf2 _ zgw6 (by omega))
    replace g1 := cell_block g1 (hf2 _ zgw6 (by omega))
    replace HG := Lib.hid hO
    have hz11 := hbm.size
    replace HC := Lib.hid (HC.out.trans (hbm.mono (by simp; omega)))
    replace HC3 := Lib.hid (HC3.out.trans (hbm.mono (by simp; omega)))
    replace HW := Lib.hid (HWo.out.below HC3.out (Nat.le_refl _))
    replace H1 := Lib.hid (H1o.out.below HC.out (Nat.le_refl _))
    replace H2 := Lib.hid (H2o.out.below HC.out (Nat.le_refl _))
    replace zcw6 := Nat.lt_of_lt_of_le zcw6 hz11
    replace zdw6 := Nat.lt_of_lt_of_le zdw6 hz11
    replace zgw6 := Nat.lt_of_lt_of_le zgw6 hz11
    clear hO hbm hf2 hz11
    go_wp2_with fail
    have hRdH : DevRd _ (.agg #[.slice p3 R.length q3, .slice r3 U.length s3]) (mks 1 R.length) (mkw (1 + R.length) U.length) := HG.out.rd
    refine (heldDev_yes _ 1 R.length U.length _ hRdH hRl hUl (by omega) (by omega)).mono ?_
    clear hRdH
    rintro e w12 ⟨rfl, hb⟩
    replace c0 := box_below c0 hb
    replace c1 := box_below c1 hb
    replace d0 := box_below d0 hb
    replace d1 := box_below d1 hb
    replace g0 := box_below g0 hb
    replace g1 := box_below g1 hb
    replace H1 := Lib.hid (H1.out.below hb (Nat.le_refl _))
    replace H2 := Lib.hid (H2.out.below hb (Nat.le_refl _))
    replace HW := Lib.hid (HW.out.below hb (Nat.le_refl _))
    replace HG := Lib.hid (HG.out.stay hb)
    replace HC := Lib.hid (below_step1 HC.out hb)
    replace HC3 := Lib.hid (below_step1 HC3.out hb)
    replace zcw6 := Nat.lt_of_lt_of_le zcw6 hb.size
    replace zdw6 := Nat.lt_of_lt_of_le zdw6 hb.size
    replace zgw6 := Nat.lt_of_lt_of_le zgw6 hb.size
    clear hb
    have hneg2 : ¬ ((1 + R.length + 2 * U.length : Nat) : Int) < 0 := by omega
    go_wp2_with fail
    refine (toDev_any _ _ _ _ _ _ ss us _ H1.out H2.out hn hm).mono ?_
    rintro e w13 ⟨v5, rfl, hO, hb⟩
    have HV := Lib.hid hO.rd
    clear hO
    replace c0 := box_below c0 hb
    replace c1 := box_below c1 hb
    replace d0 := box_below d0 hb
    replace d1 := box_below d1 hb
    replace g0 := box_below g0 hb
    replace g1 := box_below g1 hb
    replace H1 := Lib.hid (H1.out.below hb (Nat.le_refl _))
    replace H2 := Lib.hid (H2.out.below hb (Nat.le_refl _))
    replace HW := Lib.hid (HW.out.below hb (Nat.le_refl _))
    replace HG := Lib.hid (HG.out.stay hb)
    replace HC := Lib.hid (below_step1 HC.out hb)
    replace HC3 := Lib.hid (below_step1 HC3.out hb)
    replace zcw6 := Nat.lt_of_lt_of_le zcw6 hb.size
    replace zdw6 := Nat.lt_of_lt_of_le zdw6 hb.size
    replace zgw6 := Nat.lt_of_lt_of_le zgw6 hb.size
    clear hb
    go_wp2_with fail
    refine (HI.out _ _ HV.out).mono ?_
    rintro e w14 ⟨v6, rfl, hO, hb⟩
    replace c0 := box_below c0 hb
    replace c1 := box_below c1 hb
    replace d0 := box_below d0 hb
    replace d1 := box_below d1 hb
    replace g0 := box_below g0 hb
    replace g1 := box_below g1 hb
    replace H1 := Lib.hid (H1.out.below hb (Nat.le_refl _))
    replace H2 := Lib.hid (H2.out.below hb (Nat.le_refl _))
    replace HW := Lib.hid (HW.out.below hb (Nat.le_refl _))
    replace HG := Lib.hid (HG.out.stay hb)
    replace HC := Lib.hid (below_step1 HC.out hb)
    replace HC3 := Lib.hid (below_step1 HC3.out hb)
    replace zcw6 := Nat.lt_of_lt_of_le zcw6 hb.size
    replace zdw6 := Nat.lt_of_lt_of_le zdw6 hb.size
    replace zgw6 := Nat.lt_of_lt_of_le zgw6 hb.size
    clear hb HV
    obtain ⟨p4, q4, r4, s4, rfl, -⟩ := hO.ex
    have HH := Lib.hid hO.rd
    clear hO
    unfold dvV at HH ⊢
    go_wp2_with fail
    replace HC3 := Lib.hid (below_step1 HC3.out (box_alloc w14 (.cells #[.slice p4 R.length q4, .slice r4 U.length s4] 32)))
    have HBX := Lib.hid (box_alloc w14 (.cells #[.slice p4 R.length q4, .slice r4 U.length s4] 32))
    replace c0 := box_below c0 HBX.out
    replace c1 := box_below c1 HBX.out
    replace d0 := box_below d0 HBX.out
    replace d1 := box_below d1 HBX.out
    replace g0 := box_below g0 HBX.out
    replace g1 := box_below g1 HBX.out
    replace H1 := Lib.hid (H1.out.below HBX.out (Nat.le_refl _))
    replace H2 := Lib.hid (H2.out.below HBX.out (Nat.le_refl _))
    replace HW := Lib.hid (HW.out.below HBX.out (Nat.le_refl _))
    replace HH := Lib.hid (HH.out.below HBX.out (Nat.le_refl _))
    replace HG := Lib.hid (HG.out.stay HBX.out)
    replace HC := Lib.hid (below_step1 HC.out HBX.out)
    have y0 := box0 w14 32 (.slice p4 R.length q4) (.slice r4 U.length s4)
    have y1 := box1 w14 32 (.slice p4 R.length q4) (.slice r4 U.length s4)
    clear HBX
    refine (eqDev_yes _ _ R U _ HH.out HW.out (by omega) (by omega)).mono ?_
    rintro e w15 ⟨rfl, hb⟩
    replace c0 := box_below c0 hb
    replace c1 := box_below c1 hb
    replace d0 := box_below d0 hb
    replace d1 := box_below d1 hb
    replace g0 := box_below g0 hb
    replace g1 := box_below g1 hb
    replace y0 := box_below y0 hb
    replace y1 := box_below y1 hb
    replace H1 := Lib.hid (H1.out.below hb (Nat.le_refl _))
    replace H2 := Lib.hid (H2.out.below hb (Nat.le_refl _))
    replace HW := Lib.hid (HW.out.below hb (Nat.le_refl _))
    replace HH := Lib.hid (HH.out.below hb (Nat.le_refl _))
    replace HG := Lib.hid (HG.out.stay hb)
    replace HC := Lib.hid (below_step1 HC.out hb)
    replace HC3 := Lib.hid (below_step1 HC3.out hb)
    have zcw15 : w.heap.size < w15.heap.size := World.block_lt_of_cell? w15 _ c0
    have zdw15 : w3.heap.size < w15.heap.size := World.block_lt_of_cell? w15 _ d0
    have zgw15 : w5.heap.size < w15.heap.size := World.block_lt_of_cell? w15 _ g0
    clear hb HW HH y0 y1
    go_wp2_with fail
    have hRdH : DevRd _ (.agg #[.slice p3 R.length q3, .slice r3 U.length s3]) (mks 1 R.length) (mkw (1 + R.length) U.length) := HG.out.rd
    refine (heldDev_yes _ 1 R.length U.length _ hRdH hRl hUl (by omega) (by omega)).mono ?_
    clear hRdH
    rintro e w16 ⟨rfl, hb⟩
    replace c0 := box_below c0 hb
    replace c1 := box_below c1 hb
    replace d0 := box_below d0 hb
    replace d1 := box_below d1 hb
    replace g0 := box_below g0 hb
    replace g1 := box_below g1 hb
    replace H1 := Lib.hid (H1.out.below hb (Nat.le_refl _))
    replace H2 := Lib.hid (H2.out.below hb (Nat.le_refl _))
    replace HG := Lib.hid (HG.out.stay hb)
    replace HC := Lib.hid (below_step1 HC.out hb)
    replace HC3 := Lib.hid (below_step1 HC3.out hb)
    clear hb
    go_wp2
    go_ret
    exact ⟨rfl, HC.out⟩
set_option maxRecDepth 1000000 in
set_option maxHeartbeats 6000000 in
theorem lawCrash_walk (a b : Option Addr) (n c m d : Nat) (ss : List ByteArray) (us : List (Int × ByteArray)) (mask : Int) (wf : (Lit.int .i64 mask).wf = true) (w : World) (hs1 : ∀ s ∈ ss, s.size ≤ maxLen) (h1 : Rd w a n c 1 (strs ss)) (hs2 : ∀ s ∈ us, OkInt s.1 ∧ s.2.size ≤ maxLen) (h2 : Rd w b m d 2 (wrs us)) :
    Calls Try.prog 6 #[.agg #[.slice a n c, .slice b m d], .int .i64 mask] w fun e w' => e = .returned (.bool true) ∧ Below w.heap.size w w' := by
  have hl1 : ss.length = n := by have := h1.len; simpa using this
  have hl2 : us.length = m := by have := h2.len; simp at this; omega
  subst hl1 hl2
  have hmr : -9223372036854775808 ≤ mask ∧ mask ≤ 9223372036854775807 := wf_b wf
  obtain ⟨R, hR⟩ : ∃ R, R = doneF (tkM mask) ss us := ⟨_, rfl⟩
  have hRl : R.length ≤ 1048576 := by rw [hR]; have := doneF_len (tkM mask) ss us; omega
  obtain ⟨U, hU⟩ : ∃ U : List (Int × ByteArray), U = [] := ⟨_, rfl⟩
  have hUl : U.length ≤ 1048576 := by rw [hU]; decide
  have HI : Hid (∀ v W, DevRd W v ss us → Calls Try.prog 29 #[v, .int .i64 mask] W (DevPost R U W)) := Lib.hid (fun v W h => by rw [hR, hU]; exact implCrash_any v mask hmr ss us W h)
  have HS : Hid (∀ v W, DevRd W v ss us → Calls Try.prog 28 #[v, .int .i64 mask] W (DevPost R U W)) := Lib.hid (fun v W h => by rw [hR, hU]; exact specCrash_any v mask hmr ss us W h)
  clear hR hU
  have HC := Lib.hid (box_alloc w (.cells #[.slice a ss.length c, .slice b us.length d] 39))
  have H1 := Lib.hid (h1.below HC.out (Nat.le_refl _))
  have H2 := Lib.hid (h2.below HC.out (Nat.le_refl _))
  have HS1 := Lib.hid hs1
  have HS2 := Lib.hid (fun s hs => (hs2 s hs).2)
  have H1o := Lib.hid h1
  have H2o := Lib.hid h2
  clear h1 h2 hs1 hs2
  go_enter Try.func6, Try.ntmps6
  go_wp2_with fail
  have c0 := box0 w 39 (.slice a ss.length c) (.slice b us.length d)
  have c1 := box1 w 39 (.slice a ss.length c) (.slice b us.length d)
  refine (szDev_any _ _ _ _ _ _ ss us 1048576 _ H1.out H2.out HS1.out HS2.out (by omega) (by omega)).mono ?_
  rintro e w1 ⟨x, rfl, hx, hxl, hok, hb⟩
  replace c0 := box_below c0 hb
  replace c1 := box_below c1 hb
  replace H1 := Lib.hid (H1.out.below hb (Nat.le_refl _))
  replace H2 := Lib.hid (H2.out.below hb (Nat.le_refl _))
  replace HC := Lib.hid (below_step1 HC.out hb)
  clear hb
  by_cases hx0 : x < 0
  · clear hok
    go_wp2
    go_ret
    exact ⟨rfl, HC.out⟩
  · obtain ⟨hn, hm⟩ := hok (by omega)
    have hn : ss.length ≤ 1048576 := by omega
    have hm : us.length ≤ 1048576 := by omega
    clear hok
    go_wp2_with fail
    refine (toDev_any _ _ _ _ _ _ ss us _ H1.out H2.out hn hm).mono ?_
    rintro e w2 ⟨v1, rfl, hO, hb⟩
    have HV := Lib.hid hO.rd
    clear hO
    replace c0 := box_below c0 hb
    replace c1 := box_below c1 hb
    replace H1 := Lib.hid (H1.out.below hb (Nat.le_refl _))
    replace H2 := Lib.hid (H2.out.below hb (Nat.le_refl _))
    replace HC := Lib.hid (below_step1 HC.out hb)
    clear hb
    go_wp2_with fail
    refine (HS.out _ _ HV.out).mono ?_
    rintro e w3 ⟨v0, rfl, hO, hb⟩
    obtain ⟨p1, q1, r1, s1, rfl, -⟩ := hO.ex
    have HW := Lib.hid hO.rd
    clear HV hO
    replace c0 := box_below c0 hb
    replace c1 := box_below c1 hb
    replace H1 := Lib.hid (H1.out.below hb (Nat.le_refl _))
    replace H2 := Lib.hid (H2.out.below hb (Nat.le_refl _))
    replace HC := Lib.hid (below_step1 HC.out hb)
    clear hb
    have t3 : w.heap.size < w3.heap.size := World.block_lt_of_cell? w3 _ c0
    unfold dvV at HW ⊢
    go_wp2_with fail
    have hz3 := Below.refl w3.heap.size w3
    have HC3 := Lib.hid hz3
    have HWo := HW
    clear hz3
    have HBX := Lib.hid (box_alloc w3 (.cells #[.slice p1 R.length q1, .slice r1 U.length s1] 32))
    replace c0 := box_below c0 HBX.out
    replace c1 := box_below c1 HBX.out
    replace H1 := Lib.hid (H1.out.below HBX.out (Nat.le_refl _))
    replace H2 := Lib.hid (H2.out.below HBX.out (Nat.le_refl _))
    replace HW := Lib.hid (HW.out.below HBX.out (Nat.le_refl _))
    replace HC := Lib.hid (below_step1 HC.out HBX.out)
    have d0 := box0 w3 32 (.slice p1 R.length q1) (.slice r1 U.length s1)
    have d1 := box1 w3 32 (.slice p1 R.length q1) (.slice r1 U.length s1)
    clear HBX
    replace HC3 := Lib.hid (box_alloc w3 (.cells #[.slice p1 R.length q1, .slice r1 U.length s1] 32))
    refine (toDev_any _ _ _ _ _ _ ss us _ H1.out H2.out hn hm).mono ?_
    rintro e w4 ⟨v2, rfl, hX, hb⟩
    replace c0 := box_below c0 hb
    replace c1 := box_below c1 hb
    replace d0 := box_below d0 hb
    replace d1 := box_below d1 hb
    replace H1 := Lib.hid (H1.out.below hb (Nat.le_refl _))
    replace H2 := Lib.hid (H2.out.below hb (Nat.le_refl _))
    replace HW := Lib.hid (HW.out.below hb (Nat.le_refl _))
    replace HC := Lib.hid (below_step1 HC.out hb)
    have t4 : w3.heap.size < w4.heap.size := World.block_lt_of_cell? w4 _ d0
    replace HC3 := Lib.hid (below_step1 HC3.out hb)
    clear hb
    obtain ⟨p2, q2, r2, s2, rfl, -⟩ := hX.ex
    have HX := Lib.hid hX
    clear hX
    unfold dvV at HX ⊢
    have HBK : Hid (∀ k, ((Value.slice p2 ss.length q2).ownBlock = some k ∨ (Value.slice r2 us.length s2).ownBlock = some k) → w3.heap.size + 1 ≤ k ∧ k < w4.heap.size) := Lib.hid (fun k hk => by have := HX.out.blk2 k hk; simpa using this)
    go_wp2_with fail
    replace HC3 := Lib.hid (below_step1 HC3.out (box_alloc w4 (.cells #[.slice p2 ss.length q2, .slice r2 us.length s2] 32)))
    have HBX := Lib.hid (box_alloc w4 (.cells #[.slice p2 ss.length q2, .slice r2 us.length s2] 32))
    replace c0 := box_below c0 HBX.out
    replace c1 := box_below c1 HBX.out
    replace d0 := box_below d0 HBX.out
    replace d1 := box_below d1 HBX.out
    replace H1 := Lib.hid (H1.out.below HBX.out (Nat.le_refl _))
    replace H2 := Lib.hid (H2.out.below HBX.out (Nat.le_refl _))
    replace HW := Lib.hid (HW.out.below HBX.out (Nat.le_refl _))
    replace HX := Lib.hid (HX.out.stay HBX.out)
    replace HC := Lib.hid (below_step1 HC.out HBX.out)
    have x0 := box0 w4 32 (.slice p2 ss.length q2) (.slice r2 us.length s2)
    have x1 := box1 w4 32 (.slice p2 ss.length q2) (.slice r2 us.length s2)
    clear HBX
    refine (HI.out _ _ HX.out.rd).mono ?_
    rintro e w5 ⟨v3, rfl, hG, hb⟩
    replace c0 := box_below c0 hb
    replace c1 := box_below c1 hb
    replace d0 := box_below d0 hb
    replace d1 := box_below d1 hb
    replace x0 := box_below x0 hb
    replace x1 := box_below x1 hb
    replace H1 := Lib.hid (H1.out.below hb (Nat.le_refl _))
    replace H2 := Lib.hid (H2.out.below hb (Nat.le_refl _))
    replace HW := Lib.hid (HW.out.below hb (Nat.le_refl _))
    replace HX := Lib.hid (HX.out.stay hb)
    replace HC := Lib.hid (below_step1 HC.out hb)
    have t5 : w4.heap.size < w5.heap.size := World.block_lt_of_cell? w5 _ x0
    replace HC3 := Lib.hid (below_step1 HC3.out hb)
    have zcw5 : w.heap.size < w5.heap.size := World.block_lt_of_cell? w5 _ c0
    have zdw5 : w3.heap.size < w5.heap.size := World.block_lt_of_cell? w5 _ d0
    have zxw5 : w4.heap.size < w5.heap.size := World.block_lt_of_cell? w5 _ x0
    clear hb
    obtain ⟨p3, q3, r3, s3, rfl, -⟩ := hG.ex
    have HG := Lib.hid hG
    clear hG
    unfold dvV at HG ⊢
    have HGK : Hid (∀ k, ((Value.slice p3 R.length q3).ownBlock = some k ∨ (Value.slice r3 U.length s3).ownBlock = some k) → w4.heap.size + 1 ≤ k ∧ k < w5.heap.size) := Lib.hid (fun k hk => by have := HG.out.blk2 k hk; simpa using this)
    go_wp2_with fail
    replace HC3 := Lib.hid (below_step1 HC3.out (box_alloc w5 (.cells #[.slice p3 R.length q3, .slice r3 U.length s3] 32)))
    have HBX := Lib.hid (box_alloc w5 (.cells #[.slice p3 R.length q3, .slice r3 U.length s3] 32))
    replace c0 := box_below c0 HBX.out
    replace c1 := box_below c1 HBX.out
    replace d0 := box_below d0 HBX.out
    replace d1 := box_below d1 HBX.out
    replace x0 := box_below x0 HBX.out
    replace x1 := box_below x1 HBX.out
    replace H1 := Lib.hid (H1.out.below HBX.out (Nat.le_refl _))
    replace H2 := Lib.hid (H2.out.below HBX.out (Nat.le_refl _))
    replace HW := Lib.hid (HW.out.below HBX.out (Nat.le_refl _))
    replace HX := Lib.hid (HX.out.stay HBX.out)
    replace HG := Lib.hid (HG.out.stay HBX.out)
    replace HC := Lib.hid (below_step1 HC.out HBX.out)
    have g0 := box0 w5 32 (.slice p3 R.length q3) (.slice r3 U.length s3)
    have g1 := box1 w5 32 (.slice p3 R.length q3) (.slice r3 U.length s3)
    clear HBX
    refine (eqDev_yes _ _ R U _ HG.out.rd HW.out (by omega) (by omega)).mono ?_
    rintro e w6 ⟨rfl, hb⟩
    replace c0 := box_below c0 hb
    replace c1 := box_below c1 hb
    replace d0 := box_below d0 hb
    replace d1 := box_below d1 hb
    replace x0 := box_below x0 hb
    replace x1 := box_below x1 hb
    replace g0 := box_below g0 hb
    replace g1 := box_below g1 hb
    replace H1 := Lib.hid (H1.out.below hb (Nat.le_refl _))
    replace H2 := Lib.hid (H2.out.below hb (Nat.le_refl _))
    replace HW := Lib.hid (HW.out.below hb (Nat.le_refl _))
    replace HX := Lib.hid (HX.out.stay hb)
    replace HG := Lib.hid (HG.out.stay hb)
    replace HC := Lib.hid (below_step1 HC.out hb)
    replace HC3 := Lib.hid (below_step1 HC3.out hb)
    clear hb
    have zcw6 : w.heap.size < w6.heap.size := World.block_lt_of_cell? w6 _ c0
    have zdw6 : w3.heap.size < w6.heap.size := World.block_lt_of_cell? w6 _ d0
    have zxw6 : w4.heap.size < w6.heap.size := World.block_lt_of_cell? w6 _ x0
    have zgw6 : w5.heap.size < w6.heap.size := World.block_lt_of_cell? w6 _ g0
    have HALL : Hid (∀ W, Below w6.heap.size w6 W → (W.cell? ⟨w.heap.size, 0, none⟩ = some (.slice a ss.length c) ∧ W.cell? ⟨w.heap.size, 1, none⟩ = some (.slice b us.length d) ∧ W.cell? ⟨w4.heap.size, 0, none⟩ = some (.slice p2 ss.length q2) ∧ W.cell? ⟨w4.heap.size, 1, none⟩ = some (.slice r2 us.length s2) ∧ Below w6.heap.size w6 W)) := Lib.hid (fun W hW => ⟨box_below c0 hW, box_below c1 hW, box_below x0 hW, box_below x1 hW, hW⟩)
    have hB0 := Below.refl w6.heap.size w6
    have HCELLS : Hid ((w6.cell? ⟨w.heap.size, 0, none⟩ = some (.slice a ss.length c) ∧ w6.cell? ⟨w.heap.size, 1, none⟩ = some (.slice b us.length d)) ∧ (w6.cell? ⟨w3.heap.size, 0, none⟩ = some (.slice p1 R.length q1) ∧ w6.cell? ⟨w3.heap.size, 1, none⟩ = some (.slice r1 U.length s1)) ∧ (w6.cell? ⟨w4.heap.size, 0, none⟩ = some (.slice p2 ss.length q2) ∧ w6.cell? ⟨w4.heap.size, 1, none⟩ = some (.slice r2 us.length s2)) ∧ (w6.cell? ⟨w5.heap.size, 0, none⟩ = some (.slice p3 R.length q3) ∧ w6.cell? ⟨w5.heap.size, 1, none⟩ = some (.slice r3 U.length s3))) := Lib.hid ⟨⟨c0, c1⟩, ⟨d0, d1⟩, ⟨x0, x1⟩, ⟨g0, g1⟩⟩
    clear c0 c1 d0 d1 x0 x1 g0 g1
    go_wp2
    refine wp_region_held_drew (S := (fun W => W.cell? ⟨w.heap.size, 0, none⟩ = some (.slice a ss.length c) ∧ W.cell? ⟨w.heap.size, 1, none⟩ = some (.slice b us.length d) ∧ W.cell? ⟨w4.heap.size, 0, none⟩ = some (.slice p2 ss.length q2) ∧ W.cell? ⟨w4.heap.size, 1, none⟩ = some (.slice r2 us.length s2) ∧ Below w6.heap.size w6 W)) (by kernel_rfl) ?_ (fun hHeld => ?_)
    · try dsimp only
      (go_split_ands; first | exact HALL.out _ (by assumption) | exact HALL.out _ (Below.drew (by assumption)) | exact HALL.out _ (below_step1 (by assumption) (by assumption)))
    change wpAnyH _ _ _ _ _ 5 #[false, false, false, false, false] _ _
    clear hB0
    refine wpH_take (i := 0) (v := ?_) rfl (by kernel_rfl) (by kernel_rfl) (by kernel_rfl) (fun _ _ _ h => h) (by rfl) ?_ (by assumption) ?_; rotate_left; (focus (intro w hSw; (try dsimp only at hSw); go_simp; try with_reducible rfl)); try simp only [Act.put, List.setIfInBounds_toArray, List.set_cons_zero, List.set_cons_succ]
    refine wpH_take (i := 1) (v := ?_) rfl (by kernel_rfl) (by kernel_rfl) (by kernel_rfl) (fun _ _ _ h => h) (by rfl) ?_ (by assumption) ?_; rotate_left; (focus (intro w hSw; (try dsimp only at hSw); go_simp; try with_reducible rfl)); try simp only [Act.put, List.setIfInBounds_toArray, List.set_cons_zero, List.set_cons_succ]
    refine wpAnyH_ready (rs := [2]) (by kernel_rfl) (by simp) ?_
    refine AllReadyH.cons rfl (fun K hK => ?_) AllReadyH.nil
    try dsimp only at hHeld
    go_simp
    (go_at_call 26; refine (toDev_any _ _ _ _ _ _ ss us _ (H1.out.below hHeld.2.2.2.2 (Nat.le_refl _)) (H2.out.below hHeld.2.2.2.2 (Nat.le_refl _)) hn hm).mono ?_; rintro e w7 ⟨v4, rfl, hO4, hbk⟩)
    refine hK.out _ _ ?_ (fun hHeld2 => ?_)
    · try dsimp only
      (go_split_ands; first | exact HALL.out _ (by assumption) | exact HALL.out _ (Below.drew (by assumption)) | exact HALL.out _ (below_step1 (by assumption) (by assumption)))
    clear hK K hHeld
    have hHeld := hHeld2
    clear hHeld2
    have HO4 := Lib.hid hO4.rd
    clear hO4 hbk
    refine wpAnyH_ready (rs := [3]) (by kernel_rfl) (by simp) ?_
    refine AllReadyH.cons rfl (fun K hK => ?_) AllReadyH.nil
    try dsimp only at hHeld
    go_simp
    (go_at_call 21; refine (eqDev_yes _ _ ss us _ (HX.out.rd.below hHeld.2.2.2.2 (Nat.le_refl _)) HO4.out (by omega) (by omega)).mono ?_; rintro e w8 ⟨rfl, hbk⟩)
    refine hK.out _ _ ?_ (fun hHeld2 => ?_)
    · try dsimp only
      (go_split_ands; first | exact HALL.out _ (by assumption) | exact HALL.out _ (Below.drew (by assumption)) | exact HALL.out _ (below_step1 (by assumption) (by assumption)))
    clear hK K hHeld
    have hHeld := hHeld2
    clear hHeld2
    clear hbk HO4
    refine wpH_take (i := 4) (v := ?_) rfl (by kernel_rfl) (by kernel_rfl) (by kernel_rfl) (fun _ _ _ h => h) (by rfl) ?_ (by assumption) ?_; rotate_left; (focus (intro w hSw; (try dsimp only at hSw); go_simp; try with_reducible rfl)); try simp only [Act.put, List.setIfInBounds_toArray, List.set_cons_zero, List.set_cons_succ]
    refine wpAnyH_done (by kernel_rfl) ?_ _
    try dsimp only at hHeld
    obtain ⟨⟨c0, c1⟩, ⟨d0, d1⟩, ⟨x0, x1⟩, ⟨g0, g1⟩⟩ := HCELLS.out
    have hb := hHeld.2.2.2.2
    clear hHeld HALL HCELLS
    replace c0 := box_below c0 hb
    replace c1 := box_below c1 hb
    replace d0 := box_below d0 hb
    replace d1 := box_below d1 hb
    replace x0 := box_below x0 hb
    replace x1 := box_below x1 hb
    replace g0 := box_below g0 hb
    replace g1 := box_below g1 hb
    replace H1 := Lib.hid (H1.out.below hb (Nat.le_refl _))
    replace H2 := Lib.hid (H2.out.below hb (Nat.le_refl _))
    replace HW := Lib.hid (HW.out.below hb (Nat.le_refl _))
    replace HX := Lib.hid (HX.out.stay hb)
    replace HG := Lib.hid (HG.out.stay hb)
    replace HC := Lib.hid (below_step1 HC.out hb)
    replace HC3 := Lib.hid (below_step1 HC3.out hb)
    have hsz6 := hb.size
    have hb8 := hb
    clear hb
    replace zcw6 := Nat.lt_of_lt_of_le zcw6 hsz6
    replace zdw6 := Nat.lt_of_lt_of_le zdw6 hsz6
    replace zxw6 := Nat.lt_of_lt_of_le zxw6 hsz6
    replace zgw6 := Nat.lt_of_lt_of_le zgw6 hsz6
    clear hsz6 hb8
    go_wp2_with fail
    refine (markDev_any _ _ ss us 1 _ HX.out hn hm (by omega) (by omega)).mono ?_
    rintro e w9 ⟨rfl, -, hbm, hfar⟩
    have hf2 := far_of hfar HBK.out
    clear hfar
    replace c0 := cell_block c0 (hf2 _ zcw6 (by omega))
    replace c1 := cell_block c1 (hf2 _ zcw6 (by omega))
    replace d0 := cell_block d0 (hf2 _ zdw6 (by omega))
    replace d1 := cell_block d1 (hf2 _ zdw6 (by omega))
    replace x0 := cell_block x0 (hf2 _ zxw6 (by omega))
    replace x1 := cell_block x1 (hf2 _ zxw6 (by omega))
    replace g0 := cell_block g0 (hf2 _ zgw6 (by omega))
    replace g1 := cell_block g1 (hf2 _ zgw6 (by omega))
    have hz9 := hbm.size
    replace HG := Lib.hid (HG.out.far hz9 (fun k hk1 hk2 => hf2 k hk2 (by simp at hk1; omega)))
    replace HC := Lib.hid (HC.out.trans (hbm.mono (by simp; omega)))
    replace HC3 := Lib.hid (HC3.out.trans (hbm.mono (by simp)))
    replace HW := Lib.hid (HWo.out.below HC3.out (Nat.le_refl _))
    replace H1 := Lib.hid (H1o.out.below HC.out (Nat.le_refl _))
    replace H2 := Lib.hid (H2o.out.below HC.out (Nat.le_refl _))
    replace zcw6 := Nat.lt_of_lt_of_le zcw6 hz9
    replace zdw6 := Nat.lt_of_lt_of_le zdw6 hz9
    replace zxw6 := Nat.lt_of_lt_of_le zxw6 hz9
    replace zgw6 := Nat.lt_of_lt_of_le zgw6 hz9
    clear hbm hf2 hz9 HX x0 x1 zxw6
    have hneg : ¬ ((1 + ss.length + 2 * us.length : Nat) : Int) < 0 := by omega
    go_wp2_with fail
    refine (eqDev_yes _ _ R U _ HG.out.rd HW.out (by omega) (by omega)).mono ?_
    rintro e w10 ⟨rfl, hb⟩
    replace c0 := box_below c0 hb
    replace c1 := box_below c1 hb
    replace d0 := box_below d0 hb
    replace d1 := box_below d1 hb
    replace g0 := box_below g0 hb
    replace g1 := box_below g1 hb
    replace H1 := Lib.hid (H1.out.below hb (Nat.le_refl _))
    replace H2 := Lib.hid (H2.out.below hb (Nat.le_refl _))
    replace HW := Lib.hid (HW.out.below hb (Nat.le_refl _))
    replace HG := Lib.hid (HG.out.stay hb)
    replace HC := Lib.hid (below_step1 HC.out hb)
    replace HC3 := Lib.hid (below_step1 HC3.out hb)
    replace zcw6 := Nat.lt_of_lt_of_le zcw6 hb.size
    replace zdw6 := Nat.lt_of_lt_of_le zdw6 hb.size
    replace zgw6 := Nat.lt_of_lt_of_le zgw6 hb.size
    clear hb
    go_wp2_with fail
    refine (markDev_any _ _ R U 1 _ HG.out hRl hUl (by omega) (by omega)).mono ?_
    rintro e w11 ⟨rfl, hO, hbm, hfar⟩
    have hf2 := far_of hfar HGK.out
    clear hfar
    replace c0 := cell_block c0 (hf2 _ zcw6 (by omega))
    replace c1 := cell_block c1 (hf2 _ zcw6 (by omega))
    replace d0 := cell_block d0 (hf2 _ zdw6 (by omega))
    replace d1 := cell_block d1 (hf2 _ zdw6 (by omega))
    replace g0 := cell_block g0 (hf2 _ zgw6 (by omega))
    replace g1 := cell_block g1 (hf2 _ zgw6 (by omega))
    replace HG := Lib.hid hO
    have hz11 := hbm.size
    replace HC := Lib.hid (HC.out.trans (hbm.mono (by simp; omega)))
    replace HC3 := Lib.hid (HC3.out.trans (hbm.mono (by simp; omega)))
    replace HW := Lib.hid (HWo.out.below HC3.out (Nat.le_refl _))
    replace H1 := Lib.hid (H1o.out.below HC.out (Nat.le_refl _))
    replace H2 := Lib.hid (H2o.out.below HC.out (Nat.le_refl _))
    replace zcw6 := Nat.lt_of_lt_of_le zcw6 hz11
    replace zdw6 := Nat.lt_of_lt_of_le zdw6 hz11
    replace zgw6 := Nat.lt_of_lt_of_le zgw6 hz11
    clear hO hbm hf2 hz11
    go_wp2_with fail
    have hRdH : DevRd _ (.agg #[.slice p3 R.length q3, .slice r3 U.length s3]) (mks 1 R.length) (mkw (1 + R.length) U.length) := HG.out.rd
    refine (heldDev_yes _ 1 R.length U.length _ hRdH hRl hUl (by omega) (by omega)).mono ?_
    clear hRdH
    rintro e w12 ⟨rfl, hb⟩
    replace c0 := box_below c0 hb
    replace c1 := box_below c1 hb
    replace d0 := box_below d0 hb
    replace d1 := box_below d1 hb
    replace g0 := box_below g0 hb
    replace g1 := box_below g1 hb
    replace H1 := Lib.hid (H1.out.below hb (Nat.le_refl _))
    replace H2 := Lib.hid (H2.out.below hb (Nat.le_refl _))
    replace HW := Lib.hid (HW.out.below hb (Nat.le_refl _))
    replace HG := Lib.hid (HG.out.stay hb)
    replace HC := Lib.hid (below_step1 HC.out hb)
    replace HC3 := Lib.hid (below_step1 HC3.out hb)
    replace zcw6 := Nat.lt_of_lt_of_le zcw6 hb.size
    replace zdw6 := Nat.lt_of_lt_of_le zdw6 hb.size
    replace zgw6 := Nat.lt_of_lt_of_le zgw6 hb.size
    clear hb
    have hneg2 : ¬ ((1 + R.length + 2 * U.length : Nat) : Int) < 0 := by omega
    go_wp2_with fail
    refine (toDev_any _ _ _ _ _ _ ss us _ H1.out H2.out hn hm).mono ?_
    rintro e w13 ⟨v5, rfl, hO, hb⟩
    have HV := Lib.hid hO.rd
    clear hO
    replace c0 := box_below c0 hb
    replace c1 := box_below c1 hb
    replace d0 := box_below d0 hb
    replace d1 := box_below d1 hb
    replace g0 := box_below g0 hb
    replace g1 := box_below g1 hb
    replace H1 := Lib.hid (H1.out.below hb (Nat.le_refl _))
    replace H2 := Lib.hid (H2.out.below hb (Nat.le_refl _))
    replace HW := Lib.hid (HW.out.below hb (Nat.le_refl _))
    replace HG := Lib.hid (HG.out.stay hb)
    replace HC := Lib.hid (below_step1 HC.out hb)
    replace HC3 := Lib.hid (below_step1 HC3.out hb)
    replace zcw6 := Nat.lt_of_lt_of_le zcw6 hb.size
    replace zdw6 := Nat.lt_of_lt_of_le zdw6 hb.size
    replace zgw6 := Nat.lt_of_lt_of_le zgw6 hb.size
    clear hb
    go_wp2_with fail
    refine (HI.out _ _ HV.out).mono ?_
    rintro e w14 ⟨v6, rfl, hO, hb⟩
    replace c0 := box_below c0 hb
    replace c1 := box_below c1 hb
    replace d0 := box_below d0 hb
    replace d1 := box_below d1 hb
    replace g0 := box_below g0 hb
    replace g1 := box_below g1 hb
    replace H1 := Lib.hid (H1.out.below hb (Nat.le_refl _))
    replace H2 := Lib.hid (H2.out.below hb (Nat.le_refl _))
    replace HW := Lib.hid (HW.out.below hb (Nat.le_refl _))
    replace HG := Lib.hid (HG.out.stay hb)
    replace HC := Lib.hid (below_step1 HC.out hb)
    replace HC3 := Lib.hid (below_step1 HC3.out hb)
    replace zcw6 := Nat.lt_of_lt_of_le zcw6 hb.size
    replace zdw6 := Nat.lt_of_lt_of_le zdw6 hb.size
    replace zgw6 := Nat.lt_of_lt_of_le zgw6 hb.size
    clear hb HV
    obtain ⟨p4, q4, r4, s4, rfl, -⟩ := hO.ex
    have HH := Lib.hid hO.rd
    clear hO
    unfold dvV at HH ⊢
    go_wp2_with fail
    replace HC3 := Lib.hid (below_step1 HC3.out (box_alloc w14 (.cells #[.slice p4 R.length q4, .slice r4 U.length s4] 32)))
    have HBX := Lib.hid (box_alloc w14 (.cells #[.slice p4 R.length q4, .slice r4 U.length s4] 32))
    replace c0 := box_below c0 HBX.out
    replace c1 := box_below c1 HBX.out
    replace d0 := box_below d0 HBX.out
    replace d1 := box_below d1 HBX.out
    replace g0 := box_below g0 HBX.out
    replace g1 := box_below g1 HBX.out
    replace H1 := Lib.hid (H1.out.below HBX.out (Nat.le_refl _))
    replace H2 := Lib.hid (H2.out.below HBX.out (Nat.le_refl _))
    replace HW := Lib.hid (HW.out.below HBX.out (Nat.le_refl _))
    replace HH := Lib.hid (HH.out.below HBX.out (Nat.le_refl _))
    replace HG := Lib.hid (HG.out.stay HBX.out)
    replace HC := Lib.hid (below_step1 HC.out HBX.out)
    have y0 := box0 w14 32 (.slice p4 R.length q4) (.slice r4 U.length s4)
    have y1 := box1 w14 32 (.slice p4 R.length q4) (.slice r4 U.length s4)
    clear HBX
    refine (eqDev_yes _ _ R U _ HH.out HW.out (by omega) (by omega)).mono ?_
    rintro e w15 ⟨rfl, hb⟩
    replace c0 := box_below c0 hb
    replace c1 := box_below c1 hb
    replace d0 := box_below d0 hb
    replace d1 := box_below d1 hb
    replace g0 := box_below g0 hb
    replace g1 := box_below g1 hb
    replace y0 := box_below y0 hb
    replace y1 := box_below y1 hb
    replace H1 := Lib.hid (H1.out.below hb (Nat.le_refl _))
    replace H2 := Lib.hid (H2.out.below hb (Nat.le_refl _))
    replace HW := Lib.hid (HW.out.below hb (Nat.le_refl _))
    replace HH := Lib.hid (HH.out.below hb (Nat.le_refl _))
    replace HG := Lib.hid (HG.out.stay hb)
    replace HC := Lib.hid (below_step1 HC.out hb)
    replace HC3 := Lib.hid (below_step1 HC3.out hb)
    have zcw15 : w.heap.size < w15.heap.size := World.block_lt_of_cell? w15 _ c0
    have zdw15 : w3.heap.size < w15.heap.size := World.block_lt_of_cell? w15 _ d0
    have zgw15 : w5.heap.size < w15.heap.size := World.block_lt_of_cell? w15 _ g0
    clear hb HW HH y0 y1
    go_wp2_with fail
    have hRdH : DevRd _ (.agg #[.slice p3 R.length q3, .slice r3 U.length s3]) (mks 1 R.length) (mkw (1 + R.length) U.length) := HG.out.rd
    refine (heldDev_yes _ 1 R.length U.length _ hRdH hRl hUl (by omega) (by omega)).mono ?_
    clear hRdH
    rintro e w16 ⟨rfl, hb⟩
    replace c0 := box_below c0 hb
    replace c1 := box_below c1 hb
    replace d0 := box_below d0 hb
    replace d1 := box_below d1 hb
    replace g0 := box_below g0 hb
    replace g1 := box_below g1 hb
    replace H1 := Lib.hid (H1.out.below hb (Nat.le_refl _))
    replace H2 := Lib.hid (H2.out.below hb (Nat.le_refl _))
    replace HG := Lib.hid (HG.out.stay hb)
    replace HC := Lib.hid (below_step1 HC.out hb)
    replace HC3 := Lib.hid (below_step1 HC3.out hb)
    clear hb
    go_wp2
    go_ret
    exact ⟨rfl, HC.out⟩
end Go.Proofs.Ytbokgbbdjcpgbaa
