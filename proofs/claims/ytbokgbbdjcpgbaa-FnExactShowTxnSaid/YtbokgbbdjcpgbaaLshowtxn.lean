/- The law of ShowTxn, walked. -/
import Derived.Test.YtbokgbbdjcpgbaaTxnL
import Derived.Test.YtbokgbbdjcpgbaaTxnP
namespace Go.Proofs.Ytbokgbbdjcpgbaa
open Go.RowKit

set_option maxRecDepth 1000000 in
set_option maxHeartbeats 6000000 in
theorem lawShowTxn_walk (seq : Int) (_ws : (Lit.int .i64 seq).wf = true) (a : Option Addr) (n c : Nat) (l : OutL) (w : World) (hs : ∀ s ∈ l, OkInt s.1 ∧ s.2.size ≤ maxLen) (h : Rd w a n c 2 (wrs l)) :
    Calls Try.prog 12 #[.agg #[.int .i64 seq, .slice a n c]] w fun e w' => e = .returned (.bool true) ∧ Below w.heap.size w w' := by
  have hl : l.length = n := by have := h.len; simp at this; omega
  subst hl
  obtain ⟨R, hR⟩ : ∃ R, R = showB seq l := ⟨_, rfl⟩
  have HI : Hid (∀ v W, TxnRd W v seq l → l.length ≤ 1048576 → Calls Try.prog 55 #[v] W fun e w' => e = .returned (.string R) ∧ Below W.heap.size W w') := Lib.hid (fun v W h hn => by obtain ⟨a, c, rfl, h1⟩ := h.ex; rw [hR]; exact implShow_any seq a c l W h1 hn)
  have HS : Hid (∀ v W, TxnRd W v seq l → l.length ≤ 1048576 → Calls Try.prog 53 #[v] W fun e w' => e = .returned (.string R) ∧ Below W.heap.size W w') := Lib.hid (fun v W h hn => by obtain ⟨a, c, rfl, h1⟩ := h.ex; rw [hR]; exact specShow_any seq a c l W h1 hn)
  clear hR _ws
  have HC := Lib.hid (box_alloc w (.cells #[.int .i64 seq, .slice a l.length c] 68))
  have H1 := Lib.hid (h.below HC.out (Nat.le_refl _))
  have HSZ := Lib.hid (fun s hh => (hs s hh).2)
  clear h hs
  go_enter Try.func12, Try.ntmps12
  go_wp2_with fail
  have c0 := box0 w 68 (.int .i64 seq) (.slice a l.length c)
  have c1 := box1 w 68 (.int .i64 seq) (.slice a l.length c)
  refine (szTxn_any _ _ _ _ l 1048576 _ H1.out HSZ.out (by omega) (by omega)).mono ?_
  rintro e w1 ⟨x, rfl, hx, hxl, hok, hb⟩
  replace c0 := box_below c0 hb
  replace c1 := box_below c1 hb
  replace H1 := Lib.hid (H1.out.below hb (Nat.le_refl _))
  replace HC := Lib.hid (below_step1 HC.out hb)
  clear hb
  by_cases hx0 : x < 0
  · clear hok
    go_wp2
    go_ret
    exact ⟨rfl, HC.out⟩
  · have hn := hok (by omega)
    have hn : l.length ≤ 1048576 := by omega
    clear hok
    go_wp2_with fail
    refine (toTxn_any _ _ _ _ l _ H1.out hn).mono ?_
    rintro e w2 ⟨v1, rfl, hO, hb⟩
    have HV := Lib.hid hO.rd
    replace c0 := box_below c0 hb
    replace c1 := box_below c1 hb
    replace H1 := Lib.hid (H1.out.below hb (Nat.le_refl _))
    replace HC := Lib.hid (below_step1 HC.out hb)
    clear hb hO
    go_wp2_with fail
    refine (HS.out _ _ HV.out hn).mono ?_
    rintro e w3 ⟨rfl, hb⟩
    replace c0 := box_below c0 hb
    replace c1 := box_below c1 hb
    replace H1 := Lib.hid (H1.out.below hb (Nat.le_refl _))
    replace HC := Lib.hid (below_step1 HC.out hb)
    clear hb HV
    go_wp2_with fail
    refine (toTxn_any _ _ _ _ l _ H1.out hn).mono ?_
    rintro e w4 ⟨v2, rfl, hO, hb⟩
    obtain ⟨p2, q2, rfl, -⟩ := hO.ex
    have HX := Lib.hid hO.rd
    replace c0 := box_below c0 hb
    replace c1 := box_below c1 hb
    replace H1 := Lib.hid (H1.out.below hb (Nat.le_refl _))
    replace HC := Lib.hid (below_step1 HC.out hb)
    clear hb hO
    have zc : w.heap.size < w4.heap.size := World.block_lt_of_cell? w4 _ c0
    unfold txV at HX ⊢
    go_wp2_with fail
    have HBX := Lib.hid (box_alloc w4 (.cells #[.int .i64 seq, .slice p2 l.length q2] 72))
    have x0 := box0 w4 72 (.int .i64 seq) (.slice p2 l.length q2)
    have x1 := box1 w4 72 (.int .i64 seq) (.slice p2 l.length q2)
    replace c0 := box_below c0 HBX.out
    replace c1 := box_below c1 HBX.out
    replace H1 := Lib.hid (H1.out.below HBX.out (Nat.le_refl _))
    replace HC := Lib.hid (below_step1 HC.out HBX.out)
    replace HX := Lib.hid (HX.out.below HBX.out (Nat.le_refl _))
    clear HBX
    refine (HI.out _ _ HX.out hn).mono ?_
    rintro e w5 ⟨rfl, hb⟩
    replace c0 := box_below c0 hb
    replace c1 := box_below c1 hb
    replace x0 := box_below x0 hb
    replace x1 := box_below x1 hb
    replace H1 := Lib.hid (H1.out.below hb (Nat.le_refl _))
    replace HC := Lib.hid (below_step1 HC.out hb)
    replace HX := Lib.hid (HX.out.below hb (Nat.le_refl _))
    have zc5 : w.heap.size < w5.heap.size := World.block_lt_of_cell? w5 _ c0
    have zx5 : w4.heap.size < w5.heap.size := World.block_lt_of_cell? w5 _ x0
    clear hb
    have HALL : Hid (∀ W, Below w5.heap.size w5 W → (W.cell? ⟨w.heap.size, 0, none⟩ = some (.int .i64 seq) ∧ W.cell? ⟨w.heap.size, 1, none⟩ = some (.slice a l.length c) ∧ W.cell? ⟨w4.heap.size, 0, none⟩ = some (.int .i64 seq) ∧ W.cell? ⟨w4.heap.size, 1, none⟩ = some (.slice p2 l.length q2) ∧ Below w5.heap.size w5 W)) := Lib.hid (fun W hW => ⟨box_below c0 hW, box_below c1 hW, box_below x0 hW, box_below x1 hW, hW⟩)
    have hB0 := Below.refl w5.heap.size w5
    clear c0 c1 x0 x1
    have hne : (R.toList == R.toList) = true := by simp
    go_wp2
    refine wp_region_held_drew (S := (fun W => W.cell? ⟨w.heap.size, 0, none⟩ = some (.int .i64 seq) ∧ W.cell? ⟨w.heap.size, 1, none⟩ = some (.slice a l.length c) ∧ W.cell? ⟨w4.heap.size, 0, none⟩ = some (.int .i64 seq) ∧ W.cell? ⟨w4.heap.size, 1, none⟩ = some (.slice p2 l.length q2) ∧ Below w5.heap.size w5 W)) (by kernel_rfl) ?_ (fun hHeld => ?_)
    · try dsimp only
      (go_split_ands; first | exact HALL.out _ (by assumption) | exact HALL.out _ (Below.drew (by assumption)) | exact HALL.out _ (below_step1 (by assumption) (by assumption)))
    change wpAnyH _ _ _ _ _ 5 #[false, false, false, false, false] _ _
    clear hB0
    refine wpH_take (i := 0) (v := ?_) rfl (by kernel_rfl) (by kernel_rfl) (by kernel_rfl) (fun _ _ _ h => h) (by rfl) ?_ (by assumption) ?_; rotate_left; (focus (intro w hSw; (try dsimp only at hSw); go_simp; try with_reducible rfl)); try simp only [Act.put, List.setIfInBounds_toArray, List.set_cons_zero, List.set_cons_succ]
    refine wpH_take (i := 1) (v := ?_) rfl (by kernel_rfl) (by kernel_rfl) (by kernel_rfl) (fun _ _ _ h => h) (by rfl) ?_ (by assumption) ?_; rotate_left; (focus (intro w hSw; (try dsimp only at hSw); go_simp; try with_reducible rfl)); try simp only [Act.put, List.setIfInBounds_toArray, List.set_cons_zero, List.set_cons_succ]
    refine wpAnyH_ready (rs := [2]) (by kernel_rfl) (by simp) ?_
    refine AllReadyH.cons rfl (fun K hK => ?_) AllReadyH.nil
    try dsimp only at hHeld
    go_simp
    (go_at_call 54; refine (toTxn_any _ _ _ _ l _ (H1.out.below hHeld.2.2.2.2 (Nat.le_refl _)) hn).mono ?_; rintro e w6 ⟨v3, rfl, hO3, hbk⟩)
    refine hK.out _ _ ?_ (fun hHeld2 => ?_)
    · try dsimp only
      (go_split_ands; first | exact HALL.out _ (by assumption) | exact HALL.out _ (Below.drew (by assumption)) | exact HALL.out _ (below_step1 (by assumption) (by assumption)))
    clear hK K hHeld
    have hHeld := hHeld2
    clear hHeld2
    have HO3 := Lib.hid hO3.rd
    clear hO3 hbk
    refine wpAnyH_ready (rs := [3]) (by kernel_rfl) (by simp) ?_
    refine AllReadyH.cons rfl (fun K hK => ?_) AllReadyH.nil
    try dsimp only at hHeld
    go_simp
    (go_at_call 56; refine (eqTxn_yes _ _ seq l _ (HX.out.below hHeld.2.2.2.2 (Nat.le_refl _)) HO3.out (by omega)).mono ?_; rintro e w7 ⟨rfl, hbk⟩)
    refine hK.out _ _ ?_ (fun hHeld2 => ?_)
    · try dsimp only
      (go_split_ands; first | exact HALL.out _ (by assumption) | exact HALL.out _ (Below.drew (by assumption)) | exact HALL.out _ (below_step1 (by assumption) (by assumption)))
    clear hK K hHeld
    have hHeld := hHeld2
    clear hHeld2
    clear hbk
    refine wpH_take (i := 4) (v := ?_) rfl (by kernel_rfl) (by kernel_rfl) (by kernel_rfl) (fun _ _ _ h => h) (by rfl) ?_ (by assumption) ?_; rotate_left; (focus (intro w hSw; (try dsimp only at hSw); go_simp; try with_reducible rfl)); try simp only [Act.put, List.setIfInBounds_toArray, List.set_cons_zero, List.set_cons_succ]
    refine wpAnyH_done (by kernel_rfl) ?_ _
    try dsimp only at hHeld
    have HB7 := Lib.hid (below_step1 HC.out hHeld.2.2.2.2)
    clear hHeld
    go_wp2
    go_ret
    exact ⟨rfl, HB7.out⟩
end Go.Proofs.Ytbokgbbdjcpgbaa
