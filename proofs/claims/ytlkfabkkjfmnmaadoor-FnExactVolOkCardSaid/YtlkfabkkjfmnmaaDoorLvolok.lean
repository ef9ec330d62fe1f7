/- The law of VolOk, walked. -/
import Derived.Test.YtlkfabkkjfmnmaaDoorVolW
import Derived.Test.YtlkfabkkjfmnmaaDoorVolT
namespace Go.Proofs.YtlkfabkkjfmnmaaDoor
open Go.RowKit

theorem totE_mem {l : List InoL} {x : InoL} (h : x ∈ l) : x.ents.length ≤ totE l := by
  induction l with
  | nil => cases h
  | cons y l ih =>
    unfold totE at *
    rw [List.map_cons, List.sum_cons]
    rcases List.mem_cons.1 h with rfl | h
    · omega
    · have := ih h; omega
/-- What the laws' size check gives. -/
theorem sm_of {l : List InoL} {y : Int} {n : Nat} (hl : l.length = n) (h0 : 0 ≤ y) (h : 0 ≤ y → (l.length : Int) + (totE l : Int) ≤ 1048576 ∧ ∀ x ∈ l, SmI 1048576 x) :
    n ≤ 1048576 ∧ totE l ≤ 1048576 ∧ n + totE l ≤ 1048576 ∧ (∀ x ∈ l, x.ents.length ≤ 1048576) ∧ (∀ x ∈ l, x.data.size ≤ 1073741824) ∧ (∀ x ∈ l, ∀ s ∈ x.ents, s.name.size ≤ 1073741824) := by
  obtain ⟨h1, h2⟩ := h h0
  refine ⟨by omega, by omega, by omega, fun x hx => ?_, fun x hx => ?_, fun x hx s hs => ?_⟩
  · have := totE_mem hx; omega
  · have := (h2 x hx).1; omega
  · have := (h2 x hx).2 s hs; omega
set_option maxRecDepth 1000000 in
set_option maxHeartbeats 6000000 in
theorem lawVolOk_walk (next : Int) (hz : (Lit.int .i64 next).wf = true) (a : Option Addr) (n c : Nat) (l : List InoL) (w : World) (hs : ∀ x ∈ l, OkIno x) (h : VolRd w a n c l) (hT : KTab w) :
    Calls Tryd.prog 3 #[.agg #[.int .i64 next, .slice a n c]] w fun e w' => e = .returned (.bool true) ∧ Below w.heap.size w w' := by
  have hl : l.length = n := h.len
  subst hl
  obtain ⟨R, hR⟩ : ∃ R, R = volB next l := ⟨_, rfl⟩
  have HI : Hid (∀ p q W, VolRd W p l.length q l → (∀ x ∈ l, ∀ s ∈ x.ents, s.name.size ≤ 1073741824) → (totE l : Int) ≤ 4611686018427387904 → KTab W → Calls Tryd.prog 8 #[.agg #[.int .i64 next, .slice p l.length q]] W fun e w' => e = .returned (.bool R) ∧ Below W.heap.size W w') := Lib.hid (fun p q W h hn ht hk => by rw [hR]; exact implVolOk_any next p l.length q l W h hn ht hk)
  have HS : Hid (∀ p q W, VolRd W p l.length q l → (∀ x ∈ l, ∀ s ∈ x.ents, s.name.size ≤ 1073741824) → (totE l : Int) ≤ 4611686018427387904 → Calls Tryd.prog 6 #[.agg #[.int .i64 next, .slice p l.length q]] W fun e w' => e = .returned (.bool R) ∧ Below W.heap.size W w') := Lib.hid (fun p q W h hn ht => by rw [hR]; exact specVolOk_any next p l.length q l W h hn ht)
  clear hR
  have HT := Lib.hid hT
  have HSZ : Hid (∀ x ∈ l, x.data.size ≤ maxLen ∧ ∀ s ∈ x.ents, s.name.size ≤ maxLen) := Lib.hid (fun x hx => ⟨(hs x hx).2.2.2.1, fun s hh => ((hs x hx).2.2.2.2 s hh).2.2.1⟩)
  have HC := Lib.hid (boxA w (.cells #[.int .i64 next, .slice a l.length c] 24))
  have H1 := Lib.hid (h.step HC.out)
  obtain ⟨c0, c1⟩ := box2 w 24 (.int .i64 next) (.slice a l.length c)
  clear h hs hT hz
  go_enter Tryd.func3, Tryd.ntmps3
  go_wp2_with fail
  have zc : w.heap.size < (w.alloc (.cells #[.int .i64 next, .slice a l.length c] 24)).heap.size := by simp
  generalize w.alloc (.cells #[.int .i64 next, .slice a l.length c] 24) = w0 at *
  refine (szVol_any next _ _ _ l 1048576 _ H1.out HSZ.out (by omega) (by omega)).mono ?_
  rintro e w1 ⟨x, rfl, hx, hxl, hok, hb⟩
  replace c0 := cellK c0 hb
  replace c1 := cellK c1 hb
  replace H1 := Lib.hid (H1.out.step hb)
  replace HC := Lib.hid (below_step1 HC.out hb)
  have zc1 : w.heap.size < w1.heap.size := World.block_lt_of_cell? w1 _ c0
  clear hb
  by_cases hx0 : x < 0
  · clear hok
    go_wp2
    go_ret
    exact ⟨rfl, HC.out⟩
  · obtain ⟨hn, ht1, -, hne, -, hnm⟩ := sm_of rfl (by omega) hok
    have HNE := Lib.hid hne
    have HNM := Lib.hid hnm
    have ht2 : (totE l : Int) ≤ 4611686018427387904 := by omega
    clear hok hne hnm
    go_wp2_with fail
    refine (toVol_any next _ _ _ l _ H1.out hn HNE.out).mono ?_
    rintro e w2 ⟨g1, q1, m1, rfl, hm, hO⟩
    have HV : Hid (VolRd w2 (some ⟨g1, 0, none⟩) l.length q1 l) := Lib.hid (by have := hO.rd; rw [hm, show m1.length = l.length from by rw [← hm]; simp] at this; exact this)
    replace c0 := cellK c0 hO.below
    replace c1 := cellK c1 hO.below
    replace H1 := Lib.hid (H1.out.step hO.below)
    replace HC := Lib.hid (below_step1 HC.out hO.below)
    clear hO hm
    go_wp2_with fail
    refine (HS.out _ _ _ HV.out HNM.out ht2).mono ?_
    rintro e w3 ⟨rfl, hb⟩
    replace c0 := cellK c0 hb
    replace c1 := cellK c1 hb
    replace H1 := Lib.hid (H1.out.step hb)
    replace HC := Lib.hid (below_step1 HC.out hb)
    have zc3 : w.heap.size < w3.heap.size := World.block_lt_of_cell? w3 _ c0
    clear hb HV
    go_wp2_with fail
    refine (toVol_any next _ _ _ l _ H1.out hn HNE.out).mono ?_
    rintro e w4 ⟨g2, q2, m2, rfl, hm, hO⟩
    have HX0 : Hid (VolRd w4 (some ⟨g2, 0, none⟩) l.length q2 l) := Lib.hid (by have := hO.rd; rw [hm, show m2.length = l.length from by rw [← hm]; simp] at this; exact this)
    replace c0 := cellK c0 hO.below
    replace c1 := cellK c1 hO.below
    replace H1 := Lib.hid (H1.out.step hO.below)
    replace HC := Lib.hid (below_step1 HC.out hO.below)
    have zc4 : w.heap.size < w4.heap.size := World.block_lt_of_cell? w4 _ c0
    clear hO hm
    go_wp2_with fail
    have HBX := Lib.hid (boxA w4 (.cells #[.int .i64 next, .slice (some ⟨g2, 0, none⟩) l.length q2] 29))
    obtain ⟨x0, x1⟩ := box2 w4 29 (.int .i64 next) (.slice (some ⟨g2, 0, none⟩) l.length q2)
    replace c0 := cellK c0 HBX.out
    replace c1 := cellK c1 HBX.out
    replace H1 := Lib.hid (H1.out.step HBX.out)
    replace HC := Lib.hid (below_step1 HC.out HBX.out)
    have HX := Lib.hid (HX0.out.step HBX.out)
    clear HBX HX0
    refine (HI.out _ _ _ HX.out HNM.out ht2 (HT.out.below HC.out (Nat.le_refl _))).mono ?_
    rintro e w5 ⟨rfl, hb⟩
    replace c0 := cellK c0 hb
    replace c1 := cellK c1 hb
    replace x0 := cellK x0 hb
    replace x1 := cellK x1 hb
    replace H1 := Lib.hid (H1.out.step hb)
    replace HC := Lib.hid (below_step1 HC.out hb)
    replace HX := Lib.hid (HX.out.step hb)
    have zc5 : w.heap.size < w5.heap.size := World.block_lt_of_cell? w5 _ c0
    have zx5 : w4.heap.size < w5.heap.size := World.block_lt_of_cell? w5 _ x0
    clear hb
    have HALL : Hid (∀ W, Below w5.heap.size w5 W → (W.cell? ⟨w.heap.size, 0, none⟩ = some (.int .i64 next) ∧ W.cell? ⟨w.heap.size, 1, none⟩ = some (.slice a l.length c) ∧ W.cell? ⟨w4.heap.size, 0, none⟩ = some (.int .i64 next) ∧ W.cell? ⟨w4.heap.size, 1, none⟩ = some (.slice (some ⟨g2, 0, none⟩) l.length q2) ∧ Below w5.heap.size w5 W)) := Lib.hid (fun W hW => ⟨cellK c0 hW, cellK c1 hW, cellK x0 hW, cellK x1 hW, hW⟩)
    have hB0 := Below.refl w5.heap.size w5
    clear c0 c1 x0 x1
    have hne2 : (R != R) = false := by simp
    go_wp2
    refine wp_region_held_drew (S := (fun W => W.cell? ⟨w.heap.size, 0, none⟩ = some (.int .i64 next) ∧ W.cell? ⟨w.heap.size, 1, none⟩ = some (.slice a l.length c) ∧ W.cell? ⟨w4.heap.size, 0, none⟩ = some (.int .i64 next) ∧ W.cell? ⟨w4.heap.size, 1, none⟩ = some (.slice (some ⟨g2, 0, none⟩) l.length q2) ∧ Below w5.heap.size w5 W)) (by kernel_rfl) ?_ (fun hHeld => ?_)
    · try dsimp only
      (go_split_ands; first | exact HALL.out _ (by assumption) | exact HALL.out _ (Below.drew (by assumption)) | exact HALL.out _ (below_step1 (by assumption) (by assumption)))
    change wpAnyH _ _ _ _ _ 5 #[false, false, false, false, false] _ _
    clear hB0
    refine wpH_take (i := 0) (v := ?_) rfl (by kernel_rfl) (by kernel_rfl) (by kernel_rfl) (fun _ _ _ h => h) (by rfl) ?_ (by assumption) ?_; rotate_left; (focus (intro w hSw; (try dsimp only at hSw); go_simp; try with_reducible rfl)); try simp only [Act.put, List.setIfInBounds_toArray, List.set_cons_zero, List.set_cons_succ]
    refine wpH_take (i := 1) (v := ?_) rfl (by kernel_rfl) (by kernel_rfl) (by kernel_rfl) (fun _ _ _ h => h) (by rfl) ?_ (by assumption) ?_; rotate_left; (focus (intro w hSw; (try dsimp only at hSw); go_simp; try with_reducible rfl)); try simp only [Act.put, List.setIfInBounds_toArray, List.set_cons_zero, List.set_cons_succ]
    refine wpAnyH_ready (rs := [2]) (by kernel_rfl) (by simp) ?_
    refine AllReadyH.cons rfl (fun K hK => ?_) AllReadyH.nil
    try dsimp only at hHeld
    go_simp
    (go_at_call 7; refine (toVol_any next _ _ _ l _ (H1.out.step hHeld.2.2.2.2) hn HNE.out).mono ?_; rintro e w6 ⟨g3, q3, m3, rfl, hm3, hO3⟩; have hbk := hO3.below)
    refine hK.out _ _ ?_ (fun hHeld2 => ?_)
    · try dsimp only
      (go_split_ands; first | exact HALL.out _ (by assumption) | exact HALL.out _ (Below.drew (by assumption)) | exact HALL.out _ (below_step1 (by assumption) (by assumption)))
    clear hK K hHeld
    have hHeld := hHeld2
    clear hHeld2
    have HO3 : Hid (VolRd w6 (some ⟨g3, 0, none⟩) l.length q3 l) := Lib.hid (by have := hO3.rd; rw [hm3, show m3.length = l.length from by rw [← hm3]; simp] at this; exact this)
    clear hO3 hbk hm3
    refine wpAnyH_ready (rs := [3]) (by kernel_rfl) (by simp) ?_
    refine AllReadyH.cons rfl (fun K hK => ?_) AllReadyH.nil
    try dsimp only at hHeld
    go_simp
    (go_at_call 9; refine (eqVol_yes next _ _ _ _ _ _ l _ (HX.out.step hHeld.2.2.2.2) HO3.out (by omega) (fun x hx => by have := HNE.out x hx; omega)).mono ?_; rintro e w7 ⟨rfl, hbk⟩)
    refine hK.out _ _ ?_ (fun hHeld2 => ?_)
    · try dsimp only
      (go_split_ands; first | exact HALL.out _ (by assumption) | exact HALL.out _ (Below.drew (by assumption)) | exact HALL.out _ (below_step1 (by assumption) (by assumption)))
    clear hK K hHeld
    have hHeld := hHeld2
    clear hHeld2
    clear hbk
    refine wpH_take (i := 4) (v := ?_) rfl (by kernel_rfl) (by kernel_rfl) (by kernel_rfl) (fun _ _ _ h => h) (by rfl) ?_ (by assumption) ?_; rotate_left; (focus (intro w hSw; (try dsimp only at hSw); go_simp; try with_reducible rfl)); try simp only [Act.put, List.setIfInBounds_toArray, List.set_cons_zero, List.set_cons_succ]
    refine wpAnyH_done (by kernel_rfl) ?_ _
    try dsimp only at hHeld
    have HB7 := Lib.hid (below_step1 HC.out hHeld.2.2.2.2)
    clear hHeld
    go_wp2
    go_ret
    exact ⟨rfl, HB7.out⟩
end Go.Proofs.YtlkfabkkjfmnmaaDoor
