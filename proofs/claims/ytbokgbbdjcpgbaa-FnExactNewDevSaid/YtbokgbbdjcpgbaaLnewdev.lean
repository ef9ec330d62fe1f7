/- The law of NewDev, walked. -/
import Derived.Test.YtbokgbbdjcpgbaaNewDev
namespace Go.Proofs.Ytbokgbbdjcpgbaa
open Go.RowKit

set_option maxRecDepth 1000000 in
set_option maxHeartbeats 6000000 in
theorem lawNewDev_walk (w : World) : Calls Try.prog 4 #[] w fun e w' => e = .returned (.bool true) ∧ Below w.heap.size w w' := by
  have hl1 : emptyS.length ≤ 1048576 := by decide
  have hl2 : ([] : List (Int × ByteArray)).length ≤ 1048576 := by decide
  have HI := Lib.hid implNewDev_any
  have HS := Lib.hid specNewDev_any
  obtain ⟨ss, hss⟩ : ∃ ss, ss = emptyS := ⟨_, rfl⟩
  obtain ⟨us, hus⟩ : ∃ us : List (Int × ByteArray), us = [] := ⟨_, rfl⟩
  rw [← hss] at hl1 HI HS
  rw [← hus] at hl2 HI HS
  clear hss hus
  go_enter Try.func4, Try.ntmps4
  go_wp2_with fail
  refine (HS.out _).mono ?_
  rintro e w1 ⟨v0, rfl, hO, hb⟩
  have HB1 := Lib.hid hb
  obtain ⟨p1, q1, r1, s1, rfl, -⟩ := hO.ex
  have HW0 := Lib.hid hO.rd
  clear hO hb
  unfold dvV at HW0 ⊢
  go_wp2_with fail
  refine (HI.out _).mono ?_
  rintro e w2 ⟨v1, rfl, hO, hb⟩
  have c0 := box_below (box0 w1 32 (.slice p1 ss.length q1) (.slice r1 us.length s1)) hb
  have c1 := box_below (box1 w1 32 (.slice p1 ss.length q1) (.slice r1 us.length s1)) hb
  have hz : w1.heap.size < w2.heap.size := by have := hb.size; simp at this; omega
  obtain ⟨p2, q2, r2, s2, rfl, -⟩ := hO.ex
  have HG2 := Lib.hid hO
  have HC2 := Lib.hid ((box_alloc w1 _).trans (hb.mono (by simp)))
  clear hO hb
  unfold dvV at HG2 ⊢
  go_wp2_with fail
  have HBX := Lib.hid (box_alloc w2 (.cells #[.slice p2 ss.length q2, .slice r2 us.length s2] 32))
  refine (eqDev_yes _ _ ss us _ (HG2.out.stay HBX.out).rd (HW0.out.below (below_step1 HC2.out HBX.out) (Nat.le_refl _)) (by omega) (by omega)).mono ?_
  rintro e w3 ⟨rfl, hb3⟩
  have d0 := box_below (box_below c0 HBX.out) hb3
  have d1 := box_below (box_below c1 HBX.out) hb3
  have g0 := box_below (box0 w2 32 (.slice p2 ss.length q2) (.slice r2 us.length s2)) hb3
  have g1 := box_below (box1 w2 32 (.slice p2 ss.length q2) (.slice r2 us.length s2)) hb3
  have HG3 := Lib.hid ((HG2.out.stay HBX.out).stay hb3)
  have HC3 := Lib.hid (below_step1 (below_step1 HC2.out HBX.out) hb3)
  have hz3 : w2.heap.size < w3.heap.size := by have := hb3.size; simp at this; omega
  have HBK : Hid (∀ k, ((Value.slice p2 ss.length q2).ownBlock = some k ∨ (Value.slice r2 us.length s2).ownBlock = some k) → w1.heap.size < k ∧ k < w2.heap.size) := Lib.hid (fun k hk => by
    obtain ⟨a, c, b, d, e, o1, o2, _⟩ := HG2.out.ex
    simp only [dvV, Value.agg.injEq, Array.mk.injEq, List.cons.injEq, and_true] at e
    obtain ⟨e1, e2⟩ := e
    rw [e1, e2] at hk
    rcases hk with hk | hk
    · have := o1.blk k hk; simp at this; omega
    · have := o2.blk k hk; simp at this; omega)
  clear hb3 HG2 HC2 HBX c0 c1
  go_wp2_with fail
  refine (markDev_any _ _ ss us 1 _ HG3.out hl1 hl2 (by omega) (by omega)).mono ?_
  rintro e w4 ⟨rfl, hO, hb4, hfar⟩
  have hf2 : ∀ b, (b = w1.heap.size ∨ b = w2.heap.size) → w4.heap[b]? = w3.heap[b]? := fun b hbb => hfar b (by omega) (fun a c b' d' e => by
    simp only [dvV, Value.agg.injEq, Array.mk.injEq, List.cons.injEq, and_true] at e
    obtain ⟨e1, e2⟩ := e
    rw [← e1, ← e2]
    constructor
    · intro hk; have := HBK.out _ (.inl hk); omega
    · intro hk; have := HBK.out _ (.inr hk); omega)
  replace d0 := cell_block d0 (hf2 _ (.inl rfl))
  replace d1 := cell_block d1 (hf2 _ (.inl rfl))
  replace g0 := cell_block g0 (hf2 _ (.inr rfl))
  replace g1 := cell_block g1 (hf2 _ (.inr rfl))
  have HG4 := Lib.hid hO
  have HC4 := Lib.hid (HC3.out.trans (hb4.mono (by simp)))
  clear hO hb4 HG3 HC3 hfar hf2
  go_wp2_with fail
  have hRd4 : DevRd w4 (.agg #[.slice p2 ss.length q2, .slice r2 us.length s2]) (mks 1 ss.length) (mkw (1 + ss.length) us.length) := HG4.out.rd
  refine (heldDev_yes _ 1 ss.length us.length _ hRd4 hl1 hl2 (by omega) (by omega)).mono ?_
  clear hRd4
  rintro e w5 ⟨rfl, hb5⟩
  replace d0 := box_below d0 hb5
  replace d1 := box_below d1 hb5
  replace g0 := box_below g0 hb5
  replace g1 := box_below g1 hb5
  have HG5 := Lib.hid (HG4.out.stay hb5)
  have HC5 := Lib.hid (below_step1 HC4.out hb5)
  clear hb5 HG4 HC4
  have hneg : ¬ ((1 + ss.length + 2 * us.length : Nat) : Int) < 0 := by omega
  go_wp2_with fail
  refine (HI.out _).mono ?_
  rintro e w6 ⟨v2, rfl, hO, hb⟩
  replace d0 := box_below d0 hb
  replace d1 := box_below d1 hb
  replace g0 := box_below g0 hb
  replace g1 := box_below g1 hb
  have hz6 : w1.heap.size < w6.heap.size := World.block_lt_of_cell? w6 _ d0
  have hz6b : w2.heap.size < w6.heap.size := World.block_lt_of_cell? w6 _ g0
  obtain ⟨p3, q3, r3, s3, rfl, -⟩ := hO.ex
  have HH6 := Lib.hid hO.rd
  have HG6 := Lib.hid (HG5.out.stay hb)
  have HC6 := Lib.hid (below_step1 HC5.out hb)
  clear hO hb HG5 HC5
  unfold dvV at HH6 ⊢
  go_wp2_with fail
  have HBX := Lib.hid (box_alloc w6 (.cells #[.slice p3 ss.length q3, .slice r3 us.length s3] 32))
  refine (eqDev_yes _ _ ss us _ (HH6.out.below HBX.out (Nat.le_refl _)) (HW0.out.below (below_step1 HC6.out HBX.out) (Nat.le_refl _)) (by omega) (by omega)).mono ?_
  rintro e w7 ⟨rfl, hb7⟩
  replace g0 := box_below (box_below g0 HBX.out) hb7
  replace g1 := box_below (box_below g1 HBX.out) hb7
  have HG7 := Lib.hid ((HG6.out.stay HBX.out).stay hb7)
  have HC7 := Lib.hid (below_step1 (below_step1 HC6.out HBX.out) hb7)
  clear hb7 HG6 HC6 HBX d0 d1
  go_wp2_with fail
  have hRd7 : DevRd w7 (.agg #[.slice p2 ss.length q2, .slice r2 us.length s2]) (mks 1 ss.length) (mkw (1 + ss.length) us.length) := HG7.out.rd
  refine (heldDev_yes _ 1 ss.length us.length _ hRd7 hl1 hl2 (by omega) (by omega)).mono ?_
  clear hRd7
  rintro e w8 ⟨rfl, hb8⟩
  have HB8 := Lib.hid (below_step1 HB1.out (below_step1 HC7.out hb8))
  clear hb8 g0 g1
  go_wp2
  go_ret
  exact ⟨rfl, HB8.out⟩
end Go.Proofs.Ytbokgbbdjcpgbaa
