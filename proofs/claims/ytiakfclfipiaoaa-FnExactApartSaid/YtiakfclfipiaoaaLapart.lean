/- The law of Apart, walked. -/
import Derived.Test.YtiakfclfipiaoaaApartS
import Derived.Test.YtiakfclfipiaoaaShape
namespace Go.Proofs.Ytiakfclfipiaoaa
open Go.RowKit

set_option maxRecDepth 1000000 in
set_option maxHeartbeats 2000000 in
theorem lawApart_walk (a : Option Addr) (n cap : Nat) (zs : List Int) (w : World) (h : IsRow .i64 w a n cap zs) : Calls Try.prog 10 #[.slice a n cap] w fun e w' => e = .returned (.bool true) ∧ Below w.heap.size w w' := by
  obtain ⟨hR, hwf⟩ := h.rd
  have hm : n ≤ 9223372036854775807 := by have := hR.le; have := hR.max; unfold maxLen at *; omega
  have hl : (zs.take n).length = n := by have := hR.len; simpa using this
  have hw : ∀ x ∈ zs.take n, -9223372036854775808 ≤ x ∧ x ≤ 9223372036854775807 := fun x hx => okInt_wf (hwf x hx)
  generalize zs.take n = l at *
  clear h hwf
  have hR : Rd w a n cap 1 (ints l) := hR
  by_cases hs : (1048576 : Int) < (n : Int)
  · clear hw hl
    go_enter Try.func10, Try.ntmps10
    go_wp2
    go_ret
    exact ⟨rfl, Below.refl _ _⟩
  · have hn := apartF_len l
    rw [hl] at hn
    have HW := Lib.hid hw
    have HL := Lib.hid hl
    clear hw hl
    go_enter Try.func10, Try.ntmps10
    go_wp2_with fail
    refine (toInts_any _ _ _ l _ hR (by omega)).mono ?_
    rintro e w1 ⟨g1, c1, rfl, hX⟩
    go_wp2_with fail
    refine (specApart_any _ _ _ l _ hX.rd (by omega)).mono ?_
    rintro e w2 ⟨g2, c2, rfl, hA⟩
    have b2 : Below w.heap.size w w2 := hX.below.trans (hA.below.mono hX.below.size)
    go_wp2_with fail
    refine (toInts_any _ _ _ l _ (hR.below b2 (Nat.le_refl _)) (by omega)).mono ?_
    rintro e w3 ⟨g3, c3, rfl, hX0⟩
    go_wp2_with fail
    refine (implApart_any _ _ _ l _ hX0.rd (by omega)).mono ?_
    rintro e w4 ⟨g4, c4, rfl, hG⟩
    have b4 : Below w2.heap.size w2 w4 := hX0.below.trans (hG.below.mono hX0.below.size)
    go_wp2_with fail
    refine (eqInts_yes _ _ _ _ _ _ (apartF l) _ hG.rd (hA.rd.below b4 (Nat.le_refl _)) (by omega)).mono ?_
    rintro e w5 ⟨rfl, hb5⟩
    have b5 : Below w2.heap.size w2 w5 := b4.trans (hb5.mono b4.size)
    have bw5 : Below w.heap.size w w5 := b2.trans (b5.mono b2.size)
    go_wp2_with fail
    refine (toInts_any _ _ _ l _ (hR.below bw5 (Nat.le_refl _)) (by omega)).mono ?_
    rintro e w6 ⟨g6, c6, rfl, hY⟩
    have hX6 := (hX0.kept hG.below).kept hb5 |>.kept hY.below
    go_wp2_with fail
    refine (eqInts_yes _ _ _ _ _ _ l _ hX6.rd hY.rd (by omega)).mono ?_
    rintro e w7 ⟨rfl, hb7⟩
    have hX7 := hX6.kept hb7
    have hG7 := ((hG.kept hb5).kept hY.below).kept hb7
    go_wp2_with fail
    refine (markInts_any _ _ _ _ _ _ l 1 _ hX7 (by omega) (by omega) (by omega)).mono ?_
    rintro e w8 ⟨rfl, hX8, hgr⟩
    have hne : ∀ k, Value.ownBlock (.slice g4 (apartF l).length c4) = some k → Value.ownBlock (.slice (some ⟨g3, 0, none⟩) n c3) ≠ some k := by
      intro k hk e
      have h1 := (hG.row.lt k hk).1
      have h2 := (hX0.row.lt k e).2
      omega
    have hG8 := hG7.otherLow hgr hne
    go_wp2_with fail
    refine (eqInts_yes _ _ _ _ _ _ (apartF l) _ hG8.rd (hA.rd.below hX8.below (Nat.le_refl _)) (by omega)).mono ?_
    rintro e w9 ⟨rfl, hb9⟩
    have hG9 := hG8.kept hb9
    go_wp2_with fail
    refine (markInts_any _ _ _ _ _ _ (apartF l) 1 _ hG9 (by omega) (by omega) (by omega)).mono ?_
    rintro e w10 ⟨rfl, hG10, -⟩
    go_wp2_with fail
    refine (heldInts_yes _ _ _ 1 _ hG10.rd (by omega) (by omega) (by omega)).mono ?_
    rintro e w' ⟨rfl, rfl⟩
    have b10 : Below w2.heap.size w2 w10 := hX8.below.trans (hG10.below.mono hX0.below.size)
    have bw10 : Below w.heap.size w w10 := b2.trans (b10.mono b2.size)
    go_wp2_with fail
    refine (toInts_any _ _ _ l _ (hR.below bw10 (Nat.le_refl _)) (by omega)).mono ?_
    rintro e w11 ⟨g11, c11, rfl, hZ⟩
    go_wp2_with fail
    refine (implApart_any _ _ _ l _ hZ.rd (by omega)).mono ?_
    rintro e w12 ⟨g12, c12, rfl, hH⟩
    have b12 : Below w10.heap.size w10 w12 := hZ.below.trans (hH.below.mono hZ.below.size)
    have hG12 := hG10.kept b12
    have bA12 : Below w2.heap.size w2 w12 := b10.trans (b12.mono b10.size)
    go_wp2_with fail
    refine (eqInts_yes _ _ _ _ _ _ (apartF l) _ hH.rd (hA.rd.below bA12 (Nat.le_refl _)) (by omega)).mono ?_
    rintro e w13 ⟨rfl, hb13⟩
    have hG13 := hG12.kept hb13
    go_wp2_with fail
    refine (heldInts_yes _ _ _ 1 _ hG13.rd (by omega) (by omega) (by omega)).mono ?_
    rintro e w' ⟨rfl, rfl⟩
    go_wp2
    go_ret
    exact ⟨rfl, b2.trans ((bA12.trans (hb13.mono bA12.size)).mono b2.size)⟩
end Go.Proofs.Ytiakfclfipiaoaa
