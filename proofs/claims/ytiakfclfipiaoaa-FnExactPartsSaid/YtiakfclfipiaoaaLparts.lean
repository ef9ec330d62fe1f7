/- The law of Parts, walked. -/
import Derived.Test.YtiakfclfipiaoaaPartsT
import Derived.Test.YtiakfclfipiaoaaPartsS
namespace Go.Proofs.Ytiakfclfipiaoaa
open Go.RowKit


set_option maxRecDepth 1000000 in
set_option maxHeartbeats 2000000 in
theorem lawParts_walk (c : Int) (wf : (Lit.int .i64 c).wf = true) (w : World) : Calls Try.prog 8 #[.int .i64 c] w fun e w' => e = .returned (.bool true) ∧ Below w.heap.size w w' := by
  have hn := partsF_len c
  go_enter Try.func8, Try.ntmps8
  go_wp2_with fail
  refine (specParts_any c _).mono ?_
  rintro e w1 ⟨g1, c1, rfl, hA⟩
  go_wp2_with fail
  refine (implParts_any c _).mono ?_
  rintro e w2 ⟨g2, c2, rfl, hB⟩
  go_wp2_with fail
  refine (eqInts_yes _ _ _ _ _ _ (partsF c) _ hB.rd (hA.rd.below hB.below (Nat.le_refl _)) (by omega)).mono ?_
  rintro e w3 ⟨rfl, hb3⟩
  have hB3 := hB.kept hb3
  go_wp2_with fail
  refine (markInts_any _ _ _ _ _ _ (partsF c) 1 _ hB3 (by omega) (by omega) (by omega)).mono ?_
  rintro e w4 ⟨rfl, hB4, -⟩
  go_wp2_with fail
  refine (heldInts_yes _ _ _ 1 _ hB4.rd (by omega) (by omega) (by omega)).mono ?_
  rintro e w' ⟨rfl, rfl⟩
  go_wp2_with fail
  refine (implParts_any c _).mono ?_
  rintro e w5 ⟨g5, c5, rfl, hC⟩
  have hB5 := hB4.kept hC.below
  go_wp2_with fail
  refine (eqInts_yes _ _ _ _ _ _ (partsF c) _ hC.rd (hA.rd.below hB5.below (Nat.le_refl _)) (by omega)).mono ?_
  rintro e w6 ⟨rfl, hb6⟩
  have hB6 := hB5.kept hb6
  go_wp2_with fail
  refine (heldInts_yes _ _ _ 1 _ hB6.rd (by omega) (by omega) (by omega)).mono ?_
  rintro e w' ⟨rfl, rfl⟩
  go_wp2
  go_ret
  exact ⟨rfl, hA.below.trans (hB6.below.mono hA.below.size)⟩
end Go.Proofs.Ytiakfclfipiaoaa
