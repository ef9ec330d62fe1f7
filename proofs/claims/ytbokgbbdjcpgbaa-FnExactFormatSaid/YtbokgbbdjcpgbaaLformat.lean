/- The law of Format, walked. -/
import Derived.Test.YtbokgbbdjcpgbaaVol
namespace Go.Proofs.Ytbokgbbdjcpgbaa
open Go.RowKit
set_option maxRecDepth 1000000 in
set_option maxHeartbeats 6000000 in
theorem lawFormat_walk (w : World) : Calls Try.prog 11 #[] w fun e w' => e = .returned (.bool true) ∧ Below w.heap.size w w' := by
  have HI := Lib.hid implFormat_any
  have HS := Lib.hid specFormat_any
  obtain ⟨F, hF⟩ : ∃ F, F = blF ++ [ByteArray.empty] := ⟨_, rfl⟩
  rw [← hF] at HI HS
  clear hF
  go_enter Try.func11, Try.ntmps11
  go_wp2_with fail
  refine (HS.out _).mono ?_
  rintro e w1 ⟨a1, c1, rfl, hO⟩
  have HW := Lib.hid hO.rd
  have HB1 := Lib.hid hO.below
  clear hO
  go_wp2_with fail
  refine (HI.out _).mono ?_
  rintro e w2 ⟨a2, c2, rfl, hO⟩
  have HG := Lib.hid hO.self
  have HC := Lib.hid hO.below
  clear hO
  go_wp2_with fail
  refine (eqStrs_yes _ _ _ _ _ _ F _ HG.out.rd (HW.out.below HC.out (Nat.le_refl _)) (by omega)).mono ?_
  rintro e w3 ⟨rfl, hb⟩
  replace HG := Lib.hid (HG.out.stay hb)
  replace HC := Lib.hid (below_step1 HC.out hb)
  clear hb
  go_wp2_with fail
  refine (markStrs_any _ _ _ _ _ _ F 1 _ HG.out (by omega) (by omega) (by omega)).mono ?_
  rintro e w4 ⟨rfl, hO, hg⟩
  have HBK := Lib.hid HG.out.blk
  replace HC := Lib.hid (HC.out.grown hg HC.out.size (fun q hq => (HBK.out q hq).1))
  replace HG := Lib.hid hO.self
  clear hO hg HBK
  go_wp2_with fail
  refine (heldStrs_yes _ _ _ 1 _ HG.out.rd (by omega) (by omega) (by omega)).mono ?_
  rintro e w5 ⟨rfl, hb⟩
  replace HG := Lib.hid (HG.out.stay hb)
  replace HC := Lib.hid (below_step1 HC.out hb)
  clear hb
  have hneg : ¬ ((1 + 18 : Nat) : Int) < 0 := by omega
  go_wp2_with fail
  refine (HI.out _).mono ?_
  rintro e w6 ⟨a3, c3, rfl, hO⟩
  have HH := Lib.hid hO.rd
  replace HG := Lib.hid (HG.out.stay hO.below)
  replace HC := Lib.hid (below_step1 HC.out hO.below)
  clear hO
  go_wp2_with fail
  refine (eqStrs_yes _ _ _ _ _ _ F _ HH.out (HW.out.below HC.out (Nat.le_refl _)) (by omega)).mono ?_
  rintro e w7 ⟨rfl, hb⟩
  replace HG := Lib.hid (HG.out.stay hb)
  replace HC := Lib.hid (below_step1 HC.out hb)
  clear hb HH
  go_wp2_with fail
  refine (heldStrs_yes _ _ _ 1 _ HG.out.rd (by omega) (by omega) (by omega)).mono ?_
  rintro e w8 ⟨rfl, hb⟩
  have HF := Lib.hid (below_step1 HB1.out (below_step1 HC.out hb))
  clear hb
  go_wp2
  go_ret
  exact ⟨rfl, HF.out⟩
end Go.Proofs.Ytbokgbbdjcpgbaa
