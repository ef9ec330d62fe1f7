/- The laws of Known, walked. -/
import Derived.Test.YtgoodpphinakaaaDoorKnownI
import Derived.Test.YtgoodpphinakaaaDoorStrs
namespace Go.Proofs.YtgoodpphinakaaaDoor
open Go.RowKit
set_option maxRecDepth 1000000 in
set_option maxHeartbeats 6000000 in
theorem lawKnown_walk (c : Int) (_wf : (Lit.int .i64 c).wf = true) (w : World) (hT : KTab w) : Calls Tryd.prog 3 #[.int .i64 c] w fun e w' => e = .returned (.bool true) ∧ Below w.heap.size w w' := by
  have HT := Lib.hid hT
  clear hT _wf
  go_enter Tryd.func3, Tryd.ntmps3
  go_wp2_with fail
  refine (specKnown_any c _).mono ?_
  rintro e w1 ⟨rfl, hb⟩
  have HB1 := Lib.hid hb
  clear hb
  go_wp2_with fail
  refine (implKnown_any c _ (HT.out.step HB1.out)).mono ?_
  rintro e w2 ⟨rfl, hb⟩
  have HB2 := Lib.hid (below_step1 HB1.out hb)
  clear hb
  have hne : (knownF c != knownF c) = false := by simp
  go_wp2
  go_ret
  exact ⟨rfl, HB2.out⟩
end Go.Proofs.YtgoodpphinakaaaDoor
