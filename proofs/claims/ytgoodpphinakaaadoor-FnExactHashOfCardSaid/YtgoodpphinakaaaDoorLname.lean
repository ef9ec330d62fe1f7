/- The laws of NameOk, KeyOf, Alike, HashOf, walked. (Printed by gen_keyof.py laws.) -/
import Derived.Test.YtgoodpphinakaaaDoorKeyOf
namespace Go.Proofs.YtgoodpphinakaaaDoor
open Go.RowKit

set_option maxRecDepth 1000000 in
set_option maxHeartbeats 6000000 in
theorem lawNameOk_walk (s : ByteArray) (hm : s.size ≤ maxLen) (w : World) (hT : KTab w) : Calls Tryd.prog 4 #[.string s] w fun e w' => e = .returned (.bool true) ∧ Below w.heap.size w w' := by
  have HT := Lib.hid hT
  clear hT
  unfold maxLen at hm
  by_cases hs : (1048576 : Int) < (s.size : Int)
  · go_enter Tryd.func4, Tryd.ntmps4
    go_wp2
    go_ret
    exact ⟨rfl, Below.refl _ _⟩
  · go_enter Tryd.func4, Tryd.ntmps4
    go_wp2_with fail
    refine (specNameOk_any s _ (by omega)).mono ?_
    rintro e w1 ⟨rfl, hb⟩
    have HB1 := Lib.hid hb
    clear hb
    go_wp2_with fail
    refine (implNameOk_any s _ (by omega) (HT.out.step HB1.out)).mono ?_
    rintro e w2 ⟨rfl, hb⟩
    have HB2 := Lib.hid (below_step1 HB1.out hb)
    clear hb
    have hne : (nameB s != nameB s) = false := by simp
    go_wp2
    go_ret
    exact ⟨rfl, HB2.out⟩
set_option maxRecDepth 1000000 in
set_option maxHeartbeats 6000000 in
theorem lawHashOf_walk (s : ByteArray) (hm : s.size ≤ maxLen) (w : World) (hT : KTab w) : Calls Tryd.prog 7 #[.string s] w fun e w' => e = .returned (.bool true) ∧ Below w.heap.size w w' := by
  have HT := Lib.hid hT
  clear hT
  unfold maxLen at hm
  by_cases hs : (1048576 : Int) < (s.size : Int)
  · go_enter Tryd.func7, Tryd.ntmps7
    go_wp2
    go_ret
    exact ⟨rfl, Below.refl _ _⟩
  · go_enter Tryd.func7, Tryd.ntmps7
    go_wp2_with fail
    refine (specHashOf_any s _ (by omega)).mono ?_
    rintro e w1 ⟨rfl, hb⟩
    have HB1 := Lib.hid hb
    clear hb
    go_wp2_with fail
    refine (implHashOf_any s _ (by omega) (HT.out.step HB1.out)).mono ?_
    rintro e w2 ⟨rfl, hb⟩
    have HB2 := Lib.hid (below_step1 HB1.out hb)
    clear hb
    have hne : (hashF s == hashF s) = true := by simp
    go_wp2
    go_ret
    exact ⟨rfl, HB2.out⟩
set_option maxRecDepth 1000000 in
set_option maxHeartbeats 6000000 in
theorem lawKeyOf_walk (s : ByteArray) (hm : s.size ≤ maxLen) (w : World) (hT : KTab w) : Calls Tryd.prog 5 #[.string s] w fun e w' => e = .returned (.bool true) ∧ Below w.heap.size w w' := by
  have HT := Lib.hid hT
  clear hT
  unfold maxLen at hm
  by_cases hs : (1048576 : Int) < (s.size : Int)
  · go_enter Tryd.func5, Tryd.ntmps5
    go_wp2
    go_ret
    exact ⟨rfl, Below.refl _ _⟩
  · go_enter Tryd.func5, Tryd.ntmps5
    go_wp2_with fail
    refine (specKeyOf_any s _ (by omega)).mono ?_
    rintro e w1 ⟨rfl, hb⟩
    have HB1 := Lib.hid hb
    clear hb
    go_wp2_with fail
    refine (implKeyOf_any s _ (by omega) (HT.out.step HB1.out)).mono ?_
    rintro e w2 ⟨rfl, hb⟩
    have HB2 := Lib.hid (below_step1 HB1.out hb)
    clear hb
    have hne : (nameB s != nameB s) = false := by simp
    have hne2 : ((keyR s).toList == (keyR s).toList) = true := by simp
    go_wp2
    go_ret
    exact ⟨rfl, HB2.out⟩
set_option maxRecDepth 1000000 in
set_option maxHeartbeats 6000000 in
theorem lawAlike_walk (s : ByteArray) (hm : s.size ≤ maxLen) (t : ByteArray) (hm2 : t.size ≤ maxLen) (w : World) (hT : KTab w) : Calls Tryd.prog 6 #[.string s, .string t] w fun e w' => e = .returned (.bool true) ∧ Below w.heap.size w w' := by
  have HT := Lib.hid hT
  clear hT
  unfold maxLen at hm hm2
  by_cases hs : (1048576 : Int) < (s.size : Int)
  · go_enter Tryd.func6, Tryd.ntmps6
    go_wp2
    go_ret
    exact ⟨rfl, Below.refl _ _⟩
  · by_cases ht : (1048576 : Int) < (t.size : Int)
    · go_enter Tryd.func6, Tryd.ntmps6
      go_wp2
      go_ret
      exact ⟨rfl, Below.refl _ _⟩
    · go_enter Tryd.func6, Tryd.ntmps6
      go_wp2_with fail
      refine (specAlike_any s t _ (by omega) (by omega)).mono ?_
      rintro e w1 ⟨rfl, hb⟩
      have HB1 := Lib.hid hb
      clear hb
      go_wp2_with fail
      refine (implAlike_any s t _ (by omega) (by omega) (HT.out.step HB1.out)).mono ?_
      rintro e w2 ⟨rfl, hb⟩
      have HB2 := Lib.hid (below_step1 HB1.out hb)
      clear hb
      have hne : (alikeB s t != alikeB s t) = false := by simp
      go_wp2
      go_ret
      exact ⟨rfl, HB2.out⟩
end Go.Proofs.YtgoodpphinakaaaDoor
