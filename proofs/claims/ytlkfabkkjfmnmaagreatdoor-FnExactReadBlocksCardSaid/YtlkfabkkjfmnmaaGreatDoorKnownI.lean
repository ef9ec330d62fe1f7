/- Is a sign known: the program's, that reads a table of the package. -/
import Derived.Test.YtlkfabkkjfmnmaaGreatDoorKnown
import Derived.Test.YtlkfabkkjfmnmaaGreatDoorIn
import Derived.Lib.LaidTab
namespace Go.Proofs.YtlkfabkkjfmnmaaGreatDoor
open Go.RowKit

def kpT : List Int := [32, 46, 48, 126, 161, 255, 469, 470, 768, 772, 776, 776, 778, 778, 803, 803, 807, 807, 902, 902, 904, 906, 908, 908, 910, 911, 913, 929, 931, 937, 940, 943, 945, 969, 972, 974, 1040, 1103, 4352, 4370, 4449, 4469, 4520, 4546, 7840, 7841, 7852, 7853, 8486, 8486, 8491, 8491, 44032, 55203]
def kpI : List (Int × Int) := [(32, 46), (48, 126), (161, 255), (469, 470), (768, 772), (776, 776), (778, 778), (803, 803), (807, 807), (902, 902), (904, 906), (908, 908), (910, 911), (913, 929), (931, 937), (940, 943), (945, 969), (972, 974), (1040, 1103), (4352, 4370), (4449, 4469), (4520, 4546), (7840, 7841), (7852, 7853), (8486, 8486), (8491, 8491), (44032, 55203)]
theorem gKnown : Tryz.prog.globalNamed "loop.example/g00773/impl.knownParts" = some 0 := by kernel_rfl
/-- The package's table is what its text says. -/
def KTab (w : World) : Prop := Lib.TabIs Tryz.prog w "loop.example/g00773/impl.knownParts" .i64 kpT
theorem var_below {P : Program} {w w' : World} {n : String} {g B : Nat} {cs : Array Value} (h : w.var? P n = some cs) (hg : P.globalNamed n = some g) (hb : Below B w w') (hlt : g < B) : w'.var? P n = some cs := by
  unfold World.var? at h ⊢
  rw [hg] at h ⊢
  simp only [Option.bind_some] at h ⊢
  rw [hb.block g hlt]
  exact h
theorem KTab.cell {w : World} (h : KTab w) (i : Nat) (hi : i < 54) : w.cell? ⟨0, i, none⟩ = some (.int .i64 (kpT.getD i 0)) := Lib.TabIs.cell h gKnown i hi
theorem KTab.below {B : Nat} {w w' : World} (h : KTab w) (hb : Below B w w') (hB : w.heap.size ≤ B) : KTab w' :=
  var_below h gKnown hb (Nat.lt_of_lt_of_le (World.block_lt_of_cell? w _ (h.cell 0 (by omega))) hB)
theorem KTab.step {w w' : World} (h : KTab w) (hb : Below w.heap.size w w') : KTab w' := h.below hb (Nat.le_refl _)
theorem kp_pair : ∀ k : Fin 27, kpI[k.val]'k.isLt = (kpT.getD (2 * k.val) 0, kpT.getD (2 * k.val + 1) 0) := by decide
theorem kp_in : ∀ p ∈ kpI, (∃ q ∈ knA.zip knB, q.1 ≤ p.1 ∧ p.2 ≤ q.2) ∧ ¬ (p.1 ≤ 47 ∧ 47 ≤ p.2) := by decide
theorem kp_out : ∀ q ∈ knA.zip knB, q ∈ kpI ∨ q = (32, 126) := by decide
theorem knownF_in (c : Int) (p : Int × Int) (hp : p ∈ kpI) (h1 : p.1 ≤ c) (h2 : c ≤ p.2) : knownF c = true := by
  obtain ⟨⟨q, hq, q1, q2⟩, hn⟩ := kp_in p hp
  have hc : c ≠ 47 := fun e => hn (by omega)
  unfold knownF
  rw [List.any_eq_true.2 ⟨q, hq, by simp; omega⟩, Bool.true_and]
  simp [hc]
theorem knownF_no (c : Int) (h : ∀ p ∈ kpI, ¬ (p.1 ≤ c ∧ c ≤ p.2)) : knownF c = false := by
  unfold knownF
  by_cases hc : c = 47
  · subst hc; simp
  · have e : (knA.zip knB).any (fun p => decide (p.1 ≤ c ∧ c ≤ p.2)) = false := by
      rw [List.any_eq_false]
      intro q hq
      rcases kp_out q hq with hk | rfl
      · simpa using h q hk
      · have h1 := h (32, 46) (by decide)
        have h2 := h (48, 126) (by decide)
        simp at h1 h2 ⊢
        omega
    rw [e, Bool.false_and]
set_option maxRecDepth 1000000 in
set_option maxHeartbeats 6000000 in
theorem implKnown_any (c : Int) (w : World) (hT : KTab w) : Calls Tryz.prog 133 #[.int .i64 c] w fun e w' => e = .returned (.bool (knownF c)) ∧ Below w.heap.size w w' := by
  have HT := Lib.hid hT
  clear hT
  go_enter Tryz.func133, Tryz.ntmps133
  go_wp2
  go_loopg [3] 27 (fun gg i wr => ∃ k q : Nat, k + gg = 27 ∧ Hid (q = 2 * k) ∧ i = .int .i64 (q : Int) ∧ Hid (∀ p ∈ kpI.take k, ¬ (p.1 ≤ c ∧ c ≤ p.2)) ∧ Hid (Below w.heap.size w wr))
  case atStart => exact ⟨0, 0, by omega, Lib.hid rfl, rfl, Lib.hid (fun p hp => by simp at hp), Lib.hid (Below.refl _ _)⟩
  case round =>
    obtain ⟨k, q, hk, HQ, rfl, HN, HB⟩ := hrel
    by_cases hlt : k < 27
    · have c1 := (HT.out.below HB.out (Nat.le_refl _)).cell q (by have := HQ.out; omega)
      have c2 := (HT.out.below HB.out (Nat.le_refl _)).cell (q + 1) (by have := HQ.out; omega)
      have hkl : k < kpI.length := hlt
      have HP : Hid (kpI[k] = (kpT.getD q 0, kpT.getD (q + 1) 0)) := Lib.hid (by rw [HQ.out]; exact kp_pair ⟨k, hlt⟩)
      have hq1 : (q : Int) < 54 := by have := HQ.out; omega
      have hq2 : (q : Int) + 1 < 54 := by have := HQ.out; omega
      by_cases hin : kpT.getD q 0 ≤ c ∧ c ≤ kpT.getD (q + 1) 0
      · have HR : Hid (knownF c = true) := Lib.hid (knownF_in c kpI[k] (List.getElem_mem hkl) (by rw [HP.out]; exact hin.1) (by rw [HP.out]; exact hin.2))
        obtain ⟨h1, h2⟩ := hin
        clear HP hkl
        generalize kpT.getD q 0 = x at *
        generalize kpT.getD (q + 1) 0 = y at *
        go_wp2
        go_quiet (refine Calls.quiet_of_same ((within_yes _ _ _ _ (by omega) (by omega)).mono fun e w' h => ⟨h.1, h.2.symm⟩))
        go_wp2
        go_ret
        exact ⟨ret_bool HR.out.symm, below_drewN HB.out _⟩
      · have HN2 : Hid (∀ p ∈ kpI.take (k + 1), ¬ (p.1 ≤ c ∧ c ≤ p.2)) := Lib.hid (fun p hp => by
          rw [List.take_succ_eq_append_getElem hkl, List.mem_append, List.mem_singleton] at hp
          rcases hp with hp | rfl
          · exact HN.out p hp
          · rw [HP.out]; exact hin)
        have hin2 : c < kpT.getD q 0 ∨ kpT.getD (q + 1) 0 < c := by omega
        clear hin HP hkl
        generalize kpT.getD q 0 = x at *
        generalize kpT.getD (q + 1) 0 = y at *
        go_wp2
        go_quiet (refine Calls.quiet_of_same ((within_no _ _ _ _ (by omega)).mono fun e w' h => ⟨h.1, h.2.symm⟩))
        go_wp2
        go_roundg (gk - 1)
        case measure => omega
        case rel => exact ⟨k + 1, q + 2, by omega, Lib.hid (by have := HQ.out; omega), by go_num, HN2, Lib.hid (below_drewN HB.out _)⟩
    · have hq1 : ¬ (q : Int) < 54 := by have := HQ.out; omega
      have HR : Hid (knownF c = false) := Lib.hid (knownF_no c (fun p hp => HN.out p (by rw [List.take_of_length_le (by show 27 ≤ k; omega)]; exact hp)))
      go_wp2
      go_ret
      exact ⟨ret_bool HR.out.symm, HB.out⟩
end Go.Proofs.YtlkfabkkjfmnmaaGreatDoor
