/- A sign in its parts, and these in theirs: the program's taken and the reference's l4Take. -/
import Derived.Test.YtlkfabkkjfmnmaaGreatDoorPartsT
import Derived.Test.YtlkfabkkjfmnmaaGreatDoorPartsS
namespace Go.Proofs.YtlkfabkkjfmnmaaGreatDoor
open Go.RowKit

/-- A sign in its parts, so deep. -/
def takeF : Nat → Int → List Int
  | 0, c => [c]
  | n + 1, c => if partsF c = [] then [c] else (partsF c).flatMap (takeF n)
theorem flat_len (f : Int → List Int) (b : Nat) (h : ∀ x, (f x).length ≤ b) : ∀ l : List Int, (l.flatMap f).length ≤ l.length * b := by
  intro l
  induction l with
  | nil => simp
  | cons x l ih =>
    have := h x
    rw [List.flatMap_cons, List.length_append, List.length_cons, Nat.succ_mul]
    omega
theorem takeF_len : ∀ (n : Nat) (c : Int), (takeF n c).length ≤ 3 ^ n := by
  intro n
  induction n with
  | zero => intro c; simp [takeF]
  | succ n ih =>
    intro c
    unfold takeF
    split
    · have : 0 < 3 ^ (n + 1) := Nat.pow_pos (by omega)
      simp; omega
    · have h1 := flat_len (takeF n) (3 ^ n) ih (partsF c)
      have h2 := Nat.mul_le_mul_right (3 ^ n) (partsF_len c)
      rw [Nat.pow_succ, Nat.mul_comm]
      omega
theorem takeF_len27 (n : Nat) (hn : n ≤ 2) (c : Int) : (takeF n c).length ≤ 9 := by
  have h := takeF_len n c
  have h2 : 3 ^ n ≤ 3 ^ 2 := Nat.pow_le_pow_right (by omega) hn
  omega

def takePost (l : List Int) (w : World) (e : Ending) (w' : World) : Prop :=
  ∃ a c', e = .returned (.slice a l.length c') ∧ Own 3 1 w.heap.size w (.slice a l.length c') l.length (ints l) w'

set_option maxRecDepth 1000000 in
set_option maxHeartbeats 6000000 in
theorem takenStep_any (n : Nat) (hn : n ≤ 2) (c : Int) (ih : ∀ x ∈ partsF c, ∀ w, Calls Tryz.prog 136 #[.int .i64 x] w (takePost (takeF n x) w)) (w : World) :
    Calls Tryz.prog 136 #[.int .i64 c] w (takePost (takeF (n + 1) c) w) := by
  have HI := Lib.hid ih
  clear ih
  go_enter Tryz.func136, Tryz.ntmps136
  go_wp2_with fail
  refine (implParts_any c _).mono ?_
  rintro e w1 ⟨g1, c1, rfl, hP⟩
  have HP := Lib.hid hP
  by_cases h0 : partsF c = []
  · have HE : Hid (takeF (n + 1) c = [c]) := Lib.hid (by unfold takeF; rw [if_pos h0])
    rw [h0]
    simp only [List.length_nil]
    clear hP HI h0
    go_wp2
    go_ret
    rw [HE.out]
    exact ⟨_, _, rfl, Own.lit HP.out.below HP.out.below.size #[.int .i64 c] rfl (show 1 ≤ maxLen by decide)⟩
  · have HE : Hid (takeF (n + 1) c = (partsF c).flatMap (takeF n)) := Lib.hid (by conv => lhs; unfold takeF; rw [if_neg h0])
    have hl1 := partsF_len c
    have hl0 : 0 < (partsF c).length := List.length_pos_iff.2 h0
    generalize partsF c = l at *
    have hR := hP.rd
    clear hP h0
    have hz : (((l.length : Nat) : Int) == 0) = false := by rw [beq_eq_false_iff_ne]; omega
    go_wp2
    go_loopg [4, 17] l.length (fun gg o i wr => ∃ k : Nat, k + gg = l.length ∧ i = .int .i64 k ∧ Own 3 1 w1.heap.size w1 o ((l.take k).flatMap (takeF n)).length (ints ((l.take k).flatMap (takeF n))) wr)
    case atStart => exact ⟨0, by omega, rfl, by simpa [ints] using Own.lit (e := 3) (size := 1) (n := 0) (Below.refl w1.heap.size w1) (Nat.le_refl _) #[] rfl (by decide)⟩
    case round =>
      obtain ⟨k, hk, rfl, hOk⟩ := hrel
      obtain ⟨av, cv, rfl, _, _⟩ := hOk.shape
      by_cases hlt : k < l.length
      · obtain ⟨b, off, e0, hbs, hc⟩ := hR.at' (by omega)
        cases e0
        have hc1 := hc k (by simpa using hlt)
        rw [Nat.zero_add, ← hOk.below.cell (p := ⟨g1, k, none⟩) (by exact hbs), ints_get l k hlt] at hc1
        have hS : Hid ((l.take (k + 1)).flatMap (takeF n) = (l.take k).flatMap (takeF n) ++ takeF n l[k]) := Lib.hid (by rw [List.take_succ_eq_append_getElem hlt, List.flatMap_append]; simp)
        have hb1 : ((l.take k).flatMap (takeF n)).length ≤ 27 := by
          have h := flat_len (takeF n) 9 (takeF_len27 n hn) (l.take k)
          have h2 : (l.take k).length ≤ 3 := by rw [List.length_take]; omega
          omega
        have hb2 := takeF_len27 n hn l[k]
        have hIx := Lib.hid (HI.out l[k] (List.getElem_mem _))
        clear hc hR HI
        generalize (l.take k).flatMap (takeF n) = pre at *
        generalize l[k] = x at *
        go_wp2_with fail
        refine (hIx.out _).mono ?_
        rintro e w4 ⟨g4, c4, rfl, hF⟩
        have hOF := hOk.kept hF.below
        have hFr := hF.rd
        go_wp2_with (at_builtin; go_loud (refine wp_app rfl _ _ 40 rfl 3 (.int .i64 0) 1 8 Tryz.underlying40 info_i64 rfl (by decide) w1.heap.size w1 _ _ _ (by rfl) (by exact hOF) _ _ _ _ (by rfl) (by exact hFr) (ints_one _) (by omega) (by unfold maxLen; omega) ?_); intro a2 c2 w2 hO2)
        go_wp2
        go_roundg (gk - 1)
        case measure => omega
        case rel => exact ⟨k + 1, by omega, by go_num, by rw [hS.out, List.length_append, ints_append]; exact hO2⟩
      · have hkl : k = l.length := by omega
        subst hkl
        rw [List.take_length] at hOk ⊢
        go_wp2
        go_ret
        rw [HE.out]
        exact ⟨_, _, rfl, hOk.rebase HP.out.below HP.out.below.size⟩

set_option maxRecDepth 1000000 in
set_option maxHeartbeats 6000000 in
theorem l4TakeStep_any (n : Nat) (hn : n ≤ 2) (c : Int) (ih : ∀ x ∈ partsF c, ∀ w, Calls Tryz.prog 130 #[.int .i64 x] w (takePost (takeF n x) w)) (w : World) :
    Calls Tryz.prog 130 #[.int .i64 c] w (takePost (takeF (n + 1) c) w) := by
  have HI := Lib.hid ih
  clear ih
  go_enter Tryz.func130, Tryz.ntmps130
  go_wp2_with fail
  refine (specParts_any c _).mono ?_
  rintro e w1 ⟨g1, c1, rfl, hP⟩
  have HP := Lib.hid hP
  by_cases h0 : partsF c = []
  · have HE : Hid (takeF (n + 1) c = [c]) := Lib.hid (by unfold takeF; rw [if_pos h0])
    rw [h0]
    simp only [List.length_nil]
    clear hP HI h0
    go_wp2
    go_ret
    rw [HE.out]
    exact ⟨_, _, rfl, Own.lit HP.out.below HP.out.below.size #[.int .i64 c] rfl (show 1 ≤ maxLen by decide)⟩
  · have HE : Hid (takeF (n + 1) c = (partsF c).flatMap (takeF n)) := Lib.hid (by conv => lhs; unfold takeF; rw [if_neg h0])
    have hl1 := partsF_len c
    have hl0 : 0 < (partsF c).length := List.length_pos_iff.2 h0
    generalize partsF c = l at *
    have hR := hP.rd
    clear hP h0
    have hz : (((l.length : Nat) : Int) == 0) = false := by rw [beq_eq_false_iff_ne]; omega
    go_wp2
    go_loopg [4, 5] l.length (fun gg o i wr => ∃ k : Nat, k + gg = l.length ∧ i = .int .i64 k ∧ Own 3 1 w1.heap.size w1 o ((l.take k).flatMap (takeF n)).length (ints ((l.take k).flatMap (takeF n))) wr)
    case atStart => exact ⟨0, by omega, rfl, by simpa [ints] using Own.lit (e := 3) (size := 1) (n := 0) (Below.refl w1.heap.size w1) (Nat.le_refl _) #[] rfl (by decide)⟩
    case round =>
      obtain ⟨k, hk, rfl, hOk⟩ := hrel
      obtain ⟨av, cv, rfl, _, _⟩ := hOk.shape
      by_cases hlt : k < l.length
      · obtain ⟨b, off, e0, hbs, hc⟩ := hR.at' (by omega)
        cases e0
        have hc1 := hc k (by simpa using hlt)
        rw [Nat.zero_add, ← hOk.below.cell (p := ⟨g1, k, none⟩) (by exact hbs), ints_get l k hlt] at hc1
        have hS : Hid ((l.take (k + 1)).flatMap (takeF n) = (l.take k).flatMap (takeF n) ++ takeF n l[k]) := Lib.hid (by rw [List.take_succ_eq_append_getElem hlt, List.flatMap_append]; simp)
        have hb1 : ((l.take k).flatMap (takeF n)).length ≤ 27 := by
          have h := flat_len (takeF n) 9 (takeF_len27 n hn) (l.take k)
          have h2 : (l.take k).length ≤ 3 := by rw [List.length_take]; omega
          omega
        have hb2 := takeF_len27 n hn l[k]
        have hIx := Lib.hid (HI.out l[k] (List.getElem_mem _))
        clear hc hR HI
        generalize (l.take k).flatMap (takeF n) = pre at *
        generalize l[k] = x at *
        go_wp2_with fail
        refine (hIx.out _).mono ?_
        rintro e w4 ⟨g4, c4, rfl, hF⟩
        have hOF := hOk.kept hF.below
        have hFr := hF.rd
        go_wp2_with (at_builtin; go_loud (refine wp_app rfl _ _ 40 rfl 3 (.int .i64 0) 1 8 Tryz.underlying40 info_i64 rfl (by decide) w1.heap.size w1 _ _ _ (by rfl) (by exact hOF) _ _ _ _ (by rfl) (by exact hFr) (ints_one _) (by omega) (by unfold maxLen; omega) ?_); intro a2 c2 w2 hO2)
        go_wp2
        go_roundg (gk - 1)
        case measure => omega
        case rel => exact ⟨k + 1, by omega, by go_num, by rw [hS.out, List.length_append, ints_append]; exact hO2⟩
      · have hkl : k = l.length := by omega
        subst hkl
        rw [List.take_length] at hOk ⊢
        go_wp2
        go_ret
        rw [HE.out]
        exact ⟨_, _, rfl, hOk.rebase HP.out.below HP.out.below.size⟩

end Go.Proofs.YtlkfabkkjfmnmaaGreatDoor
