/- Decode in plain Lean. -/
import Derived.Test.YtlkfabkkjfmnmaaGreatDoorSignAt
namespace Go.Proofs.YtlkfabkkjfmnmaaGreatDoor
open Go.RowKit

def decF : Nat → List UInt8 → Option (List Int)
  | 0, l => if l = [] then some [] else none
  | f + 1, l => if l = [] then some [] else if (sg1 l).2 = 0 then none else (decF f (l.drop (sg1 l).2)).map ((sg1 l).1 :: ·)
theorem sg1_le (l : List UInt8) : (sg1 l).2 ≤ l.length ∧ (sg1 l).2 ≤ 4 := by
  cases l with
  | nil => exact ⟨Nat.le_refl _, by decide⟩
  | cons b r =>
    unfold sg1
    simp only
    by_cases h1 : szOf b.toNat = 1
    · rw [if_pos h1]; exact ⟨by simp, by show 1 ≤ 4; decide⟩
    · rw [if_neg h1]
      by_cases h2 : szOf b.toNat = 0 ∨ (b :: r).length < szOf b.toNat
      · rw [if_pos h2]; exact ⟨Nat.zero_le _, by decide⟩
      · rw [if_neg h2]
        have h4 : szOf b.toNat ≤ 4 := by unfold szOf; (repeat' split) <;> omega
        split
        · split
          · exact ⟨by omega, h4⟩
          · exact ⟨Nat.zero_le _, by decide⟩
        · exact ⟨Nat.zero_le _, by decide⟩
theorem decF_cons (f : Nat) (b : UInt8) (r : List UInt8) : decF (f + 1) (b :: r) = if (sg1 (b :: r)).2 = 0 then none else (decF f ((b :: r).drop (sg1 (b :: r)).2)).map ((sg1 (b :: r)).1 :: ·) := by
  rw [decF, if_neg (by simp)]
theorem decF_two : ∀ (f g : Nat) (l : List UInt8), l.length ≤ f → l.length ≤ g → decF f l = decF g l := by
  intro f
  induction f with
  | zero =>
    intro g l h _
    have : l = [] := List.eq_nil_of_length_eq_zero (by omega)
    subst this
    cases g <;> rfl
  | succ f ih =>
    intro g l h hg
    cases l with
    | nil => cases g <;> rfl
    | cons b r =>
      cases g with
      | zero => simp at hg
      | succ g =>
        rw [decF_cons, decF_cons]
        by_cases h0 : (sg1 (b :: r)).2 = 0
        · rw [if_pos h0, if_pos h0]
        · rw [if_neg h0, if_neg h0]
          have hd : ((b :: r).drop (sg1 (b :: r)).2).length ≤ r.length := by rw [List.length_drop, List.length_cons]; omega
          simp only [List.length_cons] at h hg
          rw [ih g _ (by omega) (by omega)]
/-- What Decode comes to. -/
def decO (l : List UInt8) : Option (List Int) := decF l.length l
theorem decO_nil : decO [] = some [] := rfl
theorem decO_step (l : List UInt8) (h : l ≠ []) (h0 : (sg1 l).2 ≠ 0) : decO l = (decO (l.drop (sg1 l).2)).map ((sg1 l).1 :: ·) := by
  cases l with
  | nil => exact absurd rfl h
  | cons b r =>
    show decF (r.length + 1) (b :: r) = _
    rw [decF_cons, if_neg h0]
    congr 1
    exact decF_two _ _ _ (by rw [List.length_drop, List.length_cons]; omega) (Nat.le_refl _)
theorem decO_bad (l : List UInt8) (h : l ≠ []) (h0 : (sg1 l).2 = 0) : decO l = none := by
  cases l with
  | nil => exact absurd rfl h
  | cons b r =>
    show decF (r.length + 1) (b :: r) = _
    rw [decF_cons, if_pos h0]
/-- The signs, none where it is not well formed; and whether it is. -/
def decR (l : List UInt8) : List Int := (decO l).getD []
def decB (l : List UInt8) : Bool := (decO l).isSome
end Go.Proofs.YtlkfabkkjfmnmaaGreatDoor
