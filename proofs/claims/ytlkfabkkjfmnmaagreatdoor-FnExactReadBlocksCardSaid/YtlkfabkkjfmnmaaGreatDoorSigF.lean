/- Signs in plain Lean: what is written is read as it, and what is read is written so. -/
import Derived.Test.YtlkfabkkjfmnmaaGreatDoorDecF
namespace Go.Proofs.YtlkfabkkjfmnmaaGreatDoor
open Go.RowKit

theorem isSgn_iff (c : Int) : isSgn c = true ↔ (0 ≤ c ∧ c ≤ 1114111 ∧ ¬ (55296 ≤ c ∧ c ≤ 57343)) := by unfold isSgn; exact decide_eq_true_iff
/-- A byte is its number. -/
theorem ub_of (b : UInt8) (x : Int) (h : x = b.toNat) : ub x = b := by
  subst h
  unfold ub
  rw [Int.toNat_natCast]
  exact UInt8.ofNat_toNat
theorem isCont_iff (b : UInt8) : isCont b = true ↔ 128 ≤ b.toNat ∧ b.toNat < 192 := by unfold isCont; simp
/-- What is read is written so. -/
theorem sg1_sound (l : List UInt8) (h : (sg1 l).2 ≠ 0) : isSgn (sg1 l).1 = true ∧ enc1 (sg1 l).1 = l.take (sg1 l).2 := by
  cases l with
  | nil => exact absurd rfl h
  | cons b r =>
    have hb := b.toNat_lt
    by_cases s1 : szOf b.toNat = 1
    · have e := sg1_one (b :: r) (by simp) (by simpa using s1)
      rw [e]
      simp only [List.getElem_cons_zero]
      have hl : b.toNat < 128 := by unfold szOf at s1; split at s1 <;> (repeat' split at s1) <;> omega
      refine ⟨(isSgn_iff _).2 (by omega), ?_⟩
      unfold enc1
      rw [if_pos (by omega), ub_of b _ rfl]
      rfl
    · by_cases s0 : szOf b.toNat = 0
      · rw [sg1_zero (b :: r) (by simp) (by simpa using s0)] at h; exact absurd rfl h
      · have s4 : szOf b.toNat = 2 ∨ szOf b.toNat = 3 ∨ szOf b.toNat = 4 := by unfold szOf at s1 s0 ⊢; (repeat' split) <;> simp_all
        by_cases hl : (b :: r).length < szOf b.toNat
        · rw [sg1_short (b :: r) _ (by simp) (by simp) s1 hl] at h; exact absurd rfl h
        · by_cases hk : ∀ x ∈ ((b :: r).drop 1).take (szOf b.toNat - 1), isCont x = true
          · have hg := sg1_good (b :: r) (szOf b.toNat) (by simp) (by simp) s1 s0 (by omega) hk
            by_cases hi : leastN (szOf b.toNat) ≤ cont (cOf ((b :: r)[0]'(by simp)).toNat) (((b :: r).drop 1).take (szOf b.toNat - 1)) ∧ isSgn (cont (cOf ((b :: r)[0]'(by simp)).toNat) (((b :: r).drop 1).take (szOf b.toNat - 1))) = true
            · rw [if_pos hi] at hg
              rw [hg]
              obtain ⟨hi1, hi2⟩ := hi
              simp only [List.getElem_cons_zero, List.drop_succ_cons, List.drop_zero] at hi1 hi2 hk ⊢
              refine ⟨hi2, ?_⟩
              have hs := (isSgn_iff _).1 hi2
              rcases s4 with s | s | s
              · have hr : 192 ≤ b.toNat ∧ b.toNat < 224 := by unfold szOf at s; (repeat' split at s) <;> omega
                rw [s] at hi1 hs hk hl ⊢
                obtain ⟨x, r', rfl⟩ : ∃ x r', r = x :: r' := by
                  cases r with
                  | nil => simp at hl
                  | cons x r' => exact ⟨x, r', rfl⟩
                · have kx := (isCont_iff x).1 (hk x (by simp))
                  simp only [Nat.reduceSub, List.take_succ_cons, List.take_zero, cont, List.foldl_cons, List.foldl_nil, leastN, if_true, c2 _ hr.1 hr.2] at hi1 hs ⊢
                  unfold enc1
                  rw [if_neg (by omega), if_pos (by omega), ub_of b _ (by omega), ub_of x _ (by omega)]
              · have hr : 224 ≤ b.toNat ∧ b.toNat < 240 := by unfold szOf at s; (repeat' split at s) <;> omega
                rw [s] at hi1 hs hk hl ⊢
                obtain ⟨x, y, r', rfl⟩ : ∃ x y r', r = x :: y :: r' := by
                  match r, hl with
                  | [], h => simp at h
                  | [x], h => simp at h
                  | x :: y :: r', _ => exact ⟨x, y, r', rfl⟩
                · have kx := (isCont_iff x).1 (hk x (by simp))
                  have ky := (isCont_iff y).1 (hk y (by simp))
                  simp only [Nat.reduceSub, List.take_succ_cons, List.take_zero, cont, List.foldl_cons, List.foldl_nil, leastN, c3 _ hr.1 hr.2] at hi1 hs ⊢
                  simp only [Nat.reduceEqDiff, if_false, if_true] at hi1
                  unfold enc1
                  rw [if_neg (by omega), if_neg (by omega), if_pos (by omega), ub_of b _ (by omega), ub_of x _ (by omega), ub_of y _ (by omega)]
              · have hr : 240 ≤ b.toNat ∧ b.toNat < 248 := by unfold szOf at s; (repeat' split at s) <;> omega
                rw [s] at hi1 hs hk hl ⊢
                obtain ⟨x, y, z, r', rfl⟩ : ∃ x y z r', r = x :: y :: z :: r' := by
                  match r, hl with
                  | [], h => simp at h
                  | [x], h => simp at h
                  | [x, y], h => simp at h
                  | x :: y :: z :: r', _ => exact ⟨x, y, z, r', rfl⟩
                · have kx := (isCont_iff x).1 (hk x (by simp))
                  have ky := (isCont_iff y).1 (hk y (by simp))
                  have kz := (isCont_iff z).1 (hk z (by simp))
                  simp only [Nat.reduceSub, List.take_succ_cons, List.take_zero, cont, List.foldl_cons, List.foldl_nil, leastN, c4 _ hr.1 hr.2] at hi1 hs ⊢
                  simp only [Nat.reduceEqDiff, if_false] at hi1
                  unfold enc1
                  rw [if_neg (by omega), if_neg (by omega), if_neg (by omega), ub_of b _ (by omega), ub_of x _ (by omega), ub_of y _ (by omega), ub_of z _ (by omega)]
            · rw [if_neg hi] at hg; rw [hg] at h; exact absurd rfl h
          · rw [sg1_bad (b :: r) _ (by simp) (by simp) s1 hk] at h; exact absurd rfl h
theorem decF_sound : ∀ (f : Nat) (t : List UInt8) (l : List Int), decF f t = some l → (∀ x ∈ l, isSgn x = true) ∧ encs l = t := by
  intro f
  induction f with
  | zero =>
    intro t l h
    unfold decF at h
    split at h
    · rename_i e; subst e; cases h; exact ⟨by simp, rfl⟩
    · cases h
  | succ f ih =>
    intro t l h
    cases t with
    | nil => unfold decF at h; rw [if_pos rfl] at h; cases h; exact ⟨by simp, rfl⟩
    | cons b r =>
      rw [decF_cons] at h
      by_cases h0 : (sg1 (b :: r)).2 = 0
      · rw [if_pos h0] at h; cases h
      · rw [if_neg h0] at h
        cases hd : decF f ((b :: r).drop (sg1 (b :: r)).2) with
        | none => rw [hd] at h; cases h
        | some m =>
          rw [hd] at h
          simp only [Option.map_some, Option.some.injEq] at h
          subst h
          obtain ⟨h1, h2⟩ := ih _ _ hd
          obtain ⟨h3, h4⟩ := sg1_sound (b :: r) h0
          refine ⟨fun x hx => ?_, ?_⟩
          · rcases List.mem_cons.1 hx with rfl | hx
            · exact h3
            · exact h1 x hx
          · have e : encs ((sg1 (b :: r)).1 :: m) = enc1 (sg1 (b :: r)).1 ++ encs m := by simp [encs]
            rw [e, h4, h2, List.take_append_drop]
theorem decO_sgn (t : List UInt8) (l : List Int) (h : decO t = some l) : ∀ x ∈ l, isSgn x = true := (decF_sound _ t l h).1
end Go.Proofs.YtlkfabkkjfmnmaaGreatDoor
