import Derived.Test.YtlkfabkkjfmnmaaKab
import Derived.Test.YtlkfabkkjfmnmaaKae
namespace Go.Proofs.Ytlkfabkkjfmnmaa
open Go.RowKit
set_option linter.all false
def decF : Nat → List UInt8 → Option (List Int)
 | 0, l => if l = [] then some [] else none
 | f + 1, l => if l = [] then some [] else if (sg1 l).2 = 0 then none else (decF f (l.drop (sg1 l).2)).map ((sg1 l).1 :: ·)
theorem sg1_le (l : List UInt8) : (sg1 l).2 ≤ l.length ∧ (sg1 l).2 ≤ 4 := by
 cases l with
 | nil => exact ⟨Nat.le_refl _, by decide⟩
 | cons b r =>
  unfold sg1
  simp only
  by_cases h1 : szOf b.toNat = 1
  ·rw [if_pos h1]; exact ⟨by simp, by show 1 ≤ 4; decide⟩
  ·rw [if_neg h1]
   by_cases h2 : szOf b.toNat = 0 ∨ (b :: r).length < szOf b.toNat
   ·rw [if_pos h2]; exact ⟨Nat.zero_le _, by decide⟩
   ·rw [if_neg h2]
    have h4 : szOf b.toNat ≤ 4 := by unfold szOf; (repeat' split) <;> omega
    split
    ·split
     ·exact ⟨by omega, h4⟩
     ·exact ⟨Nat.zero_le _, by decide⟩
    ·exact ⟨Nat.zero_le _, by decide⟩
theorem decF_cons (f : Nat) (b : UInt8) (r : List UInt8) : decF (f + 1) (b :: r) = if (sg1 (b :: r)).2 = 0 then none else (decF f ((b :: r).drop (sg1 (b :: r)).2)).map ((sg1 (b :: r)).1 :: ·) := by
 rw [decF, if_neg (by simp)]
theorem decF_two : ∀ (f g : Nat) (l : List UInt8), l.length ≤ f → l.length ≤ g → decF f l = decF g l := by
 intro f
 induction f with
 | zero =>
  intro g l h _
  have : l = [] := List.eq_nil_of_length_eq_zero (by omega)
  subst this
  cases g <;> rfl
 | succ f ih =>
  intro g l h hg
  cases l with
  | nil => cases g <;> rfl
  | cons b r =>
   cases g with
   | zero => simp at hg
   | succ g =>
    rw [decF_cons, decF_cons]
    by_cases h0 : (sg1 (b :: r)).2 = 0
    ·rw [if_pos h0, if_pos h0]
    ·rw [if_neg h0, if_neg h0]
     have hd : ((b :: r).drop (sg1 (b :: r)).2).length ≤ r.length := by rw [List.length_drop, List.length_cons]; omega
     simp only [List.length_cons] at h hg
     rw [ih g _ (by omega) (by omega)]
def decO (l : List UInt8) : Option (List Int) := decF l.length l
theorem decO_nil : decO [] = some [] := rfl
theorem decO_step (l : List UInt8) (h : l ≠ []) (h0 : (sg1 l).2 ≠ 0) : decO l = (decO (l.drop (sg1 l).2)).map ((sg1 l).1 :: ·) := by
 cases l with
 | nil => exact absurd rfl h
 | cons b r =>
  show decF (r.length + 1) (b :: r) = _
  rw [decF_cons, if_neg h0]
  congr 1
  exact decF_two _ _ _ (by rw [List.length_drop, List.length_cons]; omega) (Nat.le_refl _)
theorem decO_bad (l : List UInt8) (h : l ≠ []) (h0 : (sg1 l).2 = 0) : decO l = none := by
 cases l with
 | nil => exact absurd rfl h
 | cons b r =>
  show decF (r.length + 1) (b :: r) = _
  rw [decF_cons, if_pos h0]
def decR (l : List UInt8) : List Int := (decO l).getD []
def decB (l : List UInt8) : Bool := (decO l).isSome
theorem isSgn_iff (c : Int) : isSgn c = true ↔ (0 ≤ c ∧ c ≤ 1114111 ∧ ¬ (55296 ≤ c ∧ c ≤ 57343)) := by unfold isSgn; exact decide_eq_true_iff
theorem ub_of (b : UInt8) (x : Int) (h : x = b.toNat) : ub x = b := by
 subst h
 unfold ub
 rw [Int.toNat_natCast]
 exact UInt8.ofNat_toNat
theorem isCont_iff (b : UInt8) : isCont b = true ↔ 128 ≤ b.toNat ∧ b.toNat < 192 := by unfold isCont; simp
theorem sg1_sound (l : List UInt8) (h : (sg1 l).2 ≠ 0) : isSgn (sg1 l).1 = true ∧ enc1 (sg1 l).1 = l.take (sg1 l).2 := by
 cases l with
 | nil => exact absurd rfl h
 | cons b r =>
  have hb := b.toNat_lt
  by_cases s1 : szOf b.toNat = 1
  ·have e := sg1_one (b :: r) (by simp) (by simpa using s1)
   rw [e]
   simp only [List.getElem_cons_zero]
   have hl : b.toNat < 128 := by unfold szOf at s1; split at s1 <;> (repeat' split at s1) <;> omega
   refine ⟨(isSgn_iff _).2 (by omega), ?_⟩
   unfold enc1
   rw [if_pos (by omega), ub_of b _ rfl]
   rfl
  ·by_cases s0 : szOf b.toNat = 0
   ·rw [sg1_zero (b :: r) (by simp) (by simpa using s0)] at h; exact absurd rfl h
   ·have s4 : szOf b.toNat = 2 ∨ szOf b.toNat = 3 ∨ szOf b.toNat = 4 := by unfold szOf at s1 s0 ⊢; (repeat' split) <;> simp_all
    by_cases hl : (b :: r).length < szOf b.toNat
    ·rw [sg1_short (b :: r) _ (by simp) (by simp) s1 hl] at h; exact absurd rfl h
    ·by_cases hk : ∀ x ∈ ((b :: r).drop 1).take (szOf b.toNat - 1), isCont x = true
     ·have hg := sg1_good (b :: r) (szOf b.toNat) (by simp) (by simp) s1 s0 (by omega) hk
      by_cases hi : leastN (szOf b.toNat) ≤ cont (cOf ((b :: r)[0]'(by simp)).toNat) (((b :: r).drop 1).take (szOf b.toNat - 1)) ∧ isSgn (cont (cOf ((b :: r)[0]'(by simp)).toNat) (((b :: r).drop 1).take (szOf b.toNat - 1))) = true
      ·rw [if_pos hi] at hg
       rw [hg]
       obtain ⟨hi1, hi2⟩ := hi
       simp only [List.getElem_cons_zero, List.drop_succ_cons, List.drop_zero] at hi1 hi2 hk ⊢
       refine ⟨hi2, ?_⟩
       have hs := (isSgn_iff _).1 hi2
       rcases s4 with s | s | s
       ·have hr : 192 ≤ b.toNat ∧ b.toNat < 224 := by unfold szOf at s; (repeat' split at s) <;> omega
        rw [s] at hi1 hs hk hl ⊢
        obtain ⟨x, r', rfl⟩ : ∃ x r', r = x :: r' := by
         cases r with
         | nil => simp at hl
         | cons x r' => exact ⟨x, r', rfl⟩
        ·have kx := (isCont_iff x).1 (hk x (by simp))
         simp only [Nat.reduceSub, List.take_succ_cons, List.take_zero, cont, List.foldl_cons, List.foldl_nil, leastN, if_true, c2 _ hr.1 hr.2] at hi1 hs ⊢
         unfold enc1
         rw [if_neg (by omega), if_pos (by omega), ub_of b _ (by omega), ub_of x _ (by omega)]
       ·have hr : 224 ≤ b.toNat ∧ b.toNat < 240 := by unfold szOf at s; (repeat' split at s) <;> omega
        rw [s] at hi1 hs hk hl ⊢
        obtain ⟨x, y, r', rfl⟩ : ∃ x y r', r = x :: y :: r' := by
         match r, hl with
         | [], h => simp at h
         | [x], h => simp at h
         | x :: y :: r', _ => exact ⟨x, y, r', rfl⟩
        ·have kx := (isCont_iff x).1 (hk x (by simp))
         have ky := (isCont_iff y).1 (hk y (by simp))
         simp only [Nat.reduceSub, List.take_succ_cons, List.take_zero, cont, List.foldl_cons, List.foldl_nil, leastN, c3 _ hr.1 hr.2] at hi1 hs ⊢
         simp only [Nat.reduceEqDiff, if_false, if_true] at hi1
         unfold enc1
         rw [if_neg (by omega), if_neg (by omega), if_pos (by omega), ub_of b _ (by omega), ub_of x _ (by omega), ub_of y _ (by omega)]
       ·have hr : 240 ≤ b.toNat ∧ b.toNat < 248 := by unfold szOf at s; (repeat' split at s) <;> omega
        rw [s] at hi1 hs hk hl ⊢
        obtain ⟨x, y, z, r', rfl⟩ : ∃ x y z r', r = x :: y :: z :: r' := by
         match r, hl with
         | [], h => simp at h
         | [x], h => simp at h
         | [x, y], h => simp at h
         | x :: y :: z :: r', _ => exact ⟨x, y, z, r', rfl⟩
        ·have kx := (isCont_iff x).1 (hk x (by simp))
         have ky := (isCont_iff y).1 (hk y (by simp))
         have kz := (isCont_iff z).1 (hk z (by simp))
         simp only [Nat.reduceSub, List.take_succ_cons, List.take_zero, cont, List.foldl_cons, List.foldl_nil, leastN, c4 _ hr.1 hr.2] at hi1 hs ⊢
         simp only [Nat.reduceEqDiff, if_false] at hi1
         unfold enc1
         rw [if_neg (by omega), if_neg (by omega), if_neg (by omega), ub_of b _ (by omega), ub_of x _ (by omega), ub_of y _ (by omega), ub_of z _ (by omega)]
      ·rw [if_neg hi] at hg; rw [hg] at h; exact absurd rfl h
     ·rw [sg1_bad (b :: r) _ (by simp) (by simp) s1 hk] at h; exact absurd rfl h
theorem decF_sound : ∀ (f : Nat) (t : List UInt8) (l : List Int), decF f t = some l → (∀ x ∈ l, isSgn x = true) ∧ encs l = t := by
 intro f
 induction f with
 | zero =>
  intro t l h
  unfold decF at h
  split at h
  ·rename_i e; subst e; cases h; exact ⟨by simp, rfl⟩
  ·cases h
 | succ f ih =>
  intro t l h
  cases t with
  | nil => unfold decF at h; rw [if_pos rfl] at h; cases h; exact ⟨by simp, rfl⟩
  | cons b r =>
   rw [decF_cons] at h
   by_cases h0 : (sg1 (b :: r)).2 = 0
   ·rw [if_pos h0] at h; cases h
   ·rw [if_neg h0] at h
    cases hd : decF f ((b :: r).drop (sg1 (b :: r)).2) with
    | none => rw [hd] at h; cases h
    | some m =>
     rw [hd] at h
     simp only [Option.map_some, Option.some.injEq] at h
     subst h
     obtain ⟨h1, h2⟩ := ih _ _ hd
     obtain ⟨h3, h4⟩ := sg1_sound (b :: r) h0
     refine ⟨fun x hx => ?_, ?_⟩
     ·rcases List.mem_cons.1 hx with rfl | hx
      ·exact h3
      ·exact h1 x hx
     ·have e : encs ((sg1 (b :: r)).1 :: m) = enc1 (sg1 (b :: r)).1 ++ encs m := by simp [encs]
      rw [e, h4, h2, List.take_append_drop]
theorem decO_sgn (t : List UInt8) (l : List Int) (h : decO t = some l) : ∀ x ∈ l, isSgn x = true := (decF_sound _ t l h).1
def foldF (c : Int) : List Int :=
 if (65 ≤ c ∧ c ≤ 90) ∨ (913 ≤ c ∧ c ≤ 929) ∨ (931 ≤ c ∧ c ≤ 937) ∨ (1040 ≤ c ∧ c ≤ 1071) ∨ c = 198 ∨ c = 208 ∨ c = 216 ∨ c = 222 then [c + 32]
 else if c = 223 then [115, 115] else if c = 962 then [963] else [c]
theorem foldF_len (c : Int) : (foldF c).length ≤ 2 := by unfold foldF; (repeat' split) <;> simp
set_option maxRecDepth 1000000 in
set_option maxHeartbeats 6000000 in
theorem specFoldOf_any (c : Int) (w : World) (hc : -9223372036854775808 ≤ c ∧ c ≤ 9223372036854775807) :
  Calls Try.prog 61 #[.int .i64 c] w fun e w' => ∃ g cp, e = .returned (.slice (some ⟨g, 0, none⟩) (foldF c).length cp) ∧ Own 3 1 w.heap.size w (.slice (some ⟨g, 0, none⟩) (foldF c).length cp) (foldF c).length (ints (foldF c)) w' := by
 have lit1 : ∀ (W : World) (x : Int), Below w.heap.size w W → Own 3 1 w.heap.size w (.slice (some ⟨W.heap.size, 0, none⟩) 1 1) 1 (ints [x]) (W.alloc (.cells #[.int .i64 x] 3)) := fun W x hb => Own.lit hb hb.size #[.int .i64 x] rfl (by decide)
 have lit2 : ∀ (W : World) (x y : Int), Below w.heap.size w W → Own 3 1 w.heap.size w (.slice (some ⟨W.heap.size, 0, none⟩) 2 2) 2 (ints [x, y]) (W.alloc (.cells #[.int .i64 x, .int .i64 y] 3)) := fun W x y hb => Own.lit hb hb.size #[.int .i64 x, .int .i64 y] rfl (by decide)
 have L1 := Lib.hid lit1
 have L2 := Lib.hid lit2
 clear lit1 lit2
 have bl : ∀ (W : World) o, Below w.heap.size w W → Below w.heap.size w (W.alloc o) := fun W o hb => hb.alloc hb.size o
 have BL := Lib.hid bl
 clear bl
 by_cases h65 : 65 ≤ c ∧ c ≤ 90
 ·have H : Hid (foldF c = [c + 32]) := Lib.hid (by unfold foldF; rw [if_pos (by omega)])
  obtain ⟨ha, hb⟩ := h65
  go_enter Try.func61, Try.ntmps61
  go_wp2_with (first | (go_at_call 22; (first | refine (l1In_yes _ _ _ _ (by omega) (by omega)).mono ?_ | refine (l1In_no _ _ _ _ (by omega)).mono ?_); rintro e w' ⟨rfl, rfl⟩) | (go_at_call 63; refine (among_any2 c _ 4 4 [198, 208, 216, 222] _ (lit_rd rfl (by decide))).mono ?_; rintro e w1 ⟨rfl, hb1⟩; rw [AM]))
  go_ret
  rw [show foldF c = [c + 32] from H.out]
  exact ⟨_, _, rfl, L1.out _ _ (by first | exact Below.refl _ _ | exact ((Below.refl _ _).alloc (Nat.le_refl _) _).trans (hb1.mono (by simp)))⟩
 ·skip
  by_cases h913 : 913 ≤ c ∧ c ≤ 929
  ·have H : Hid (foldF c = [c + 32]) := Lib.hid (by unfold foldF; rw [if_pos (by omega)])
   obtain ⟨ha, hb⟩ := h913
   clear h65
   go_enter Try.func61, Try.ntmps61
   go_wp2_with (first | (go_at_call 22; (first | refine (l1In_yes _ _ _ _ (by omega) (by omega)).mono ?_ | refine (l1In_no _ _ _ _ (by omega)).mono ?_); rintro e w' ⟨rfl, rfl⟩) | (go_at_call 63; refine (among_any2 c _ 4 4 [198, 208, 216, 222] _ (lit_rd rfl (by decide))).mono ?_; rintro e w1 ⟨rfl, hb1⟩; rw [AM]))
   go_ret
   rw [show foldF c = [c + 32] from H.out]
   exact ⟨_, _, rfl, L1.out _ _ (by first | exact Below.refl _ _ | exact ((Below.refl _ _).alloc (Nat.le_refl _) _).trans (hb1.mono (by simp)))⟩
  ·skip
   by_cases h931 : 931 ≤ c ∧ c ≤ 937
   ·have H : Hid (foldF c = [c + 32]) := Lib.hid (by unfold foldF; rw [if_pos (by omega)])
    obtain ⟨ha, hb⟩ := h931
    clear h65 h913
    go_enter Try.func61, Try.ntmps61
    go_wp2_with (first | (go_at_call 22; (first | refine (l1In_yes _ _ _ _ (by omega) (by omega)).mono ?_ | refine (l1In_no _ _ _ _ (by omega)).mono ?_); rintro e w' ⟨rfl, rfl⟩) | (go_at_call 63; refine (among_any2 c _ 4 4 [198, 208, 216, 222] _ (lit_rd rfl (by decide))).mono ?_; rintro e w1 ⟨rfl, hb1⟩; rw [AM]))
    go_ret
    rw [show foldF c = [c + 32] from H.out]
    exact ⟨_, _, rfl, L1.out _ _ (by first | exact Below.refl _ _ | exact ((Below.refl _ _).alloc (Nat.le_refl _) _).trans (hb1.mono (by simp)))⟩
   ·skip
    by_cases h1040 : 1040 ≤ c ∧ c ≤ 1071
    ·have H : Hid (foldF c = [c + 32]) := Lib.hid (by unfold foldF; rw [if_pos (by omega)])
     obtain ⟨ha, hb⟩ := h1040
     clear h65 h913 h931
     go_enter Try.func61, Try.ntmps61
     go_wp2_with (first | (go_at_call 22; (first | refine (l1In_yes _ _ _ _ (by omega) (by omega)).mono ?_ | refine (l1In_no _ _ _ _ (by omega)).mono ?_); rintro e w' ⟨rfl, rfl⟩) | (go_at_call 63; refine (among_any2 c _ 4 4 [198, 208, 216, 222] _ (lit_rd rfl (by decide))).mono ?_; rintro e w1 ⟨rfl, hb1⟩; rw [AM]))
     go_ret
     rw [show foldF c = [c + 32] from H.out]
     exact ⟨_, _, rfl, L1.out _ _ (by first | exact Below.refl _ _ | exact ((Below.refl _ _).alloc (Nat.le_refl _) _).trans (hb1.mono (by simp)))⟩
    ·skip
     have AM : among c [198, 208, 216, 222] = decide (c = 198 ∨ c = 208 ∨ c = 216 ∨ c = 222) := by
      rw [Bool.eq_iff_iff]
      simp [among]
      omega
     by_cases e198 : c = 198
     ·subst e198
      have H : Hid (foldF 198 = [230]) := Lib.hid (by decide)
      have AM : among 198 [198, 208, 216, 222] = true := by decide
      clear hc
      go_enter Try.func61, Try.ntmps61
      go_wp2_with (first | (go_at_call 22; (first | refine (l1In_yes _ _ _ _ (by omega) (by omega)).mono ?_ | refine (l1In_no _ _ _ _ (by omega)).mono ?_); rintro e w' ⟨rfl, rfl⟩) | (go_at_call 63; refine (among_any2 198 _ 4 4 [198, 208, 216, 222] _ (lit_rd rfl (by decide))).mono ?_; rintro e w1 ⟨rfl, hb1⟩; rw [AM]))
      go_ret
      rw [show foldF 198 = [230] from H.out]
      exact ⟨_, _, rfl, L1.out _ _ (by first | exact Below.refl _ _ | exact ((Below.refl _ _).alloc (Nat.le_refl _) _).trans (hb1.mono (by simp)))⟩
     ·have n198 : (c == 198) = false := by simpa using e198
      by_cases e208 : c = 208
      ·subst e208
       have H : Hid (foldF 208 = [240]) := Lib.hid (by decide)
       have AM : among 208 [198, 208, 216, 222] = true := by decide
       clear hc
       go_enter Try.func61, Try.ntmps61
       go_wp2_with (first | (go_at_call 22; (first | refine (l1In_yes _ _ _ _ (by omega) (by omega)).mono ?_ | refine (l1In_no _ _ _ _ (by omega)).mono ?_); rintro e w' ⟨rfl, rfl⟩) | (go_at_call 63; refine (among_any2 208 _ 4 4 [198, 208, 216, 222] _ (lit_rd rfl (by decide))).mono ?_; rintro e w1 ⟨rfl, hb1⟩; rw [AM]))
       go_ret
       rw [show foldF 208 = [240] from H.out]
       exact ⟨_, _, rfl, L1.out _ _ (by first | exact Below.refl _ _ | exact ((Below.refl _ _).alloc (Nat.le_refl _) _).trans (hb1.mono (by simp)))⟩
      ·have n208 : (c == 208) = false := by simpa using e208
       by_cases e216 : c = 216
       ·subst e216
        have H : Hid (foldF 216 = [248]) := Lib.hid (by decide)
        have AM : among 216 [198, 208, 216, 222] = true := by decide
        clear hc
        go_enter Try.func61, Try.ntmps61
        go_wp2_with (first | (go_at_call 22; (first | refine (l1In_yes _ _ _ _ (by omega) (by omega)).mono ?_ | refine (l1In_no _ _ _ _ (by omega)).mono ?_); rintro e w' ⟨rfl, rfl⟩) | (go_at_call 63; refine (among_any2 216 _ 4 4 [198, 208, 216, 222] _ (lit_rd rfl (by decide))).mono ?_; rintro e w1 ⟨rfl, hb1⟩; rw [AM]))
        go_ret
        rw [show foldF 216 = [248] from H.out]
        exact ⟨_, _, rfl, L1.out _ _ (by first | exact Below.refl _ _ | exact ((Below.refl _ _).alloc (Nat.le_refl _) _).trans (hb1.mono (by simp)))⟩
       ·have n216 : (c == 216) = false := by simpa using e216
        by_cases e222 : c = 222
        ·subst e222
         have H : Hid (foldF 222 = [254]) := Lib.hid (by decide)
         have AM : among 222 [198, 208, 216, 222] = true := by decide
         clear hc
         go_enter Try.func61, Try.ntmps61
         go_wp2_with (first | (go_at_call 22; (first | refine (l1In_yes _ _ _ _ (by omega) (by omega)).mono ?_ | refine (l1In_no _ _ _ _ (by omega)).mono ?_); rintro e w' ⟨rfl, rfl⟩) | (go_at_call 63; refine (among_any2 222 _ 4 4 [198, 208, 216, 222] _ (lit_rd rfl (by decide))).mono ?_; rintro e w1 ⟨rfl, hb1⟩; rw [AM]))
         go_ret
         rw [show foldF 222 = [254] from H.out]
         exact ⟨_, _, rfl, L1.out _ _ (by first | exact Below.refl _ _ | exact ((Below.refl _ _).alloc (Nat.le_refl _) _).trans (hb1.mono (by simp)))⟩
        ·have n222 : (c == 222) = false := by simpa using e222
         by_cases e223 : c = 223
         ·subst e223
          have H : Hid (foldF 223 = [115, 115]) := Lib.hid (by decide)
          have AM : among 223 [198, 208, 216, 222] = false := by decide
          clear hc
          go_enter Try.func61, Try.ntmps61
          go_wp2_with (first | (go_at_call 22; (first | refine (l1In_yes _ _ _ _ (by omega) (by omega)).mono ?_ | refine (l1In_no _ _ _ _ (by omega)).mono ?_); rintro e w' ⟨rfl, rfl⟩) | (go_at_call 63; refine (among_any2 223 _ 4 4 [198, 208, 216, 222] _ (lit_rd rfl (by decide))).mono ?_; rintro e w1 ⟨rfl, hb1⟩; rw [AM]))
          go_ret
          rw [show foldF 223 = [115, 115] from H.out]
          exact ⟨_, _, rfl, L2.out _ _ _ (by first | exact Below.refl _ _ | exact ((Below.refl _ _).alloc (Nat.le_refl _) _).trans (hb1.mono (by simp)))⟩
         ·have n223 : (c == 223) = false := by simpa using e223
          by_cases e962 : c = 962
          ·subst e962
           have H : Hid (foldF 962 = [963]) := Lib.hid (by decide)
           have AM : among 962 [198, 208, 216, 222] = false := by decide
           clear hc
           go_enter Try.func61, Try.ntmps61
           go_wp2_with (first | (go_at_call 22; (first | refine (l1In_yes _ _ _ _ (by omega) (by omega)).mono ?_ | refine (l1In_no _ _ _ _ (by omega)).mono ?_); rintro e w' ⟨rfl, rfl⟩) | (go_at_call 63; refine (among_any2 962 _ 4 4 [198, 208, 216, 222] _ (lit_rd rfl (by decide))).mono ?_; rintro e w1 ⟨rfl, hb1⟩; rw [AM]))
           go_ret
           rw [show foldF 962 = [963] from H.out]
           exact ⟨_, _, rfl, L1.out _ _ (by first | exact Below.refl _ _ | exact ((Below.refl _ _).alloc (Nat.le_refl _) _).trans (hb1.mono (by simp)))⟩
          ·have n962 : (c == 962) = false := by simpa using e962
           have H : Hid (foldF c = [c]) := Lib.hid (by unfold foldF; rw [if_neg (by omega), if_neg (by omega), if_neg (by omega)])
           have AM2 : among c [198, 208, 216, 222] = false := by rw [AM]; simp; omega
           clear AM
           have AM := AM2
           go_enter Try.func61, Try.ntmps61
           go_wp2_with (first | (go_at_call 22; (first | refine (l1In_yes _ _ _ _ (by omega) (by omega)).mono ?_ | refine (l1In_no _ _ _ _ (by omega)).mono ?_); rintro e w' ⟨rfl, rfl⟩) | (go_at_call 63; refine (among_any2 c _ 4 4 [198, 208, 216, 222] _ (lit_rd rfl (by decide))).mono ?_; rintro e w1 ⟨rfl, hb1⟩; rw [AM]))
           go_ret
           rw [show foldF c = [c] from H.out]
           exact ⟨_, _, rfl, L1.out _ _ (by first | exact Below.refl _ _ | exact ((Below.refl _ _).alloc (Nat.le_refl _) _).trans (hb1.mono (by simp)))⟩

def foldL (l : List Int) : List Int := l.flatMap foldF
theorem foldL_len (l : List Int) : (foldL l).length ≤ 2 * l.length := by
 induction l with
 | nil => simp [foldL]
 | cons x l ih =>
  have := foldF_len x
  simp only [foldL, List.flatMap_cons, List.length_append, List.length_cons] at *
  omega
set_option maxRecDepth 1000000 in
set_option maxHeartbeats 6000000 in
theorem specFold_any (a : Option Addr) (n cap : Nat) (l : List Int) (w : World) (h : Rd w a n cap 1 (ints l)) (hn : n ≤ 1048576) (hw : ∀ x ∈ l, -9223372036854775808 ≤ x ∧ x ≤ 9223372036854775807) :
  Calls Try.prog 58 #[.slice a n cap] w fun e w' => ∃ a' c', e = .returned (.slice a' (foldL l).length c') ∧ Own 3 1 w.heap.size w (.slice a' (foldL l).length c') (foldL l).length (ints (foldL l)) w' := by
 have hl : l.length = n := by have := h.len; simpa using this
 subst hl
 go_enter Try.func58, Try.ntmps58
 go_wp2
 go_loopg [3, 4] l.length (fun gg o i wr => ∃ k : Nat, k + gg = l.length ∧ i = .int .i64 k ∧ Own 3 1 w.heap.size w o (foldL (l.take k)).length (ints (foldL (l.take k))) wr)
 case atStart => exact ⟨0, by omega, rfl, by simpa [foldL, ints] using Own.lit (e := 3) (size := 1) (n := 0) (Below.refl w.heap.size w) (Nat.le_refl _) #[] rfl (by decide)⟩
 case round =>
  obtain ⟨k, hk, rfl, hOk⟩ := hrel
  obtain ⟨av, cv, rfl, _, _⟩ := hOk.shape
  by_cases hlt : k < l.length
  ·obtain ⟨b, off, rfl, hbs, hc⟩ := h.at' (by omega)
   have hc1 := hc k (by simpa using hlt)
   rw [← hOk.below.cell (p := ⟨b, off + k, none⟩) (by exact hbs), ints_get l k hlt] at hc1
   have hx := hw l[k] (List.getElem_mem _)
   have hS : Hid (foldL (l.take (k + 1)) = foldL (l.take k) ++ foldF l[k]) := Lib.hid (by rw [List.take_succ_eq_append_getElem hlt, foldL, List.flatMap_append]; simp [foldL])
   have hb1 : (foldL (l.take k)).length ≤ 2097152 := by have := foldL_len (l.take k); rw [List.length_take] at this; omega
   have hb2 := foldF_len l[k]
   clear hc h hw
   generalize foldL (l.take k) = pre at *
   generalize l[k] = x at *
   go_wp2_with fail
   refine (specFoldOf_any x _ hx).mono ?_
   rintro e w1 ⟨g1, c1, rfl, hF⟩
   have hOF := hOk.kept hF.below
   have hFr := hF.rd
   go_wp2_with (at_builtin; go_loud (refine wp_app rfl _ _ 69 rfl 3 (.int .i64 0) 1 8 Try.underlying69 info_i64 rfl (by decide) w.heap.size w _ _ _ (by rfl) (by exact hOF) _ _ _ _ (by rfl) (by exact hFr) (ints_one _) (by omega) (by unfold maxLen; omega) ?_); intro a2 c2 w2 hO2)
   go_wp2
   go_roundg (gk - 1)
   case measure => omega
   case rel => exact ⟨k + 1, by omega, by go_num, by rw [hS.out, List.length_append, ints_append]; exact hO2⟩
  ·have hkl : k = l.length := by omega
   subst hkl
   rw [List.take_length] at hOk ⊢
   go_wp2
   go_ret
   exact ⟨_, _, rfl, hOk⟩
end Go.Proofs.Ytlkfabkkjfmnmaa
