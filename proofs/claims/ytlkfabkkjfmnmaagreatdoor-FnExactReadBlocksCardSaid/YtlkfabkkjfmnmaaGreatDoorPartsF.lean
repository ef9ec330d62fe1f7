/- The parts of a sign: one table for the program and the reference, and that both look up the same. -/
import Derived.Test.YtlkfabkkjfmnmaaGreatDoorInts
namespace Go.Proofs.YtlkfabkkjfmnmaaGreatDoor
open Go.RowKit

/-- The pairs of a row: signs, letters, mark. -/
def rowT : List Int → List Int → Int → List (Int × List Int)
  | a :: f, b :: l, m => (a, if 0 < m then [b, m] else [b]) :: rowT f l m
  | _, _, _ => []
/-- What a table says of a sign. -/
def asc : List (Int × List Int) → Int → Option (List Int)
  | [], _ => none
  | (k, v) :: T, c => if k = c then some v else asc T c
theorem asc_append (A B : List (Int × List Int)) (c : Int) : asc (A ++ B) c = (asc A c).or (asc B c) := by
  induction A with
  | nil => rfl
  | cons p A ih =>
    obtain ⟨k, v⟩ := p
    simp only [List.cons_append, asc]
    split
    · rfl
    · exact ih
theorem asc_mem : ∀ (A : List (Int × List Int)) (c : Int) (v : List Int), asc A c = some v → (c, v) ∈ A := by
  intro A
  induction A with
  | nil => intro c v h; cases h
  | cons p A ih =>
    obtain ⟨k, u⟩ := p
    intro c v h
    simp only [asc] at h
    split at h
    · rename_i e; subst e; cases h; exact List.mem_cons_self ..
    · exact List.mem_cons_of_mem _ (ih c v h)
theorem asc_same (A B : List (Int × List Int)) (h1 : ∀ p ∈ A, asc B p.1 = some p.2) (h2 : ∀ p ∈ B, asc A p.1 = some p.2) (c : Int) : asc A c = asc B c := by
  cases ha : asc A c with
  | some v => exact (h1 _ (asc_mem A c v ha)).symm
  | none =>
    cases hb : asc B c with
    | none => rfl
    | some v => rw [h2 _ (asc_mem B c v hb)] at ha; cases ha
theorem asc_out (A : List (Int × List Int)) (lo hi : Int) (h : ∀ p ∈ A, lo ≤ p.1 ∧ p.1 ≤ hi) (c : Int) (hc : c < lo ∨ hi < c) : asc A c = none := by
  cases ha : asc A c with
  | none => rfl
  | some v => have := h _ (asc_mem A c v ha); omega
theorem row_hit : ∀ (f l : List Int) (m c : Int) (k : Nat) (hk : k < f.length) (hl : f.length = l.length), f[k] = c → (∀ j (hj : j < k), f[j]'(by omega) ≠ c) →
    asc (rowT f l m) c = some (if 0 < m then [l[k]'(by omega), m] else [l[k]'(by omega)]) := by
  intro f
  induction f with
  | nil => intro l m c k hk; simp at hk
  | cons a f ih =>
    intro l m c k hk hl he hf
    cases l with
    | nil => simp at hl
    | cons b l =>
      cases k with
      | zero => simp only [List.getElem_cons_zero] at he ⊢; simp only [rowT, asc, if_pos he]
      | succ k =>
        have h0 := hf 0 (by omega)
        simp only [List.getElem_cons_zero] at h0
        simp only [rowT, asc, if_neg h0, List.getElem_cons_succ] at he ⊢
        exact ih l m c k (by simpa using hk) (by simpa using hl) he (fun j hj => by have := hf (j + 1) (by omega); simpa using this)
theorem row_miss : ∀ (f l : List Int) (m c : Int), c ∉ f → asc (rowT f l m) c = none := by
  intro f
  induction f with
  | nil => intro l m c _; cases l <;> rfl
  | cons a f ih =>
    intro l m c h
    cases l with
    | nil => rfl
    | cons b l =>
      simp only [List.mem_cons, not_or] at h
      have h1 : ¬ a = c := fun e => h.1 e.symm
      simp only [rowT, asc, if_neg h1]
      exact ih l m c h.2

abbrev PRow := List Int × List Int × Int
def flat (T : List PRow) : List (Int × List Int) := T.flatMap fun r => rowT r.1 r.2.1 r.2.2
/-- The program's rows. -/
def tabI : List PRow := [
  ([192, 200, 204, 210, 217, 224, 232, 236, 242, 249], [65, 69, 73, 79, 85, 97, 101, 105, 111, 117], 768),
  ([193, 201, 205, 211, 218, 221, 225, 233, 237, 243, 250, 253], [65, 69, 73, 79, 85, 89, 97, 101, 105, 111, 117, 121], 769),
  ([194, 202, 206, 212, 219, 226, 234, 238, 244, 251], [65, 69, 73, 79, 85, 97, 101, 105, 111, 117], 770),
  ([195, 209, 213, 227, 241, 245], [65, 78, 79, 97, 110, 111], 771),
  ([196, 203, 207, 214, 220, 228, 235, 239, 246, 252, 255], [65, 69, 73, 79, 85, 97, 101, 105, 111, 117, 121], 776),
  ([197, 229], [65, 97], 778),
  ([199, 231], [67, 99], 807),
  ([902, 904, 905, 906, 908, 910, 911], [913, 917, 919, 921, 927, 933, 937], 769),
  ([940, 941, 942, 943, 972, 973, 974], [945, 949, 951, 953, 959, 965, 969], 769),
  ([469, 470], [220, 252], 772),
  ([7840, 7841], [65, 97], 803),
  ([7852, 7853], [7840, 7841], 770),
  ([8486, 8491], [937, 197], 0)]
/-- The reference's rows. -/
def tabS : List PRow := [
  ([192, 200, 204, 210, 217, 224, 232, 236, 242, 249], [65, 69, 73, 79, 85, 97, 101, 105, 111, 117], 768),
  ([193, 201, 205, 211, 218, 221, 225, 233, 237, 243, 250, 253], [65, 69, 73, 79, 85, 89, 97, 101, 105, 111, 117, 121], 769),
  ([194, 202, 206, 212, 219, 226, 234, 238, 244, 251], [65, 69, 73, 79, 85, 97, 101, 105, 111, 117], 770),
  ([195, 209, 213, 227, 241, 245], [65, 78, 79, 97, 110, 111], 771),
  ([196, 203, 207, 214, 220, 228, 235, 239, 246, 252, 255], [65, 69, 73, 79, 85, 97, 101, 105, 111, 117, 121], 776),
  ([197, 229], [65, 97], 778),
  ([199, 231], [67, 99], 807),
  ([7840, 7841], [65, 97], 803)]
def greekF : List Int := [902, 904, 905, 906, 908, 910, 911, 940, 941, 942, 943, 972, 973, 974]
def greekL : List Int := [913, 917, 919, 921, 927, 933, 937, 945, 949, 951, 953, 959, 965, 969]
def restS : List (Int × List Int) := [(469, [220, 772]), (470, [252, 772]), (7852, [7840, 770]), (7853, [7841, 770]), (8486, [937]), (8491, [197])]
def allS : List (Int × List Int) := flat tabS ++ (rowT greekF greekL 769 ++ restS)

def hang (c : Int) : List Int := [4352 + (c - 44032) / 588, 4449 + (c - 44032) % 588 / 28] ++ (if 0 < (c - 44032) % 28 then [4519 + (c - 44032) % 28] else [])
/-- The parts of a sign. -/
def partsF (c : Int) : List Int := if 44032 ≤ c ∧ c ≤ 55203 then hang c else (asc (flat tabI) c).getD []

theorem tab_range : ∀ p ∈ flat tabI, (192 : Int) ≤ p.1 ∧ p.1 ≤ 8491 := by decide +kernel
theorem tab_same (c : Int) : asc (flat tabI) c = asc allS c := asc_same _ _ (by decide +kernel) (by decide +kernel) c
theorem partsF_out (c : Int) (h : c < 192 ∨ 8491 < c) (h2 : ¬ (44032 ≤ c ∧ c ≤ 55203)) : partsF c = [] := by
  unfold partsF
  rw [if_neg h2, asc_out _ 192 8491 tab_range c h]
  rfl
theorem allS_some (c : Int) (v : List Int) (h : asc allS c = some v) : partsF c = v := by
  have h' := h
  rw [← tab_same] at h
  have := tab_range _ (asc_mem _ _ _ h)
  unfold partsF
  rw [if_neg (by simp only at this; omega), h]
  rfl
theorem allS_none (c : Int) (h : asc allS c = none) : partsF c = if 44032 ≤ c ∧ c ≤ 55203 then hang c else [] := by
  rw [← tab_same] at h
  unfold partsF
  rw [h]
  rfl
theorem flat_drop (T : List PRow) (i : Nat) (r : PRow) (h : T[i]? = some r) (c : Int) : asc (flat (T.drop i)) c = (asc (rowT r.1 r.2.1 r.2.2) c).or (asc (flat (T.drop (i + 1))) c) := by
  obtain ⟨hi, rfl⟩ := List.getElem?_eq_some_iff.1 h
  rw [List.drop_eq_getElem_cons hi, flat, List.flatMap_cons, asc_append]
  rfl
theorem hang_len (c : Int) : (hang c).length ≤ 3 := by unfold hang; split <;> simp
theorem partsF_len (c : Int) : (partsF c).length ≤ 3 := by
  unfold partsF
  split
  · exact hang_len c
  · cases h : asc (flat tabI) c with
    | none => simp
    | some v =>
      have h2 : ∀ p ∈ flat tabI, p.2.length ≤ 2 := by decide +kernel
      have := h2 _ (asc_mem _ _ _ h)
      simp only [Option.getD_some]
      simp only at this
      omega
theorem partsF_range (c : Int) : ∀ x ∈ partsF c, 0 ≤ x ∧ x ≤ 65535 := by
  unfold partsF
  split
  · intro x hx
    unfold hang at hx
    split at hx
    all_goals simp only [List.mem_append, List.mem_cons, List.not_mem_nil, or_false] at hx
    all_goals omega
  · cases h : asc (flat tabI) c with
    | none => intro x hx; cases hx
    | some v =>
      have h2 : ∀ p ∈ flat tabI, ∀ x ∈ p.2, (0 : Int) ≤ x ∧ x ≤ 65535 := by decide +kernel
      exact h2 _ (asc_mem _ _ _ h)
end Go.Proofs.YtlkfabkkjfmnmaaGreatDoor
