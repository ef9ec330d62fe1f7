/- Apart in plain Lean: signs taken to their parts, and each one brought ahead of those of a higher class: what it comes to and its laws. -/
import Derived.Test.YtlkfabkkjfmnmaaGreatDoorClass
import Derived.Test.YtlkfabkkjfmnmaaGreatDoorTake
namespace Go.Proofs.YtlkfabkkjfmnmaaGreatDoor
open Go.RowKit

/-- A sign into a list that stands the last first. -/
def insR (x : Int) : List Int → List Int
  | [] => [x]
  | y :: r => if 0 < classF x ∧ classF x < classF y then y :: insR x r else x :: y :: r
/-- A sign behind a list, brought ahead of those of a higher class. -/
def insF (l : List Int) (x : Int) : List Int := (insR x l.reverse).reverse
def insAll (l : List Int) : List Int := l.foldl insF []
/-- A sign in its parts, and these in theirs. -/
def takeT (c : Int) : List Int := takeF 3 c
/-- Apart. -/
def apartF (l : List Int) : List Int := insAll (l.flatMap takeT)

theorem insR_len (x : Int) : ∀ r, (insR x r).length = r.length + 1 := by
  intro r
  induction r with
  | nil => rfl
  | cons y r ih => unfold insR; split <;> simp [ih]
theorem insF_len (l : List Int) (x : Int) : (insF l x).length = l.length + 1 := by simp [insF, insR_len]
theorem foldIns_len (m : List Int) : ∀ s, (m.foldl insF s).length = s.length + m.length := by
  induction m with
  | nil => intro s; simp
  | cons x m ih => intro s; rw [List.foldl_cons, ih, insF_len, List.length_cons]; omega
theorem insAll_len (m : List Int) : (insAll m).length = m.length := by rw [insAll, foldIns_len]; simp
theorem insAll_snoc (m : List Int) (x : Int) : insAll (m ++ [x]) = insF (insAll m) x := by simp [insAll]
theorem insAll_append (a b : List Int) : insAll (a ++ b) = b.foldl insF (insAll a) := by simp [insAll]

/-- Where it stays. -/
theorem insF_stop (l : List Int) (x : Int) (h : ∀ y, l.getLast? = some y → ¬ (0 < classF x ∧ classF x < classF y)) : insF l x = l ++ [x] := by
  unfold insF
  cases hr : l.reverse with
  | nil =>
    have : l = [] := by simpa using hr
    subst this; rfl
  | cons y r =>
    have hl : l = r.reverse ++ [y] := by rw [← List.reverse_reverse l, hr]; simp
    unfold insR
    rw [if_neg (h y (by rw [hl]; simp))]
    rw [hl]
    simp
theorem insF_nil (x : Int) : insF [] x = [x] := rfl
/-- Where it goes on. -/
theorem insF_go (l : List Int) (x y : Int) (h : 0 < classF x ∧ classF x < classF y) : insF (l ++ [y]) x = insF l x ++ [y] := by
  unfold insF
  rw [List.reverse_append]
  simp only [List.reverse_cons, List.reverse_nil, List.nil_append, List.singleton_append]
  conv => lhs; unfold insR
  rw [if_pos h]
  simp
theorem insF_here (l : List Int) (x y : Int) (h : ¬ (0 < classF x ∧ classF x < classF y)) : insF (l ++ [y]) x = l ++ [y] ++ [x] :=
  insF_stop _ _ (fun z hz => by rw [List.getLast?_concat] at hz; cases hz; exact h)

/-- The same signs. -/
theorem insR_mem (x c : Int) : ∀ r, c ∈ insR x r ↔ c = x ∨ c ∈ r := by
  intro r
  induction r with
  | nil => simp [insR]
  | cons z r ih =>
    unfold insR
    split
    · rw [List.mem_cons, ih, List.mem_cons]
      constructor
      · rintro (h | h | h)
        · exact .inr (.inl h)
        · exact .inl h
        · exact .inr (.inr h)
      · rintro (h | h | h)
        · exact .inr (.inl h)
        · exact .inl h
        · exact .inr (.inr h)
    · rw [List.mem_cons]
theorem insF_mem (l : List Int) (x c : Int) : c ∈ insF l x ↔ c = x ∨ c ∈ l := by simp [insF, insR_mem]
theorem foldIns_mem (c : Int) (m : List Int) : ∀ s, c ∈ m.foldl insF s ↔ c ∈ s ∨ c ∈ m := by
  induction m with
  | nil => intro s; simp
  | cons x m ih =>
    intro s
    rw [List.foldl_cons, ih, insF_mem, List.mem_cons]
    constructor
    · rintro ((h | h) | h)
      · exact .inr (.inl h)
      · exact .inl h
      · exact .inr (.inr h)
    · rintro (h | h | h)
      · exact .inl (.inr h)
      · exact .inl (.inl h)
      · exact .inr h
theorem insAll_mem (c : Int) (m : List Int) : c ∈ insAll m ↔ c ∈ m := by rw [insAll, foldIns_mem]; simp

/-! Signs in their parts. -/
theorem asc_parts (c : Int) (h : ¬ (44032 ≤ c ∧ c ≤ 55203)) (x : Int) (hx : x ∈ partsF c) : ∃ p ∈ flat tabI, p.1 = c ∧ x ∈ p.2 := by
  unfold partsF at hx
  rw [if_neg h] at hx
  cases ha : asc (flat tabI) c with
  | none => rw [ha] at hx; simp at hx
  | some v =>
    rw [ha] at hx
    exact ⟨(c, v), asc_mem _ _ _ ha, rfl, hx⟩
theorem hang_no (c : Int) (h : 44032 ≤ c ∧ c ≤ 55203) (x : Int) (hx : x ∈ partsF c) : partsF x = [] := by
  have hr : 4352 ≤ x ∧ x ≤ 4600 := by
    unfold partsF at hx
    rw [if_pos h] at hx
    unfold hang at hx
    split at hx
    all_goals simp only [List.mem_append, List.mem_cons, List.not_mem_nil, or_false] at hx
    all_goals omega
  unfold partsF
  rw [if_neg (by omega)]
  cases ha : asc (flat tabI) x with
  | none => rfl
  | some v =>
    have h2 : ∀ p ∈ flat tabI, ¬ ((4352 : Int) ≤ p.1 ∧ p.1 ≤ 4600) := by decide +kernel
    exact absurd hr (h2 _ (asc_mem _ _ _ ha))
theorem tab_deep2 : ∀ p ∈ flat tabI, ∀ x ∈ p.2, ∀ y ∈ partsF x, partsF y = [] := by decide +kernel
theorem parts_deep (c x y : Int) (hx : x ∈ partsF c) (hy : y ∈ partsF x) : partsF y = [] := by
  by_cases h : 44032 ≤ c ∧ c ≤ 55203
  · rw [hang_no c h x hx] at hy; simp at hy
  · obtain ⟨p, hp, _, hx2⟩ := asc_parts c h x hx
    exact tab_deep2 p hp x hx2 y hy
theorem takeF_flat (n : Nat) (c : Int) (h : partsF c = []) : takeF n c = [c] := by
  cases n with
  | zero => rfl
  | succ n => unfold takeF; rw [if_pos h]
theorem takeT_len (c : Int) : (takeT c).length ≤ 27 := by have := takeF_len 3 c; unfold takeT; omega
theorem takeAll_len (l : List Int) : (l.flatMap takeT).length ≤ l.length * 27 := flat_len takeT 27 takeT_len l
theorem apartF_len (l : List Int) : (apartF l).length ≤ l.length * 27 := by unfold apartF; rw [insAll_len]; exact takeAll_len l
end Go.Proofs.YtlkfabkkjfmnmaaGreatDoor
