/- Apart in plain Lean: signs taken to their parts, and each one brought ahead of those of a higher class: what it comes to and its laws. -/
import Derived.Test.YtlkfabkkjfmnmaaDoorClass
import Derived.Test.YtlkfabkkjfmnmaaDoorTake
namespace Go.Proofs.YtlkfabkkjfmnmaaDoor
open Go.RowKit

/-- A sign into a list that stands the last first. -/
def insR (x : Int) : List Int → List Int
  | [] => [x]
  | y :: r => if 0 < classF x ∧ classF x < classF y then y :: insR x r else x :: y :: r
/-- A sign behind a list, brought ahead of those of a higher class. -/
def insF (l : List Int) (x : Int) : List Int := (insR x l.reverse).reverse
def insAll (l : List Int) : List Int := l.foldl insF []
/-- A sign in its parts, and these in theirs. -/
def takeT (c : Int) : List Int := takeF 3 c
/-- Apart. -/
def apartF (l : List Int) : List Int := insAll (l.flatMap takeT)

theorem insR_len (x : Int) : ∀ r, (insR x r).length = r.length + 1 := by
  intro r
  induction r with
  | nil => rfl
  | cons y r ih => unfold insR; split <;> simp [ih]
theorem insF_len (l : List Int) (x : Int) : (insF l x).length = l.length + 1 := by simp [insF, insR_len]
theorem foldIns_len (m : List Int) : ∀ s, (m.foldl insF s).length = s.length + m.length := by
  induction m with
  | nil => intro s; simp
  | cons x m ih => intro s; rw [List.foldl_cons, ih, insF_len, List.length_cons]; omega
theorem insAll_len (m : List Int) : (insAll m).length = m.length := by rw [insAll, foldIns_len]; simp
theorem insAll_snoc (m : List Int) (x : Int) : insAll (m ++ [x]) = insF (insAll m) x := by simp [insAll]
theorem insAll_append (a b : List Int) : insAll (a ++ b) = b.foldl insF (insAll a) := by simp [insAll]

/-- Where it stays. -/
theorem insF_stop (l : List Int) (x : Int) (h : ∀ y, l.getLast? = some y → ¬ (0 < classF x ∧ classF x < classF y)) : insF l x = l ++ [x] := by
  unfold insF
  cases hr : l.reverse with
  | nil =>
    have : l = [] := by simpa using hr
    subst this; rfl
  | cons y r =>
    have hl : l = r.reverse ++ [y] := by rw [← List.reverse_reverse l, hr]; simp
    unfold insR
    rw [if_neg (h y (by rw [hl]; simp))]
    rw [hl]
    simp
theorem insF_nil (x : Int) : insF [] x = [x] := rfl
/-- Where it goes on. -/
theorem insF_go (l : List Int) (x y : Int) (h : 0 < classF x ∧ classF x < classF y) : insF (l ++ [y]) x = insF l x ++ [y] := by
  unfold insF
  rw [List.reverse_append]
  simp only [List.reverse_cons, List.reverse_nil, List.nil_append, List.singleton_append]
  conv => lhs; unfold insR
  rw [if_pos h]
  simp
theorem insF_here (l : List Int) (x y : Int) (h : ¬ (0 < classF x ∧ classF x < classF y)) : insF (l ++ [y]) x = l ++ [y] ++ [x] :=
  insF_stop _ _ (fun z hz => by rw [List.getLast?_concat] at hz; cases hz; exact h)

/-- Two of different class may come in either order. -/
theorem insR_comm (x y : Int) (h : 0 < classF x ∧ classF x < classF y) : ∀ r, insR x (insR y r) = insR y (insR x r) := by
  intro r
  induction r with
  | nil =>
    simp only [insR]
    rw [if_pos h, if_neg (by omega)]
  | cons z r ih =>
    by_cases h1 : 0 < classF y ∧ classF y < classF z
    · have h2 : 0 < classF x ∧ classF x < classF z := by omega
      simp only [insR, if_pos h1, if_pos h2, ih]
    · simp only [insR, if_neg h1]
      by_cases h2 : 0 < classF x ∧ classF x < classF z
      · simp only [insR, if_pos h, if_pos h2, if_neg h1]
      · have h3 : ¬ (0 < classF y ∧ classF y < classF x) := by omega
        simp only [insR, if_pos h, if_neg h2, if_neg h3]
theorem insF_comm (l : List Int) (x y : Int) (h : 0 < classF x ∧ classF x < classF y) : insF (insF l x) y = insF (insF l y) x := by
  unfold insF
  rw [List.reverse_reverse, List.reverse_reverse, insR_comm x y h]
theorem foldIns_ins (s : List Int) (x : Int) : ∀ r : List Int, (insF r.reverse x).foldl insF s = insF (r.reverse.foldl insF s) x := by
  intro r
  induction r with
  | nil => rfl
  | cons z r ih =>
    rw [List.reverse_cons]
    by_cases h : 0 < classF x ∧ classF x < classF z
    · rw [insF_go _ _ _ h, List.foldl_append, ih, List.foldl_append]
      simp only [List.foldl_cons, List.foldl_nil]
      rw [insF_comm _ _ _ h]
    · rw [insF_here _ _ _ h, List.foldl_append, List.foldl_append]
      simp
theorem foldIns_insAll (s : List Int) : ∀ r : List Int, (insAll r.reverse).foldl insF s = r.reverse.foldl insF s := by
  intro r
  induction r with
  | nil => rfl
  | cons z r ih =>
    rw [List.reverse_cons, insAll_snoc]
    have h := foldIns_ins s z (insAll r.reverse).reverse
    rw [List.reverse_reverse] at h
    rw [h, ih, List.foldl_append]
    rfl

/-- In order: the last first. -/
def okR : List Int → Prop
  | [] => True
  | [_] => True
  | a :: b :: r => ¬ (0 < classF a ∧ classF a < classF b) ∧ okR (b :: r)
theorem okR_tail {a : Int} {r : List Int} (h : okR (a :: r)) : okR r := by
  cases r with
  | nil => trivial
  | cons b r => exact h.2
theorem insR_ok (x : Int) : ∀ r, okR r → okR (insR x r) := by
  intro r
  induction r with
  | nil => intro _; trivial
  | cons z r ih =>
    intro h
    unfold insR
    split
    · rename_i hx
      have h2 := ih (okR_tail h)
      cases r with
      | nil => exact ⟨by omega, trivial⟩
      | cons b r =>
        unfold insR at h2 ⊢
        split
        · rename_i hb
          rw [if_pos hb] at h2
          exact ⟨h.1, h2⟩
        · rename_i hb
          rw [if_neg hb] at h2
          exact ⟨by omega, h2⟩
    · rename_i hx
      exact ⟨hx, h⟩
theorem foldIns_ok (m : List Int) : ∀ s : List Int, okR s.reverse → okR (m.foldl insF s).reverse := by
  induction m with
  | nil => intro s h; exact h
  | cons x m ih =>
    intro s h
    rw [List.foldl_cons]
    refine ih _ ?_
    unfold insF
    rw [List.reverse_reverse]
    exact insR_ok x _ h
theorem insAll_ok (m : List Int) : okR (insAll m).reverse := foldIns_ok m [] trivial
theorem insAll_of_ok : ∀ r : List Int, okR r → insAll r.reverse = r.reverse := by
  intro r
  induction r with
  | nil => intro _; rfl
  | cons z r ih =>
    intro h
    rw [List.reverse_cons, insAll_snoc, ih (okR_tail h)]
    refine insF_stop _ _ fun y hy => ?_
    cases r with
    | nil => simp at hy
    | cons b r =>
      rw [List.reverse_cons, List.getLast?_concat] at hy
      cases hy
      exact h.1
theorem insAll_idem (m : List Int) : insAll (insAll m) = insAll m := by
  have h := insAll_of_ok (insAll m).reverse (insAll_ok m)
  rwa [List.reverse_reverse] at h
/-- Of two neighbours none stands wrong. -/
theorem okR_get : ∀ (r : List Int), okR r → ∀ i (h : i + 1 < r.length), ¬ (0 < classF (r[i]'(by omega)) ∧ classF (r[i]'(by omega)) < classF r[i + 1]) := by
  intro r
  induction r with
  | nil => intro _ i h; simp at h
  | cons a r ih =>
    intro hok i h
    cases r with
    | nil => simp at h
    | cons b r =>
      cases i with
      | zero => exact hok.1
      | succ i => exact ih hok.2 i (by simpa using h)
theorem insAll_get (m : List Int) (i : Nat) (h0 : 0 < i) (h : i < (insAll m).length) : ¬ (0 < classF (insAll m)[i] ∧ classF (insAll m)[i] < classF ((insAll m)[i - 1]'(by omega))) := by
  have h1 := okR_get _ (insAll_ok m) ((insAll m).length - 1 - i) (by rw [List.length_reverse]; omega)
  rw [List.getElem_reverse, List.getElem_reverse] at h1
  have e1 : (insAll m).length - 1 - ((insAll m).length - 1 - i) = i := by omega
  have e2 : (insAll m).length - 1 - ((insAll m).length - 1 - i + 1) = i - 1 := by omega
  simp only [e1, e2] at h1
  exact h1

/-- The same signs. -/
theorem insR_mem (x c : Int) : ∀ r, c ∈ insR x r ↔ c = x ∨ c ∈ r := by
  intro r
  induction r with
  | nil => simp [insR]
  | cons z r ih =>
    unfold insR
    split
    · rw [List.mem_cons, ih, List.mem_cons]
      constructor
      · rintro (h | h | h)
        · exact .inr (.inl h)
        · exact .inl h
        · exact .inr (.inr h)
      · rintro (h | h | h)
        · exact .inr (.inl h)
        · exact .inl h
        · exact .inr (.inr h)
    · rw [List.mem_cons]
theorem insF_mem (l : List Int) (x c : Int) : c ∈ insF l x ↔ c = x ∨ c ∈ l := by simp [insF, insR_mem]
theorem foldIns_mem (c : Int) (m : List Int) : ∀ s, c ∈ m.foldl insF s ↔ c ∈ s ∨ c ∈ m := by
  induction m with
  | nil => intro s; simp
  | cons x m ih =>
    intro s
    rw [List.foldl_cons, ih, insF_mem, List.mem_cons]
    constructor
    · rintro ((h | h) | h)
      · exact .inr (.inl h)
      · exact .inl h
      · exact .inr (.inr h)
    · rintro (h | h | h)
      · exact .inl (.inr h)
      · exact .inl (.inl h)
      · exact .inr h
theorem insAll_mem (c : Int) (m : List Int) : c ∈ insAll m ↔ c ∈ m := by rw [insAll, foldIns_mem]; simp

/-! Signs in their parts. -/
theorem asc_parts (c : Int) (h : ¬ (44032 ≤ c ∧ c ≤ 55203)) (x : Int) (hx : x ∈ partsF c) : ∃ p ∈ flat tabI, p.1 = c ∧ x ∈ p.2 := by
  unfold partsF at hx
  rw [if_neg h] at hx
  cases ha : asc (flat tabI) c with
  | none => rw [ha] at hx; simp at hx
  | some v =>
    rw [ha] at hx
    exact ⟨(c, v), asc_mem _ _ _ ha, rfl, hx⟩
theorem hang_no (c : Int) (h : 44032 ≤ c ∧ c ≤ 55203) (x : Int) (hx : x ∈ partsF c) : partsF x = [] := by
  have hr : 4352 ≤ x ∧ x ≤ 4600 := by
    unfold partsF at hx
    rw [if_pos h] at hx
    unfold hang at hx
    split at hx
    all_goals simp only [List.mem_append, List.mem_cons, List.not_mem_nil, or_false] at hx
    all_goals omega
  unfold partsF
  rw [if_neg (by omega)]
  cases ha : asc (flat tabI) x with
  | none => rfl
  | some v =>
    have h2 : ∀ p ∈ flat tabI, ¬ ((4352 : Int) ≤ p.1 ∧ p.1 ≤ 4600) := by decide +kernel
    exact absurd hr (h2 _ (asc_mem _ _ _ ha))
theorem tab_deep : ∀ p ∈ flat tabI, ∀ x ∈ p.2, ∀ y ∈ partsF x, ∀ z ∈ partsF y, partsF z = [] := by decide +kernel
theorem tab_deep2 : ∀ p ∈ flat tabI, ∀ x ∈ p.2, ∀ y ∈ partsF x, partsF y = [] := by decide +kernel
theorem parts_deep (c x y : Int) (hx : x ∈ partsF c) (hy : y ∈ partsF x) : partsF y = [] := by
  by_cases h : 44032 ≤ c ∧ c ≤ 55203
  · rw [hang_no c h x hx] at hy; simp at hy
  · obtain ⟨p, hp, _, hx2⟩ := asc_parts c h x hx
    exact tab_deep2 p hp x hx2 y hy
theorem takeF_flat (n : Nat) (c : Int) (h : partsF c = []) : takeF n c = [c] := by
  cases n with
  | zero => rfl
  | succ n => unfold takeF; rw [if_pos h]
theorem takeT_no (c x : Int) (hx : x ∈ takeT c) : partsF x = [] := by
  unfold takeT at hx
  by_cases h0 : partsF c = []
  · rw [takeF_flat 3 c h0] at hx
    simp only [List.mem_singleton] at hx
    subst hx; exact h0
  · unfold takeF at hx
    rw [if_neg h0, List.mem_flatMap] at hx
    obtain ⟨a, ha, hx⟩ := hx
    by_cases h1 : partsF a = []
    · rw [takeF_flat 2 a h1] at hx
      simp only [List.mem_singleton] at hx
      subst hx; exact h1
    · unfold takeF at hx
      rw [if_neg h1, List.mem_flatMap] at hx
      obtain ⟨b, hb, hx⟩ := hx
      have h2 := parts_deep c a b ha hb
      rw [takeF_flat 1 b h2] at hx
      simp only [List.mem_singleton] at hx
      subst hx; exact h2
theorem takeAll_id (m : List Int) (h : ∀ x ∈ m, partsF x = []) : m.flatMap takeT = m := by
  induction m with
  | nil => rfl
  | cons x m ih =>
    rw [List.flatMap_cons, ih (fun y hy => h y (List.mem_cons_of_mem _ hy))]
    unfold takeT
    rw [takeF_flat 3 x (h x (List.mem_cons_self ..))]
    rfl
theorem apartF_no (l : List Int) (x : Int) (hx : x ∈ apartF l) : partsF x = [] := by
  unfold apartF at hx
  rw [insAll_mem, List.mem_flatMap] at hx
  obtain ⟨c, _, hx⟩ := hx
  exact takeT_no c x hx
theorem apartF_idem (l : List Int) : apartF (apartF l) = apartF l := by
  have h := takeAll_id (apartF l) (fun x hx => apartF_no l x hx)
  show insAll ((apartF l).flatMap takeT) = _
  rw [h]
  unfold apartF
  exact insAll_idem _
theorem apartF_two (a b : List Int) : apartF (apartF a ++ apartF b) = apartF (a ++ b) := by
  have h := takeAll_id (apartF a ++ apartF b) (fun x hx => by
    rw [List.mem_append] at hx
    rcases hx with hx | hx
    · exact apartF_no a x hx
    · exact apartF_no b x hx)
  show insAll ((apartF a ++ apartF b).flatMap takeT) = _
  rw [h]
  unfold apartF
  rw [insAll_append, insAll_idem]
  have h2 := foldIns_insAll (insAll (a.flatMap takeT)) (b.flatMap takeT).reverse
  rw [List.reverse_reverse] at h2
  rw [h2, List.flatMap_append, insAll_append]
theorem takeT_len (c : Int) : (takeT c).length ≤ 27 := by have := takeF_len 3 c; unfold takeT; omega
theorem takeAll_len (l : List Int) : (l.flatMap takeT).length ≤ l.length * 27 := flat_len takeT 27 takeT_len l
theorem apartF_len (l : List Int) : (apartF l).length ≤ l.length * 27 := by unfold apartF; rw [insAll_len]; exact takeAll_len l
end Go.Proofs.YtlkfabkkjfmnmaaDoor
