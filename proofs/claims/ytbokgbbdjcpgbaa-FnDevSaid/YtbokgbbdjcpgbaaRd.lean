/- ReadDec in plain Lean: the program's way and the reference's come to one. -/
import Derived.Test.YtbokgbbdjcpgbaaDec
namespace Go.Proofs.Ytbokgbbdjcpgbaa
open Go.RowKit

def isDig (b : UInt8) : Bool := decide (48 ≤ b.toNat) && decide (b.toNat ≤ 57)
/-- The number of digits. -/
def dval (l : List UInt8) : Nat := l.foldl (fun a b => 10 * a + (b.toNat - 48)) 0
theorem dval_snoc (l : List UInt8) (b : UInt8) : dval (l ++ [b]) = 10 * dval l + (b.toNat - 48) := by simp [dval]
theorem dval_lt (l : List UInt8) (h : ∀ b ∈ l, isDig b = true) : dval l < 10 ^ l.length := by
  suffices H : ∀ r : List UInt8, (∀ b ∈ r, isDig b = true) → dval r.reverse < 10 ^ r.length by
    have := H l.reverse (by simpa using h)
    simpa using this
  intro r
  induction r with
  | nil => intro _; decide
  | cons b r ih =>
    intro hr
    rw [List.reverse_cons, dval_snoc, List.length_cons, Nat.pow_succ]
    have h1 := ih (fun x hx => hr x (List.mem_cons_of_mem _ hx))
    have h2 := hr b (List.mem_cons_self ..)
    simp only [isDig, Bool.and_eq_true, decide_eq_true_eq] at h2
    omega
/-- Where the digits begin. -/
def datAt (l : List UInt8) : Nat := if l.head? = some 45 then 1 else 0
def dnum (l : List UInt8) : Int := if l.head? = some 45 then -(dval (l.drop 1) : Int) else (dval l : Int)
/-- What ReadDec comes to. -/
def rdOk (l : List UInt8) : Prop := 1 ≤ l.length - datAt l ∧ l.length - datAt l ≤ 9 ∧ (∀ b ∈ l.drop (datAt l), isDig b = true) ∧ decL (dnum l) = l
open Classical in
noncomputable def rdDecV (l : List UInt8) : Value := if rdOk l then .tuple #[.int .i64 (dnum l), .bool true] else .tuple #[.int .i64 0, .bool false]

/-- The reference's way: over all bytes, those that are digits. -/
def sval (l : List UInt8) : Nat := l.foldl (fun a b => if isDig b then 10 * a + (b.toNat - 48) else a) 0
def scnt (l : List UInt8) : Nat := l.countP isDig
theorem sval_snoc (l : List UInt8) (b : UInt8) : sval (l ++ [b]) = if isDig b then 10 * sval l + (b.toNat - 48) else sval l := by simp [sval]
theorem scnt_snoc (l : List UInt8) (b : UInt8) : scnt (l ++ [b]) = scnt l + if isDig b then 1 else 0 := by simp [scnt, List.countP_append, List.countP_cons]
theorem sval_digs (l : List UInt8) (h : ∀ b ∈ l, isDig b = true) : sval l = dval l ∧ scnt l = l.length := by
  suffices H : ∀ r : List UInt8, (∀ b ∈ r, isDig b = true) → sval r.reverse = dval r.reverse ∧ scnt r.reverse = r.reverse.length by
    have := H l.reverse (by simpa using h)
    simpa using this
  intro r
  induction r with
  | nil => intro _; exact ⟨rfl, rfl⟩
  | cons b r ih =>
    intro hr
    have h1 := ih (fun x hx => hr x (List.mem_cons_of_mem _ hx))
    have h2 := hr b (List.mem_cons_self ..)
    rw [List.reverse_cons, sval_snoc, dval_snoc, scnt_snoc, if_pos h2, if_pos h2, h1.1, h1.2]
    exact ⟨rfl, by simp⟩
theorem sval_lt (l : List UInt8) : sval l < 10 ^ l.length := by
  suffices H : ∀ r : List UInt8, sval r.reverse < 10 ^ r.length by have := H l.reverse; simpa using this
  intro r
  induction r with
  | nil => decide
  | cons b r ih =>
    rw [List.reverse_cons, sval_snoc, List.length_cons, Nat.pow_succ]
    split
    · rename_i h
      simp only [isDig, Bool.and_eq_true, decide_eq_true_eq] at h
      omega
    · omega
theorem scnt_le (l : List UInt8) : scnt l ≤ l.length := List.countP_le_length
/-- The reference's number. -/
def snum (l : List UInt8) : Int := if l.head? = some 45 then -(sval (l.take 11) : Int) else (sval (l.take 11) : Int)

theorem dig10_dig (m : Nat) : isDig (dig10 m) = true := by
  have : (dig10 m).toNat = 48 + m % 10 := by unfold dig10; rw [UInt8.toNat_ofNat']; omega
  simp only [isDig, this, Bool.and_eq_true, decide_eq_true_eq]
  omega
theorem rdec_dig (m : Nat) : ∀ b ∈ rdec m, isDig b = true := by
  induction m using Nat.strongRecOn with
  | _ m ih =>
    by_cases h : m = 0
    · rw [h, rdec_zero]; simp
    · rw [rdec_pos (by omega)]
      intro b hb
      rcases List.mem_cons.1 hb with rfl | hb
      · exact dig10_dig m
      · exact ih (m / 10) (by omega) b hb
/-- A text that Dec makes: a sign, or none, and digits. -/
theorem decL_shape (n : Int) : ∃ ds : List UInt8, ds ≠ [] ∧ (∀ b ∈ ds, isDig b = true) ∧ decL n = (if n < 0 then [45] else []) ++ ds := by
  unfold decL
  by_cases h : n = 0
  · rw [if_pos h]
    exact ⟨[48], by simp, by decide, by rw [if_neg (by omega)]; rfl⟩
  · rw [if_neg h]
    refine ⟨(rdec n.natAbs).reverse, ?_, ?_, rfl⟩
    · rw [rdec_pos (by omega)]; simp
    · intro b hb
      exact rdec_dig _ b (List.mem_reverse.1 hb)
theorem isDig_45 : isDig 45 = false := by decide

theorem head_dig {ds : List UInt8} (h : ds ≠ []) (hd : ∀ b ∈ ds, isDig b = true) : ds.head? ≠ some 45 := by
  intro e
  cases ds with
  | nil => exact h rfl
  | cons b r =>
    simp only [List.head?_cons, Option.some.injEq] at e
    have := hd b (List.mem_cons_self ..)
    rw [e, isDig_45] at this
    cases this

/-- Where the text is a sign, or none, and at most 9 digits, both numbers are one. -/
theorem snum_eq (l ds : List UInt8) (sg : Bool) (hd : ∀ b ∈ ds, isDig b = true) (hne : ds ≠ []) (hl : l = (if sg then [45] else []) ++ ds) (h9 : ds.length ≤ 9) :
    snum l = dnum l ∧ scnt (l.take 11) = ds.length ∧ datAt l = (if sg then 1 else 0) ∧ l.drop (datAt l) = ds := by
  have hlen : l.length ≤ 10 := by rw [hl]; cases sg <;> simp <;> omega
  have ht : l.take 11 = l := List.take_of_length_le (by omega)
  obtain ⟨h1, h2⟩ := sval_digs ds hd
  cases sg with
  | true =>
    have hl' : l = 45 :: ds := by rw [hl]; rfl
    subst hl'
    have hs : sval (45 :: ds) = sval ds := by
      simp [sval, isDig_45]
    have hc : scnt (45 :: ds) = scnt ds := by simp [scnt, List.countP_cons, isDig_45]
    refine ⟨?_, ?_, rfl, rfl⟩
    · unfold snum dnum
      rw [ht]
      simp only [List.head?_cons, if_true, hs, h1, List.drop_succ_cons, List.drop_zero]
    · rw [ht, hc, h2]
  | false =>
    have hl' : l = ds := by rw [hl]; rfl
    subst hl'
    have hh := head_dig hne hd
    refine ⟨?_, by rw [ht, h2], by unfold datAt; rw [if_neg hh]; rfl, by unfold datAt; rw [if_neg hh]; rfl⟩
    unfold snum dnum
    rw [ht, if_neg hh, if_neg hh, h1]

theorem rdOk_spec (l : List UInt8) : rdOk l ↔ (scnt (l.take 11) ≤ 9 ∧ l.length ≤ 10 ∧ decL (snum l) = l) := by
  constructor
  · rintro ⟨h1, h2, h3, h4⟩
    have hsg : ∃ sg : Bool, datAt l = (if sg then 1 else 0) ∧ l = (if sg then [45] else []) ++ l.drop (datAt l) := by
      unfold datAt at *
      by_cases hh : l.head? = some 45
      · refine ⟨true, by rw [if_pos hh]; rfl, ?_⟩
        rw [if_pos hh]
        cases l with
        | nil => simp at hh
        | cons b r => simp at hh; subst hh; rfl
      · exact ⟨false, by rw [if_neg hh]; rfl, by rw [if_neg hh]; simp⟩
    obtain ⟨sg, hat, hl⟩ := hsg
    have hlen : (l.drop (datAt l)).length = l.length - datAt l := by simp
    obtain ⟨e1, e2, _, _⟩ := snum_eq l (l.drop (datAt l)) sg h3 (by intro e; rw [e] at hlen; simp at hlen; omega) hl (by omega)
    refine ⟨by rw [e2]; omega, ?_, by rw [e1]; exact h4⟩
    rw [hat] at h2
    cases sg <;> simp at h2 <;> omega
  · rintro ⟨h1, h2, h3⟩
    obtain ⟨ds, hne, hd, hl⟩ := decL_shape (snum l)
    rw [h3] at hl
    have h9 : ds.length ≤ 9 := by
      have ht : l.take 11 = l := List.take_of_length_le (by omega)
      rw [ht] at h1
      have : scnt l = scnt ds := by
        rw [hl]
        split <;> simp [scnt, List.countP_append, List.countP_cons, isDig_45]
      rw [this, (sval_digs ds hd).2] at h1
      exact h1
    obtain ⟨e1, e2, e3, e4⟩ := snum_eq l ds (decide (snum l < 0)) hd hne (by simp only [decide_eq_true_eq]; exact hl) h9
    have hpos : 0 < ds.length := List.length_pos_iff.2 hne
    have hlen : (l.drop (datAt l)).length = l.length - datAt l := by simp
    rw [e4] at hlen
    exact ⟨by omega, by omega, by rw [e4]; exact hd, by rw [← e1]; exact h3⟩
theorem rdOk_num (l : List UInt8) (h : rdOk l) : snum l = dnum l := by
  obtain ⟨h1, h2, h3, h4⟩ := h
  have hsg : ∃ sg : Bool, datAt l = (if sg then 1 else 0) ∧ l = (if sg then [45] else []) ++ l.drop (datAt l) := by
    unfold datAt at *
    by_cases hh : l.head? = some 45
    · refine ⟨true, by rw [if_pos hh]; rfl, ?_⟩
      rw [if_pos hh]
      cases l with
      | nil => simp at hh
      | cons b r => simp at hh; subst hh; rfl
    · exact ⟨false, by rw [if_neg hh]; rfl, by rw [if_neg hh]; simp⟩
  obtain ⟨sg, hat, hl⟩ := hsg
  have hlen : (l.drop (datAt l)).length = l.length - datAt l := by simp
  exact (snum_eq l (l.drop (datAt l)) sg h3 (by intro e; rw [e] at hlen; simp at hlen; omega) hl (by omega)).1
open Classical in
theorem rdDecV_spec (l : List UInt8) : rdDecV l = if scnt (l.take 11) ≤ 9 ∧ l.length ≤ 10 ∧ decL (snum l) = l then .tuple #[.int .i64 (snum l), .bool true] else .tuple #[.int .i64 0, .bool false] := by
  unfold rdDecV
  by_cases h : rdOk l
  · rw [if_pos h, if_pos ((rdOk_spec l).1 h), rdOk_num l h]
  · rw [if_neg h, if_neg (fun c => h ((rdOk_spec l).2 c))]
end Go.Proofs.Ytbokgbbdjcpgbaa
