/- ReadVar in plain Lean. -/
import Derived.Test.YtgoodpphinakaaaDoorNum
namespace Go.Proofs.YtgoodpphinakaaaDoor
open Go.RowKit

/-- A draw ahead. -/
theorem _root_.Go.RowKit.Below.drewL {B : Nat} {w w' : World} (h : Below B w.drew w') : Below B w w' := ⟨h.os, h.tape, h.output, h.size, h.block⟩

/-- The number that bytes make, seven bits a byte, the lowest first. -/
def rv (l : List UInt8) : Nat := l.foldr (fun b a => b.toNat % 128 + 128 * a) 0
theorem rv_cons (b : UInt8) (l : List UInt8) : rv (b :: l) = b.toNat % 128 + 128 * rv l := rfl
theorem rv_snoc (l : List UInt8) (b : UInt8) : rv (l ++ [b]) = rv l + b.toNat % 128 * 128 ^ l.length := by
  induction l with
  | nil => simp [rv]
  | cons a l ih =>
    rw [List.cons_append, rv_cons, rv_cons, ih, List.length_cons, Nat.pow_succ, Nat.mul_add, Nat.add_assoc]
    congr 2
    rw [Nat.mul_left_comm, Nat.mul_comm 128 (128 ^ l.length)]
theorem rv_lt (l : List UInt8) : rv l < 128 ^ l.length := by
  induction l with
  | nil => decide
  | cons a l ih =>
    rw [rv_cons, List.length_cons, Nat.pow_succ]
    have := Nat.mod_lt a.toNat (show 0 < 128 by decide)
    omega
theorem rv_take_lt (l : List UInt8) (k : Nat) (h : k ≤ 7) : rv (l.take k) < 562949953421312 := by
  have h1 := rv_lt (l.take k)
  have h2 : (l.take k).length ≤ 7 := by rw [List.length_take]; omega
  exact Nat.lt_of_lt_of_le h1 (pow_le_of 128 _ 7 h2 (by decide))

/-- What ReadVar comes to. -/
def rdVar (l : List UInt8) : Nat × Nat :=
  let i := l.findIdx (fun b => decide (b.toNat < 128))
  if i < 7 ∧ i < l.length ∧ varL (rv (l.take (i + 1))) = l.take (i + 1) then (rv (l.take (i + 1)), i + 1) else (0, 0)

theorem lo7_toNat (m : Nat) (h : m < 128) : (lo7 m).toNat = m := by unfold lo7; rw [UInt8.toNat_ofNat']; omega
theorem hi7_toNat (m : Nat) : (hi7 m).toNat = 128 + m % 128 := by unfold hi7; rw [UInt8.toNat_ofNat']; omega

theorem varL_shape (n : Nat) : ∃ pre c, varL n = pre ++ [c] ∧ c.toNat < 128 ∧ ∀ b ∈ pre, 128 ≤ b.toNat := by
  induction n using Nat.strongRecOn with
  | _ n ih =>
    by_cases h : n < 128
    · exact ⟨[], lo7 n, by rw [varL_lo h]; rfl, by rw [lo7_toNat n h]; exact h, by simp⟩
    · obtain ⟨pre, c, e, hc, hp⟩ := ih (n / 128) (by omega)
      refine ⟨hi7 n :: pre, c, by rw [varL_hi h, e]; rfl, hc, ?_⟩
      intro b hb
      rcases List.mem_cons.1 hb with rfl | hb
      · rw [hi7_toNat]; omega
      · exact hp b hb

theorem rdVar_hit (l : List UInt8) (k : Nat) (h1 : k < 7) (h2 : k < l.length) (h : varL (rv (l.take (k + 1))) = l.take (k + 1)) : rdVar l = (rv (l.take (k + 1)), k + 1) := by
  obtain ⟨pre, c, e, hc, hp⟩ := varL_shape (rv (l.take (k + 1)))
  have e2 : l.take (k + 1) = pre ++ [c] := h ▸ e
  have hl : pre.length = k := by have := congrArg List.length e2; simp at this; omega
  have hi : l.findIdx (fun b => decide (b.toNat < 128)) = k := by
    have e3 : l = (pre ++ [c]) ++ l.drop (k + 1) := by rw [← e2]; simp
    refine (List.findIdx_eq h2).2 ⟨?_, ?_⟩
    · have : l[k] = c := by
        have : l[k]? = some c := by rw [e3, List.getElem?_append_left (by simp; omega), List.getElem?_append_right (by omega), hl]; simp
        rw [List.getElem?_eq_getElem h2] at this
        exact Option.some.inj this
      rw [this]; simpa using hc
    · intro j hj
      have hjl : j < pre.length := by omega
      have : l[j]? = some pre[j] := by rw [e3, List.getElem?_append_left (by simp; omega), List.getElem?_append_left hjl, List.getElem?_eq_getElem hjl]
      rw [List.getElem?_eq_getElem (by omega)] at this
      rw [Option.some.inj this]
      have := hp pre[j] (List.getElem_mem _)
      simp; omega
  unfold rdVar
  simp only [hi]
  rw [if_pos ⟨h1, h2, h⟩]

theorem rdVar_miss (l : List UInt8) (h : ∀ k, k < 7 → k < l.length → varL (rv (l.take (k + 1))) ≠ l.take (k + 1)) : rdVar l = (0, 0) := by
  unfold rdVar
  rw [if_neg]
  rintro ⟨a, b, c⟩
  exact h _ a b c

/-- As the program goes: the first byte below 128 decides. -/
theorem rdVar_at (l : List UInt8) (k : Nat) (h1 : k < 7) (h2 : k < l.length) (hk : l[k].toNat < 128) (hlo : ∀ j (h : j < l.length), j < k → 128 ≤ l[j].toNat) :
    rdVar l = if varL (rv (l.take (k + 1))) = l.take (k + 1) then (rv (l.take (k + 1)), k + 1) else (0, 0) := by
  have hi : l.findIdx (fun b => decide (b.toNat < 128)) = k := by
    refine (List.findIdx_eq h2).2 ⟨by simpa using hk, ?_⟩
    intro j hj
    have := hlo j (by omega) hj
    simp; omega
  unfold rdVar
  simp only [hi]
  by_cases c : varL (rv (l.take (k + 1))) = l.take (k + 1)
  · rw [if_pos ⟨h1, h2, c⟩, if_pos c]
  · rw [if_neg (fun h => c h.2.2), if_neg c]
theorem rdVar_none (l : List UInt8) (k : Nat) (hk : 7 ≤ k ∨ l.length ≤ k) (hlo : ∀ j (h : j < l.length), j < k → 128 ≤ l[j].toNat) : rdVar l = (0, 0) := by
  unfold rdVar
  rw [if_neg]
  rintro ⟨a, b, c⟩
  have := List.findIdx_getElem (w := b)
  have h2 := hlo _ b (by omega)
  simp at this
  omega
end Go.Proofs.YtgoodpphinakaaaDoor
