/- Numbers and texts in plain Lean: what is made of a number is read as it. -/
import Derived.Test.YtbokgbbdjcpgbaaRv
import Derived.Test.YtbokgbbdjcpgbaaRd
import Derived.Test.YtbokgbbdjcpgbaaFixed2
import Derived.Test.YtbokgbbdjcpgbaaUnhex
import Derived.Test.YtbokgbbdjcpgbaaVar
namespace Go.Proofs.Ytbokgbbdjcpgbaa
open Go.RowKit

theorem rv_varL (n : Nat) : rv (varL n) = n := by
  induction n using Nat.strongRecOn with
  | _ n ih =>
    by_cases h : n < 128
    · rw [varL_lo h, rv_cons, lo7_toNat n h]
      show n % 128 + 128 * 0 = n
      omega
    · rw [varL_hi h, rv_cons, ih (n / 128) (by omega), hi7_toNat]
      omega
/-- A number is read from its text, whatever stands behind. -/
theorem rdVar_varL (n : Nat) (h : n ≤ 562949953421311) (tail : List UInt8) : rdVar (varL n ++ tail) = (n, (varL n).length) := by
  obtain ⟨pre, c, e, hc, hp⟩ := varL_shape n
  have hl := varL_len7 n h
  have hk : (varL n).length = pre.length + 1 := by rw [e]; simp
  have ht : (varL n ++ tail).take (pre.length + 1) = varL n := by rw [← hk, List.take_left]
  have h1 := rdVar_hit (varL n ++ tail) pre.length (by omega) (by rw [List.length_append]; omega) (by rw [ht, rv_varL])
  rw [h1, ht, rv_varL, hk]
/-- No other text is read. -/
theorem rdVar_sound (l : List UInt8) (h : (rdVar l).2 ≠ 0) : varL (rdVar l).1 = l.take (rdVar l).2 ∧ (rdVar l).1 ≤ 562949953421311 ∧ (rdVar l).2 ≤ l.length := by
  unfold rdVar at h ⊢
  simp only at h ⊢
  split at h
  · rename_i hc
    rw [if_pos hc]
    refine ⟨hc.2.2, ?_, by have := hc.2.1; omega⟩
    have := rv_take_lt l (l.findIdx (fun b => decide (b.toNat < 128)) + 1) (by have := hc.1; omega)
    omega
  · exact absurd rfl h
theorem rdVar_zero (l : List UInt8) (h : (rdVar l).2 = 0) : rdVar l = (0, 0) := by
  unfold rdVar at h ⊢
  simp only at h ⊢
  split at h
  · simp at h
  · rename_i hc; rw [if_neg hc]
theorem rdVar_eq (l : List UInt8) : (rdVar l).2 ≤ 7 := by
  unfold rdVar
  simp only
  split
  · rename_i hc; have := hc.1; simp only; omega
  · exact Nat.zero_le _

theorem rdF_foldl (l : List UInt8) : ∀ a : Nat, l.foldl (fun a b => a * 256 + b.toNat) a = a * 256 ^ l.length + rdF l := by
  induction l with
  | nil => intro a; simp [rdF]
  | cons b l ih =>
    intro a
    have h0 := ih b.toNat
    rw [List.foldl_cons, ih, List.length_cons, Nat.pow_succ]
    unfold rdF at h0 ⊢
    rw [List.foldl_cons, Nat.zero_mul, Nat.zero_add, h0, Nat.add_mul, Nat.mul_assoc, Nat.mul_comm 256, Nat.add_assoc]
theorem rdF_lowBE (n k : Nat) : rdF (lowBE n k) = n % 256 ^ k := by
  induction k with
  | zero => simp [lowBE, rdF, Nat.mod_one]
  | succ k ih =>
    have h := rdF_foldl (lowBE n k) (UInt8.ofNat (n / 256 ^ k % 256)).toNat
    have e : rdF (lowBE n (k + 1)) = (lowBE n k).foldl (fun a b => a * 256 + b.toNat) (UInt8.ofNat (n / 256 ^ k % 256)).toNat := by
      simp only [rdF, lowBE, List.foldl_cons, Nat.zero_mul, Nat.zero_add]
    rw [e, h, ih, lowBE_length]
    have e2 : (UInt8.ofNat (n / 256 ^ k % 256)).toNat = n / 256 ^ k % 256 := by rw [UInt8.toNat_ofNat']; omega
    rw [e2, Nat.pow_succ, Nat.mod_mul, Nat.mul_comm, Nat.add_comm]

theorem dval_rdec (m : Nat) : dval (rdec m).reverse = m := by
  induction m using Nat.strongRecOn with
  | _ m ih =>
    by_cases h : m = 0
    · rw [h, rdec_zero]; rfl
    · rw [rdec_pos (by omega), List.reverse_cons, dval_snoc, ih (m / 10) (by omega)]
      have : (dig10 m).toNat = 48 + m % 10 := by unfold dig10; rw [UInt8.toNat_ofNat']; omega
      rw [this]
      omega
theorem rdec_rdig (m : Nat) : ∀ b ∈ (rdec m).reverse, isDig b = true := fun b hb => rdec_dig m b (List.mem_reverse.1 hb)
theorem dnum_decL (n : Int) : dnum (decL n) = n := by
  unfold decL
  by_cases h : n = 0
  · rw [if_pos h, h]; decide
  · rw [if_neg h]
    by_cases h2 : n < 0
    · rw [if_pos h2]
      unfold dnum
      simp only [List.cons_append, List.nil_append, List.head?_cons, if_true, List.drop_succ_cons, List.drop_zero, dval_rdec]
      omega
    · rw [if_neg h2, List.nil_append]
      have hne : (rdec n.natAbs).reverse ≠ [] := by rw [rdec_pos (by omega)]; simp
      unfold dnum
      rw [if_neg (head_dig hne (rdec_rdig _)), dval_rdec]
      omega
theorem rdOk_decL (n : Int) : rdOk (decL n) ↔ (-1000000000 < n ∧ n < 1000000000) := by
  unfold rdOk
  rw [dnum_decL]
  have hlen : ∀ m : Nat, m < 10 ^ (rdec m).length := fun m => by
    have := dval_lt (rdec m).reverse (rdec_rdig m)
    rwa [dval_rdec, List.length_reverse] at this
  by_cases h : n = 0
  · have e : decL n = [48] := by unfold decL; rw [if_pos h]
    rw [e, h]
    constructor
    · intro _; omega
    · intro _; exact ⟨by decide, by decide, by decide, by decide⟩
  · have hat : datAt (decL n) = if n < 0 then 1 else 0 := by
      unfold decL datAt
      rw [if_neg h]
      by_cases h2 : n < 0
      · rw [if_pos h2, if_pos h2]; rfl
      · rw [if_neg h2, if_neg h2, List.nil_append]
        have hne : (rdec n.natAbs).reverse ≠ [] := by rw [rdec_pos (by omega)]; simp
        rw [if_neg (head_dig hne (rdec_rdig _))]
    have hd : (decL n).drop (datAt (decL n)) = (rdec n.natAbs).reverse := by
      rw [hat]
      unfold decL
      rw [if_neg h]
      by_cases h2 : n < 0
      · rw [if_pos h2, if_pos h2]; rfl
      · rw [if_neg h2, if_neg h2]; rfl
    have hll : (decL n).length - datAt (decL n) = (rdec n.natAbs).length := by
      have := congrArg List.length hd
      rwa [List.length_drop, List.length_reverse] at this
    have h0 : 0 < (rdec n.natAbs).length := by rw [rdec_pos (by omega)]; simp
    rw [hll, hd]
    have h1 := hlen n.natAbs
    constructor
    · rintro ⟨_, h9, _, _⟩
      have h3 : 10 ^ (rdec n.natAbs).length ≤ 10 ^ 9 := pow_le_of 10 _ 9 h9 (by decide)
      omega
    · intro hb
      refine ⟨h0, rdec_len 9 n.natAbs (by omega), rdec_rdig _, rfl⟩
theorem rdDecV_decL (n : Int) : rdDecV (decL n) = if -1000000000 < n ∧ n < 1000000000 then .tuple #[.int .i64 n, .bool true] else .tuple #[.int .i64 0, .bool false] := by
  unfold rdDecV
  by_cases h : -1000000000 < n ∧ n < 1000000000
  · rw [if_pos ((rdOk_decL n).2 h), if_pos h, dnum_decL]
  · rw [if_neg (fun c => h ((rdOk_decL n).1 c)), if_neg h]

theorem unhexL_hexL : ∀ t : List UInt8, unhexL (hexL t) = some t
  | [] => rfl
  | b :: t => by
    have hb := b.toNat_lt
    have h1 := dg_hexV (b.toNat / 16) (by omega)
    have h2 := dg_hexV (b.toNat % 16) (by omega)
    have ih := unhexL_hexL t
    have e : hexL (b :: t) = dg (b.toNat / 16) :: dg (b.toNat % 16) :: hexL t := by simp [hexL]
    rw [e]
    unfold unhexL
    rw [h1, h2, if_neg (by omega), ih]
    simp only [Option.map_some]
    congr 2
    unfold hb2
    rw [h1, h2]
    have : ((((b.toNat / 16 : Nat) : Int) * 16 + ((b.toNat % 16 : Nat) : Int))).toNat = b.toNat := by omega
    rw [this]
    exact UInt8.ofNat_toNat
end Go.Proofs.Ytbokgbbdjcpgbaa
