/- One text of Rd Hex Unhex Rv NumF ReadVar VolP. (Printed by merge.py.) -/
import Derived.Test.YtlkfabkkjfmnmaaGreatDoorDec
import Derived.Test.YtlkfabkkjfmnmaaGreatDoorIn
import Derived.Test.YtlkfabkkjfmnmaaGreatDoorNum
import Derived.Test.YtlkfabkkjfmnmaaGreatDoorFixed2
import Derived.Test.YtlkfabkkjfmnmaaGreatDoorVar
import Derived.Test.YtlkfabkkjfmnmaaGreatDoorCrcF
import Derived.Test.YtlkfabkkjfmnmaaGreatDoorInts
import Derived.Test.YtlkfabkkjfmnmaaGreatDoorStrs
import Derived.Test.YtlkfabkkjfmnmaaGreatDoorMore
import Derived.Test.YtlkfabkkjfmnmaaGreatDoorCrc
namespace Go.Proofs.YtlkfabkkjfmnmaaGreatDoor
open Go.RowKit

def digits : Array UInt8 := #[48, 49, 50, 51, 52, 53, 54, 55, 56, 57, 97, 98, 99, 100, 101, 102]
/-- What a digit of base 16 stands for; -1 where it is none. -/
def hexV (b : Int) : Int := if 48 ≤ b ∧ b ≤ 57 then b - 48 else if 97 ≤ b ∧ b ≤ 102 then b - 87 else -1
/-- The byte of two digits. -/
def hb2 (a b : UInt8) : UInt8 := UInt8.ofNat (hexV a.toNat * 16 + hexV b.toNat).toNat
/-- A draw ahead. -/
theorem _root_.Go.RowKit.Below.drewL {B : Nat} {w w' : World} (h : Below B w.drew w') : Below B w w' := ⟨h.os, h.tape, h.output, h.size, h.block⟩

/-- The number that bytes make, seven bits a byte, the lowest first. -/
def rv (l : List UInt8) : Nat := l.foldr (fun b a => b.toNat % 128 + 128 * a) 0
theorem rv_cons (b : UInt8) (l : List UInt8) : rv (b :: l) = b.toNat % 128 + 128 * rv l := rfl
theorem rv_snoc (l : List UInt8) (b : UInt8) : rv (l ++ [b]) = rv l + b.toNat % 128 * 128 ^ l.length := by
  induction l with
  | nil => simp [rv]
  | cons a l ih =>
    rw [List.cons_append, rv_cons, rv_cons, ih, List.length_cons, Nat.pow_succ, Nat.mul_add, Nat.add_assoc]
    congr 2
    rw [Nat.mul_left_comm, Nat.mul_comm 128 (128 ^ l.length)]
theorem rv_lt (l : List UInt8) : rv l < 128 ^ l.length := by
  induction l with
  | nil => decide
  | cons a l ih =>
    rw [rv_cons, List.length_cons, Nat.pow_succ]
    have := Nat.mod_lt a.toNat (show 0 < 128 by decide)
    omega
theorem rv_take_lt (l : List UInt8) (k : Nat) (h : k ≤ 7) : rv (l.take k) < 562949953421312 := by
  have h1 := rv_lt (l.take k)
  have h2 : (l.take k).length ≤ 7 := by rw [List.length_take]; omega
  exact Nat.lt_of_lt_of_le h1 (pow_le_of 128 _ 7 h2 (by decide))

/-- What ReadVar comes to. -/
def rdVar (l : List UInt8) : Nat × Nat :=
  let i := l.findIdx (fun b => decide (b.toNat < 128))
  if i < 7 ∧ i < l.length ∧ varL (rv (l.take (i + 1))) = l.take (i + 1) then (rv (l.take (i + 1)), i + 1) else (0, 0)

theorem lo7_toNat (m : Nat) (h : m < 128) : (lo7 m).toNat = m := by unfold lo7; rw [UInt8.toNat_ofNat']; omega
theorem hi7_toNat (m : Nat) : (hi7 m).toNat = 128 + m % 128 := by unfold hi7; rw [UInt8.toNat_ofNat']; omega

theorem varL_shape (n : Nat) : ∃ pre c, varL n = pre ++ [c] ∧ c.toNat < 128 ∧ ∀ b ∈ pre, 128 ≤ b.toNat := by
  induction n using Nat.strongRecOn with
  | _ n ih =>
    by_cases h : n < 128
    · exact ⟨[], lo7 n, by rw [varL_lo h]; rfl, by rw [lo7_toNat n h]; exact h, by simp⟩
    · obtain ⟨pre, c, e, hc, hp⟩ := ih (n / 128) (by omega)
      refine ⟨hi7 n :: pre, c, by rw [varL_hi h, e]; rfl, hc, ?_⟩
      intro b hb
      rcases List.mem_cons.1 hb with rfl | hb
      · rw [hi7_toNat]; omega
      · exact hp b hb

theorem rdVar_hit (l : List UInt8) (k : Nat) (h1 : k < 7) (h2 : k < l.length) (h : varL (rv (l.take (k + 1))) = l.take (k + 1)) : rdVar l = (rv (l.take (k + 1)), k + 1) := by
  obtain ⟨pre, c, e, hc, hp⟩ := varL_shape (rv (l.take (k + 1)))
  have e2 : l.take (k + 1) = pre ++ [c] := h ▸ e
  have hl : pre.length = k := by have := congrArg List.length e2; simp at this; omega
  have hi : l.findIdx (fun b => decide (b.toNat < 128)) = k := by
    have e3 : l = (pre ++ [c]) ++ l.drop (k + 1) := by rw [← e2]; simp
    refine (List.findIdx_eq h2).2 ⟨?_, ?_⟩
    · have : l[k] = c := by
        have : l[k]? = some c := by rw [e3, List.getElem?_append_left (by simp; omega), List.getElem?_append_right (by omega), hl]; simp
        rw [List.getElem?_eq_getElem h2] at this
        exact Option.some.inj this
      rw [this]; simpa using hc
    · intro j hj
      have hjl : j < pre.length := by omega
      have : l[j]? = some pre[j] := by rw [e3, List.getElem?_append_left (by simp; omega), List.getElem?_append_left hjl, List.getElem?_eq_getElem hjl]
      rw [List.getElem?_eq_getElem (by omega)] at this
      rw [Option.some.inj this]
      have := hp pre[j] (List.getElem_mem _)
      simp; omega
  unfold rdVar
  simp only [hi]
  rw [if_pos ⟨h1, h2, h⟩]

theorem rdVar_miss (l : List UInt8) (h : ∀ k, k < 7 → k < l.length → varL (rv (l.take (k + 1))) ≠ l.take (k + 1)) : rdVar l = (0, 0) := by
  unfold rdVar
  rw [if_neg]
  rintro ⟨a, b, c⟩
  exact h _ a b c

/-- As the program goes: the first byte below 128 decides. -/
theorem rdVar_at (l : List UInt8) (k : Nat) (h1 : k < 7) (h2 : k < l.length) (hk : l[k].toNat < 128) (hlo : ∀ j (h : j < l.length), j < k → 128 ≤ l[j].toNat) :
    rdVar l = if varL (rv (l.take (k + 1))) = l.take (k + 1) then (rv (l.take (k + 1)), k + 1) else (0, 0) := by
  have hi : l.findIdx (fun b => decide (b.toNat < 128)) = k := by
    refine (List.findIdx_eq h2).2 ⟨by simpa using hk, ?_⟩
    intro j hj
    have := hlo j (by omega) hj
    simp; omega
  unfold rdVar
  simp only [hi]
  by_cases c : varL (rv (l.take (k + 1))) = l.take (k + 1)
  · rw [if_pos ⟨h1, h2, c⟩, if_pos c]
  · rw [if_neg (fun h => c h.2.2), if_neg c]
theorem rdVar_none (l : List UInt8) (k : Nat) (hk : 7 ≤ k ∨ l.length ≤ k) (hlo : ∀ j (h : j < l.length), j < k → 128 ≤ l[j].toNat) : rdVar l = (0, 0) := by
  unfold rdVar
  rw [if_neg]
  rintro ⟨a, b, c⟩
  have := List.findIdx_getElem (w := b)
  have h2 := hlo _ b (by omega)
  simp at this
  omega
theorem rv_varL (n : Nat) : rv (varL n) = n := by
  induction n using Nat.strongRecOn with
  | _ n ih =>
    by_cases h : n < 128
    · rw [varL_lo h, rv_cons, lo7_toNat n h]
      show n % 128 + 128 * 0 = n
      omega
    · rw [varL_hi h, rv_cons, ih (n / 128) (by omega), hi7_toNat]
      omega
/-- A number is read from its text, whatever stands behind. -/
theorem rdVar_varL (n : Nat) (h : n ≤ 562949953421311) (tail : List UInt8) : rdVar (varL n ++ tail) = (n, (varL n).length) := by
  obtain ⟨pre, c, e, hc, hp⟩ := varL_shape n
  have hl := varL_len7 n h
  have hk : (varL n).length = pre.length + 1 := by rw [e]; simp
  have ht : (varL n ++ tail).take (pre.length + 1) = varL n := by rw [← hk, List.take_left]
  have h1 := rdVar_hit (varL n ++ tail) pre.length (by omega) (by rw [List.length_append]; omega) (by rw [ht, rv_varL])
  rw [h1, ht, rv_varL, hk]
/-- No other text is read. -/
theorem rdVar_sound (l : List UInt8) (h : (rdVar l).2 ≠ 0) : varL (rdVar l).1 = l.take (rdVar l).2 ∧ (rdVar l).1 ≤ 562949953421311 ∧ (rdVar l).2 ≤ l.length := by
  unfold rdVar at h ⊢
  simp only at h ⊢
  split at h
  · rename_i hc
    rw [if_pos hc]
    refine ⟨hc.2.2, ?_, by have := hc.2.1; omega⟩
    have := rv_take_lt l (l.findIdx (fun b => decide (b.toNat < 128)) + 1) (by have := hc.1; omega)
    omega
  · exact absurd rfl h
theorem rdVar_zero (l : List UInt8) (h : (rdVar l).2 = 0) : rdVar l = (0, 0) := by
  unfold rdVar at h ⊢
  simp only at h ⊢
  split at h
  · simp at h
  · rename_i hc; rw [if_neg hc]
theorem rdVar_eq (l : List UInt8) : (rdVar l).2 ≤ 7 := by
  unfold rdVar
  simp only
  split
  · rename_i hc; have := hc.1; simp only; omega
  · exact Nat.zero_le _

def rdVarV (l : List UInt8) : Value := .tuple #[.int .i64 ((rdVar l).1 : Int), .int .i64 ((rdVar l).2 : Int)]

theorem shl7 (x i : Nat) (hx : x < 128) (hi : i < 7) : IntKind.i64.wrap ((x : Int) * 2 ^ (7 * i)) = ((x * 128 ^ i : Nat) : Int) := by
  match i, hi with
  | 0, _ => simp; rw [IntKind.wrap_i64]; omega
  | 1, _ => simp; rw [IntKind.wrap_i64]; omega
  | 2, _ => simp; rw [IntKind.wrap_i64]; omega
  | 3, _ => simp; rw [IntKind.wrap_i64]; omega
  | 4, _ => simp; rw [IntKind.wrap_i64]; omega
  | 5, _ => simp; rw [IntKind.wrap_i64]; omega
  | 6, _ => simp; rw [IntKind.wrap_i64]; omega

theorem or7 (r x i : Nat) (hr : r < 128 ^ i) (hx : x < 128) (hi : i < 7) : bits .or .i64 (r : Int) ((x * 128 ^ i : Nat) : Int) = ((r + x * 128 ^ i : Nat) : Int) := by
  rw [bits_or_comm]
  match i, hi, hr with
  | 0, _, hr => simp at hr; subst hr; rw [i64_or 0] <;> omega
  | 1, _, hr => rw [i64_or 7] <;> omega
  | 2, _, hr => rw [i64_or 14] <;> omega
  | 3, _, hr => rw [i64_or 21] <;> omega
  | 4, _, hr => rw [i64_or 28] <;> omega
  | 5, _, hr => rw [i64_or 35] <;> omega
  | 6, _, hr => rw [i64_or 42] <;> omega
theorem u8_and127 (x : Int) (h₀ : 0 ≤ x) (h₁ : x < 256) : bits .and .u8 x 127 = x % 128 := bits_mask .u8 8 (by decide) wraps_u8 7 (by decide) x h₀ h₁

set_option maxRecDepth 1000000 in
set_option maxHeartbeats 6000000 in
theorem implReadVar_any (s : ByteArray) (w : World) (hs : s.size ≤ 1073741824) :
    Calls Tryz.prog 52 #[.string s] w fun e w' => e = .returned (rdVarV s.data.toList) ∧ Below w.heap.size w w' := by
  go_enter Tryz.func52, Tryz.ntmps52
  go_wp2
  go_loopg [4, 5] 8 (fun g n i wr => ∃ k : Nat, k + g = 8 ∧ k ≤ s.size ∧ k ≤ 7 ∧ i = .int .i64 k ∧ n = .int .i64 (rv (s.data.toList.take k) : Nat) ∧ (∀ j (h : j < s.data.toList.length), j < k → 128 ≤ (s.data.toList[j]).toNat) ∧ wr = w)
  case atStart => exact ⟨0, by omega, by omega, by omega, rfl, rfl, fun j _ h => by omega, rfl⟩
  case round =>
    obtain ⟨k, hk, hks, hk7, rfl, rfl, hlo, rfl⟩ := hrel
    by_cases hlt : k < s.size
    · by_cases hl7 : k < 7
      · have hb0 : (s[k].toNat : Int) < 256 := by have := s[k].toNat_lt; omega
        have ha := u8_and127 (s[k].toNat : Int) (by omega) (by omega)
        have hx : s[k].toNat % 128 < 128 := Nat.mod_lt _ (by decide)
        have hsh : wrap64 ((s[k].toNat : Int) % 128 * 2 ^ (7 * k)) = ((s[k].toNat % 128 * 128 ^ k : Nat) : Int) := by
          have := shl7 (s[k].toNat % 128) k hx hl7
          rw [PlainAid.i64_is] at this
          rw [← this, Int.natCast_emod]; rfl
        have hor := or7 (rv (s.data.toList.take k)) (s[k].toNat % 128) k (by have := rv_lt (s.data.toList.take k); rw [List.length_take] at this; simpa [Nat.min_eq_left hks] using this) hx hl7
        have hR : rv (s.data.toList.take (k + 1)) = rv (s.data.toList.take k) + s[k].toNat % 128 * 128 ^ k := by
          rw [take_snoc s k hlt, rv_snoc, List.length_take]
          simp [Nat.min_eq_left hks]
        have hbig := rv_take_lt s.data.toList (k + 1) (by omega)
        rw [← hR] at hor
        clear hR
        have hlen : k < s.data.toList.length := by simpa using hlt
        have hsk : s.data.toList[k] = s[k] := rfl
        generalize s[k].toNat % 128 * 128 ^ k = X at *
        by_cases hc : s[k].toNat < 128
        · have hat := rdVar_at s.data.toList k hl7 hlen (by rw [hsk]; exact hc) (fun j hj hjk => hlo j hj hjk)
          have hV : varV ((rv (s.data.toList.take (k + 1)) : Nat) : Int) = varL (rv (s.data.toList.take (k + 1))) := varV_yes _ (by omega)
          have HV := Lib.hid hV
          clear hlo hV hsk
          by_cases hE : varL (rv (s.data.toList.take (k + 1))) = s.data.toList.take (k + 1)
          · rw [if_pos hE] at hat
            have HA := Lib.hid hat
            have HE := Lib.hid hE
            clear hat hE
            generalize rv (s.data.toList.take (k + 1)) = N at *
            generalize rv (s.data.toList.take k) = r at *
            go_wp2
            have hw1 : IntKind.i64.wrap ((k : Int) + 1) = (k : Int) + 1 := IntWalk.i64_in _ ⟨by omega, by omega⟩
            have hw2 : ((k : Int) + 1).toNat = k + 1 := by omega
            have hw3 : 0 ≤ (k : Int) + 1 := by omega
            have hw4 : (k : Int) + 1 ≤ (s.size : Int) := by omega
            refine wp_region_any (by kernel_rfl) ?_
            try (change wpAny _ _ _ _ _ _ _ (World.drew _))
            refine wpAny_take (i := 0) (v := ?_) rfl (by kernel_rfl) (by kernel_rfl) (by kernel_rfl) (fun _ _ _ h => h) (Or.inl ⟨by rfl, ?hy⟩) ?_; (case hy => (intro w; go_simp; try with_reducible rfl))
            refine wpAny_take (i := 2) (v := ?_) rfl (by kernel_rfl) (by kernel_rfl) (by kernel_rfl) (fun _ _ _ h => h) (Or.inl ⟨by rfl, ?hy⟩) ?_; (case hy => (intro w; go_simp; try with_reducible rfl))
            refine wpAny_take (i := 3) (v := ?_) rfl (by kernel_rfl) (by kernel_rfl) (by kernel_rfl) (fun _ _ _ h => h) (Or.inl ⟨by rfl, ?hy⟩) ?_; (case hy => (intro w; go_simp; try with_reducible rfl))
            refine wpAny_take (i := 4) (v := ?_) rfl (by kernel_rfl) (by kernel_rfl) (by kernel_rfl) (fun _ _ _ h => h) (Or.inl ⟨by rfl, ?hy⟩) ?_; (case hy => (intro w; go_simp; try with_reducible rfl))
            refine wpAny_take (i := 5) (v := ?_) rfl (by kernel_rfl) (by kernel_rfl) (by kernel_rfl) (fun _ _ _ h => h) (Or.inl ⟨by rfl, ?hy⟩) ?_; (case hy => (intro w; go_simp; try with_reducible rfl))
            refine wpAny_ready (rs := [1]) (by kernel_rfl) (by simp) ?_
            refine AllReady.cons rfl (fun K hK => ?_) AllReady.nil
            go_simp
            refine (implVar_any _ _).mono ?_; rintro e w2 ⟨rfl, hb2⟩
            refine hK _ _ ?_
            clear hK K
            rw [HV.out, HE.out]
            have hex := extract_take s (k + 1)
            refine wpAny_ready (rs := [6]) (by kernel_rfl) (by simp) ?_
            refine AllReady.cons rfl (fun K hK => ?_) AllReady.nil
            go_simp
            refine hK _ _ ?_
            clear hK K
            refine wpAny_done (by kernel_rfl) ?_ _
            go_wp2
            go_ret2
            exact ⟨by rw [rdVarV, HA.out]; go_num, hb2.drewL⟩
          · rw [if_neg hE] at hat
            have HA := Lib.hid hat
            have hE2 : (varL (rv (s.data.toList.take (k + 1))) == s.data.toList.take (k + 1)) = false := by simpa using hE
            clear hat hE
            generalize rv (s.data.toList.take (k + 1)) = N at *
            generalize rv (s.data.toList.take k) = r at *
            go_wp2
            have hw1 : IntKind.i64.wrap ((k : Int) + 1) = (k : Int) + 1 := IntWalk.i64_in _ ⟨by omega, by omega⟩
            have hw2 : ((k : Int) + 1).toNat = k + 1 := by omega
            have hw3 : 0 ≤ (k : Int) + 1 := by omega
            have hw4 : (k : Int) + 1 ≤ (s.size : Int) := by omega
            refine wp_region_any (by kernel_rfl) ?_
            try (change wpAny _ _ _ _ _ _ _ (World.drew _))
            refine wpAny_take (i := 0) (v := ?_) rfl (by kernel_rfl) (by kernel_rfl) (by kernel_rfl) (fun _ _ _ h => h) (Or.inl ⟨by rfl, ?hy⟩) ?_; (case hy => (intro w; go_simp; try with_reducible rfl))
            refine wpAny_take (i := 2) (v := ?_) rfl (by kernel_rfl) (by kernel_rfl) (by kernel_rfl) (fun _ _ _ h => h) (Or.inl ⟨by rfl, ?hy⟩) ?_; (case hy => (intro w; go_simp; try with_reducible rfl))
            refine wpAny_take (i := 3) (v := ?_) rfl (by kernel_rfl) (by kernel_rfl) (by kernel_rfl) (fun _ _ _ h => h) (Or.inl ⟨by rfl, ?hy⟩) ?_; (case hy => (intro w; go_simp; try with_reducible rfl))
            refine wpAny_take (i := 4) (v := ?_) rfl (by kernel_rfl) (by kernel_rfl) (by kernel_rfl) (fun _ _ _ h => h) (Or.inl ⟨by rfl, ?hy⟩) ?_; (case hy => (intro w; go_simp; try with_reducible rfl))
            refine wpAny_take (i := 5) (v := ?_) rfl (by kernel_rfl) (by kernel_rfl) (by kernel_rfl) (fun _ _ _ h => h) (Or.inl ⟨by rfl, ?hy⟩) ?_; (case hy => (intro w; go_simp; try with_reducible rfl))
            refine wpAny_ready (rs := [1]) (by kernel_rfl) (by simp) ?_
            refine AllReady.cons rfl (fun K hK => ?_) AllReady.nil
            go_simp
            refine (implVar_any _ _).mono ?_; rintro e w2 ⟨rfl, hb2⟩
            refine hK _ _ ?_
            clear hK K
            rw [HV.out]
            have hex := extract_take s (k + 1)
            refine wpAny_ready (rs := [6]) (by kernel_rfl) (by simp) ?_
            refine AllReady.cons rfl (fun K hK => ?_) AllReady.nil
            go_simp
            refine hK _ _ ?_
            clear hK K
            refine wpAny_done (by kernel_rfl) ?_ _
            go_wp2
            go_ret2
            exact ⟨by rw [rdVarV, HA.out]; rfl, hb2.drewL⟩
        · have hlo2 : Hid (∀ j (h : j < s.data.toList.length), j < k + 1 → 128 ≤ (s.data.toList[j]).toNat) := Lib.hid (fun j h hj => by
            rcases Nat.lt_or_ge j k with hjk | hjk
            · exact hlo j h hjk
            · have : j = k := by omega
              subst this; rw [hsk]; omega)
          clear hlo hsk
          go_wp2
          go_roundg (gk - 1)
          case measure => omega
          case rel => exact ⟨k + 1, by omega, by omega, by omega, by go_num, rfl, hlo2.out, rfl⟩
      · have H : Hid (rdVar s.data.toList = (0, 0)) := Lib.hid (rdVar_none _ k (by omega) hlo)
        clear hlo
        go_wp2
        go_ret2
        exact ⟨by rw [rdVarV, H.out]; rfl, Below.refl _ _⟩
    · have H : Hid (rdVar s.data.toList = (0, 0)) := Lib.hid (rdVar_none _ k (by simp; omega) hlo)
      clear hlo
      go_wp2
      go_ret2
      exact ⟨by rw [rdVarV, H.out]; rfl, Below.refl _ _⟩
set_option maxRecDepth 1000000 in
set_option maxHeartbeats 6000000 in
theorem specReadVar_any (s : ByteArray) (w : World) (hs : s.size ≤ 1073741824) :
    Calls Tryz.prog 48 #[.string s] w fun e w' => e = .returned (rdVarV s.data.toList) ∧ Below w.heap.size w w' := by
  go_enter Tryz.func48, Tryz.ntmps48
  go_wp2
  go_loopg [4] 8 (fun g i wr => ∃ k : Nat, k + g = 8 ∧ k ≤ s.size ∧ k ≤ 7 ∧ i = .int .i64 ((k : Int) + 1) ∧ (∀ j, j < k → varL (rv (s.data.toList.take (j + 1))) ≠ s.data.toList.take (j + 1)) ∧ Below w.heap.size w wr)
  case atStart => exact ⟨0, by omega, by omega, by omega, rfl, fun j h => by omega, Below.refl _ _⟩
  case round =>
    obtain ⟨k, hk, hks, hk7, rfl, hlo, hB⟩ := hrel
    obtain ⟨gg, rfl⟩ : ∃ g, g = gk := ⟨_, rfl⟩
    by_cases hlt : k < s.size
    · by_cases hl7 : k < 7
      · have hlen : k < s.data.toList.length := by simpa using hlt
        have HL := Lib.hid hlo
        clear hlo
        obtain ⟨wo, rfl⟩ : ∃ wo : World, wo = wr := ⟨_, rfl⟩
        go_wp2
        go_loopg [5, 6] (k + 1) (fun g n i wr2 => ∃ j : Nat, j = g ∧ j ≤ k + 1 ∧ i = .int .i64 ((j : Int) - 1) ∧ n = .int .i64 (rv ((s.data.toList.take (k + 1)).drop j) : Nat) ∧ wr2 = wo)
        case atStart => exact ⟨k + 1, rfl, by omega, by go_num, by rw [List.drop_of_length_le (by rw [List.length_take]; omega)]; rfl, rfl⟩
        case round =>
          obtain ⟨j, rfl, hj, rfl, rfl, rfl⟩ := hrel
          by_cases hj0 : 0 < j
          · have hjs : j - 1 < s.size := by omega
            have hb0 := (s[j - 1]).toNat_lt
            have hi0 : (0 : Int) ≤ (j : Int) - 1 := by omega
            have hi1 : (j : Int) - 1 < (s.size : Int) := by omega
            have hR : Hid (rv ((s.data.toList.take (k + 1)).drop (j - 1)) = s[j - 1].toNat % 128 + 128 * rv ((s.data.toList.take (k + 1)).drop j)) := Lib.hid (by
              have hl : j - 1 < (s.data.toList.take (k + 1)).length := by rw [List.length_take]; simp; omega
              rw [List.drop_eq_getElem_cons hl, rv_cons, List.getElem_take, show j - 1 + 1 = j from by omega]
              rfl)
            have hbig : rv ((s.data.toList.take (k + 1)).drop j) < 4398046511104 := by
              have h1 := rv_lt ((s.data.toList.take (k + 1)).drop j)
              have h2 : ((s.data.toList.take (k + 1)).drop j).length ≤ 6 := by rw [List.length_drop, List.length_take]; omega
              exact Nat.lt_of_lt_of_le h1 (pow_le_of 128 _ 6 h2 (by decide))
            generalize rv ((s.data.toList.take (k + 1)).drop j) = q at *
            go_wp2
            go_roundg (j - 1)
            case measure => omega
            case rel => exact ⟨j - 1, rfl, by omega, by go_num, by rw [hR.out]; go_num, rfl⟩
          · have hj1 : j = 0 := by omega
            subst hj1
            have hbig := rv_take_lt s.data.toList (k + 1) (by omega)
            have hV : varV ((rv (s.data.toList.take (k + 1)) : Nat) : Int) = varL (rv (s.data.toList.take (k + 1))) := varV_yes _ (by omega)
            have HV := Lib.hid hV
            clear hV
            rw [List.drop_zero]
            have hw3 : 0 ≤ (k : Int) + 1 := by omega
            have hw2 : ((k : Int) + 1).toNat = k + 1 := by omega
            have hw4 : (k : Int) + 1 ≤ (s.size : Int) := by omega
            have hex := extract_take s (k + 1)
            by_cases hE : varL (rv (s.data.toList.take (k + 1))) = s.data.toList.take (k + 1)
            · have HA := Lib.hid (rdVar_hit s.data.toList k hl7 hlen hE)
              have HE := Lib.hid hE
              clear hE
              generalize rv (s.data.toList.take (k + 1)) = N at *
              go_wp2
              refine wp_region_any (by kernel_rfl) ?_
              try (change wpAny _ _ _ _ _ _ _ (World.drew _))
              refine wpAny_take (i := 0) (v := ?_) rfl (by kernel_rfl) (by kernel_rfl) (by kernel_rfl) (fun _ _ _ h => h) (Or.inl ⟨by rfl, ?hy⟩) ?_; (case hy => (intro w; go_simp; try with_reducible rfl))
              refine wpAny_take (i := 2) (v := ?_) rfl (by kernel_rfl) (by kernel_rfl) (by kernel_rfl) (fun _ _ _ h => h) (Or.inl ⟨by rfl, ?hy⟩) ?_; (case hy => (intro w; go_simp; try with_reducible rfl))
              refine wpAny_take (i := 3) (v := ?_) rfl (by kernel_rfl) (by kernel_rfl) (by kernel_rfl) (fun _ _ _ h => h) (Or.inl ⟨by rfl, ?hy⟩) ?_; (case hy => (intro w; go_simp; try with_reducible rfl))
              refine wpAny_take (i := 4) (v := ?_) rfl (by kernel_rfl) (by kernel_rfl) (by kernel_rfl) (fun _ _ _ h => h) (Or.inl ⟨by rfl, ?hy⟩) ?_; (case hy => (intro w; go_simp; try with_reducible rfl))
              refine wpAny_ready (rs := [1]) (by kernel_rfl) (by simp) ?_
              refine AllReady.cons rfl (fun K hK => ?_) AllReady.nil
              go_simp
              refine (specVar_any _ _).mono ?_; rintro e w2 ⟨rfl, hb2⟩
              refine hK _ _ ?_
              clear hK K
              rw [HV.out, HE.out]
              refine wpAny_ready (rs := [5]) (by kernel_rfl) (by simp) ?_
              refine AllReady.cons rfl (fun K hK => ?_) AllReady.nil
              go_simp
              refine hK _ _ ?_
              clear hK K
              refine wpAny_done (by kernel_rfl) ?_ _
              go_wp2
              go_ret2
              exact ⟨by rw [rdVarV, HA.out]; go_num, hB.trans (hb2.drewL.mono hB.size)⟩
            · have hE2 : (varL (rv (s.data.toList.take (k + 1))) == s.data.toList.take (k + 1)) = false := by simpa using hE
              have HL2 : Hid (∀ j, j < k + 1 → varL (rv (s.data.toList.take (j + 1))) ≠ s.data.toList.take (j + 1)) := Lib.hid (fun j hj => by
                rcases Nat.lt_or_ge j k with hjk | hjk
                · exact HL.out j hjk
                · have : j = k := by omega
                  subst this; exact hE)
              clear hE
              generalize rv (s.data.toList.take (k + 1)) = N at *
              go_wp2
              refine wp_region_any (by kernel_rfl) ?_
              try (change wpAny _ _ _ _ _ _ _ (World.drew _))
              refine wpAny_take (i := 0) (v := ?_) rfl (by kernel_rfl) (by kernel_rfl) (by kernel_rfl) (fun _ _ _ h => h) (Or.inl ⟨by rfl, ?hy⟩) ?_; (case hy => (intro w; go_simp; try with_reducible rfl))
              refine wpAny_take (i := 2) (v := ?_) rfl (by kernel_rfl) (by kernel_rfl) (by kernel_rfl) (fun _ _ _ h => h) (Or.inl ⟨by rfl, ?hy⟩) ?_; (case hy => (intro w; go_simp; try with_reducible rfl))
              refine wpAny_take (i := 3) (v := ?_) rfl (by kernel_rfl) (by kernel_rfl) (by kernel_rfl) (fun _ _ _ h => h) (Or.inl ⟨by rfl, ?hy⟩) ?_; (case hy => (intro w; go_simp; try with_reducible rfl))
              refine wpAny_take (i := 4) (v := ?_) rfl (by kernel_rfl) (by kernel_rfl) (by kernel_rfl) (fun _ _ _ h => h) (Or.inl ⟨by rfl, ?hy⟩) ?_; (case hy => (intro w; go_simp; try with_reducible rfl))
              refine wpAny_ready (rs := [1]) (by kernel_rfl) (by simp) ?_
              refine AllReady.cons rfl (fun K hK => ?_) AllReady.nil
              go_simp
              refine (specVar_any _ _).mono ?_; rintro e w2 ⟨rfl, hb2⟩
              refine hK _ _ ?_
              clear hK K
              rw [HV.out]
              refine wpAny_ready (rs := [5]) (by kernel_rfl) (by simp) ?_
              refine AllReady.cons rfl (fun K hK => ?_) AllReady.nil
              go_simp
              refine hK _ _ ?_
              clear hK K
              refine wpAny_done (by kernel_rfl) ?_ _
              go_wp2
              go_roundg (gg - 1)
              case measure => omega
              case rel => exact ⟨k + 1, by omega, by omega, by omega, by go_num, HL2.out, hB.trans (hb2.drewL.mono hB.size)⟩
      · have H : Hid (rdVar s.data.toList = (0, 0)) := Lib.hid (rdVar_miss _ (fun j h1 _ => hlo j (by omega)))
        clear hlo
        go_wp2
        go_ret2
        exact ⟨by rw [rdVarV, H.out]; rfl, hB⟩
    · have H : Hid (rdVar s.data.toList = (0, 0)) := Lib.hid (rdVar_miss _ (fun j _ h2 => hlo j (by simp at h2; omega)))
      clear hlo
      go_wp2
      all_goals go_ret2
      all_goals exact ⟨by rw [rdVarV, H.out]; rfl, hB⟩

theorem bcell {W w1 : World} (hb : Below W.heap.size W w1) : (∀ b o, b < W.heap.size → w1.cell? ⟨b, o, none⟩ = W.cell? ⟨b, o, none⟩) ∧ (∀ b o, b < W.heap.size → w1.frozen? ⟨b, o, none⟩ = W.frozen? ⟨b, o, none⟩) :=
  ⟨fun b o h => hb.cell (p := ⟨b, o, none⟩) h, fun b o h => hb.frozen (p := ⟨b, o, none⟩) h⟩
theorem box_below {w w' : World} {b j : Nat} {v : Value} (h : w.cell? ⟨b, j, none⟩ = some v) (hb : Below w.heap.size w w') : w'.cell? ⟨b, j, none⟩ = some v :=
  (hb.cell (p := ⟨b, j, none⟩) (World.block_lt_of_cell? w _ h)).trans h
theorem cell_block {w w' : World} {b j : Nat} {v : Value} (h : w.cell? ⟨b, j, none⟩ = some v) (hb : w'.heap[b]? = w.heap[b]?) : w'.cell? ⟨b, j, none⟩ = some v :=
  (World.cell?_of_block (a := ⟨b, j, none⟩) hb).trans h
theorem ba_append (a b : List UInt8) : (⟨a.toArray⟩ : ByteArray) ++ ⟨b.toArray⟩ = ⟨(a ++ b).toArray⟩ := by
  apply ByteArray.ext
  simp [ByteArray.data_append]
theorem ba_self (s : ByteArray) : (⟨s.data.toList.toArray⟩ : ByteArray) = s := by
  rcases s with ⟨d⟩
  show (⟨d.toList.toArray⟩ : ByteArray) = ⟨d⟩
  rw [Array.toArray_toList]
theorem ba_size (l : List UInt8) : (⟨l.toArray⟩ : ByteArray).size = l.length := List.size_toArray
theorem data_len (s : ByteArray) : s.data.toList.length = s.size := Array.length_toList

def pieceL (s : ByteArray) : List UInt8 := varV s.size ++ s.data.toList
/- Reading, one behind the other. -/
def numO : Option (List UInt8) → Int × Option (List UInt8)
  | none => (0, none)
  | some r => if (rdVar r).2 = 0 then (0, none) else (((rdVar r).1 : Int), some (r.drop (rdVar r).2))
def cutO (n : Int) : Option (List UInt8) → List UInt8 × Option (List UInt8)
  | none => ([], none)
  | some r => if 0 ≤ n ∧ n ≤ r.length then (r.take n.toNat, some (r.drop n.toNat)) else ([], none)
def pieceO (o : Option (List UInt8)) : List UInt8 × Option (List UInt8) := cutO (numO o).1 (numO o).2
def manyO (most : Int) (o : Option (List UInt8)) : Int × Option (List UInt8) := if most < (numO o).1 then (0, none) else numO o
theorem numO_var (n : Nat) (h : n ≤ 562949953421311) (r : List UInt8) : numO (some (varV n ++ r)) = ((n : Int), some r) := by
  rw [varV_yes n h]
  have e := rdVar_varL n h r
  have h0 : (varL n).length ≠ 0 := fun c => varL_ne n (List.eq_nil_of_length_eq_zero c)
  unfold numO
  simp only [e]
  rw [if_neg h0]
  simp
theorem pieceO_piece (s : ByteArray) (h : s.size ≤ 562949953421311) (r : List UInt8) : pieceO (some (pieceL s ++ r)) = (s.data.toList, some r) := by
  unfold pieceO pieceL
  rw [List.append_assoc, numO_var s.size h]
  have hl := data_len s
  unfold cutO
  simp only
  rw [if_pos ⟨by omega, by rw [List.length_append]; omega⟩]
  have e : ((s.size : Nat) : Int).toNat = s.data.toList.length := by omega
  rw [e]
  simp
def pieceB (s : ByteArray) : ByteArray := ⟨(pieceL s).toArray⟩
theorem ba_append_s (a : List UInt8) (s : ByteArray) : (⟨a.toArray⟩ : ByteArray) ++ s = ⟨(a ++ s.data.toList).toArray⟩ := by
  have := ba_append a s.data.toList
  rwa [ba_self] at this
theorem pieceB_eq (s : ByteArray) : (⟨(varV (s.size : Int)).toArray⟩ : ByteArray) ++ s = pieceB s := ba_append_s _ _
set_option maxRecDepth 1000000 in
set_option maxHeartbeats 6000000 in
theorem piece_any (s : ByteArray) (hs : s.size ≤ 1073741824) (w : World) : Calls Tryz.prog 89 #[.string s] w fun e w' => e = .returned (.string (pieceB s)) ∧ Below w.heap.size w w' := by
  have HP := Lib.hid (pieceB_eq s)
  have hv := varV_len s.size
  have hsum : (varV (s.size : Int)).length + s.size ≤ 9223372036854775807 := by omega
  go_enter Tryz.func89, Tryz.ntmps89
  go_wp2_with fail
  refine (implVar_any _ _).mono ?_
  rintro e w1 ⟨rfl, hb⟩
  have HB := Lib.hid hb
  clear hb
  go_wp2
  go_ret
  exact ⟨ret_str HP.out, HB.out⟩
set_option maxRecDepth 1000000 in
set_option maxHeartbeats 6000000 in
theorem l7Piece_any (s : ByteArray) (hs : s.size ≤ 1073741824) (w : World) : Calls Tryz.prog 96 #[.string s] w fun e w' => e = .returned (.string (pieceB s)) ∧ Below w.heap.size w w' := by
  have HP := Lib.hid (pieceB_eq s)
  have hv := varV_len s.size
  have hsum : (varV (s.size : Int)).length + s.size ≤ 9223372036854775807 := by omega
  go_enter Tryz.func96, Tryz.ntmps96
  go_wp2_with fail
  refine (specVar_any _ _).mono ?_
  rintro e w1 ⟨rfl, hb⟩
  have HB := Lib.hid hb
  clear hb
  go_wp2
  go_ret
  exact ⟨ret_str HP.out, HB.out⟩
theorem ex_drop (s : ByteArray) (k : Nat) : (s.extract k s.size).data.toList = s.data.toList.drop k := by
  simp only [ByteArray.data_extract, Array.toList_extract]
  rw [List.extract_eq_take_drop, List.take_of_length_le (by simp)]
theorem ex_take (s : ByteArray) (k : Nat) : (s.extract 0 k).data.toList = s.data.toList.take k := by simp [ByteArray.data_extract]
theorem ex_size (s : ByteArray) (k m : Nat) (h : s.size ≤ m) : (s.extract k s.size).size ≤ m := by simp; omega
/-- What a scanner still has to read; nothing if it is bad. -/
def scO (rest : ByteArray) (bad : Bool) : Option (List UInt8) := if bad = true then none else some rest.data.toList
structure ScanAt (w : World) (b : Nat) (o : Option (List UInt8)) (m : Nat) : Prop where
  ex : ∃ rest bad, w.cell? ⟨b, 0, none⟩ = some (.string rest) ∧ w.cell? ⟨b, 1, none⟩ = some (.bool bad) ∧ (w.frozen? ⟨b, 0, none⟩ = false ∧ w.frozen? ⟨b, 1, none⟩ = false) ∧ rest.size ≤ m ∧ o = scO rest bad
theorem ScanAt.kept {w w' : World} {b m : Nat} {o : Option (List UInt8)} (h : ScanAt w b o m) (hb : w'.heap[b]? = w.heap[b]?) : ScanAt w' b o m := by
  obtain ⟨r, bd, h1, h2, ⟨f1, f2⟩, h3, h4⟩ := h.ex
  exact ⟨r, bd, cell_block h1 hb, cell_block h2 hb, ⟨(World.frozen?_of_block (a := ⟨b, 0, none⟩) hb).trans f1, (World.frozen?_of_block (a := ⟨b, 1, none⟩) hb).trans f2⟩, h3, h4⟩
theorem ScanAt.lt {w : World} {b m : Nat} {o : Option (List UInt8)} (h : ScanAt w b o m) : b < w.heap.size := by
  obtain ⟨r, bd, h1, _⟩ := h.ex
  exact World.block_lt_of_cell? w _ h1
theorem ScanAt.below {w w' : World} {b m : Nat} {o : Option (List UInt8)} (h : ScanAt w b o m) (hb : Below w.heap.size w w') : ScanAt w' b o m := h.kept (hb.block b h.lt)
theorem sc_ok (rest : ByteArray) : scO rest false = some rest.data.toList := rfl
def ScanPost (b m : Nat) (w : World) (v : Value) (o : Option (List UInt8)) (e : Ending) (w' : World) : Prop := e = .returned v ∧ ScanAt w' b o m ∧ w.grownBy w' (some b)
theorem scan_set (w : World) (b j : Nat) (u : Value) : w.grownBy (w.setCell ⟨b, j, none⟩ u) (some b) :=
  ⟨rfl, rfl, rfl, by simp [World.setCell], fun k _ hk => heap_setCell_other w ⟨b, j, none⟩ k u (fun e => hk (by simp [e]))⟩
theorem set_frozen (w : World) (b j i : Nat) (u : Value) (h : w.frozen? ⟨b, i, none⟩ = false) (hl : b < w.heap.size) : (w.setCell ⟨b, j, none⟩ u).frozen? ⟨b, i, none⟩ = false := by go_simp
set_option maxRecDepth 1000000 in
set_option maxHeartbeats 6000000 in
theorem scNum_any (b m : Nat) (o : Option (List UInt8)) (w : World) (h : ScanAt w b o m) (hm : m ≤ 1073741824) :
    Calls Tryz.prog 26 #[.pointer (some ⟨b, 0, none⟩)] w (ScanPost b m w (.int .i64 (numO o).1) (numO o).2) := by
  obtain ⟨rest, bad, c0, c1, ⟨f0, f1⟩, hs, ho⟩ := h.ex
  have hbl : b < w.heap.size := World.block_lt_of_cell? w _ c0
  have HO := Lib.hid ho
  have HC := Lib.hid (And.intro (And.intro c0 c1) (And.intro f0 f1))
  clear h ho
  go_enter Tryz.func26, Tryz.ntmps26
  go_wp2_with fail
  refine (implReadVar_any rest _ (by omega)).mono ?_
  rintro e w1 ⟨rfl, hb⟩
  unfold rdVarV
  obtain ⟨⟨c0, c1⟩, f0, f1⟩ := HC.out
  replace c0 := box_below c0 hb
  replace c1 := box_below c1 hb
  replace f0 := ((bcell hb).2 b 0 hbl).trans f0
  replace f1 := ((bcell hb).2 b 1 hbl).trans f1
  have HG := Lib.hid (grown_of_below (some b) hb)
  have hbl1 : b < w1.heap.size := Nat.lt_of_lt_of_le hbl hb.size
  have HSZ := Lib.hid (ex_size rest (rdVar rest.data.toList).2 m hs)
  have HXD := Lib.hid (ex_drop rest (rdVar rest.data.toList).2)
  have hkl := (rdVar_eq rest.data.toList)
  have HV : Hid (numO (some rest.data.toList) = if (rdVar rest.data.toList).2 = 0 then (0, none) else (((rdVar rest.data.toList).1 : Int), some (rest.data.toList.drop (rdVar rest.data.toList).2))) := Lib.hid rfl
  have hkr : (rdVar rest.data.toList).2 ≤ rest.size := by
    by_cases h0 : (rdVar rest.data.toList).2 = 0
    · omega
    · have := (rdVar_sound rest.data.toList h0).2.2
      have e : rest.data.toList.length = rest.size := Array.length_toList
      omega
  clear hb
  cases bad with
  | true =>
    have HO2 : Hid (numO o = (0, none)) := Lib.hid (by rw [HO.out]; rfl)
    clear HV HXD HSZ
    generalize (rdVar rest.data.toList).2 = k at *
    generalize (rdVar rest.data.toList).1 = n at *
    go_wp2
    go_ret
    rw [HO2.out]
    exact ⟨rfl, ⟨rest, true, by go_simp, by go_simp, ⟨set_frozen _ _ _ _ _ f0 hbl1, set_frozen _ _ _ _ _ f1 hbl1⟩, hs, rfl⟩, grown_trans HG.out (scan_set w1 b 1 (.bool true)) (fun x hx => .inl hx)⟩
  | false =>
    by_cases hk0 : (rdVar rest.data.toList).2 = 0
    · have HO2 : Hid (numO o = (0, none)) := Lib.hid (by rw [HO.out, sc_ok, HV.out, if_pos hk0])
      clear HV HXD HSZ
      rw [hk0]
      generalize (rdVar rest.data.toList).1 = n at *
      clear hk0 hkr hkl
      go_wp2
      go_ret
      rw [HO2.out]
      exact ⟨rfl, ⟨rest, true, by go_simp, by go_simp, ⟨set_frozen _ _ _ _ _ f0 hbl1, set_frozen _ _ _ _ _ f1 hbl1⟩, hs, rfl⟩, grown_trans HG.out (scan_set w1 b 1 (.bool true)) (fun x hx => .inl hx)⟩
    · have HO2 : Hid (numO o = (((rdVar rest.data.toList).1 : Int), some (rest.extract (rdVar rest.data.toList).2 rest.size).data.toList)) := Lib.hid (by rw [HO.out, sc_ok, HV.out, if_neg hk0, HXD.out])
      clear HV HXD
      generalize (rdVar rest.data.toList).2 = k at *
      generalize (rdVar rest.data.toList).1 = n at *
      have hkz : ((k : Int) == 0) = false := by simp; omega
      have hki : (k : Int) ≤ (rest.size : Int) := by omega
      have hki0 : (0 : Int) ≤ (k : Int) := by omega
      clear hk0
      go_wp2
      go_ret
      rw [HO2.out]
      exact ⟨rfl, ⟨rest.extract k rest.size, false, by go_simp, by go_simp, ⟨set_frozen _ _ _ _ _ f0 hbl1, set_frozen _ _ _ _ _ f1 hbl1⟩, HSZ.out, rfl⟩, grown_trans HG.out (scan_set w1 b 0 _) (fun x hx => .inl hx)⟩
set_option maxRecDepth 1000000 in
set_option maxHeartbeats 6000000 in
theorem scCut_any (b m : Nat) (n : Int) (o : Option (List UInt8)) (w : World) (h : ScanAt w b o m) (hm : m ≤ 1073741824) :
    Calls Tryz.prog 25 #[.pointer (some ⟨b, 0, none⟩), .int .i64 n] w (ScanPost b m w (.string ⟨(cutO n o).1.toArray⟩) (cutO n o).2) := by
  obtain ⟨rest, bad, c0, c1, ⟨f0, f1⟩, hs, ho⟩ := h.ex
  have hbl1 : b < w.heap.size := World.block_lt_of_cell? w _ c0
  have HO := Lib.hid ho
  have hlen : rest.data.toList.length = rest.size := Array.length_toList
  have HV : Hid (cutO n (some rest.data.toList) = if 0 ≤ n ∧ n ≤ rest.size then (rest.data.toList.take n.toNat, some (rest.data.toList.drop n.toNat)) else ([], none)) := Lib.hid (by unfold cutO; simp only; rw [hlen])
  clear h ho hlen
  cases bad with
  | true =>
    have HO2 : Hid (cutO n o = ([], none)) := Lib.hid (by rw [HO.out]; rfl)
    go_enter Tryz.func25, Tryz.ntmps25
    go_wp2
    go_ret
    rw [HO2.out]
    exact ⟨rfl, ⟨rest, true, by go_simp, by go_simp, ⟨set_frozen _ _ _ _ _ f0 hbl1, set_frozen _ _ _ _ _ f1 hbl1⟩, hs, rfl⟩, scan_set w b 1 (.bool true)⟩
  | false =>
    by_cases hin : 0 ≤ n ∧ n ≤ rest.size
    · obtain ⟨k, rfl⟩ := Int.eq_ofNat_of_zero_le hin.1
      have HO2 : Hid (cutO (k : Int) o = (rest.data.toList.take k, some (rest.extract k rest.size).data.toList)) := Lib.hid (by rw [HO.out, sc_ok, HV.out, if_pos hin, ex_drop, Int.toNat_natCast])
      have HS1 : Hid ((⟨(rest.data.toList.take k).toArray⟩ : ByteArray) = rest.extract 0 k) := Lib.hid (by rw [← ex_take, ba_self])
      have HSZ := Lib.hid (ex_size rest k m hs)
      have hki : (k : Int) ≤ (rest.size : Int) := by omega
      have hki0 : (0 : Int) ≤ (k : Int) := by omega
      clear hin HV
      go_enter Tryz.func25, Tryz.ntmps25
      go_wp2_with (first | (go_at_call 51; (first | refine (within_yes _ _ _ _ (by omega) (by omega)).mono ?_ | refine (within_no _ _ _ _ (by omega)).mono ?_); rintro e w' ⟨rfl, rfl⟩))
      go_ret
      rw [HO2.out]
      exact ⟨ret_str (by rw [HS1.out]), ⟨rest.extract k rest.size, false, by go_simp, by go_simp, ⟨set_frozen _ _ _ _ _ f0 hbl1, set_frozen _ _ _ _ _ f1 hbl1⟩, HSZ.out, rfl⟩, scan_set w b 0 _⟩
    · have HO2 : Hid (cutO n o = ([], none)) := Lib.hid (by rw [HO.out, sc_ok, HV.out, if_neg hin])
      replace hin : n < 0 ∨ (rest.size : Int) < n := by omega
      clear HV
      go_enter Tryz.func25, Tryz.ntmps25
      go_wp2_with (first | (go_at_call 51; (first | refine (within_yes _ _ _ _ (by omega) (by omega)).mono ?_ | refine (within_no _ _ _ _ (by omega)).mono ?_); rintro e w' ⟨rfl, rfl⟩))
      go_ret
      rw [HO2.out]
      exact ⟨rfl, ⟨rest, true, by go_simp, by go_simp, ⟨set_frozen _ _ _ _ _ f0 hbl1, set_frozen _ _ _ _ _ f1 hbl1⟩, hs, rfl⟩, scan_set w b 1 (.bool true)⟩
set_option maxRecDepth 1000000 in
set_option maxHeartbeats 6000000 in
theorem scPiece_any (b m : Nat) (o : Option (List UInt8)) (w : World) (h : ScanAt w b o m) (hm : m ≤ 1073741824) :
    Calls Tryz.prog 53 #[.pointer (some ⟨b, 0, none⟩)] w (ScanPost b m w (.string ⟨(pieceO o).1.toArray⟩) (pieceO o).2) := by
  have H := Lib.hid h
  clear h
  go_enter Tryz.func53, Tryz.ntmps53
  go_wp2_with fail
  refine (scNum_any b m o _ H.out hm).mono ?_
  rintro e w1 ⟨rfl, hS, hG⟩
  have HS := Lib.hid hS
  have HG := Lib.hid hG
  clear hS hG
  have HP : Hid (pieceO o = cutO (numO o).1 (numO o).2) := Lib.hid rfl
  generalize (numO o).1 = n at *
  generalize (numO o).2 = o2 at *
  go_wp2_with fail
  refine (scCut_any b m n o2 _ HS.out hm).mono ?_
  rintro e w2 ⟨rfl, hS, hG⟩
  have HS2 := Lib.hid hS
  have HG2 := Lib.hid (grown_trans HG.out hG (fun x hx => .inl hx))
  clear hS hG
  go_wp2
  go_ret
  rw [HP.out]
  exact ⟨rfl, HS2.out, HG2.out⟩
theorem numO_none (o : Option (List UInt8)) (h : (numO o).2 = none) : numO o = (0, none) := by
  cases o with
  | none => rfl
  | some r =>
    unfold numO at h ⊢
    simp only at h ⊢
    by_cases c : (rdVar r).2 = 0
    · rw [if_pos c]
    · rw [if_neg c] at h; cases h
set_option maxRecDepth 1000000 in
set_option maxHeartbeats 6000000 in
theorem scMany_any (b m : Nat) (most : Int) (o : Option (List UInt8)) (w : World) (h : ScanAt w b o m) (hm : m ≤ 1073741824) (h0 : 0 ≤ most) (h1 : most ≤ 1000) :
    Calls Tryz.prog 27 #[.pointer (some ⟨b, 0, none⟩), .int .i64 most] w (ScanPost b m w (.int .i64 (manyO most o).1) (manyO most o).2) := by
  have H := Lib.hid h
  clear h
  go_enter Tryz.func27, Tryz.ntmps27
  go_wp2_with fail
  refine (scNum_any b m o _ H.out hm).mono ?_
  rintro e w1 ⟨rfl, hS, hG⟩
  obtain ⟨rest, bad, c0, c1, ⟨f0, f1⟩, hs, ho⟩ := hS.ex
  have hbl1 : b < w1.heap.size := World.block_lt_of_cell? w1 _ c0
  have HO := Lib.hid ho
  have HS := Lib.hid hS
  have HG := Lib.hid hG
  have HM : Hid (manyO most o = if most < (numO o).1 then (0, none) else ((numO o).1, (numO o).2)) := Lib.hid rfl
  have HN0 := Lib.hid (numO_none o)
  clear hS hG ho
  obtain ⟨x, hx⟩ : ∃ x, (numO o).1 = x := ⟨_, rfl⟩
  obtain ⟨o2, ho2⟩ : ∃ x, (numO o).2 = x := ⟨_, rfl⟩
  rw [hx, ho2] at HM
  rw [ho2] at HO HN0 HS
  have HX : Hid (o2 = none → x = 0) := Lib.hid (fun e => by rw [← hx, HN0.out e])
  rw [hx]
  clear HN0 hx ho2
  by_cases hgt : most < x
  · have HM2 : Hid (manyO most o = (0, none)) := Lib.hid (by rw [HM.out, if_pos hgt])
    go_wp2
    go_ret
    rw [HM2.out]
    exact ⟨rfl, ⟨rest, true, by go_simp, by go_simp, ⟨set_frozen _ _ _ _ _ f0 hbl1, set_frozen _ _ _ _ _ f1 hbl1⟩, hs, rfl⟩, grown_trans HG.out (scan_set w1 b 1 (.bool true)) (fun x hx => .inl hx)⟩
  · have HM2 : Hid (manyO most o = (x, o2)) := Lib.hid (by rw [HM.out, if_neg hgt])
    cases bad with
    | true =>
      have HX2 : Hid (x = 0) := Lib.hid (HX.out HO.out)
      go_wp2
      go_ret
      rw [HM2.out, HX2.out]
      exact ⟨rfl, HS.out, HG.out⟩
    | false =>
      go_wp2
      go_ret
      rw [HM2.out]
      exact ⟨rfl, HS.out, HG.out⟩
/-- So many numbers from a place on. -/
def varsF (s : List UInt8) : Nat → Int → List Int → List Int × Int
  | 0, p, out => (out, p)
  | n + 1, p, out => if p < 0 ∨ (s.length : Int) < p then (out, -1) else if (rdVar (s.drop p.toNat)).2 = 0 then (out, -1) else varsF s n (p + (rdVar (s.drop p.toNat)).2) (out ++ [((rdVar (s.drop p.toNat)).1 : Int)])
def takeP (s : List UInt8) (p : Int) : List UInt8 × Int :=
  if (varsF s 1 p []).2 < 0 ∨ (s.length : Int) - (varsF s 1 p []).2 < (varsF s 1 p []).1.getD 0 0 then ([], -1)
  else ((s.drop (varsF s 1 p []).2.toNat).take ((varsF s 1 p []).1.getD 0 0).toNat, (varsF s 1 p []).2 + (varsF s 1 p []).1.getD 0 0)
theorem varsF_len (s : List UInt8) : ∀ (n : Nat) (p : Int) (out : List Int), (0 ≤ (varsF s n p out).2 → (varsF s n p out).1.length = out.length + n) ∧ out.length ≤ (varsF s n p out).1.length ∧ (varsF s n p out).1.length ≤ out.length + n := by
  intro n
  induction n with
  | zero => intro p out; simp [varsF]
  | succ n ih =>
    intro p out
    rw [varsF]
    split
    · simp
    · split
      · simp
      · have := ih (p + (rdVar (s.drop p.toNat)).2) (out ++ [((rdVar (s.drop p.toNat)).1 : Int)])
        simp only [List.length_append, List.length_cons, List.length_nil] at this
        omega
theorem rdVar_le (l : List UInt8) : (rdVar l).2 ≤ l.length ∧ (rdVar l).1 ≤ 562949953421311 := by
  by_cases h : (rdVar l).2 = 0
  · rw [rdVar_zero l h]; simp
  · have := rdVar_sound l h
    exact ⟨this.2.2, this.2.1⟩
theorem varsF_le (s : List UInt8) : ∀ (n : Nat) (p : Int) (out : List Int), p ≤ (s.length : Int) → -1 ≤ p → -1 ≤ (varsF s n p out).2 ∧ (varsF s n p out).2 ≤ (s.length : Int) := by
  intro n
  induction n with
  | zero => intro p out h h2; simp only [varsF]; omega
  | succ n ih =>
    intro p out h h2
    rw [varsF]
    split
    · dsimp only; omega
    · split
      · dsimp only; omega
      · refine ih _ _ ?_ (by omega)
        have := (rdVar_le (s.drop p.toNat)).1
        rw [List.length_drop] at this
        omega
theorem varsF_le5 (s : List UInt8) (n : Nat) (p : Int) (out : List Int) (h2 : -1 ≤ p) : (varsF s (n + 1) p out).2 ≤ (s.length : Int) ∧ -1 ≤ (varsF s (n + 1) p out).2 := by
  by_cases h : p ≤ (s.length : Int)
  · have := varsF_le s (n + 1) p out h h2
    omega
  · rw [varsF, if_pos (by omega)]
    dsimp only
    omega
theorem varsF_num (s : List UInt8) : ∀ (n : Nat) (p : Int) (out : List Int), (∀ x ∈ out, 0 ≤ x ∧ x ≤ 562949953421311) → ∀ x ∈ (varsF s n p out).1, 0 ≤ x ∧ x ≤ 562949953421311 := by
  intro n
  induction n with
  | zero => intro p out h; simpa [varsF] using h
  | succ n ih =>
    intro p out h
    rw [varsF]
    split
    · exact h
    · split
      · exact h
      · refine ih _ _ fun x hx => ?_
        rcases List.mem_append.1 hx with hx | hx
        · exact h x hx
        · obtain rfl : x = ((rdVar (s.drop p.toNat)).1 : Int) := by simpa using hx
          have := (rdVar_le (s.drop p.toNat)).2
          omega

theorem varsF_hit (pre r : List UInt8) (q : Nat) (hq : q ≤ 562949953421311) (m : Nat) (out : List Int) :
    varsF (pre ++ (varV q ++ r)) (m + 1) (pre.length : Int) out = varsF (pre ++ varV q ++ r) m ((pre ++ varV q).length : Int) (out ++ [(q : Int)]) := by
  have e : (pre ++ (varV q ++ r)).drop (pre.length : Int).toNat = varL q ++ r := by simp [varV_yes q hq]
  have e2 := rdVar_varL q hq r
  have h0 : (varL q).length ≠ 0 := fun c => varL_ne q (List.eq_nil_of_length_eq_zero c)
  rw [varsF, if_neg (by simp; omega), e, e2]
  simp only
  rw [if_neg h0, List.append_assoc]
  congr 1
  rw [varV_yes q hq]
  simp
theorem vars1_hit (pre r : List UInt8) (q : Nat) (hq : q ≤ 562949953421311) : varsF (pre ++ (varV q ++ r)) 1 (pre.length : Int) [] = ([(q : Int)], ((pre ++ varV q).length : Int)) := by
  rw [varsF_hit pre r q hq 0 []]
  rfl
theorem takeP_hit (pre r : List UInt8) (t : ByteArray) (ht : t.size ≤ 562949953421311) : takeP (pre ++ (pieceL t ++ r)) (pre.length : Int) = (t.data.toList, ((pre ++ pieceL t).length : Int)) := by
  have e : pre ++ (pieceL t ++ r) = pre ++ (varV t.size ++ (t.data.toList ++ r)) := by simp [pieceL, List.append_assoc]
  have hl := data_len t
  unfold takeP
  rw [e, vars1_hit pre (t.data.toList ++ r) t.size ht]
  simp only [List.getD_cons_zero]
  rw [if_neg (by simp only [List.length_append]; omega)]
  have e2 : pre ++ (varV t.size ++ (t.data.toList ++ r)) = (pre ++ varV t.size) ++ (t.data.toList ++ r) := by simp [List.append_assoc]
  rw [e2]
  simp only [Int.toNat_natCast]
  rw [List.drop_left, ← hl, List.take_left]
  refine Prod.ext rfl ?_
  simp only [pieceL, List.length_append, hl]
  omega
def VarsPost (s : List UInt8) (n : Nat) (p : Int) (w : World) (e : Ending) (w' : World) : Prop := ∃ (g : Option Addr) (c : Nat), e = .returned (.tuple #[.slice g (varsF s n p []).1.length c, .int .i64 (varsF s n p []).2]) ∧ Own 3 1 w.heap.size w (.slice g (varsF s n p []).1.length c) (varsF s n p []).1.length (ints (varsF s n p []).1) w'
theorem varsF_out (s : List UInt8) (n : Nat) (p : Int) (out : List Int) (h : p < 0 ∨ (s.length : Int) < p) : varsF s (n + 1) p out = (out, -1) := by rw [varsF, if_pos h]
theorem varsF_no (s : List UInt8) (n : Nat) (k : Nat) (out : List Int) (h : k ≤ s.length) (h0 : (rdVar (s.drop k)).2 = 0) : varsF s (n + 1) (k : Int) out = (out, -1) := by
  rw [varsF, if_neg (by omega), Int.toNat_natCast, if_pos h0]
set_option maxRecDepth 1000000 in
set_option maxHeartbeats 6000000 in
theorem varsF_yes (s : List UInt8) (n : Nat) (k : Nat) (out : List Int) (h : k ≤ s.length) (h0 : (rdVar (s.drop k)).2 ≠ 0) : varsF s (n + 1) (k : Int) out = varsF s n ((k : Int) + (rdVar (s.drop k)).2) (out ++ [((rdVar (s.drop k)).1 : Int)]) := by
  rw [varsF, if_neg (by omega), Int.toNat_natCast, if_neg h0]
set_option maxRecDepth 1000000 in
set_option maxHeartbeats 6000000 in
theorem l7Vars_any (s : ByteArray) (p : Int) (n : Nat) (w : World) (hs : s.size ≤ 1048576) (hp0 : -1 ≤ p) (hp1 : p ≤ 1048581) (hn : n ≤ 3) :
    Calls Tryz.prog 21 #[.string s, .int .i64 p, .int .i64 (n : Int)] w (VarsPost s.data.toList n p w) := by
  have hlen : s.data.toList.length = s.size := Array.length_toList
  have HLEN := Lib.hid hlen
  have HO0 := Lib.hid (Own.lit (e := 3) (size := 1) (n := 0) (Below.refl w.heap.size w) (Nat.le_refl _) #[] rfl (by decide))
  clear hlen
  go_enter Tryz.func21, Tryz.ntmps21
  go_wp2
  go_loopg [1, 8, 9, 10, 11] n (fun gg pv ov i x10 x11 wr => ∃ (k m : Nat) (q : Int) (l : List Int) (g : Option Addr) (c : Nat), k + gg = n ∧ i = .int .i64 (k : Int) ∧ pv = .int .i64 q ∧ ov = .slice g m c ∧ Hid (l.length = m) ∧ m ≤ 3 ∧ m ≤ k ∧ (-1 ≤ q ∧ q ≤ 1048600) ∧ Hid (varsF s.data.toList n p [] = varsF s.data.toList gg q l) ∧ Hid (Own 3 1 w.heap.size w (.slice g m c) m (ints l) wr))
  case atStart => exact ⟨0, 0, p, [], _, _, by omega, rfl, rfl, rfl, Lib.hid rfl, by omega, by omega, ⟨hp0, by omega⟩, Lib.hid rfl, Lib.hid (by exact HO0.out)⟩
  case round =>
    obtain ⟨k, m, q, l, g, c, hk, rfl, rfl, rfl, HL, hm3, hmk, ⟨hq0, hq1⟩, HV, HO⟩ := hrel
    by_cases hlt : k < n
    · have hi : (k : Int) < (n : Int) := by omega
      obtain ⟨r, hr⟩ : ∃ r, gk = r + 1 := ⟨gk - 1, by omega⟩
      have HVR : Hid (varsF s.data.toList n p [] = varsF s.data.toList (r + 1) q l) := Lib.hid (by rw [HV.out, hr])
      have HR := Lib.hid hr
      clear HV hr
      by_cases hq : q < 0
      · have HE : Hid (varsF s.data.toList n p [] = (l, -1)) := Lib.hid (by rw [HVR.out, varsF_out _ _ _ _ (.inl hq)])
        go_wp2
        go_ret2
        unfold VarsPost
        rw [HE.out]
        refine ⟨g, c, by rw [HL.out]; rfl, ?_⟩
        rw [HL.out]
        exact HO.out
      · obtain ⟨j, rfl⟩ := Int.eq_ofNat_of_zero_le (show 0 ≤ q by omega)
        by_cases hj : s.size < j
        · have HE : Hid (varsF s.data.toList n p [] = (l, -1)) := Lib.hid (by rw [HVR.out, varsF_out _ _ _ _ (.inr (by rw [HLEN.out]; omega))])
          have hj2 : (s.size : Int) < (j : Int) := by omega
          clear hj
          go_wp2
          go_ret2
          unfold VarsPost
          rw [HE.out]
          refine ⟨g, c, by rw [HL.out]; rfl, ?_⟩
          rw [HL.out]
          exact HO.out
        · have hj2 : ¬ (s.size : Int) < (j : Int) := by omega
          have hj3 : (j : Int) ≤ (s.size : Int) := by omega
          have hj4 : (0 : Int) ≤ (j : Int) := by omega
          have hjn : ¬ (j : Int) < 0 := by omega
          have HXS := Lib.hid (ex_size s j 1073741824 (by omega))
          have HXD := Lib.hid (ex_drop s j)
          have HN := Lib.hid (varsF_no s.data.toList r j l (by rw [HLEN.out]; omega))
          have HY := Lib.hid (varsF_yes s.data.toList r j l (by rw [HLEN.out]; omega))
          have hrl := rdVar_le (s.data.toList.drop j)
          have hrd : (rdVar (s.data.toList.drop j)).2 ≤ 7 := rdVar_eq _
          clear hj hq
          go_wp2_with fail
          refine (specReadVar_any _ _ HXS.out).mono ?_
          rintro e w2 ⟨rfl, hb⟩
          rw [HXD.out]
          unfold rdVarV
          have HO2 := Lib.hid (HO.out.kept hb)
          clear hb HO
          generalize (rdVar (s.data.toList.drop j)).2 = d at *
          generalize (rdVar (s.data.toList.drop j)).1 = x at *
          by_cases hd : d = 0
          · have HE : Hid (varsF s.data.toList n p [] = (l, -1)) := Lib.hid (by rw [HVR.out, HN.out hd])
            have hd2 : ((d : Int) == 0) = true := by simp [hd]
            clear HN HY
            subst hd
            go_wp2
            go_ret2
            unfold VarsPost
            rw [HE.out]
            refine ⟨g, c, by rw [HL.out]; rfl, ?_⟩
            rw [HL.out]
            exact HO2.out
          · have HE : Hid (varsF s.data.toList n p [] = varsF s.data.toList r ((j : Int) + d) (l ++ [(x : Int)])) := Lib.hid (by rw [HVR.out, HY.out hd])
            have hd2 : ((d : Int) == 0) = false := by simp [hd]
            clear HN HY hd
            go_wp2_with (at_builtin; go_loud (refine wp_app1g rfl _ _ 40 rfl 3 (.int .i64 0) 1 8 Tryz.underlying40 info_i64 rfl (by decide) _ _ _ _ _ (by rfl) (by exact HO2.out) _ _ (by rfl) (by rfl) (by intro u hu; simp at hu; first | (subst hu; rfl) | (rcases hu with rfl | rfl <;> rfl) | (rcases hu with rfl | rfl | rfl <;> rfl) | (rcases hu with rfl | rfl | rfl | rfl <;> rfl)) (by omega) (by unfold maxLen; omega) ?_); intro a9 c9 w9 hO9 hG9 hN9)
            have HO9 := Lib.hid hO9
            clear hO9 hG9 hN9
            go_roundg r
            case measure => have := HR.out; omega
            case rel => exact ⟨k + 1, m + 1, (j : Int) + d, l ++ [(x : Int)], _, _, by have := HR.out; omega, by go_num, by go_num, rfl, Lib.hid (by rw [List.length_append, HL.out]; rfl), by omega, by omega, ⟨by omega, by omega⟩, HE, Lib.hid (by rw [ints_append]; exact HO9.out)⟩
    · have hi : ¬ (k : Int) < (n : Int) := by omega
      have h0 : gk = 0 := by omega
      have HE : Hid (varsF s.data.toList n p [] = (l, q)) := Lib.hid (by rw [HV.out, h0]; rfl)
      clear h0
      go_wp2
      go_ret2
      unfold VarsPost
      rw [HE.out]
      refine ⟨g, c, by rw [HL.out]; rfl, ?_⟩
      rw [HL.out]
      exact HO.out
theorem take_one (s : List UInt8) (p : Int) : 0 ≤ (varsF s 1 p []).2 → ∃ x, (varsF s 1 p []).1 = [x] ∧ 0 ≤ x ∧ x ≤ 562949953421311 := by
  intro h
  have h1 := (varsF_len s 1 p []).1 h
  have h2 := varsF_num s 1 p [] (fun x hx => by simp at hx)
  match hl : (varsF s 1 p []).1, h1, h2 with
  | [x], _, h2 => exact ⟨x, rfl, h2 x (by simp)⟩
def TakePost (s : List UInt8) (p : Int) (w : World) (e : Ending) (w' : World) : Prop := e = .returned (.tuple #[.string ⟨(takeP s p).1.toArray⟩, .int .i64 (takeP s p).2]) ∧ Below w.heap.size w w'
theorem ex_mid (s : ByteArray) (a b : Nat) : (⟨((s.data.toList.drop a).take b).toArray⟩ : ByteArray) = s.extract a (a + b) := by
  have h : (s.extract a (a + b)).data.toList = (s.data.toList.drop a).take b := by
    simp only [ByteArray.data_extract, Array.toList_extract]
    rw [List.extract_eq_take_drop]
    congr 1
    omega
  rw [← h, ba_self]
set_option maxRecDepth 1000000 in
set_option maxHeartbeats 6000000 in
theorem l7Take_any (s : ByteArray) (p : Int) (w : World) (hs : s.size ≤ 1048576) (hp0 : -1 ≤ p) (hp1 : p ≤ 1048581) :
    Calls Tryz.prog 49 #[.string s, .int .i64 p] w (TakePost s.data.toList p w) := by
  have hlen : s.data.toList.length = s.size := Array.length_toList
  have HT : Hid (takeP s.data.toList p = if (varsF s.data.toList 1 p []).2 < 0 ∨ (s.data.toList.length : Int) - (varsF s.data.toList 1 p []).2 < (varsF s.data.toList 1 p []).1.getD 0 0 then ([], -1)
      else ((s.data.toList.drop (varsF s.data.toList 1 p []).2.toNat).take ((varsF s.data.toList 1 p []).1.getD 0 0).toNat, (varsF s.data.toList 1 p []).2 + (varsF s.data.toList 1 p []).1.getD 0 0)) := Lib.hid rfl
  have HONE := Lib.hid (take_one s.data.toList p)
  have hle := varsF_le5 s.data.toList 0 p [] hp0
  rw [hlen] at HT hle
  have HM := Lib.hid (ex_mid s)
  clear hlen
  go_enter Tryz.func49, Tryz.ntmps49
  go_wp2_with fail
  refine (l7Vars_any s p 1 _ hs hp0 hp1 (by omega)).mono ?_
  rintro e w1 ⟨g, c, rfl, hO⟩
  have HO := Lib.hid hO
  clear hO
  generalize (varsF s.data.toList 1 p []).2 = q at *
  generalize (varsF s.data.toList 1 p []).1 = l at *
  by_cases hq : q < 0
  · have HE : Hid (takeP s.data.toList p = ([], -1)) := Lib.hid (by rw [HT.out, if_pos (.inl hq)])
    clear HT
    go_wp2
    go_ret2
    unfold TakePost
    rw [HE.out]
    exact ⟨rfl, HO.out.below⟩
  · obtain ⟨x, hx, hx0, hx1⟩ := HONE.out (by omega)
    obtain ⟨j, rfl⟩ := Int.eq_ofNat_of_zero_le (show 0 ≤ q by omega)
    obtain ⟨y, rfl⟩ := Int.eq_ofNat_of_zero_le hx0
    subst hx
    obtain ⟨b, off, rfl, hbs, hc⟩ := HO.out.rd.at' (by simp)
    have hc0 := hc 0 (by simp)
    have hc0 : w1.cell? ⟨b, off, none⟩ = some (.int .i64 (y : Int)) := hc0
    have HB := Lib.hid HO.out.below
    clear hc HO HONE hq
    by_cases hgt : (s.size : Int) - (j : Int) < (y : Int)
    · have HE : Hid (takeP s.data.toList p = ([], -1)) := Lib.hid (by rw [HT.out, if_pos (.inr (by simpa using hgt))])
      have hjw : IntKind.i64.wrap ((s.size : Int) - (j : Int)) = (s.size : Int) - (j : Int) := IntWalk.i64_in _ ⟨by omega, by omega⟩
      clear HT
      go_wp2
      go_ret2
      unfold TakePost
      rw [HE.out]
      exact ⟨rfl, HB.out⟩
    · have HE : Hid (takeP s.data.toList p = ((s.data.toList.drop j).take y, (j : Int) + y)) := Lib.hid (by rw [HT.out, if_neg (by simp; omega)]; simp)
      have hjw : IntKind.i64.wrap ((s.size : Int) - (j : Int)) = (s.size : Int) - (j : Int) := IntWalk.i64_in _ ⟨by omega, by omega⟩
      have hyw : IntKind.i64.wrap ((j : Int) + (y : Int)) = (j : Int) + (y : Int) := IntWalk.i64_in _ ⟨by omega, by omega⟩
      have hj1 : (j : Int) + (y : Int) ≤ (s.size : Int) := by omega
      have hj2 : (0 : Int) ≤ (j : Int) := by omega
      have hj3 : (j : Int) ≤ (j : Int) + (y : Int) := by omega
      clear HT
      go_wp2
      go_quiet (fail)
      go_wp2
      go_ret2
      unfold TakePost
      rw [HE.out]
      simp only
      rw [HM.out]
      exact ⟨rfl, below_drewN HB.out _⟩
end Go.Proofs.YtlkfabkkjfmnmaaGreatDoor
