/- Crc: the program's and the reference's come to one number. -/
import Derived.Test.YtlkfabkkjfmnmaaGreatDoorIn
import Derived.Test.YtlkfabkkjfmnmaaGreatDoorNum
namespace Go.Proofs.YtlkfabkkjfmnmaaGreatDoor
open Go.RowKit

theorem bits_xor_i64 (a b : Nat) (ha : a < 9223372036854775808) (hb : b < 9223372036854775808) : bits .xor .i64 (a : Int) (b : Int) = ((a ^^^ b : Nat) : Int) := by
  have hx : a ^^^ b < 2 ^ 63 := Nat.xor_lt_two_pow (by simpa using ha) (by simpa using hb)
  have ha' : a % 2 ^ 64 = a := Nat.mod_eq_of_lt (by omega)
  have hb' : b % 2 ^ 64 = b := Nat.mod_eq_of_lt (by omega)
  show IntKind.i64.wrap ((BitVec.ofInt 64 (a : Int) ^^^ BitVec.ofInt 64 (b : Int)).toNat : Int) = _
  rw [BitVec.ofInt_natCast, BitVec.ofInt_natCast, BitVec.toNat_xor, BitVec.toNat_ofNat, BitVec.toNat_ofNat, ha', hb']
  exact wraps_i64 _ (Int.natCast_nonneg _) (by have := Int.ofNat_lt.2 hx; simpa using this)

def crcStep (c : Nat) : Nat := if c % 2 = 1 then (c / 2) ^^^ 2197175160 else c / 2
def crcN (c : Nat) : Nat → Nat
  | 0 => c
  | k + 1 => crcStep (crcN c k)
def crcL (bs : List UInt8) : Nat := bs.foldl (fun c b => crcN (c ^^^ b.toNat) 8) 4294967295
def crcF (bs : List UInt8) : Int := 4294967295 - (crcL bs : Int)

theorem crcStep_lt (c : Nat) (h : c < 4294967296) : crcStep c < 4294967296 := by
  unfold crcStep
  split
  · exact Nat.xor_lt_two_pow (n := 32) (by omega) (by decide)
  · omega
theorem crcN_lt (c : Nat) (h : c < 4294967296) : ∀ k, crcN c k < 4294967296
  | 0 => h
  | k + 1 => crcStep_lt _ (crcN_lt c h k)
theorem crcX_lt (c : Nat) (b : UInt8) (h : c < 4294967296) : c ^^^ b.toNat < 4294967296 := Nat.xor_lt_two_pow (n := 32) h (by have := b.toNat_lt; omega)
theorem crcL_snoc (bs : List UInt8) (b : UInt8) : crcL (bs ++ [b]) = crcN (crcL bs ^^^ b.toNat) 8 := by simp [crcL]
theorem crcL_lt (bs : List UInt8) : crcL bs < 4294967296 := by
  suffices h : ∀ l : List UInt8, crcL l.reverse < 4294967296 by have := h bs.reverse; simpa using this
  intro l
  induction l with
  | nil => decide
  | cons b bs ih => rw [List.reverse_cons, crcL_snoc]; exact crcN_lt _ (crcX_lt _ _ ih) _

set_option maxRecDepth 1000000 in
set_option maxHeartbeats 6000000 in
theorem implCrc_any (s : ByteArray) (w : World) (hs : s.size ≤ 140737488355328) :
    Calls Tryz.prog 81 #[.string s] w fun e w' => e = .returned (.int .i64 (crcF s.data.toList)) ∧ w = w' := by
  go_enter Tryz.func81, Tryz.ntmps81
  go_wp2
  go_loopg [3, 4] s.size (fun g c i wr => ∃ k : Nat, k + g = s.size ∧ i = .int .i64 k ∧ c = .int .i64 (crcL (s.data.toList.take k)) ∧ wr = w)
  case atStart => exact ⟨0, by omega, rfl, rfl, rfl⟩
  case round =>
    obtain ⟨k, hk, rfl, rfl, rfl⟩ := hrel
    have hb := crcL_lt (s.data.toList.take k)
    obtain ⟨gg, rfl⟩ : ∃ g, g = gk := ⟨_, rfl⟩
    by_cases hlt : k < s.size
    · have hb0 := s[k].toNat_lt
      have H : Hid (crcL (s.data.toList.take (k + 1)) = crcN (crcL (s.data.toList.take k) ^^^ s[k].toNat) 8) := Lib.hid (by rw [take_snoc s k hlt, crcL_snoc])
      have hx := bits_xor_i64 (crcL (s.data.toList.take k)) s[k].toNat (by omega) (by omega)
      have hd := crcX_lt _ s[k] hb
      generalize crcL (s.data.toList.take k) = c at *
      go_wp2
      clear hx
      generalize c ^^^ s[k].toNat = d at *
      go_loopg [3, 18] 8 (fun g c i wr2 => ∃ j : Nat, j + g = 8 ∧ i = .int .i64 j ∧ c = .int .i64 (crcN d j) ∧ wr2 = wr)
      case atStart => exact ⟨0, by omega, rfl, rfl, rfl⟩
      case round =>
        obtain ⟨j, hj, rfl, rfl, rfl⟩ := hrel
        by_cases hj8 : j < 8
        · have he := crcN_lt d hd j
          have HS : Hid (crcN d (j + 1) = crcStep (crcN d j)) := rfl
          generalize crcN d j = q at *
          have h1 := i64_and1 (q : Int) (by omega) (by omega)
          by_cases ho : q % 2 = 1
          · have ho' : ((q : Int) % 2 == 1) = true := by simp; omega
            have HS2 : Hid (crcStep q = (q / 2) ^^^ 2197175160) := Lib.hid (by unfold crcStep; rw [if_pos ho])
            have hx := bits_xor_i64 (q / 2) 2197175160 (by omega) (by decide)
            have hx' : bits .xor .i64 ((q : Int) / 2) 2197175160 = ((q / 2 ^^^ 2197175160 : Nat) : Int) := by rw [← hx]; simp
            clear ho hx
            go_wp2
            go_roundg (gk - 1)
            case measure => omega
            case rel => exact ⟨j + 1, by omega, by go_num, by rw [HS.out, HS2.out], rfl⟩
          · have ho' : ((q : Int) % 2 == 1) = false := by simp; omega
            have HS2 : Hid (crcStep q = q / 2) := Lib.hid (by unfold crcStep; rw [if_neg ho])
            clear ho
            go_wp2
            go_roundg (gk - 1)
            case measure => omega
            case rel => exact ⟨j + 1, by omega, by go_num, by rw [HS.out, HS2.out]; go_num, rfl⟩
        · have hj8' : j = 8 := by omega
          subst hj8'
          go_wp2
          go_roundg (gg - 1)
          case measure => omega
          case rel => exact ⟨k + 1, by omega, by go_num, by rw [H.out], rfl⟩
    · have hks : k = s.size := by omega
      subst hks
      have hfull : s.data.toList.take s.size = s.data.toList := List.take_of_length_le (by simp)
      rw [hfull] at hb ⊢
      clear hfull
      go_wp2
      go_ret
      exact ⟨rfl, rfl⟩

set_option maxRecDepth 1000000 in
set_option maxHeartbeats 6000000 in
theorem specCrc_any (s : ByteArray) (w : World) (hs : s.size ≤ 140737488355328) :
    Calls Tryz.prog 79 #[.string s] w fun e w' => e = .returned (.int .i64 (crcF s.data.toList)) ∧ w = w' := by
  go_enter Tryz.func79, Tryz.ntmps79
  go_wp2
  go_loopg [3, 4] s.size (fun g c i wr => ∃ k : Nat, k + g = s.size ∧ i = .int .i64 k ∧ c = .int .i64 (crcL (s.data.toList.take k)) ∧ wr = w)
  case atStart => exact ⟨0, by omega, rfl, rfl, rfl⟩
  case round =>
    obtain ⟨k, hk, rfl, rfl, rfl⟩ := hrel
    have hb := crcL_lt (s.data.toList.take k)
    obtain ⟨gg, rfl⟩ : ∃ g, g = gk := ⟨_, rfl⟩
    by_cases hlt : k < s.size
    · have hb0 := s[k].toNat_lt
      have H : Hid (crcL (s.data.toList.take (k + 1)) = crcN (crcL (s.data.toList.take k) ^^^ s[k].toNat) 8) := Lib.hid (by rw [take_snoc s k hlt, crcL_snoc])
      have hx := bits_xor_i64 (crcL (s.data.toList.take k)) s[k].toNat (by omega) (by omega)
      have hd := crcX_lt _ s[k] hb
      generalize crcL (s.data.toList.take k) = c at *
      go_wp2
      clear hx
      generalize c ^^^ s[k].toNat = d at *
      go_loopg [3, 5] 8 (fun g c i wr2 => ∃ j : Nat, j + g = 8 ∧ i = .int .i64 j ∧ c = .int .i64 (crcN d j) ∧ wr2 = wr)
      case atStart => exact ⟨0, by omega, rfl, rfl, rfl⟩
      case round =>
        obtain ⟨j, hj, rfl, rfl, rfl⟩ := hrel
        by_cases hj8 : j < 8
        · have he := crcN_lt d hd j
          have HS : Hid (crcN d (j + 1) = crcStep (crcN d j)) := rfl
          generalize crcN d j = q at *
          have h1 := i64_and1 (q : Int) (by omega) (by omega)
          by_cases ho : q % 2 = 1
          · have ho' : ((q : Int) % 2 == 1) = true := by simp; omega
            have HS2 : Hid (crcStep q = (q / 2) ^^^ 2197175160) := Lib.hid (by unfold crcStep; rw [if_pos ho])
            have hx := bits_xor_i64 (q / 2) 2197175160 (by omega) (by decide)
            have hx' : bits .xor .i64 ((q : Int) / 2) 2197175160 = ((q / 2 ^^^ 2197175160 : Nat) : Int) := by rw [← hx]; simp
            clear ho hx
            go_wp2
            go_roundg (gk - 1)
            case measure => omega
            case rel => exact ⟨j + 1, by omega, by go_num, by rw [HS.out, HS2.out], rfl⟩
          · have ho' : ((q : Int) % 2 == 1) = false := by simp; omega
            have HS2 : Hid (crcStep q = q / 2) := Lib.hid (by unfold crcStep; rw [if_neg ho])
            clear ho
            go_wp2
            go_roundg (gk - 1)
            case measure => omega
            case rel => exact ⟨j + 1, by omega, by go_num, by rw [HS.out, HS2.out]; go_num, rfl⟩
        · have hj8' : j = 8 := by omega
          subst hj8'
          go_wp2
          go_roundg (gg - 1)
          case measure => omega
          case rel => exact ⟨k + 1, by omega, by go_num, by rw [H.out], rfl⟩
    · have hks : k = s.size := by omega
      subst hks
      have hfull : s.data.toList.take s.size = s.data.toList := List.take_of_length_le (by simp)
      rw [hfull] at hb ⊢
      clear hfull
      go_wp2
      go_ret
      exact ⟨rfl, rfl⟩

end Go.Proofs.YtlkfabkkjfmnmaaGreatDoor
