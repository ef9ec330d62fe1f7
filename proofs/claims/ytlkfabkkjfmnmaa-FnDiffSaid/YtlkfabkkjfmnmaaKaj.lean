import Derived.Test.YtlkfabkkjfmnmaaKaa
import Derived.Test.YtlkfabkkjfmnmaaKab
import Derived.Test.YtlkfabkkjfmnmaaKae
import Derived.Test.YtlkfabkkjfmnmaaKaf
import Derived.Test.YtlkfabkkjfmnmaaKag
import Derived.Test.YtlkfabkkjfmnmaaKah
import Derived.Test.YtlkfabkkjfmnmaaKai
namespace Go.Proofs.Ytlkfabkkjfmnmaa
open Go.RowKit
set_option linter.all false
theorem bits_xor_i64 (a b : Nat) (ha : a < 9223372036854775808) (hb : b < 9223372036854775808) : bits .xor .i64 (a : Int) (b : Int) = ((a ^^^ b : Nat) : Int) := by
 have hx : a ^^^ b < 2 ^ 63 := Nat.xor_lt_two_pow (by simpa using ha) (by simpa using hb)
 have ha' : a % 2 ^ 64 = a := Nat.mod_eq_of_lt (by omega)
 have hb' : b % 2 ^ 64 = b := Nat.mod_eq_of_lt (by omega)
 show IntKind.i64.wrap ((BitVec.ofInt 64 (a : Int) ^^^ BitVec.ofInt 64 (b : Int)).toNat : Int) = _
 rw [BitVec.ofInt_natCast, BitVec.ofInt_natCast, BitVec.toNat_xor, BitVec.toNat_ofNat, BitVec.toNat_ofNat, ha', hb']
 exact wraps_i64 _ (Int.natCast_nonneg _) (by have := Int.ofNat_lt.2 hx; simpa using this)
def crcStep (c : Nat) : Nat := if c % 2 = 1 then (c / 2) ^^^ 2197175160 else c / 2
def crcN (c : Nat) : Nat → Nat
 | 0 => c
 | k + 1 => crcStep (crcN c k)
def crcL (bs : List UInt8) : Nat := bs.foldl (fun c b => crcN (c ^^^ b.toNat) 8) 4294967295
def crcF (bs : List UInt8) : Int := 4294967295 - (crcL bs : Int)
theorem crcStep_lt (c : Nat) (h : c < 4294967296) : crcStep c < 4294967296 := by
 unfold crcStep
 split
 ·exact Nat.xor_lt_two_pow (n := 32) (by omega) (by decide)
 ·omega
theorem crcN_lt (c : Nat) (h : c < 4294967296) : ∀ k, crcN c k < 4294967296
 | 0 => h
 | k + 1 => crcStep_lt _ (crcN_lt c h k)
theorem crcX_lt (c : Nat) (b : UInt8) (h : c < 4294967296) : c ^^^ b.toNat < 4294967296 := Nat.xor_lt_two_pow (n := 32) h (by have := b.toNat_lt; omega)
theorem crcL_snoc (bs : List UInt8) (b : UInt8) : crcL (bs ++ [b]) = crcN (crcL bs ^^^ b.toNat) 8 := by simp [crcL]
theorem crcL_lt (bs : List UInt8) : crcL bs < 4294967296 := by
 suffices h : ∀ l : List UInt8, crcL l.reverse < 4294967296 by have := h bs.reverse; simpa using this
 intro l
 induction l with
 | nil => decide
 | cons b bs ih => rw [List.reverse_cons, crcL_snoc]; exact crcN_lt _ (crcX_lt _ _ ih) _
set_option maxRecDepth 1000000 in
set_option maxHeartbeats 6000000 in
theorem specCrc_any (s : ByteArray) (w : World) (hs : s.size ≤ 140737488355328) :
  Calls Try.prog 56 #[.string s] w fun e w' => e = .returned (.int .i64 (crcF s.data.toList)) ∧ w = w' := by
 go_enter Try.func56, Try.ntmps56
 go_wp2
 go_loopg [3, 4] s.size (fun g c i wr => ∃ k : Nat, k + g = s.size ∧ i = .int .i64 k ∧ c = .int .i64 (crcL (s.data.toList.take k)) ∧ wr = w)
 case atStart => exact ⟨0, by omega, rfl, rfl, rfl⟩
 case round =>
  obtain ⟨k, hk, rfl, rfl, rfl⟩ := hrel
  have hb := crcL_lt (s.data.toList.take k)
  obtain ⟨gg, rfl⟩ : ∃ g, g = gk := ⟨_, rfl⟩
  by_cases hlt : k < s.size
  ·have hb0 := s[k].toNat_lt
   have H : Hid (crcL (s.data.toList.take (k + 1)) = crcN (crcL (s.data.toList.take k) ^^^ s[k].toNat) 8) := Lib.hid (by rw [take_snoc s k hlt, crcL_snoc])
   have hx := bits_xor_i64 (crcL (s.data.toList.take k)) s[k].toNat (by omega) (by omega)
   have hd := crcX_lt _ s[k] hb
   generalize crcL (s.data.toList.take k) = c at *
   go_wp2
   clear hx
   generalize c ^^^ s[k].toNat = d at *
   go_loopg [3, 5] 8 (fun g c i wr2 => ∃ j : Nat, j + g = 8 ∧ i = .int .i64 j ∧ c = .int .i64 (crcN d j) ∧ wr2 = wr)
   case atStart => exact ⟨0, by omega, rfl, rfl, rfl⟩
   case round =>
    obtain ⟨j, hj, rfl, rfl, rfl⟩ := hrel
    by_cases hj8 : j < 8
    ·have he := crcN_lt d hd j
     have HS : Hid (crcN d (j + 1) = crcStep (crcN d j)) := rfl
     generalize crcN d j = q at *
     have h1 := i64_and1 (q : Int) (by omega) (by omega)
     by_cases ho : q % 2 = 1
     ·have ho' : ((q : Int) % 2 == 1) = true := by simp; omega
      have HS2 : Hid (crcStep q = (q / 2) ^^^ 2197175160) := Lib.hid (by unfold crcStep; rw [if_pos ho])
      have hx := bits_xor_i64 (q / 2) 2197175160 (by omega) (by decide)
      have hx' : bits .xor .i64 ((q : Int) / 2) 2197175160 = ((q / 2 ^^^ 2197175160 : Nat) : Int) := by rw [← hx]; simp
      clear ho hx
      go_wp2
      go_roundg (gk - 1)
      case measure => omega
      case rel => exact ⟨j + 1, by omega, by go_num, by rw [HS.out, HS2.out], rfl⟩
     ·have ho' : ((q : Int) % 2 == 1) = false := by simp; omega
      have HS2 : Hid (crcStep q = q / 2) := Lib.hid (by unfold crcStep; rw [if_neg ho])
      clear ho
      go_wp2
      go_roundg (gk - 1)
      case measure => omega
      case rel => exact ⟨j + 1, by omega, by go_num, by rw [HS.out, HS2.out]; go_num, rfl⟩
    ·have hj8' : j = 8 := by omega
     subst hj8'
     go_wp2
     go_roundg (gg - 1)
     case measure => omega
     case rel => exact ⟨k + 1, by omega, by go_num, by rw [H.out], rfl⟩
  ·have hks : k = s.size := by omega
   subst hks
   have hfull : s.data.toList.take s.size = s.data.toList := List.take_of_length_le (by simp)
   rw [hfull] at hb ⊢
   clear hfull
   go_wp2
   go_ret
   exact ⟨rfl, rfl⟩
def nameB (s : ByteArray) : Bool := decB s.data.toList && decide (1 ≤ s.size ∧ s.size ≤ 24) && !(s.toList == [46]) && !(s.toList == [46, 46]) && (decR s.data.toList).all knownF
theorem decR_no (l : List UInt8) (h : decB l = false) : decR l = [] := by
 unfold decB at h
 unfold decR
 cases e : decO l with
 | none => rfl
 | some x => rw [e] at h; cases h
theorem decF_len : ∀ (f : Nat) (t : List UInt8) (l : List Int), decF f t = some l → l.length ≤ t.length := by
 intro f
 induction f with
 | zero =>
  intro t l h
  cases t with
  | nil => simp [decF] at h; simp [h]
  | cons b r => simp [decF] at h
 | succ f ih =>
  intro t l h
  cases t with
  | nil => simp [decF] at h; simp [h]
  | cons b r =>
   rw [decF_cons] at h
   split at h
   ·cases h
   ·rename_i h0
    obtain ⟨l', hl', rfl⟩ := Option.map_eq_some_iff.1 h
    have h1 := ih _ _ hl'
    have h2 := (sg1_le (b :: r)).1
    simp only [List.length_drop, List.length_cons] at h1 h2 ⊢
    omega
theorem decR_len (t : List UInt8) : (decR t).length ≤ t.length := by
 unfold decR
 cases e : decO t with
 | none => simp
 | some l => exact decF_len _ _ _ e
set_option maxRecDepth 1000000 in
set_option maxHeartbeats 6000000 in
theorem specNameOk_any (s : ByteArray) (w : World) (hs : s.size ≤ 1073741824) : Calls Try.prog 27 #[.string s] w fun e w' => e = .returned (.bool (nameB s)) ∧ Below w.heap.size w w' := by
 have HD := Lib.hid (decR_no s.data.toList)
 have HB : Hid (nameB s = (decB s.data.toList && decide (1 ≤ s.size ∧ s.size ≤ 24) && !(s.toList == [46]) && !(s.toList == [46, 46]) && (decR s.data.toList).all knownF)) := Lib.hid rfl
 by_cases hin : 1 ≤ s.size ∧ s.size ≤ 24
 ·have HI := Lib.hid hin
  obtain ⟨h1, h2⟩ := hin
  cases h46 : (s.toList == [46]) with
  | true =>
   go_enter Try.func27, Try.ntmps27
   go_wp2_with (first | (go_at_call 22; (first | refine (l1In_yes _ _ _ _ (by omega) (by omega)).mono ?_ | refine (l1In_no _ _ _ _ (by omega)).mono ?_); rintro e w' ⟨rfl, rfl⟩))
   go_ret
   exact ⟨ret_bool (by rw [HB.out, h46]; simp), Below.refl _ _⟩
  | false =>
   cases h47 : (s.toList == [46, 46]) with
   | true =>
    go_enter Try.func27, Try.ntmps27
    go_wp2_with (first | (go_at_call 22; (first | refine (l1In_yes _ _ _ _ (by omega) (by omega)).mono ?_ | refine (l1In_no _ _ _ _ (by omega)).mono ?_); rintro e w' ⟨rfl, rfl⟩))
    go_ret
    exact ⟨ret_bool (by rw [HB.out, h47]; simp), Below.refl _ _⟩
   | false =>
    have HF : Hid (nameB s = (decB s.data.toList && (decR s.data.toList).all knownF)) := Lib.hid (by rw [HB.out, h46, h47, decide_eq_true HI.out]; simp)
    clear HB HI
    go_enter Try.func27, Try.ntmps27
    go_wp2_with (first | (go_at_call 22; (first | refine (l1In_yes _ _ _ _ (by omega) (by omega)).mono ?_ | refine (l1In_no _ _ _ _ (by omega)).mono ?_); rintro e w' ⟨rfl, rfl⟩) | fail)
    refine (specDecode_any s _ hs).mono ?_
    rintro e w1 ⟨a, c, rfl, hO⟩
    have HO := Lib.hid hO
    have hlen : (decR s.data.toList).length ≤ s.size := Nat.le_trans (decR_len _) (Nat.le_of_eq Array.length_toList)
    clear hO
    generalize decR s.data.toList = l at *
    generalize decB s.data.toList = ok at *
    go_wp2
    go_loopg [4, 5] l.length (fun gg b i wr => ∃ k : Nat, k + gg = l.length ∧ i = .int .i64 (k : Int) ∧ b = .bool (ok && (l.take k).all knownF) ∧ Hid (Below w1.heap.size w1 wr))
    case atStart => exact ⟨0, by omega, rfl, by simp, Lib.hid (Below.refl _ _)⟩
    case round =>
     obtain ⟨k, hk, rfl, rfl, HW⟩ := hrel
     by_cases hlt : k < l.length
     ·have hr := (HO.out.rd.below HW.out (Nat.le_refl _))
      obtain ⟨b, off, rfl, hbs, hc⟩ := hr.at' (by omega)
      have hc1 := hc k (by simpa using hlt)
      rw [ints_get l k hlt] at hc1
      have HN : Hid ((ok && (l.take (k + 1)).all knownF) = (ok && (l.take k).all knownF && knownF l[k])) := Lib.hid (by rw [List.take_succ_eq_append_getElem hlt, List.all_append, List.all_cons, List.all_nil, Bool.and_true, Bool.and_assoc])
      have hi : (k : Int) < (l.length : Int) := by omega
      clear hc hr hbs
      generalize l[k] = x at *
      generalize (ok && (l.take k).all knownF) = t at *
      clear hlt
      cases t with
      | true =>
       go_wp2_with fail
       refine (specKnown_any x _).mono ?_
       rintro e w2 ⟨rfl, hb⟩
       have HW2 := Lib.hid (HW.out.trans (hb.mono HW.out.size))
       clear hb
       go_wp2
       go_roundg (gk - 1)
       case measure => omega
       case rel => exact ⟨k + 1, by omega, by go_num, by rw [HN.out]; simp, HW2⟩
      | false =>
       go_wp2
       go_roundg (gk - 1)
       case measure => omega
       case rel => exact ⟨k + 1, by omega, by go_num, by rw [HN.out]; rfl, HW⟩
     ·have hi : ¬ (k : Int) < (l.length : Int) := by omega
      have HE : Hid ((ok && (l.take k).all knownF) = (ok && l.all knownF)) := Lib.hid (by rw [List.take_of_length_le (by omega)])
      go_wp2
      go_ret
      exact ⟨ret_bool (by rw [HF.out]; exact HE.out), HO.out.below.trans (HW.out.mono HO.out.below.size)⟩
 ·have HI := Lib.hid hin
  have hin2 : (s.size : Int) < 1 ∨ 24 < (s.size : Int) := by omega
  clear hin
  go_enter Try.func27, Try.ntmps27
  go_wp2_with (first | (go_at_call 22; (first | refine (l1In_yes _ _ _ _ (by omega) (by omega)).mono ?_ | refine (l1In_no _ _ _ _ (by omega)).mono ?_); rintro e w' ⟨rfl, rfl⟩))
  go_ret
  exact ⟨ret_bool (by rw [HB.out, decide_eq_false HI.out]; simp), Below.refl _ _⟩
theorem crcF_range (l : List UInt8) : 0 ≤ crcF l ∧ crcF l ≤ 4294967295 := by
 have := crcL_lt l
 unfold crcF
 omega
theorem takeF_mem (x : Int) : ∀ (n : Nat) (c : Int), x ∈ takeF n c → x = c ∨ (0 ≤ x ∧ x ≤ 65535) := by
 intro n
 induction n with
 | zero => intro c h; left; simpa [takeF] using h
 | succ n ih =>
  intro c h
  rw [takeF] at h
  split at h
  ·left; simpa using h
  ·obtain ⟨y, hy, hx⟩ := List.mem_flatMap.1 h
   rcases ih y hx with rfl | h2
   ·exact .inr (partsF_range c x hy)
   ·exact .inr h2
theorem apartF_wide (l : List Int) (h : ∀ x ∈ l, 0 ≤ x ∧ x ≤ 1114143) : ∀ x ∈ apartF l, 0 ≤ x ∧ x ≤ 1114143 := by
 intro x hx
 unfold apartF at hx
 rw [insAll_mem] at hx
 obtain ⟨c, hc, hx⟩ := List.mem_flatMap.1 hx
 rcases takeF_mem x 3 c hx with rfl | h2
 ·exact h x hc
 ·omega
theorem decR_wide (t : List UInt8) : ∀ x ∈ decR t, 0 ≤ x ∧ x ≤ 1114143 := by
 intro x hx
 unfold decR at hx
 cases e : decO t with
 | none => rw [e] at hx; simp at hx
 | some l =>
  rw [e] at hx
  have := (isSgn_iff x).1 (decO_sgn t l e x hx)
  omega
def keyS (s : ByteArray) : ByteArray := ⟨(encL (keyZ (decR s.data.toList))).toArray⟩
def keyR (s : ByteArray) : ByteArray := if nameB s = true then keyS s else ByteArray.empty
def alikeB (s t : ByteArray) : Bool := nameB s && nameB t && (keyS s).toList == (keyS t).toList
def hashF (s : ByteArray) : Int := if nameB s = true then crcF (keyS s).data.toList % 16 else -1
theorem nameB_size (s : ByteArray) (h : nameB s = true) : s.size ≤ 24 := by
 unfold nameB at h
 simp only [Bool.and_eq_true, decide_eq_true_eq] at h
 exact h.1.1.1.2.2
theorem encs_size (l : List Int) : (encL l).length ≤ 4 * l.length := by
 have h1 := encs_len l
 unfold encL
 split <;> simp <;> omega
theorem keyS_size (s : ByteArray) (h : nameB s = true) : (keyS s).size ≤ 1000000 := by
 have h0 := nameB_size s h
 have h1 := decR_len s.data.toList
 have h2 : s.data.toList.length = s.size := Array.length_toList
 have h3 := apartF_len (decR s.data.toList)
 have h4 := foldL_len (apartF (decR s.data.toList))
 have h5 := apartF_len (foldL (apartF (decR s.data.toList)))
 have h6 := encs_size (keyZ (decR s.data.toList))
 have h7 : (keyS s).size = (encL (keyZ (decR s.data.toList))).length := List.size_toArray
 unfold keyZ at h6 h7
 omega
set_option maxRecDepth 1000000 in
set_option maxHeartbeats 6000000 in
theorem specKeyOf_any (s : ByteArray) (w : World) (hs : s.size ≤ 1073741824) : Calls Try.prog 55 #[.string s] w fun e w' => e = .returned (.tuple #[.string (keyR s), .bool (nameB s)]) ∧ Below w.heap.size w w' := by
 go_enter Try.func55, Try.ntmps55
 go_wp2_with fail
 refine (specNameOk_any s _ hs).mono ?_
 rintro e w1 ⟨rfl, hb⟩
 have HB1 := Lib.hid hb
 clear hb
 have HK : Hid (keyR s = if nameB s = true then keyS s else ByteArray.empty) := Lib.hid rfl
 have HSZ : Hid (nameB s = true → s.size ≤ 24) := Lib.hid (nameB_size s)
 obtain ⟨nb, hnb⟩ : ∃ b, nameB s = b := ⟨_, rfl⟩
 rw [hnb] at HK HSZ ⊢
 have HN := Lib.hid hnb
 clear hnb
 cases nb with
 | false =>
  go_wp2
  go_ret2
  exact ⟨by rw [HK.out, HN.out]; rfl, HB1.out⟩
 | true =>
  have hs24 := HSZ.out rfl
  go_wp2_with fail
  refine (specDecode_any s _ hs).mono ?_
  rintro e w2 ⟨a1, c1, rfl, hO⟩
  have HR := Lib.hid hO.rd
  have HB2 := Lib.hid (below_step1 HB1.out hO.below)
  have hl1 : (decR s.data.toList).length ≤ 24 := by have h1 := decR_len s.data.toList; have h2 : s.data.toList.length = s.size := Array.length_toList; omega
  have HW := Lib.hid (decR_wide s.data.toList)
  have HK2 : Hid (keyR s = ⟨(encL (apartF (foldL (apartF (decR s.data.toList))))).toArray⟩) := Lib.hid HK.out
  clear hO HB1 HK HSZ
  generalize decR s.data.toList = l1 at *
  generalize decB s.data.toList = b1 at *
  go_wp2_with fail
  refine (specApart_any _ _ _ l1 _ HR.out (by omega)).mono ?_
  rintro e w3 ⟨a2, c2, rfl, hO⟩
  have HR2 := Lib.hid hO.rd
  have HB3 := Lib.hid (below_step1 HB2.out hO.below)
  have hl2 := apartF_len l1
  have HW2 := Lib.hid (apartF_wide l1 HW.out)
  clear hO HR HB2 HW
  generalize apartF l1 = l2 at *
  go_wp2_with fail
  refine (specFold_any _ _ _ l2 _ HR2.out (by omega) (fun x hx => by have := HW2.out x hx; omega)).mono ?_
  rintro e w4 ⟨a3, c3, rfl, hO⟩
  have HR3 := Lib.hid hO.rd
  have HB4 := Lib.hid (below_step1 HB3.out hO.below)
  have hl3 := foldL_len l2
  clear hO HR2 HB3 HW2
  generalize foldL l2 = l3 at *
  go_wp2_with fail
  refine (specApart_any _ _ _ l3 _ HR3.out (by omega)).mono ?_
  rintro e w5 ⟨a4, c4, rfl, hO⟩
  have HR4 := Lib.hid hO.rd
  have HB5 := Lib.hid (below_step1 HB4.out hO.below)
  have hl4 := apartF_len l3
  clear hO HR3 HB4
  generalize apartF l3 = l4 at *
  go_wp2_with fail
  refine (specEncode_any _ _ _ l4 _ HR4.out (by omega)).mono ?_
  rintro e w6 ⟨rfl, hb⟩
  have HB6 := Lib.hid (below_step1 HB5.out hb)
  clear hb HR4 HB5
  go_wp2
  go_ret2
  exact ⟨by rw [HK2.out, HN.out]; rfl, HB6.out⟩
set_option maxRecDepth 1000000 in
set_option maxHeartbeats 6000000 in
theorem specAlike_any (s t : ByteArray) (w : World) (hs : s.size ≤ 1073741824) (ht : t.size ≤ 1073741824) : Calls Try.prog 47 #[.string s, .string t] w fun e w' => e = .returned (.bool (alikeB s t)) ∧ Below w.heap.size w w' := by
 go_enter Try.func47, Try.ntmps47
 go_wp2_with fail
 refine (specKeyOf_any s _ hs).mono ?_
 rintro e w1 ⟨rfl, hb⟩
 have HB1 := Lib.hid hb
 clear hb
 go_wp2_with fail
 refine (specKeyOf_any t _ ht).mono ?_
 rintro e w2 ⟨rfl, hb⟩
 have HB2 := Lib.hid (below_step1 HB1.out hb)
 clear hb HB1
 have HA : Hid (alikeB s t = (nameB s && nameB t && (keyS s).toList == (keyS t).toList)) := Lib.hid rfl
 have HK1 : Hid (keyR s = if nameB s = true then keyS s else ByteArray.empty) := Lib.hid rfl
 have HK2 : Hid (keyR t = if nameB t = true then keyS t else ByteArray.empty) := Lib.hid rfl
 generalize nameB s = b1 at *
 generalize nameB t = b2 at *
 cases b1 with
 | false =>
  go_wp2
  go_ret
  exact ⟨ret_bool (by rw [HA.out]; rfl), HB2.out⟩
 | true =>
  cases b2 with
  | false =>
   go_wp2
   go_ret
   exact ⟨ret_bool (by rw [HA.out]; rfl), HB2.out⟩
  | true =>
   have HA2 : Hid (alikeB s t = ((keyR s).toList == (keyR t).toList)) := Lib.hid (by rw [HA.out, HK1.out, HK2.out]; simp)
   clear HA HK1 HK2
   generalize keyR s = x at *
   generalize keyR t = y at *
   cases he : (x.toList == y.toList) with
   | true =>
    have HE := Lib.hid he
    go_wp2
    go_ret
    exact ⟨ret_bool (by rw [HA2.out, HE.out]), HB2.out⟩
   | false =>
    have HE := Lib.hid he
    go_wp2
    go_ret
    exact ⟨ret_bool (by rw [HA2.out, HE.out]), HB2.out⟩
set_option maxRecDepth 1000000 in
set_option maxHeartbeats 6000000 in
theorem specHashOf_any (s : ByteArray) (w : World) (hs : s.size ≤ 1073741824) : Calls Try.prog 48 #[.string s] w fun e w' => e = .returned (.int .i64 (hashF s)) ∧ Below w.heap.size w w' := by
 go_enter Try.func48, Try.ntmps48
 go_wp2_with fail
 refine (specKeyOf_any s _ hs).mono ?_
 rintro e w1 ⟨rfl, hb⟩
 have HB1 := Lib.hid hb
 clear hb
 have HH : Hid (hashF s = if nameB s = true then crcF (keyS s).data.toList % 16 else -1) := Lib.hid rfl
 have HK1 : Hid (keyR s = if nameB s = true then keyS s else ByteArray.empty) := Lib.hid rfl
 have HZ : Hid (nameB s = true → (keyS s).size ≤ 1000000) := Lib.hid (keyS_size s)
 generalize nameB s = b1 at *
 cases b1 with
 | false =>
  go_wp2
  go_ret
  exact ⟨ret_int (by rw [HH.out]; rfl), HB1.out⟩
 | true =>
  have HH2 : Hid (hashF s = crcF (keyR s).data.toList % 16) := Lib.hid (by rw [HH.out, HK1.out]; rfl)
  have hz : (keyR s).size ≤ 140737488355328 := by have h1 := HZ.out rfl; have h2 : keyR s = keyS s := HK1.out; rw [h2]; omega
  clear HH HK1 HZ
  generalize keyR s = x at *
  have hc := crcF_range x.data.toList
  go_wp2_with fail
  refine (specCrc_any x _ hz).mono ?_
  rintro e w2 ⟨rfl, rfl⟩
  generalize crcF x.data.toList = y at *
  have hy : y.tmod 16 = y % 16 := Int.tmod_eq_emod_of_nonneg hc.1
  have hyw : IntKind.i64.wrap (y.tmod 16) = y % 16 := by rw [hy]; exact IntWalk.i64_in _ ⟨by omega, by omega⟩
  go_wp2
  go_ret
  exact ⟨ret_int (by rw [HH2.out]), HB1.out⟩
def lessH (h1 k1 h2 k2 : Int) : Bool := decide (h1 < h2) || (decide (h1 = h2) && decide (k1 < k2))
theorem lessH_lt {h1 k1 h2 k2 : Int} (h : h1 < h2) : lessH h1 k1 h2 k2 = true := by unfold lessH; rw [decide_eq_true h]; rfl
theorem lessH_gt {h1 k1 h2 k2 : Int} (h : h2 < h1) : lessH h1 k1 h2 k2 = false := by unfold lessH; rw [decide_eq_false (by omega), decide_eq_false (by omega)]; rfl
theorem lessH_eq {h k1 k2 : Int} : lessH h k1 h k2 = decide (k1 < k2) := by unfold lessH; rw [decide_eq_false (by omega), decide_eq_true rfl]; rfl
set_option maxRecDepth 1000000 in
set_option maxHeartbeats 6000000 in
theorem l5Less_any (x : EntL) (h k : Int) (w : World) : Calls Try.prog 49 #[enV x, .int .i64 h, .int .i64 k] w fun e w' => e = .returned (.bool (lessH x.hash x.index h k)) ∧ Below w.heap.size w w' := by
 obtain ⟨a, b, c, d⟩ := x
 unfold enV
 simp only
 by_cases h1 : a < h
 ·rw [lessH_lt h1]
  go_enter Try.func49, Try.ntmps49
  go_wp2
  go_ret
  exact ⟨rfl, ((Below.refl _ _).alloc (Nat.le_refl _) _)⟩
 ·by_cases h2 : a = h
  ·subst h2
   rw [lessH_eq]
   go_enter Try.func49, Try.ntmps49
   go_wp2
   go_ret
   exact ⟨rfl, ((Below.refl _ _).alloc (Nat.le_refl _) _)⟩
  ·rw [lessH_gt (by omega)]
   go_enter Try.func49, Try.ntmps49
   go_wp2
   go_ret
   exact ⟨rfl, ((Below.refl _ _).alloc (Nat.le_refl _) _)⟩
def EntL.row (x : EntL) : Bool := nameB x.name && decide (hashF x.name = x.hash) && decide (0 ≤ x.index ∧ x.index ≤ 12) && decide (1 ≤ x.id ∧ x.id ≤ 100000)
theorem any_next (l : List EntL) (m : Nat) (hm : m < l.length) (p : EntL → Bool) (h : (l.take m).any p = false) (e : p l[m] = false) : (l.take (m + 1)).any p = false := by
 rw [List.take_succ_eq_append_getElem hm, List.any_append, h, List.any_cons, e]; rfl
theorem cellK {w w' : World} {b j : Nat} {v : Value} (h : w.cell? ⟨b, j, none⟩ = some v) (hb : Below w.heap.size w w') : w'.cell? ⟨b, j, none⟩ = some v :=
 (hb.cell (p := ⟨b, j, none⟩) (World.block_lt_of_cell? w _ h)).trans h
theorem boxA (w : World) (o : Obj) : Below w.heap.size w (w.alloc o) := (Below.refl _ _).alloc (Nat.le_refl _) _
theorem box4 (w : World) (e : TypeId) (u0 u1 u2 u3 : Value) :
  (w.alloc (.cells #[u0, u1, u2, u3] e)).cell? ⟨w.heap.size, 0, none⟩ = some u0 ∧ (w.alloc (.cells #[u0, u1, u2, u3] e)).cell? ⟨w.heap.size, 1, none⟩ = some u1 ∧ (w.alloc (.cells #[u0, u1, u2, u3] e)).cell? ⟨w.heap.size, 2, none⟩ = some u2 ∧ (w.alloc (.cells #[u0, u1, u2, u3] e)).cell? ⟨w.heap.size, 3, none⟩ = some u3 := by
 go_simp
end Go.Proofs.Ytlkfabkkjfmnmaa
