/- Signs are read from the bytes that they are written as, and no other bytes are read: the law, walked. -/
import Derived.Test.YtiakfclfipiaoaaDraws
import Derived.Test.YtiakfclfipiaoaaSigF
import Derived.Test.YtiakfclfipiaoaaDecode
import Derived.Test.YtiakfclfipiaoaaLdecode
import Derived.Test.YtiakfclfipiaoaaAt
namespace Go.Proofs.Ytiakfclfipiaoaa
open Go.RowKit

theorem str_isE (s : ByteArray) : s.toList.isEmpty = decide (s.size = 0) := by
  rw [ByteArray.toList_eq, Bool.eq_iff_iff]
  obtain ⟨a⟩ := s
  simp [ByteArray.size]
theorem decB_some (t : List UInt8) (h : decB t = true) : decO t = some (decR t) := by
  unfold decB at h
  unfold decR
  cases hd : decO t with
  | none => rw [hd] at h; cases h
  | some l => rfl
theorem dec_of (t : List UInt8) (l : List Int) (h : decO t = some l) : decR t = l ∧ decB t = true := by
  unfold decR decB
  rw [h]
  exact ⟨rfl, rfl⟩

set_option maxRecDepth 1000000 in
set_option maxHeartbeats 6000000 in
theorem lawSigns_walk (a : Option Addr) (len cap : Nat) (zs0 : List Int) (w : World) (hrow : IsRow .u8 w a len cap zs0) : Calls Try.prog 9 #[.slice a len cap] w fun e w' => e = .returned (.bool true) ∧ Below w.heap.size w w' := by
  have hm : len ≤ maxLen := by have h := hrow.rd.1; exact Nat.le_trans h.le h.max
  by_cases hs : 1048576 < len
  · clear hrow
    go_enter Try.func9, Try.ntmps9
    go_wp2_with fail
    refine (big_any_any _ _ _ _ hs hm).mono ?_
    rintro e w' ⟨rfl, rfl⟩
    go_wp2
    go_ret
    exact ⟨rfl, Below.refl _ _⟩
  · obtain ⟨hR, hz⟩ := hrow.rd
    have HR := Lib.hid hR
    have HZ2 : Hid (∀ z ∈ zs0.take len, 0 ≤ z ∧ z ≤ 255) := Lib.hid (fun z hz' => by have := hz z hz'; simpa [Lit.wf, IntKind.min, IntKind.max, IntKind.signed, IntKind.bits] using this)
    have hn : len ≤ 1048576 := by omega
    clear hrow hR hz hs hm
    generalize zs0.take len = zs at *
    go_enter Try.func9, Try.ntmps9
    go_wp2_with fail
    refine (big_no_any _ _ _ _ hn).mono ?_
    rintro e w' ⟨rfl, rfl⟩
    go_wp2_with fail
    refine (drawEncode_any _ _ _ _ _ HR.out HZ2.out hn).mono ?_
    rintro e w1 ⟨l, p, c, rfl, hl8, -, hO1⟩
    have hl8 : l.length ≤ 6 := by omega
    have HO1 := Lib.hid hO1
    clear hO1
    go_wp2_with fail
    refine (implEncode_any _ _ _ l _ HO1.out.rd (by omega)).mono ?_
    rintro e w2 ⟨rfl, hb2⟩
    have HO2 := Lib.hid (HO1.out.kept hb2)
    clear hb2 HO1
    have hel : (encL l).length ≤ 24 := by
      have h1 := encs_len l
      unfold encL
      split <;> simp <;> omega
    have hsE : (⟨(encL l).toArray⟩ : ByteArray).size ≤ 24 := by simpa [ByteArray.size] using hel
    go_wp2_with fail
    refine (implDecode_any ⟨(encL l).toArray⟩ _ (by omega)).mono ?_
    rintro e w3 ⟨g3, c3, rfl, hD⟩
    have HD := Lib.hid hD
    have HO3 := Lib.hid (HO2.out.kept hD.below)
    clear hD HO2
    have hdl := decR_len (encL l)
    have key : Hid (∀ w4, Below w.heap.size w w4 → Rd w4 a len cap 1 (zs.map (Value.int .u8))) := Lib.hid (fun w4 hb => HR.out.below hb (Nat.le_refl _))
    have HE1 := Lib.hid (specEncode_any p l.length c l w3 HO3.out.rd (by omega))
    by_cases he : encL l = []
    · have hisE : (⟨(encL l).toArray⟩ : ByteArray).toList.isEmpty = true := by rw [str_isE, he]; rfl
      clear he hel hdl
      generalize (⟨(encL l).toArray⟩ : ByteArray) = T at *
      go_wp2_with fail
      refine HE1.out.mono ?_
      rintro e w4 ⟨rfl, hb4⟩
      have HB4 := Lib.hid (HO3.out.below.trans (hb4.mono HO3.out.below.size))
      clear hb4 HE1
      go_wp2_with fail
      refine (drawDecode_any _ _ _ _ _ (key.out _ HB4.out) HZ2.out hn).mono ?_
      rintro e w6 ⟨t, rfl, ht, hb6⟩
      have HB6 := Lib.hid (HB4.out.trans (hb6.mono HB4.out.size))
      clear hb6 HB4
      have htl := decR_len t.data.toList
      have hts : t.data.toList.length = t.size := by simp
      have htl2 : (decR t.data.toList).length ≤ 27 := by omega
      have HDS := Lib.hid (decB_some t.data.toList)
      have HSO := Lib.hid (decO_sound t.data.toList)
      clear htl hts
      go_wp2_with fail
      refine (implDecode_any t _ (by omega)).mono ?_
      rintro e w7 ⟨g7, c7, rfl, hD7⟩
      have HD7 := Lib.hid hD7.rd
      have HB7 := Lib.hid (HB6.out.trans (hD7.below.mono HB6.out.size))
      clear hD7 HB6
      go_wp2_with fail
      refine (specDecode_any t _ (by omega)).mono ?_
      rintro e w8 ⟨g8, c8, rfl, hD8⟩
      have HD8 := Lib.hid (HD7.out.below hD8.below (Nat.le_refl _))
      have HB8 := Lib.hid (HB7.out.trans (hD8.below.mono HB7.out.size))
      clear hD8 HB7 HD7
      have HEQ : Hid (decB t.data.toList = true → (⟨(encL (decR t.data.toList)).toArray⟩ : ByteArray) = t) := Lib.hid (fun h => by
        have h1 := HSO.out _ (HDS.out h)
        rw [h1])
      clear HDS HSO
      generalize decR t.data.toList = y at *
      generalize decB t.data.toList = fine at *
      cases fine with
      | false =>
        go_wp2
        go_ret
        exact ⟨rfl, HB8.out⟩
      | true =>
        have HE2 := Lib.hid (HEQ.out rfl)
        clear HEQ
        go_wp2_with fail
        refine (implEncode_any _ _ _ y _ HD8.out (by omega)).mono ?_
        rintro e w9 ⟨rfl, hb9⟩
        rw [HE2.out]
        have HB9 := Lib.hid (HB8.out.trans (hb9.mono HB8.out.size))
        clear hb9
        go_wp2
        go_ret
        exact ⟨rfl, HB9.out⟩
    · have hisE : (⟨(encL l).toArray⟩ : ByteArray).toList.isEmpty = false := by
        rw [str_isE]
        simp only [decide_eq_false_iff_not]
        intro h0
        exact he (List.eq_nil_of_length_eq_zero (by simpa [ByteArray.size] using h0))
      obtain ⟨hd1, hd2⟩ := dec_of _ _ (decO_encL l he)
      clear he hel hdl
      have HD2 : Hid (Rd w3 g3 l.length c3 1 (ints l)) := Lib.hid (by have := HD.out.rd; rw [show (⟨(encL l).toArray⟩ : ByteArray).data.toList = encL l from rfl, hd1] at this; exact this)
      rw [show (⟨(encL l).toArray⟩ : ByteArray).data.toList = encL l from rfl, hd1, hd2]
      clear hd1 hd2 HD
      generalize (⟨(encL l).toArray⟩ : ByteArray) = T at *
      go_wp2_with fail
      refine HE1.out.mono ?_
      rintro e w4 ⟨rfl, hb4⟩
      have HB4 := Lib.hid (HO3.out.below.trans (hb4.mono HO3.out.below.size))
      have HD4 := Lib.hid (HD2.out.below hb4 (Nat.le_refl _))
      have HO4 := Lib.hid (HO3.out.rd.below hb4 (Nat.le_refl _))
      clear hb4 HE1 HD2 HO3
      go_wp2_with fail
      refine (sameInts_any _ _ _ _ _ _ l l _ HD4.out HO4.out (by omega) (by omega)).mono ?_
      rintro e w5 ⟨rfl, hb5⟩
      have edec : decide (l = l) = true := by simp
      rw [edec]
      have HB4b := Lib.hid (HB4.out.trans (hb5.mono HB4.out.size))
      clear hb5 edec HB4 HD4 HO4
      have HB4 := HB4b
      clear HB4b
      go_wp2_with fail
      refine (drawDecode_any _ _ _ _ _ (key.out _ HB4.out) HZ2.out hn).mono ?_
      rintro e w6 ⟨t, rfl, ht, hb6⟩
      have HB6 := Lib.hid (HB4.out.trans (hb6.mono HB4.out.size))
      clear hb6 HB4
      have htl := decR_len t.data.toList
      have hts : t.data.toList.length = t.size := by simp
      have htl2 : (decR t.data.toList).length ≤ 27 := by omega
      have HDS := Lib.hid (decB_some t.data.toList)
      have HSO := Lib.hid (decO_sound t.data.toList)
      clear htl hts
      go_wp2_with fail
      refine (implDecode_any t _ (by omega)).mono ?_
      rintro e w7 ⟨g7, c7, rfl, hD7⟩
      have HD7 := Lib.hid hD7.rd
      have HB7 := Lib.hid (HB6.out.trans (hD7.below.mono HB6.out.size))
      clear hD7 HB6
      go_wp2_with fail
      refine (specDecode_any t _ (by omega)).mono ?_
      rintro e w8 ⟨g8, c8, rfl, hD8⟩
      have HD8 := Lib.hid (HD7.out.below hD8.below (Nat.le_refl _))
      have HB8 := Lib.hid (HB7.out.trans (hD8.below.mono HB7.out.size))
      clear hD8 HB7 HD7
      have HEQ : Hid (decB t.data.toList = true → (⟨(encL (decR t.data.toList)).toArray⟩ : ByteArray) = t) := Lib.hid (fun h => by
        have h1 := HSO.out _ (HDS.out h)
        rw [h1])
      clear HDS HSO
      generalize decR t.data.toList = y at *
      generalize decB t.data.toList = fine at *
      cases fine with
      | false =>
        go_wp2
        go_ret
        exact ⟨rfl, HB8.out⟩
      | true =>
        have HE2 := Lib.hid (HEQ.out rfl)
        clear HEQ
        go_wp2_with fail
        refine (implEncode_any _ _ _ y _ HD8.out (by omega)).mono ?_
        rintro e w9 ⟨rfl, hb9⟩
        rw [HE2.out]
        have HB9 := Lib.hid (HB8.out.trans (hb9.mono HB8.out.size))
        clear hb9
        go_wp2
        go_ret
        exact ⟨rfl, HB9.out⟩
end Go.Proofs.Ytiakfclfipiaoaa
