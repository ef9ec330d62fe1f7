/- What is made of a number is read as it, whatever stands behind; no other text is read: the law, walked. -/
import Derived.Test.YtiakfclfipiaoaaDraws
import Derived.Test.YtiakfclfipiaoaaNumF
import Derived.Test.YtiakfclfipiaoaaFixed
import Derived.Test.YtiakfclfipiaoaaReadVar
import Derived.Test.YtiakfclfipiaoaaReadDec
import Derived.Test.YtiakfclfipiaoaaAt
namespace Go.Proofs.Ytiakfclfipiaoaa
open Go.RowKit

theorem str_isEn (s : ByteArray) : s.toList.isEmpty = decide (s.size = 0) := by
  rw [ByteArray.toList_eq, Bool.eq_iff_iff]
  obtain ⟨a⟩ := s
  simp [ByteArray.size]
theorem below_stepN {w0 w w' : World} (h : Below w0.heap.size w0 w) (hb : Below w.heap.size w w') : Below w0.heap.size w0 w' := h.trans (hb.mono h.size)
theorem cat_list (l : List UInt8) (t : ByteArray) : ((⟨l.toArray⟩ : ByteArray) ++ t).data.toList = l ++ t.data.toList := by simp
theorem mk_size (l : List UInt8) : (⟨l.toArray⟩ : ByteArray).size = l.length := by simp [ByteArray.size]
/-- What the number comes to as a text, and read again. -/
structure NumOk (n : Int) (tail : ByteArray) : Prop where
  var : (0 ≤ n ∧ n ≤ 562949953421311 ∧ (⟨(varV n).toArray⟩ : ByteArray).toList.isEmpty = false ∧ (⟨(varV n).toArray⟩ : ByteArray).size ≤ 7 ∧ rdVarV ((⟨(varV n).toArray⟩ : ByteArray) ++ tail).data.toList = .tuple #[.int .i64 n, .int .i64 ((⟨(varV n).toArray⟩ : ByteArray).size : Int)]) ∨
    ((n < 0 ∨ 562949953421311 < n) ∧ (⟨(varV n).toArray⟩ : ByteArray).toList.isEmpty = true ∧ (⟨(varV n).toArray⟩ : ByteArray).size ≤ 7)
  fix : (0 ≤ n ∧ n < 72057594037927936 ∧ (⟨(fixedL n 7).toArray⟩ : ByteArray).toList.isEmpty = false ∧ (⟨(fixedL n 7).toArray⟩ : ByteArray).size = 7 ∧ rdFixed ((⟨(fixedL n 7).toArray⟩ : ByteArray) ++ tail) 7 = .tuple #[.int .i64 n, .bool true]) ∨
    ((n < 0 ∨ 72057594037927936 ≤ n) ∧ (⟨(fixedL n 7).toArray⟩ : ByteArray).toList.isEmpty = true ∧ (⟨(fixedL n 7).toArray⟩ : ByteArray).size = 0)
theorem numOk (n : Int) (tail : ByteArray) : NumOk n tail where
  var := by
    by_cases h : 0 ≤ n ∧ n ≤ 562949953421311
    · obtain ⟨h0, h1⟩ := h
      obtain ⟨k, rfl⟩ := Int.eq_ofNat_of_zero_le h0
      have hk : k ≤ 562949953421311 := by omega
      have hv := varV_yes k hk
      have hne : 0 < (varL k).length := List.length_pos_iff.2 (varL_ne k)
      have h7 := varL_len7 k hk
      refine .inl ⟨h0, h1, ?_, ?_, ?_⟩
      · rw [str_isEn, mk_size, hv]; simp [varL_ne k]
      · rw [mk_size, hv]; exact h7
      · rw [cat_list, mk_size, hv, rdVarV, rdVar_varL k hk]
    · refine .inr ⟨by omega, ?_, ?_⟩
      · rw [str_isEn, mk_size, varV_no n (by omega)]; rfl
      · rw [mk_size, varV_no n (by omega)]; simp
  fix := by
    by_cases h : 0 ≤ n ∧ n < 72057594037927936
    · obtain ⟨h0, h1⟩ := h
      obtain ⟨k, rfl⟩ := Int.eq_ofNat_of_zero_le h0
      have hk : k < 256 ^ 7 := by omega
      have hv : fixedL (k : Int) 7 = lowBE k 7 := fixedL_yes k 7 (by omega) (by omega) hk
      have hl := lowBE_length k 7
      refine .inl ⟨h0, h1, ?_, ?_, ?_⟩
      · rw [str_isEn, mk_size, hv, hl]; rfl
      · rw [mk_size, hv, hl]
      · unfold rdFixed
        have hs : (7 : Int) ≤ (((⟨(fixedL (k : Int) 7).toArray⟩ : ByteArray) ++ tail).size : Int) := by rw [ByteArray.size_append, mk_size, hv, hl]; omega
        rw [if_pos ⟨by omega, by omega, hs⟩, cat_list, hv]
        have ht : (lowBE k 7 ++ tail.data.toList).take (7 : Int).toNat = lowBE k 7 := by
          rw [show (7 : Int).toNat = (lowBE k 7).length from by rw [hl]; rfl, List.take_left]
        rw [ht, rdF_lowBE, Nat.mod_eq_of_lt hk]
    · refine .inr ⟨by omega, ?_, ?_⟩
      · have : fixedL n 7 = [] := by unfold fixedL; rw [if_neg (by intro c; have := c.2.2.2; simp at this; omega)]
        rw [str_isEn, mk_size, this]; rfl
      · have : fixedL n 7 = [] := by unfold fixedL; rw [if_neg (by intro c; have := c.2.2.2; simp at this; omega)]
        rw [mk_size, this]; rfl

theorem decL_size (n : Int) (h : -9223372036854775808 ≤ n ∧ n ≤ 9223372036854775807) : (⟨(decL n).toArray⟩ : ByteArray).size ≤ 1073741824 := by
  rw [mk_size]
  have hl : (rdec n.natAbs).length ≤ 20 := rdec_len 20 _ (by omega)
  unfold decL
  split
  · simp
  · rw [List.length_append, List.length_reverse]
    split <;> simp <;> omega

theorem rv_slice (s : ByteArray) (h : (rdVar s.data.toList).2 ≠ 0) (hv : varL (rdVar s.data.toList).1 = s.data.toList.take (rdVar s.data.toList).2 ∧ (rdVar s.data.toList).1 ≤ 562949953421311 ∧ (rdVar s.data.toList).2 ≤ s.data.toList.length) :
    (⟨(varV ((rdVar s.data.toList).1 : Int)).toArray⟩ : ByteArray) = s.extract 0 (rdVar s.data.toList).2 := by
  obtain ⟨h1, h2, _⟩ := hv
  rw [varV_yes _ h2, h1]
  apply ByteArray.ext
  apply Array.toList_inj.1
  simp only [ByteArray.data_extract, Array.toList_extract]
  rw [List.extract_eq_take_drop]
  simp

set_option maxRecDepth 1000000 in
set_option maxHeartbeats 6000000 in
theorem lawNumbers_walk (a : Option Addr) (len cap : Nat) (zs0 : List Int) (w : World) (hrow : IsRow .u8 w a len cap zs0) : Calls Try.prog 12 #[.slice a len cap] w fun e w' => e = .returned (.bool true) ∧ Below w.heap.size w w' := by
  have hm : len ≤ maxLen := by have h := hrow.rd.1; exact Nat.le_trans h.le h.max
  by_cases hs : 1048576 < len
  · clear hrow
    go_enter Try.func12, Try.ntmps12
    go_wp2_with fail
    refine (big_any_any _ _ _ _ hs hm).mono ?_
    rintro e w' ⟨rfl, rfl⟩
    go_wp2
    go_ret
    exact ⟨rfl, Below.refl _ _⟩
  · obtain ⟨hR, hz⟩ := hrow.rd
    have HR := Lib.hid hR
    have HZ2 : Hid (∀ z ∈ zs0.take len, 0 ≤ z ∧ z ≤ 255) := Lib.hid (fun z hz' => by have := hz z hz'; simpa [Lit.wf, IntKind.min, IntKind.max, IntKind.signed, IntKind.bits] using this)
    have hn : len ≤ 1048576 := by omega
    clear hrow hR hz hs hm
    generalize zs0.take len = zs at *
    have hnr := numF_range zs ⟨0, newH zs⟩
    have hnr : -9223372036854775808 ≤ varD zs ∧ varD zs ≤ 9223372036854775807 := hnr
    have hts := textF_size zs 40 ⟨0, newH zs⟩ (by omega)
    have hts : ((hexD zs).size : Int) ≤ 40 := hts
    have HOK := Lib.hid (numOk (varD zs) (hexD zs))
    have HDEC := Lib.hid (rdDecV_decL (varD zs))
    have HHEX := Lib.hid (unhexL_hexL (hexD zs).data.toList)
    have hrs := rvD_size zs
    have HRV := Lib.hid (rdVar_sound (rvD zs).data.toList)
    have HRZ := Lib.hid (rdVar_zero (rvD zs).data.toList)
    go_enter Try.func12, Try.ntmps12
    go_wp2_with fail
    refine (big_no_any _ _ _ _ hn).mono ?_
    rintro e w' ⟨rfl, rfl⟩
    go_wp2_with fail
    refine (drawVar_any _ _ _ _ _ HR.out HZ2.out hn).mono ?_
    rintro e w1 ⟨rfl, hb1⟩
    have HB1 := Lib.hid hb1
    clear hb1
    go_wp2_with fail
    refine (drawHex_any _ _ _ _ _ (HR.out.below HB1.out (Nat.le_refl _)) HZ2.out hn).mono ?_
    rintro e w2 ⟨rfl, hb2⟩
    have HB2 := Lib.hid (below_stepN HB1.out hb2)
    clear hb2 HB1
    go_wp2_with fail
    refine (implVar_any _ _).mono ?_
    rintro e w3 ⟨rfl, hb3⟩
    have HB3 := Lib.hid (below_stepN HB2.out hb3)
    clear hb3 HB2
    obtain ⟨n, hn'⟩ : ∃ n, n = varD zs := ⟨_, rfl⟩
    obtain ⟨T, hT⟩ : ∃ T, T = hexD zs := ⟨_, rfl⟩
    rw [← hn', ← hT] at HOK ⊢
    rw [← hn'] at HDEC hnr
    rw [← hT] at HHEX hts
    clear hn' hT
    have hT40 : T.size ≤ 40 := by omega
    have wfn : (Lit.int .i64 n).wf = true := by simp [Lit.wf, IntKind.min, IntKind.max, IntKind.signed, IntKind.bits]; omega
    have WFN := Lib.hid wfn
    clear wfn hts
    obtain ⟨hvar, hfix⟩ := HOK.out
    clear HOK
    have HFIX := Lib.hid hfix
    clear hfix
    have HVAR := Lib.hid hvar
    clear hvar
    generalize hV : (⟨(varV n).toArray⟩ : ByteArray) = V at *
    clear hV
    have hV7 : V.size ≤ 7 := by rcases HVAR.out with h | h <;> omega
    go_wp2_with fail
    refine (implReadVar_any _ _ (by rw [ByteArray.size_append]; omega)).mono ?_
    rintro e w4 ⟨rfl, hb4⟩
    have HB4 := Lib.hid (below_stepN HB3.out hb4)
    clear hb4 HB3
    rcases HVAR.out with ⟨n0, n1, v2, v3, v4⟩ | ⟨n0, v2, v3⟩ <;> clear HVAR
    case' inl =>
      rw [v4]
      clear v4 v3
      go_wp2_with fail
    case' inr =>
      unfold rdVarV
      generalize ((rdVar (V ++ T).data.toList).1 : Int) = x
      generalize ((rdVar (V ++ T).data.toList).2 : Int) = k
      clear v3
      rcases n0 with n0 | n0
      all_goals go_wp2_with fail
    all_goals
      refine (implFixed_any _ _ WFN.out _).mono ?_
      rintro e w5 ⟨rfl, hb5⟩
      have HB5 := Lib.hid (below_stepN HB4.out hb5)
      clear hb5 HB4 v2
      have hfix := HFIX.out
      clear HFIX
      generalize hV' : (⟨(fixedL n 7).toArray⟩ : ByteArray) = F at *
      clear hV'
      go_wp2_with fail
      refine (implReadFixed_any _ _ _).mono ?_
      rintro e w6 ⟨rfl, rfl⟩
      rcases hfix with ⟨m0, m1, f2, f3, f4⟩ | ⟨m0, f2, f3⟩
      case' inl =>
        rw [f4]
        clear f4
        try (exfalso; omega)
        all_goals go_wp2_with fail
      case' inr =>
        obtain ⟨y, is, hyi⟩ : ∃ y is, rdFixed (F ++ T) 7 = .tuple #[.int .i64 y, .bool is] := by
          unfold rdFixed
          split
          · exact ⟨_, _, rfl⟩
          · exact ⟨_, _, rfl⟩
        rw [hyi]
        clear hyi f3
        rcases m0 with m0 | m0
        all_goals (first | (exfalso; omega) | skip)
        all_goals go_wp2_with fail
    all_goals
      refine (implDec_any _ WFN.out _).mono ?_
      rintro e w7 ⟨rfl, hb7⟩
      have HB7 := Lib.hid (below_stepN HB5.out hb7)
      clear hb7 HB5
      try clear f2
      go_wp2_with fail
      refine (implReadDec_any _ _ (decL_size n hnr)).mono ?_
      rintro e w8 ⟨rfl, hb8⟩
      have HB8 := Lib.hid (below_stepN HB7.out hb8)
      clear hb8 HB7
      rw [show (⟨(decL n).toArray⟩ : ByteArray).data.toList = decL n from by simp, HDEC.out]
      by_cases hd : -1000000000 < n ∧ n < 1000000000
      case' pos =>
        rw [if_pos hd]
        obtain ⟨hd1, hd2⟩ := hd
        first | (exfalso; omega) | go_wp2_with fail
      case' neg =>
        rw [if_neg hd]
        rcases (show n ≤ -1000000000 ∨ 1000000000 ≤ n by omega) with hd | hd
        all_goals (first | (exfalso; omega) | go_wp2_with fail)
    all_goals
      try clear n0 n1
      try clear m0 m1
      refine (implHex_any _ _ (by omega)).mono ?_
      rintro e w9 ⟨rfl, hb9⟩
      have HB9 := Lib.hid (below_stepN HB8.out hb9)
      clear hb9 HB8
      go_wp2_with fail
      refine (implUnhex_any _ _ (by have ht : T.data.size = T.size := rfl; rw [mk_size, hexL_length, Array.length_toList]; omega)).mono ?_
      rintro e w10 ⟨rfl, hb10⟩
      have HB10 := Lib.hid (below_stepN HB9.out hb10)
      clear hb10 HB9
      rw [show unhexV (⟨(hexL T.data.toList).toArray⟩ : ByteArray).data.toList = .tuple #[.string T, .bool true] from by
        rw [show (⟨(hexL T.data.toList).toArray⟩ : ByteArray).data.toList = hexL T.data.toList from by simp, unhexV, HHEX.out]]
      go_wp2_with fail
      refine (drawReadVar_any _ _ _ _ _ (HR.out.below HB10.out (Nat.le_refl _)) HZ2.out hn).mono ?_
      rintro e w11 ⟨rfl, hb11⟩
      have HB11 := Lib.hid (below_stepN HB10.out hb11)
      clear hb11 HB10
      go_wp2_with fail
      refine (implReadVar_any _ _ (by omega)).mono ?_
      rintro e w12 ⟨rfl, hb12⟩
      have HB12 := Lib.hid (below_stepN HB11.out hb12)
      clear hb12 HB11
      by_cases hj : (rdVar (rvD zs).data.toList).2 = 0
      case' pos =>
        rw [show rdVarV (rvD zs).data.toList = .tuple #[.int .i64 0, .int .i64 0] from by rw [rdVarV, HRZ.out hj]; rfl]
        clear hj
        go_wp2_with fail
        go_ret
        exact ⟨rfl, HB12.out⟩
      case' neg =>
        have HVZ := Lib.hid (rv_slice (rvD zs) hj (HRV.out hj))
        have hj1 : (rdVar (rvD zs).data.toList).2 ≤ (rvD zs).size := by have := (HRV.out hj).2.2; rwa [Array.length_toList] at this
        unfold rdVarV
        generalize (rdVar (rvD zs).data.toList).1 = z at *
        generalize (rdVar (rvD zs).data.toList).2 = j at *
        have hj0 : ¬ ((j : Int) = 0) := by omega
        go_wp2_with fail
        refine (implVar_any _ _).mono ?_
        rintro e w13 ⟨rfl, hb13⟩
        have HB13 := Lib.hid (below_stepN HB12.out hb13)
        rw [HVZ.out]
        clear hb13 HB12 HVZ
        go_wp2_with fail
        refine (drawReadVar_any _ _ _ _ _ (HR.out.below HB13.out (Nat.le_refl _)) HZ2.out hn).mono ?_
        rintro e w14 ⟨rfl, hb14⟩
        have HB14 := Lib.hid (below_stepN HB13.out hb14)
        clear hb14 HB13
        go_wp2_with fail
        go_ret
        exact ⟨rfl, HB14.out⟩
end Go.Proofs.Ytiakfclfipiaoaa
