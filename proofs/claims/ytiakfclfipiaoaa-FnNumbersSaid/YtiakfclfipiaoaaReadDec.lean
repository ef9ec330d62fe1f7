/- ReadDec: the program's and the reference's come to one. -/
import Derived.Test.YtiakfclfipiaoaaRd
namespace Go.Proofs.Ytiakfclfipiaoaa
open Go.RowKit

theorem head_byte (s : ByteArray) (h : 0 < s.size) : s.data.toList.head? = some s[0] := by
  rw [List.head?_eq_getElem?, List.getElem?_eq_getElem (by simpa using h)]
  rfl
theorem byte45 (b : UInt8) (h : (b.toNat : Int) = 45) : some b = some 45 := by
  congr 1
  exact UInt8.toNat_inj.1 (by have : b.toNat = 45 := by omega
                              rw [this]; rfl)
theorem byte45n (b : UInt8) (h : ¬ (b.toNat : Int) = 45) : ¬ some b = some 45 := by
  intro e
  apply h
  rw [Option.some.inj e]
  rfl

set_option maxRecDepth 1000000 in
set_option maxHeartbeats 6000000 in
theorem implReadDec0 (s : ByteArray) (w : World) (hs : s.size ≤ 1073741824) (h0 : 0 < s.size) (h45 : ((s[0].toNat : Int) == 45) = false) :
    Calls Try.prog 43 #[.string s] w fun e w' => e = .returned (rdDecV s.data.toList) ∧ Below w.heap.size w w' := by
  have hat : datAt s.data.toList = 0 := by
    have := head_byte s h0
    unfold datAt
    rw [this]
    have h45' : ¬ (s[0].toNat : Int) = 45 := by simpa using h45
    rw [if_neg (byte45n _ h45')]
  have hnum : dnum s.data.toList = (dval (s.data.toList) : Int) := by
    have := head_byte s h0
    unfold dnum
    rw [this]
    have h45' : ¬ (s[0].toNat : Int) = 45 := by simpa using h45
    rw [if_neg (byte45n _ h45')]
  have hlen : (s.data.toList).length = s.size := by simp
  have hDg : ∀ p (h : p < s.size), ∃ h' : p < (s.data.toList).length, (s.data.toList)[p]'h' = s[p]'(by omega) := by
    intro p h
    refine ⟨by simp; omega, ?_⟩
    rfl
  have hp0 : (0 : Int) < (s.size : Int) := by omega
  by_cases hL : 1 ≤ s.size ∧ s.size ≤ 9
  · have hok : rdOk s.data.toList ↔ ((∀ b ∈ s.data.toList, isDig b = true) ∧ decL ((dval (s.data.toList) : Int)) = s.data.toList) := by
      unfold rdOk
      rw [hat, hnum]
      constructor
      · rintro ⟨_, _, a, b⟩; exact ⟨a, b⟩
      · rintro ⟨a, b⟩; exact ⟨by simp; omega, by simp; omega, a, b⟩
    have HOK := Lib.hid hok
    have HLEN := Lib.hid hlen
    have HDG := Lib.hid hDg
    obtain ⟨l1, l2⟩ := hL
    clear hok hat hnum hlen hDg
    go_enter Try.func43, Try.ntmps43
    go_wp2_with (go_at_call 52; (first | refine (within_yes _ _ _ _ (by omega) (by omega)).mono ?_ | refine (within_no _ _ _ _ (by omega)).mono ?_); rintro e w' ⟨rfl, rfl⟩)
    go_loopg [5, 6] (s.size) (fun g n i wr => ∃ p : Nat, p + g = s.size ∧ i = .int .i64 ((p : Int)) ∧ n = .int .i64 (dval ((s.data.toList).take p) : Nat) ∧ (∀ b ∈ (s.data.toList).take p, isDig b = true) ∧ wr = w)
    case atStart => exact ⟨0, by omega, by go_num, rfl, by simp, rfl⟩
    case round =>
      obtain ⟨p, hp, rfl, rfl, hd, rfl⟩ := hrel
      by_cases hlt : p < s.size
      · have hb := dval_lt _ hd
        have hb2 : dval ((s.data.toList).take p) < 100000000 := by
          have h2 : ((s.data.toList).take p).length ≤ 8 := by rw [List.length_take]; omega
          exact Nat.lt_of_lt_of_le hb (pow_le_of 10 _ 8 h2 (by decide))
        obtain ⟨hx', hx⟩ := HDG.out p hlt
        have hts : (s.data.toList).take (p + 1) = (s.data.toList).take p ++ [s[p]'(by omega)] := by
          rw [List.take_succ_eq_append_getElem hx', hx]
        have hmem : s[p]'(by omega) ∈ s.data.toList := by rw [← hx]; exact List.getElem_mem _
        have hb0 := (s[p]'(by omega)).toNat_lt
        have hi0 : (0 : Int) ≤ (p : Int) := by omega
        have hi1 : (p : Int) < (s.size : Int) := by omega
        clear hb hx hx'
        by_cases hdig : isDig (s[p]'(by omega)) = true
        · have H1 : Hid (dval ((s.data.toList).take (p + 1)) = 10 * dval ((s.data.toList).take p) + ((s[p]'(by omega)).toNat - 48)) := Lib.hid (by rw [hts, dval_snoc])
          have H2 : Hid (∀ b ∈ (s.data.toList).take (p + 1), isDig b = true) := Lib.hid (by
            rw [hts]
            intro b hb
            rcases List.mem_append.1 hb with hb | hb
            · exact hd b hb
            · rw [List.mem_singleton.1 hb]; exact hdig)
          simp only [isDig, Bool.and_eq_true, decide_eq_true_eq] at hdig
          have hd1 := hdig.1
          have hd2 := hdig.2
          clear hts hmem hdig hd
          generalize dval ((s.data.toList).take p) = q at *
          go_wp2
          go_roundg (gk - 1)
          case measure => omega
          case rel => exact ⟨p + 1, by omega, by go_num, by rw [H1.out]; go_num, H2.out, rfl⟩
        · have hV : rdDecV s.data.toList = .tuple #[.int .i64 0, .bool false] := by
            unfold rdDecV
            rw [if_neg]
            intro h
            exact hdig ((HOK.out.1 h).1 _ hmem)
          have HV := Lib.hid hV
          have hdd : (s[p]'(by omega)).toNat < 48 ∨ 57 < (s[p]'(by omega)).toNat := by
            simp only [isDig, Bool.and_eq_true, decide_eq_true_eq] at hdig
            omega
          clear hV hts hmem hdig hd
          generalize dval ((s.data.toList).take p) = q at *
          rcases hdd with hdd | hdd
          all_goals
            go_wp2
            go_ret2
            exact ⟨by rw [HV.out]; rfl, Below.refl _ _⟩
      · have hpL : p = (s.data.toList).length := by rw [HLEN.out]; omega
        have hfull : (s.data.toList).take p = s.data.toList := by rw [hpL, List.take_length]
        rw [hfull] at hd
        rw [hfull]
        have hb2 : dval (s.data.toList) < 1000000000 := by
          have h2 : (s.data.toList).length ≤ 9 := by rw [HLEN.out]; omega
          exact Nat.lt_of_lt_of_le (dval_lt _ hd) (pow_le_of 10 _ 9 h2 (by decide))
        have hwf : (Lit.int .i64 ((dval (s.data.toList) : Int))).wf = true := WalkArith.wf_i64 ⟨by omega, by omega⟩
        have hV : rdDecV s.data.toList = if decL ((dval (s.data.toList) : Int)) = s.data.toList then .tuple #[.int .i64 ((dval (s.data.toList) : Int)), .bool true] else .tuple #[.int .i64 0, .bool false] := by
          unfold rdDecV
          have hn : dnum s.data.toList = (dval (s.data.toList) : Int) := by
            have := head_byte s h0
            unfold dnum
            rw [this]
            have h45' : ¬ (s[0].toNat : Int) = 45 := by simpa using h45
            rw [if_neg (byte45n _ h45')]
          rw [hn]
          by_cases c : decL ((dval (s.data.toList) : Int)) = s.data.toList
          · rw [if_pos c, if_pos (HOK.out.2 ⟨hd, c⟩)]
          · rw [if_neg c, if_neg (fun h => c (HOK.out.1 h).2)]
        have HWF := Lib.hid hwf
        by_cases hE : decL ((dval (s.data.toList) : Int)) = s.data.toList
        · rw [if_pos hE] at hV
          have HV := Lib.hid hV
          have HE := Lib.hid hE
          have hex : s.toList = s.data.toList := ByteArray.toList_eq s
          clear hV hE hfull hd hwf
          generalize dval (s.data.toList) = q at *
          go_wp2_with (go_at_call 44; refine (implDec_any _ HWF.out _).mono ?_; rintro e w2 ⟨rfl, hb3⟩; rw [HE.out])
          go_ret2
          exact ⟨by rw [HV.out]; rfl, hb3⟩
        · rw [if_neg hE] at hV
          have HV := Lib.hid hV
          have hE2 : (decL ((dval (s.data.toList) : Int)) == s.data.toList) = false := by simpa using hE
          have hex : s.toList = s.data.toList := ByteArray.toList_eq s
          clear hV hE hfull hd hwf
          generalize dval (s.data.toList) = q at *
          go_wp2_with (go_at_call 44; refine (implDec_any _ HWF.out _).mono ?_; rintro e w2 ⟨rfl, hb3⟩)
          go_ret2
          exact ⟨by rw [HV.out]; rfl, hb3⟩
  · have HV : Hid (rdDecV s.data.toList = .tuple #[.int .i64 0, .bool false]) := Lib.hid (by
      unfold rdDecV
      rw [if_neg]
      rintro ⟨a, b, _, _⟩
      rw [hat] at a b
      simp at a b
      omega)
    have hL2 : (s.size : Int) - 0 < 1 ∨ 9 < (s.size : Int) - 0 := by omega
    clear hL hat hnum hlen hDg
    go_enter Try.func43, Try.ntmps43
    go_wp2_with (go_at_call 52; (first | refine (within_yes _ _ _ _ (by omega) (by omega)).mono ?_ | refine (within_no _ _ _ _ (by omega)).mono ?_); rintro e w' ⟨rfl, rfl⟩)
    go_ret2
    exact ⟨by rw [HV.out]; rfl, Below.refl _ _⟩


set_option maxRecDepth 1000000 in
set_option maxHeartbeats 6000000 in
theorem implReadDec1 (s : ByteArray) (w : World) (hs : s.size ≤ 1073741824) (h0 : 0 < s.size) (h45 : ((s[0].toNat : Int) == 45) = true) :
    Calls Try.prog 43 #[.string s] w fun e w' => e = .returned (rdDecV s.data.toList) ∧ Below w.heap.size w w' := by
  have hat : datAt s.data.toList = 1 := by
    have := head_byte s h0
    unfold datAt
    rw [this]
    have h45' : (s[0].toNat : Int) = 45 := by simpa using h45
    rw [if_pos (byte45 _ h45')]
  have hnum : dnum s.data.toList = -(dval (s.data.toList.drop 1) : Int) := by
    have := head_byte s h0
    unfold dnum
    rw [this]
    have h45' : (s[0].toNat : Int) = 45 := by simpa using h45
    rw [if_pos (byte45 _ h45')]
  have hlen : (s.data.toList.drop 1).length = s.size - 1 := by simp
  have hDg : ∀ p (h : p < s.size - 1), ∃ h' : p < (s.data.toList.drop 1).length, (s.data.toList.drop 1)[p]'h' = s[1 + p]'(by omega) := by
    intro p h
    refine ⟨by simp; omega, ?_⟩
    simp only [List.getElem_drop]; rfl
  have hp0 : (0 : Int) < (s.size : Int) := by omega
  by_cases hL : 1 ≤ s.size - 1 ∧ s.size - 1 ≤ 9
  · have hok : rdOk s.data.toList ↔ ((∀ b ∈ s.data.toList.drop 1, isDig b = true) ∧ decL (-(dval (s.data.toList.drop 1) : Int)) = s.data.toList) := by
      unfold rdOk
      rw [hat, hnum]
      constructor
      · rintro ⟨_, _, a, b⟩; exact ⟨a, b⟩
      · rintro ⟨a, b⟩; exact ⟨by simp; omega, by simp; omega, a, b⟩
    have HOK := Lib.hid hok
    have HLEN := Lib.hid hlen
    have HDG := Lib.hid hDg
    obtain ⟨l1, l2⟩ := hL
    clear hok hat hnum hlen hDg
    go_enter Try.func43, Try.ntmps43
    go_wp2_with (go_at_call 52; (first | refine (within_yes _ _ _ _ (by omega) (by omega)).mono ?_ | refine (within_no _ _ _ _ (by omega)).mono ?_); rintro e w' ⟨rfl, rfl⟩)
    go_loopg [5, 6] (s.size - 1) (fun g n i wr => ∃ p : Nat, p + g = s.size - 1 ∧ i = .int .i64 (1 + (p : Int)) ∧ n = .int .i64 (dval ((s.data.toList.drop 1).take p) : Nat) ∧ (∀ b ∈ (s.data.toList.drop 1).take p, isDig b = true) ∧ wr = w)
    case atStart => exact ⟨0, by omega, by go_num, rfl, by simp, rfl⟩
    case round =>
      obtain ⟨p, hp, rfl, rfl, hd, rfl⟩ := hrel
      by_cases hlt : p < s.size - 1
      · have hb := dval_lt _ hd
        have hb2 : dval ((s.data.toList.drop 1).take p) < 100000000 := by
          have h2 : ((s.data.toList.drop 1).take p).length ≤ 8 := by rw [List.length_take]; omega
          exact Nat.lt_of_lt_of_le hb (pow_le_of 10 _ 8 h2 (by decide))
        obtain ⟨hx', hx⟩ := HDG.out p hlt
        have hts : (s.data.toList.drop 1).take (p + 1) = (s.data.toList.drop 1).take p ++ [s[1 + p]'(by omega)] := by
          rw [List.take_succ_eq_append_getElem hx', hx]
        have hmem : s[1 + p]'(by omega) ∈ s.data.toList.drop 1 := by rw [← hx]; exact List.getElem_mem _
        have hb0 := (s[1 + p]'(by omega)).toNat_lt
        have hi0 : (0 : Int) ≤ 1 + (p : Int) := by omega
        have hi1 : 1 + (p : Int) < (s.size : Int) := by omega
        clear hb hx hx'
        by_cases hdig : isDig (s[1 + p]'(by omega)) = true
        · have H1 : Hid (dval ((s.data.toList.drop 1).take (p + 1)) = 10 * dval ((s.data.toList.drop 1).take p) + ((s[1 + p]'(by omega)).toNat - 48)) := Lib.hid (by rw [hts, dval_snoc])
          have H2 : Hid (∀ b ∈ (s.data.toList.drop 1).take (p + 1), isDig b = true) := Lib.hid (by
            rw [hts]
            intro b hb
            rcases List.mem_append.1 hb with hb | hb
            · exact hd b hb
            · rw [List.mem_singleton.1 hb]; exact hdig)
          simp only [isDig, Bool.and_eq_true, decide_eq_true_eq] at hdig
          have hd1 := hdig.1
          have hd2 := hdig.2
          clear hts hmem hdig hd
          generalize dval ((s.data.toList.drop 1).take p) = q at *
          go_wp2
          go_roundg (gk - 1)
          case measure => omega
          case rel => exact ⟨p + 1, by omega, by go_num, by rw [H1.out]; go_num, H2.out, rfl⟩
        · have hV : rdDecV s.data.toList = .tuple #[.int .i64 0, .bool false] := by
            unfold rdDecV
            rw [if_neg]
            intro h
            exact hdig ((HOK.out.1 h).1 _ hmem)
          have HV := Lib.hid hV
          have hdd : (s[1 + p]'(by omega)).toNat < 48 ∨ 57 < (s[1 + p]'(by omega)).toNat := by
            simp only [isDig, Bool.and_eq_true, decide_eq_true_eq] at hdig
            omega
          clear hV hts hmem hdig hd
          generalize dval ((s.data.toList.drop 1).take p) = q at *
          rcases hdd with hdd | hdd
          all_goals
            go_wp2
            go_ret2
            exact ⟨by rw [HV.out]; rfl, Below.refl _ _⟩
      · have hpL : p = (s.data.toList.drop 1).length := by rw [HLEN.out]; omega
        have hfull : (s.data.toList.drop 1).take p = s.data.toList.drop 1 := by rw [hpL, List.take_length]
        rw [hfull] at hd
        rw [hfull]
        have hb2 : dval (s.data.toList.drop 1) < 1000000000 := by
          have h2 : (s.data.toList.drop 1).length ≤ 9 := by rw [HLEN.out]; omega
          exact Nat.lt_of_lt_of_le (dval_lt _ hd) (pow_le_of 10 _ 9 h2 (by decide))
        have hwf : (Lit.int .i64 (-(dval (s.data.toList.drop 1) : Int))).wf = true := WalkArith.wf_i64 ⟨by omega, by omega⟩
        have hV : rdDecV s.data.toList = if decL (-(dval (s.data.toList.drop 1) : Int)) = s.data.toList then .tuple #[.int .i64 (-(dval (s.data.toList.drop 1) : Int)), .bool true] else .tuple #[.int .i64 0, .bool false] := by
          unfold rdDecV
          have hn : dnum s.data.toList = -(dval (s.data.toList.drop 1) : Int) := by
            have := head_byte s h0
            unfold dnum
            rw [this]
            have h45' : (s[0].toNat : Int) = 45 := by simpa using h45
            rw [if_pos (byte45 _ h45')]
          rw [hn]
          by_cases c : decL (-(dval (s.data.toList.drop 1) : Int)) = s.data.toList
          · rw [if_pos c, if_pos (HOK.out.2 ⟨hd, c⟩)]
          · rw [if_neg c, if_neg (fun h => c (HOK.out.1 h).2)]
        have HWF := Lib.hid hwf
        by_cases hE : decL (-(dval (s.data.toList.drop 1) : Int)) = s.data.toList
        · rw [if_pos hE] at hV
          have HV := Lib.hid hV
          have HE := Lib.hid hE
          have hex : s.toList = s.data.toList := ByteArray.toList_eq s
          clear hV hE hfull hd hwf
          generalize dval (s.data.toList.drop 1) = q at *
          go_wp2_with (go_at_call 44; refine (implDec_any _ HWF.out _).mono ?_; rintro e w2 ⟨rfl, hb3⟩; rw [HE.out])
          go_ret2
          exact ⟨by rw [HV.out]; rfl, hb3⟩
        · rw [if_neg hE] at hV
          have HV := Lib.hid hV
          have hE2 : (decL (-(dval (s.data.toList.drop 1) : Int)) == s.data.toList) = false := by simpa using hE
          have hex : s.toList = s.data.toList := ByteArray.toList_eq s
          clear hV hE hfull hd hwf
          generalize dval (s.data.toList.drop 1) = q at *
          go_wp2_with (go_at_call 44; refine (implDec_any _ HWF.out _).mono ?_; rintro e w2 ⟨rfl, hb3⟩)
          go_ret2
          exact ⟨by rw [HV.out]; rfl, hb3⟩
  · have HV : Hid (rdDecV s.data.toList = .tuple #[.int .i64 0, .bool false]) := Lib.hid (by
      unfold rdDecV
      rw [if_neg]
      rintro ⟨a, b, _, _⟩
      rw [hat] at a b
      simp at a b
      omega)
    have hL2 : (s.size : Int) - 1 < 1 ∨ 9 < (s.size : Int) - 1 := by omega
    clear hL hat hnum hlen hDg
    go_enter Try.func43, Try.ntmps43
    go_wp2_with (go_at_call 52; (first | refine (within_yes _ _ _ _ (by omega) (by omega)).mono ?_ | refine (within_no _ _ _ _ (by omega)).mono ?_); rintro e w' ⟨rfl, rfl⟩)
    go_ret2
    exact ⟨by rw [HV.out]; rfl, Below.refl _ _⟩


set_option maxRecDepth 1000000 in
set_option maxHeartbeats 6000000 in
theorem implReadDec_any (s : ByteArray) (w : World) (hs : s.size ≤ 1073741824) :
    Calls Try.prog 43 #[.string s] w fun e w' => e = .returned (rdDecV s.data.toList) ∧ Below w.heap.size w w' := by
  by_cases h0 : 0 < s.size
  · cases h45 : ((s[0].toNat : Int) == 45) with
    | false => exact implReadDec0 s w hs h0 h45
    | true => exact implReadDec1 s w hs h0 h45
  · have HV : Hid (rdDecV s.data.toList = .tuple #[.int .i64 0, .bool false]) := Lib.hid (by
      unfold rdDecV
      rw [if_neg]
      rintro ⟨a, _, _, _⟩
      simp at a
      omega)
    have hz : ¬ (0 : Int) < (s.size : Int) := by omega
    clear h0
    go_enter Try.func43, Try.ntmps43
    go_wp2_with (go_at_call 52; (first | refine (within_yes _ _ _ _ (by omega) (by omega)).mono ?_ | refine (within_no _ _ _ _ (by omega)).mono ?_); rintro e w' ⟨rfl, rfl⟩)
    go_ret2
    exact ⟨by rw [HV.out]; rfl, Below.refl _ _⟩
end Go.Proofs.Ytiakfclfipiaoaa
