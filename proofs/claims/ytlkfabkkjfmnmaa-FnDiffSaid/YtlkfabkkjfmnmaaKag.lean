import Derived.Test.YtlkfabkkjfmnmaaKaf
namespace Go.Proofs.Ytlkfabkkjfmnmaa
open Go.RowKit
set_option linter.all false
theorem encL_one (c : Int) (h : isSgn c = true) : encL [c] = enc1 c := by
 unfold encL encs
 rw [if_pos (by simpa using h)]
 simp
theorem enc1_n2 (q : Nat) (h : q < 2048) : (enc1 q).length = 2 ↔ 128 ≤ q := by
 unfold enc1
 by_cases h1 : (q : Int) < 128
 ·rw [if_pos h1]; simp; omega
 ·rw [if_neg h1, if_pos (by omega)]; simp; omega
theorem enc1_n3 (q : Nat) (h : q < 65536) : (enc1 q).length = 3 ↔ 2048 ≤ q := by
 unfold enc1
 by_cases h1 : (q : Int) < 128
 ·rw [if_pos h1]; simp; omega
 ·by_cases h2 : (q : Int) < 2048
  ·rw [if_neg h1, if_pos h2]; simp; omega
  ·rw [if_neg h1, if_neg h2, if_pos (by omega)]; simp; omega
theorem enc1_n4 (q : Nat) (h : q < 2097152) : (enc1 q).length = 4 ↔ 65536 ≤ q := by
 unfold enc1
 by_cases h1 : (q : Int) < 128
 ·rw [if_pos h1]; simp; omega
 ·by_cases h2 : (q : Int) < 2048
  ·rw [if_neg h1, if_pos h2]; simp; omega
  ·by_cases h3 : (q : Int) < 65536
   ·rw [if_neg h1, if_neg h2, if_pos h3]; simp; omega
   ·rw [if_neg h1, if_neg h2, if_neg h3]; simp; omega
set_option maxRecDepth 1000000 in
set_option maxHeartbeats 6000000 in
theorem l3One_any (s : ByteArray) (at0 : Nat) (w : World) (h0 : at0 < s.size) (hs : s.size ≤ 1073741824) :
  Calls Try.prog 46 #[.string s, .int .i64 at0] w fun e w' => e = .returned (sgV (s.data.toList.drop at0)) ∧ Below w.heap.size w w' := by
 have hD0 : 0 < (s.data.toList.drop at0).length := by simp; omega
 have hs0 : (s.data.toList.drop at0)[0]'hD0 = s[at0] := by simp only [List.getElem_drop]; rfl
 have hb0 := s[at0].toNat_lt
 rcases (show s[at0].toNat < 128 ∨ ((128 ≤ s[at0].toNat ∧ s[at0].toNat < 192) ∨ 248 ≤ s[at0].toNat) ∨ (192 ≤ s[at0].toNat ∧ s[at0].toNat < 224) ∨ (224 ≤ s[at0].toNat ∧ s[at0].toNat < 240) ∨ (240 ≤ s[at0].toNat ∧ s[at0].toNat < 248) from by omega) with hr | hr | hr | hr | hr
 ·have H : Hid (sg1 (s.data.toList.drop at0) = ((s[at0].toNat : Int), 1)) := Lib.hid (by rw [← hs0]; exact sg1_one _ hD0 (by rw [hs0]; exact sz1 _ hr))
  have hsg : isSgn (s[at0].toNat : Int) = true := by simp only [isSgn, decide_eq_true_eq]; omega
  have HE := Lib.hid (encL_one _ hsg)
  have HLN : Hid ((enc1 (s[at0].toNat : Int)).length = 1) := Lib.hid (by unfold enc1; rw [if_pos (by omega)]; rfl)
  have hl2 : ¬ (s.size : Int) < (at0 : Int) + 1 := by omega
  clear hs0 hsg
  go_enter Try.func46, Try.ntmps46
  go_wp2
  go_loopg [8, 9] 0 (fun g c i wr => i = .int .i64 1 ∧ c = .int .i64 (s[at0].toNat : Int) ∧ wr = w)
  case atStart => exact ⟨rfl, rfl, rfl⟩
  case round =>
   obtain ⟨rfl, rfl, rfl⟩ := hrel
   go_wp2_with (first | (go_at_call 53; refine (l3Sign_yes _ _ (by omega) (by omega) (by omega)).mono ?_; rintro e w' ⟨rfl, rfl⟩) | (go_at_call 44; refine (specEncode_any _ _ _ [(s[at0].toNat : Int)] _ (lit_rd rfl (by decide)) (by decide)).mono ?_; rintro e w1 ⟨rfl, hb1⟩; rw [HE.out]; have hlq := HLN.out))
   go_ret2
   exact ⟨by rw [sgV, H.out]; rfl, ((Below.refl _ _).alloc (Nat.le_refl _) _).trans (hb1.mono (by simp))⟩
 ·have H : Hid (sg1 (s.data.toList.drop at0) = (0, 0)) := Lib.hid (sg1_zero _ hD0 (by rw [hs0]; exact sz0 _ hr))
  clear hs0
  rcases hr with hr | hr
  all_goals
   go_enter Try.func46, Try.ntmps46
   go_wp2
   go_ret2
   exact ⟨by rw [sgV, H.out]; rfl, Below.refl _ _⟩
 ·obtain ⟨hr1, hr2⟩ := hr
  have hq := i64_and31 (s[at0].toNat : Int) (by omega) (by omega)
  by_cases hlen : s.size < at0 + 2
  ·have H : Hid (sg1 (s.data.toList.drop at0) = (0, 0)) := Lib.hid (sg1_short _ 2 hD0 (by rw [hs0]; exact sz2 _ (by omega) (by omega)) (by decide) (by simp; omega))
   have hl2 : (s.size : Int) < (at0 : Int) + 2 := by omega
   clear hs0
   go_enter Try.func46, Try.ntmps46
   go_wp2
   go_ret2
   exact ⟨by rw [sgV, H.out]; rfl, Below.refl _ _⟩
  ·have hl2 : ¬ (s.size : Int) < (at0 : Int) + 2 := by omega
   have HSZ : Hid (szOf ((s.data.toList.drop at0)[0]'hD0).toNat = 2) := Lib.hid (by rw [hs0]; exact sz2 _ (by omega) (by omega))
   have HS0 := Lib.hid hs0
   clear hs0
   go_enter Try.func46, Try.ntmps46
   go_wp2
   go_loopg [8, 9] 1 (fun g c i wr => ∃ j : Nat, j + g = 1 ∧ i = .int .i64 (1 + (j : Int)) ∧ c = .int .i64 (cont (s[at0].toNat % 32) (((s.data.toList.drop at0).drop 1).take j) : Nat) ∧ (∀ b ∈ ((s.data.toList.drop at0).drop 1).take j, isCont b = true) ∧ wr = w)
   case atStart => exact ⟨0, by omega, by go_num, by simp [cont], by simp, rfl⟩
   case round =>
    obtain ⟨j, hj, rfl, rfl, hall, rfl⟩ := hrel
    by_cases hlt : j < 1
    ·have hjs : at0 + (1 + j) < s.size := by omega
     have hD : ∃ h : j < ((s.data.toList.drop at0).drop 1).length, ((s.data.toList.drop at0).drop 1)[j]'h = s[at0 + (1 + j)] := ⟨by simp; omega, by simp only [List.getElem_drop]; rfl⟩
     obtain ⟨hD1, hD2⟩ := hD
     have hts : ((s.data.toList.drop at0).drop 1).take (j + 1) = ((s.data.toList.drop at0).drop 1).take j ++ [s[at0 + (1 + j)]] := by rw [List.take_succ_eq_append_getElem hD1, hD2]
     have hmem : s[at0 + (1 + j)] ∈ ((s.data.toList.drop at0).drop 1).take 1 := by
      rw [← hD2]
      exact List.mem_take_iff_getElem.2 ⟨j, by simp; omega, rfl⟩
     have hb0 := (s[at0 + (1 + j)]).toNat_lt
     have hcb := cont_lt (s[at0].toNat % 32) (((s.data.toList.drop at0).drop 1).take j)
     have hcb2 : cont (s[at0].toNat % 32) (((s.data.toList.drop at0).drop 1).take j) < 134217728 := by
      refine Nat.lt_of_lt_of_le hcb ?_
      have h2 : (((s.data.toList.drop at0).drop 1).take j).length ≤ 3 := by rw [List.length_take]; omega
      have h3 := pow_le_of 64 _ 3 h2 (by decide)
      have h4 : s[at0].toNat % 32 + 1 ≤ 32 := by omega
      exact Nat.le_trans (Nat.mul_le_mul h4 h3) (by decide)
     have ha2 := i64_and63 ((s[at0 + (1 + j)]).toNat : Int) (by omega) (by omega)
     have hi0 : (0 : Int) ≤ (at0 : Int) + (1 + (j : Int)) := by omega
     have hi1 : (at0 : Int) + (1 + (j : Int)) < (s.size : Int) := by omega
     clear hcb hD2 hD1
     by_cases hco : isCont s[at0 + (1 + j)] = true
     ·have H1 : Hid (cont (s[at0].toNat % 32) (((s.data.toList.drop at0).drop 1).take (j + 1)) = cont (s[at0].toNat % 32) (((s.data.toList.drop at0).drop 1).take j) * 64 + s[at0 + (1 + j)].toNat % 64) := Lib.hid (by rw [hts, cont_snoc])
      have H2 : Hid (∀ b ∈ ((s.data.toList.drop at0).drop 1).take (j + 1), isCont b = true) := Lib.hid (by
       rw [hts]
       intro b hb
       rcases List.mem_append.1 hb with hb | hb
       ·exact hall b hb
       ·rw [List.mem_singleton.1 hb]; exact hco)
      simp only [isCont, Bool.and_eq_true, decide_eq_true_eq] at hco
      have hk1 := hco.1
      have hk2 := hco.2
      clear hts hmem hall hco
      generalize cont (s[at0].toNat % 32) (((s.data.toList.drop at0).drop 1).take j) = q at *
      go_wp2
      go_roundg (gk - 1)
      case measure => omega
      case rel => exact ⟨j + 1, by omega, by go_num, by rw [H1.out]; go_num, H2.out, rfl⟩
     ·have H : Hid (sg1 (s.data.toList.drop at0) = (0, 0)) := Lib.hid (sg1_bad _ 2 hD0 HSZ.out (by decide) (by intro hh; exact hco (hh _ hmem)))
      have hkk : (s[at0 + (1 + j)]).toNat < 128 ∨ 191 < (s[at0 + (1 + j)]).toNat := by
       simp only [isCont, Bool.and_eq_true, decide_eq_true_eq] at hco
       omega
      clear hts hmem hall hco
      generalize cont (s[at0].toNat % 32) (((s.data.toList.drop at0).drop 1).take j) = q at *
      rcases hkk with hkk | hkk
      all_goals
       go_wp2
       go_ret2
       exact ⟨by rw [sgV, H.out]; rfl, Below.refl _ _⟩
    ·have hjn : j = 1 := by omega
     subst hjn
     have hcb := cont_lt (s[at0].toNat % 32) (((s.data.toList.drop at0).drop 1).take 1)
     have hlen3 : (((s.data.toList.drop at0).drop 1).take 1).length = 1 := by rw [List.length_take, List.length_drop, List.length_drop]; simp; omega
     rw [hlen3] at hcb
     have hcb2 : cont (s[at0].toNat % 32) (((s.data.toList.drop at0).drop 1).take 1) < 2048 := by
      have h4 : s[at0].toNat % 32 + 1 ≤ 32 := by omega
      exact Nat.lt_of_lt_of_le hcb (Nat.le_trans (Nat.mul_le_mul_right _ h4) (by decide))
     have hV := sg1_good _ 2 hD0 HSZ.out (by decide) (by decide) (by simp; omega) hall
     rw [HS0.out, show cOf s[at0].toNat = s[at0].toNat % 32 from c2 _ (by omega) (by omega)] at hV
     have HV := Lib.hid hV
     clear hV hall hcb hlen3
     generalize cont (s[at0].toNat % 32) (((s.data.toList.drop at0).drop 1).take 1) = q at *
     have hlst : leastN 2 = 128 := rfl
     by_cases hq2 : isSgn q = true
     ·have HE := Lib.hid (encL_one q hq2)
      have HEN : Hid ((enc1 q).length = 2 ↔ 128 ≤ q) := Lib.hid (enc1_n2 q hcb2)
      have hq2' := hq2
      simp only [isSgn, decide_eq_true_eq] at hq2
      have k1 := hq2.1
      have k2 := hq2.2.1
      have HK : Hid ((q : Int) < 55296 ∨ 57343 < (q : Int)) := Lib.hid (by omega)
      clear hq2
      by_cases hq1 : 128 ≤ q
      ·have H : Hid (sg1 (s.data.toList.drop at0) = ((q : Int), 2)) := Lib.hid (by rw [HV.out, if_pos ⟨by rw [hlst]; omega, hq2'⟩])
       have HLN : Hid ((enc1 q).length = 2) := Lib.hid (HEN.out.2 hq1)
       clear hlst hq2'
       go_wp2_with (first | (go_at_call 53; refine (l3Sign_yes _ _ (by omega) (by omega) HK.out).mono ?_; rintro e w' ⟨rfl, rfl⟩) | (go_at_call 44; refine (specEncode_any _ _ _ [(q : Int)] _ (lit_rd rfl (by decide)) (by decide)).mono ?_; rintro e w1 ⟨rfl, hb1⟩; rw [HE.out]; have hlq := HLN.out))
       go_ret2
       exact ⟨by rw [sgV, H.out]; rfl, ((Below.refl _ _).alloc (Nat.le_refl _) _).trans (hb1.mono (by simp))⟩
      ·have H : Hid (sg1 (s.data.toList.drop at0) = (0, 0)) := Lib.hid (by rw [HV.out, if_neg (by rw [hlst]; omega)])
       have HLN : Hid ((((enc1 q).length : Int) != 2) = true) := Lib.hid (by
        have h9 : ¬ (enc1 q).length = 2 := fun h => hq1 (HEN.out.1 h)
        simp; omega)
       clear hlst hq2'
       go_wp2_with (first | (go_at_call 53; refine (l3Sign_yes _ _ (by omega) (by omega) HK.out).mono ?_; rintro e w' ⟨rfl, rfl⟩) | (go_at_call 44; refine (specEncode_any _ _ _ [(q : Int)] _ (lit_rd rfl (by decide)) (by decide)).mono ?_; rintro e w1 ⟨rfl, hb1⟩; rw [HE.out]; have hlq : (((enc1 q).length : Int) != 2) = true := HLN.out))
       go_ret2
       exact ⟨by rw [sgV, H.out]; rfl, ((Below.refl _ _).alloc (Nat.le_refl _) _).trans (hb1.mono (by simp))⟩
     ·have H : Hid (sg1 (s.data.toList.drop at0) = (0, 0)) := Lib.hid (by rw [HV.out, if_neg (fun h => hq2 h.2)])
      simp only [isSgn, decide_eq_true_eq] at hq2
      have HK : Hid ((q : Int) < 0 ∨ 1114111 < (q : Int) ∨ (55296 ≤ (q : Int) ∧ (q : Int) ≤ 57343)) := Lib.hid (by omega)
      clear hlst hq2
      go_wp2_with (go_at_call 53; refine (l3Sign_no _ _ HK.out).mono ?_; rintro e w' ⟨rfl, rfl⟩)
      go_ret2
      exact ⟨by rw [sgV, H.out]; rfl, Below.refl _ _⟩
 ·obtain ⟨hr1, hr2⟩ := hr
  have hq := i64_and15 (s[at0].toNat : Int) (by omega) (by omega)
  by_cases hlen : s.size < at0 + 3
  ·have H : Hid (sg1 (s.data.toList.drop at0) = (0, 0)) := Lib.hid (sg1_short _ 3 hD0 (by rw [hs0]; exact sz3 _ (by omega) (by omega)) (by decide) (by simp; omega))
   have hl2 : (s.size : Int) < (at0 : Int) + 3 := by omega
   clear hs0
   go_enter Try.func46, Try.ntmps46
   go_wp2
   go_ret2
   exact ⟨by rw [sgV, H.out]; rfl, Below.refl _ _⟩
  ·have hl2 : ¬ (s.size : Int) < (at0 : Int) + 3 := by omega
   have HSZ : Hid (szOf ((s.data.toList.drop at0)[0]'hD0).toNat = 3) := Lib.hid (by rw [hs0]; exact sz3 _ (by omega) (by omega))
   have HS0 := Lib.hid hs0
   clear hs0
   go_enter Try.func46, Try.ntmps46
   go_wp2
   go_loopg [8, 9] 2 (fun g c i wr => ∃ j : Nat, j + g = 2 ∧ i = .int .i64 (1 + (j : Int)) ∧ c = .int .i64 (cont (s[at0].toNat % 16) (((s.data.toList.drop at0).drop 1).take j) : Nat) ∧ (∀ b ∈ ((s.data.toList.drop at0).drop 1).take j, isCont b = true) ∧ wr = w)
   case atStart => exact ⟨0, by omega, by go_num, by simp [cont], by simp, rfl⟩
   case round =>
    obtain ⟨j, hj, rfl, rfl, hall, rfl⟩ := hrel
    by_cases hlt : j < 2
    ·have hjs : at0 + (1 + j) < s.size := by omega
     have hD : ∃ h : j < ((s.data.toList.drop at0).drop 1).length, ((s.data.toList.drop at0).drop 1)[j]'h = s[at0 + (1 + j)] := ⟨by simp; omega, by simp only [List.getElem_drop]; rfl⟩
     obtain ⟨hD1, hD2⟩ := hD
     have hts : ((s.data.toList.drop at0).drop 1).take (j + 1) = ((s.data.toList.drop at0).drop 1).take j ++ [s[at0 + (1 + j)]] := by rw [List.take_succ_eq_append_getElem hD1, hD2]
     have hmem : s[at0 + (1 + j)] ∈ ((s.data.toList.drop at0).drop 1).take 2 := by
      rw [← hD2]
      exact List.mem_take_iff_getElem.2 ⟨j, by simp; omega, rfl⟩
     have hb0 := (s[at0 + (1 + j)]).toNat_lt
     have hcb := cont_lt (s[at0].toNat % 16) (((s.data.toList.drop at0).drop 1).take j)
     have hcb2 : cont (s[at0].toNat % 16) (((s.data.toList.drop at0).drop 1).take j) < 134217728 := by
      refine Nat.lt_of_lt_of_le hcb ?_
      have h2 : (((s.data.toList.drop at0).drop 1).take j).length ≤ 3 := by rw [List.length_take]; omega
      have h3 := pow_le_of 64 _ 3 h2 (by decide)
      have h4 : s[at0].toNat % 16 + 1 ≤ 32 := by omega
      exact Nat.le_trans (Nat.mul_le_mul h4 h3) (by decide)
     have ha2 := i64_and63 ((s[at0 + (1 + j)]).toNat : Int) (by omega) (by omega)
     have hi0 : (0 : Int) ≤ (at0 : Int) + (1 + (j : Int)) := by omega
     have hi1 : (at0 : Int) + (1 + (j : Int)) < (s.size : Int) := by omega
     clear hcb hD2 hD1
     by_cases hco : isCont s[at0 + (1 + j)] = true
     ·have H1 : Hid (cont (s[at0].toNat % 16) (((s.data.toList.drop at0).drop 1).take (j + 1)) = cont (s[at0].toNat % 16) (((s.data.toList.drop at0).drop 1).take j) * 64 + s[at0 + (1 + j)].toNat % 64) := Lib.hid (by rw [hts, cont_snoc])
      have H2 : Hid (∀ b ∈ ((s.data.toList.drop at0).drop 1).take (j + 1), isCont b = true) := Lib.hid (by
       rw [hts]
       intro b hb
       rcases List.mem_append.1 hb with hb | hb
       ·exact hall b hb
       ·rw [List.mem_singleton.1 hb]; exact hco)
      simp only [isCont, Bool.and_eq_true, decide_eq_true_eq] at hco
      have hk1 := hco.1
      have hk2 := hco.2
      clear hts hmem hall hco
      generalize cont (s[at0].toNat % 16) (((s.data.toList.drop at0).drop 1).take j) = q at *
      go_wp2
      go_roundg (gk - 1)
      case measure => omega
      case rel => exact ⟨j + 1, by omega, by go_num, by rw [H1.out]; go_num, H2.out, rfl⟩
     ·have H : Hid (sg1 (s.data.toList.drop at0) = (0, 0)) := Lib.hid (sg1_bad _ 3 hD0 HSZ.out (by decide) (by intro hh; exact hco (hh _ hmem)))
      have hkk : (s[at0 + (1 + j)]).toNat < 128 ∨ 191 < (s[at0 + (1 + j)]).toNat := by
       simp only [isCont, Bool.and_eq_true, decide_eq_true_eq] at hco
       omega
      clear hts hmem hall hco
      generalize cont (s[at0].toNat % 16) (((s.data.toList.drop at0).drop 1).take j) = q at *
      rcases hkk with hkk | hkk
      all_goals
       go_wp2
       go_ret2
       exact ⟨by rw [sgV, H.out]; rfl, Below.refl _ _⟩
    ·have hjn : j = 2 := by omega
     subst hjn
     have hcb := cont_lt (s[at0].toNat % 16) (((s.data.toList.drop at0).drop 1).take 2)
     have hlen3 : (((s.data.toList.drop at0).drop 1).take 2).length = 2 := by rw [List.length_take, List.length_drop, List.length_drop]; simp; omega
     rw [hlen3] at hcb
     have hcb2 : cont (s[at0].toNat % 16) (((s.data.toList.drop at0).drop 1).take 2) < 65536 := by
      have h4 : s[at0].toNat % 16 + 1 ≤ 16 := by omega
      exact Nat.lt_of_lt_of_le hcb (Nat.le_trans (Nat.mul_le_mul_right _ h4) (by decide))
     have hV := sg1_good _ 3 hD0 HSZ.out (by decide) (by decide) (by simp; omega) hall
     rw [HS0.out, show cOf s[at0].toNat = s[at0].toNat % 16 from c3 _ (by omega) (by omega)] at hV
     have HV := Lib.hid hV
     clear hV hall hcb hlen3
     generalize cont (s[at0].toNat % 16) (((s.data.toList.drop at0).drop 1).take 2) = q at *
     have hlst : leastN 3 = 2048 := rfl
     by_cases hq2 : isSgn q = true
     ·have HE := Lib.hid (encL_one q hq2)
      have HEN : Hid ((enc1 q).length = 3 ↔ 2048 ≤ q) := Lib.hid (enc1_n3 q hcb2)
      have hq2' := hq2
      simp only [isSgn, decide_eq_true_eq] at hq2
      have k1 := hq2.1
      have k2 := hq2.2.1
      have HK : Hid ((q : Int) < 55296 ∨ 57343 < (q : Int)) := Lib.hid (by omega)
      clear hq2
      by_cases hq1 : 2048 ≤ q
      ·have H : Hid (sg1 (s.data.toList.drop at0) = ((q : Int), 3)) := Lib.hid (by rw [HV.out, if_pos ⟨by rw [hlst]; omega, hq2'⟩])
       have HLN : Hid ((enc1 q).length = 3) := Lib.hid (HEN.out.2 hq1)
       clear hlst hq2'
       go_wp2_with (first | (go_at_call 53; refine (l3Sign_yes _ _ (by omega) (by omega) HK.out).mono ?_; rintro e w' ⟨rfl, rfl⟩) | (go_at_call 44; refine (specEncode_any _ _ _ [(q : Int)] _ (lit_rd rfl (by decide)) (by decide)).mono ?_; rintro e w1 ⟨rfl, hb1⟩; rw [HE.out]; have hlq := HLN.out))
       go_ret2
       exact ⟨by rw [sgV, H.out]; rfl, ((Below.refl _ _).alloc (Nat.le_refl _) _).trans (hb1.mono (by simp))⟩
      ·have H : Hid (sg1 (s.data.toList.drop at0) = (0, 0)) := Lib.hid (by rw [HV.out, if_neg (by rw [hlst]; omega)])
       have HLN : Hid ((((enc1 q).length : Int) != 3) = true) := Lib.hid (by
        have h9 : ¬ (enc1 q).length = 3 := fun h => hq1 (HEN.out.1 h)
        simp; omega)
       clear hlst hq2'
       go_wp2_with (first | (go_at_call 53; refine (l3Sign_yes _ _ (by omega) (by omega) HK.out).mono ?_; rintro e w' ⟨rfl, rfl⟩) | (go_at_call 44; refine (specEncode_any _ _ _ [(q : Int)] _ (lit_rd rfl (by decide)) (by decide)).mono ?_; rintro e w1 ⟨rfl, hb1⟩; rw [HE.out]; have hlq : (((enc1 q).length : Int) != 3) = true := HLN.out))
       go_ret2
       exact ⟨by rw [sgV, H.out]; rfl, ((Below.refl _ _).alloc (Nat.le_refl _) _).trans (hb1.mono (by simp))⟩
     ·have H : Hid (sg1 (s.data.toList.drop at0) = (0, 0)) := Lib.hid (by rw [HV.out, if_neg (fun h => hq2 h.2)])
      simp only [isSgn, decide_eq_true_eq] at hq2
      have HK : Hid ((q : Int) < 0 ∨ 1114111 < (q : Int) ∨ (55296 ≤ (q : Int) ∧ (q : Int) ≤ 57343)) := Lib.hid (by omega)
      clear hlst hq2
      go_wp2_with (go_at_call 53; refine (l3Sign_no _ _ HK.out).mono ?_; rintro e w' ⟨rfl, rfl⟩)
      go_ret2
      exact ⟨by rw [sgV, H.out]; rfl, Below.refl _ _⟩
 ·obtain ⟨hr1, hr2⟩ := hr
  have hq := i64_and7 (s[at0].toNat : Int) (by omega) (by omega)
  by_cases hlen : s.size < at0 + 4
  ·have H : Hid (sg1 (s.data.toList.drop at0) = (0, 0)) := Lib.hid (sg1_short _ 4 hD0 (by rw [hs0]; exact sz4 _ (by omega) (by omega)) (by decide) (by simp; omega))
   have hl2 : (s.size : Int) < (at0 : Int) + 4 := by omega
   clear hs0
   go_enter Try.func46, Try.ntmps46
   go_wp2
   go_ret2
   exact ⟨by rw [sgV, H.out]; rfl, Below.refl _ _⟩
  ·have hl2 : ¬ (s.size : Int) < (at0 : Int) + 4 := by omega
   have HSZ : Hid (szOf ((s.data.toList.drop at0)[0]'hD0).toNat = 4) := Lib.hid (by rw [hs0]; exact sz4 _ (by omega) (by omega))
   have HS0 := Lib.hid hs0
   clear hs0
   go_enter Try.func46, Try.ntmps46
   go_wp2
   go_loopg [8, 9] 3 (fun g c i wr => ∃ j : Nat, j + g = 3 ∧ i = .int .i64 (1 + (j : Int)) ∧ c = .int .i64 (cont (s[at0].toNat % 8) (((s.data.toList.drop at0).drop 1).take j) : Nat) ∧ (∀ b ∈ ((s.data.toList.drop at0).drop 1).take j, isCont b = true) ∧ wr = w)
   case atStart => exact ⟨0, by omega, by go_num, by simp [cont], by simp, rfl⟩
   case round =>
    obtain ⟨j, hj, rfl, rfl, hall, rfl⟩ := hrel
    by_cases hlt : j < 3
    ·have hjs : at0 + (1 + j) < s.size := by omega
     have hD : ∃ h : j < ((s.data.toList.drop at0).drop 1).length, ((s.data.toList.drop at0).drop 1)[j]'h = s[at0 + (1 + j)] := ⟨by simp; omega, by simp only [List.getElem_drop]; rfl⟩
     obtain ⟨hD1, hD2⟩ := hD
     have hts : ((s.data.toList.drop at0).drop 1).take (j + 1) = ((s.data.toList.drop at0).drop 1).take j ++ [s[at0 + (1 + j)]] := by rw [List.take_succ_eq_append_getElem hD1, hD2]
     have hmem : s[at0 + (1 + j)] ∈ ((s.data.toList.drop at0).drop 1).take 3 := by
      rw [← hD2]
      exact List.mem_take_iff_getElem.2 ⟨j, by simp; omega, rfl⟩
     have hb0 := (s[at0 + (1 + j)]).toNat_lt
     have hcb := cont_lt (s[at0].toNat % 8) (((s.data.toList.drop at0).drop 1).take j)
     have hcb2 : cont (s[at0].toNat % 8) (((s.data.toList.drop at0).drop 1).take j) < 134217728 := by
      refine Nat.lt_of_lt_of_le hcb ?_
      have h2 : (((s.data.toList.drop at0).drop 1).take j).length ≤ 3 := by rw [List.length_take]; omega
      have h3 := pow_le_of 64 _ 3 h2 (by decide)
      have h4 : s[at0].toNat % 8 + 1 ≤ 32 := by omega
      exact Nat.le_trans (Nat.mul_le_mul h4 h3) (by decide)
     have ha2 := i64_and63 ((s[at0 + (1 + j)]).toNat : Int) (by omega) (by omega)
     have hi0 : (0 : Int) ≤ (at0 : Int) + (1 + (j : Int)) := by omega
     have hi1 : (at0 : Int) + (1 + (j : Int)) < (s.size : Int) := by omega
     clear hcb hD2 hD1
     by_cases hco : isCont s[at0 + (1 + j)] = true
     ·have H1 : Hid (cont (s[at0].toNat % 8) (((s.data.toList.drop at0).drop 1).take (j + 1)) = cont (s[at0].toNat % 8) (((s.data.toList.drop at0).drop 1).take j) * 64 + s[at0 + (1 + j)].toNat % 64) := Lib.hid (by rw [hts, cont_snoc])
      have H2 : Hid (∀ b ∈ ((s.data.toList.drop at0).drop 1).take (j + 1), isCont b = true) := Lib.hid (by
       rw [hts]
       intro b hb
       rcases List.mem_append.1 hb with hb | hb
       ·exact hall b hb
       ·rw [List.mem_singleton.1 hb]; exact hco)
      simp only [isCont, Bool.and_eq_true, decide_eq_true_eq] at hco
      have hk1 := hco.1
      have hk2 := hco.2
      clear hts hmem hall hco
      generalize cont (s[at0].toNat % 8) (((s.data.toList.drop at0).drop 1).take j) = q at *
      go_wp2
      go_roundg (gk - 1)
      case measure => omega
      case rel => exact ⟨j + 1, by omega, by go_num, by rw [H1.out]; go_num, H2.out, rfl⟩
     ·have H : Hid (sg1 (s.data.toList.drop at0) = (0, 0)) := Lib.hid (sg1_bad _ 4 hD0 HSZ.out (by decide) (by intro hh; exact hco (hh _ hmem)))
      have hkk : (s[at0 + (1 + j)]).toNat < 128 ∨ 191 < (s[at0 + (1 + j)]).toNat := by
       simp only [isCont, Bool.and_eq_true, decide_eq_true_eq] at hco
       omega
      clear hts hmem hall hco
      generalize cont (s[at0].toNat % 8) (((s.data.toList.drop at0).drop 1).take j) = q at *
      rcases hkk with hkk | hkk
      all_goals
       go_wp2
       go_ret2
       exact ⟨by rw [sgV, H.out]; rfl, Below.refl _ _⟩
    ·have hjn : j = 3 := by omega
     subst hjn
     have hcb := cont_lt (s[at0].toNat % 8) (((s.data.toList.drop at0).drop 1).take 3)
     have hlen3 : (((s.data.toList.drop at0).drop 1).take 3).length = 3 := by rw [List.length_take, List.length_drop, List.length_drop]; simp; omega
     rw [hlen3] at hcb
     have hcb2 : cont (s[at0].toNat % 8) (((s.data.toList.drop at0).drop 1).take 3) < 2097152 := by
      have h4 : s[at0].toNat % 8 + 1 ≤ 8 := by omega
      exact Nat.lt_of_lt_of_le hcb (Nat.le_trans (Nat.mul_le_mul_right _ h4) (by decide))
     have hV := sg1_good _ 4 hD0 HSZ.out (by decide) (by decide) (by simp; omega) hall
     rw [HS0.out, show cOf s[at0].toNat = s[at0].toNat % 8 from c4 _ (by omega) (by omega)] at hV
     have HV := Lib.hid hV
     clear hV hall hcb hlen3
     generalize cont (s[at0].toNat % 8) (((s.data.toList.drop at0).drop 1).take 3) = q at *
     have hlst : leastN 4 = 65536 := rfl
     by_cases hq2 : isSgn q = true
     ·have HE := Lib.hid (encL_one q hq2)
      have HEN : Hid ((enc1 q).length = 4 ↔ 65536 ≤ q) := Lib.hid (enc1_n4 q hcb2)
      have hq2' := hq2
      simp only [isSgn, decide_eq_true_eq] at hq2
      have k1 := hq2.1
      have k2 := hq2.2.1
      have HK : Hid ((q : Int) < 55296 ∨ 57343 < (q : Int)) := Lib.hid (by omega)
      clear hq2
      by_cases hq1 : 65536 ≤ q
      ·have H : Hid (sg1 (s.data.toList.drop at0) = ((q : Int), 4)) := Lib.hid (by rw [HV.out, if_pos ⟨by rw [hlst]; omega, hq2'⟩])
       have HLN : Hid ((enc1 q).length = 4) := Lib.hid (HEN.out.2 hq1)
       clear hlst hq2'
       go_wp2_with (first | (go_at_call 53; refine (l3Sign_yes _ _ (by omega) (by omega) HK.out).mono ?_; rintro e w' ⟨rfl, rfl⟩) | (go_at_call 44; refine (specEncode_any _ _ _ [(q : Int)] _ (lit_rd rfl (by decide)) (by decide)).mono ?_; rintro e w1 ⟨rfl, hb1⟩; rw [HE.out]; have hlq := HLN.out))
       go_ret2
       exact ⟨by rw [sgV, H.out]; rfl, ((Below.refl _ _).alloc (Nat.le_refl _) _).trans (hb1.mono (by simp))⟩
      ·have H : Hid (sg1 (s.data.toList.drop at0) = (0, 0)) := Lib.hid (by rw [HV.out, if_neg (by rw [hlst]; omega)])
       have HLN : Hid ((((enc1 q).length : Int) != 4) = true) := Lib.hid (by
        have h9 : ¬ (enc1 q).length = 4 := fun h => hq1 (HEN.out.1 h)
        simp; omega)
       clear hlst hq2'
       go_wp2_with (first | (go_at_call 53; refine (l3Sign_yes _ _ (by omega) (by omega) HK.out).mono ?_; rintro e w' ⟨rfl, rfl⟩) | (go_at_call 44; refine (specEncode_any _ _ _ [(q : Int)] _ (lit_rd rfl (by decide)) (by decide)).mono ?_; rintro e w1 ⟨rfl, hb1⟩; rw [HE.out]; have hlq : (((enc1 q).length : Int) != 4) = true := HLN.out))
       go_ret2
       exact ⟨by rw [sgV, H.out]; rfl, ((Below.refl _ _).alloc (Nat.le_refl _) _).trans (hb1.mono (by simp))⟩
     ·have H : Hid (sg1 (s.data.toList.drop at0) = (0, 0)) := Lib.hid (by rw [HV.out, if_neg (fun h => hq2 h.2)])
      simp only [isSgn, decide_eq_true_eq] at hq2
      have HK : Hid ((q : Int) < 0 ∨ 1114111 < (q : Int) ∨ (55296 ≤ (q : Int) ∧ (q : Int) ≤ 57343)) := Lib.hid (by omega)
      clear hlst hq2
      go_wp2_with (go_at_call 53; refine (l3Sign_no _ _ HK.out).mono ?_; rintro e w' ⟨rfl, rfl⟩)
      go_ret2
      exact ⟨by rw [sgV, H.out]; rfl, Below.refl _ _⟩
set_option maxRecDepth 1000000 in
set_option maxHeartbeats 6000000 in
theorem specDecode_any (s : ByteArray) (w : World) (hs : s.size ≤ 1073741824) :
  Calls Try.prog 34 #[.string s] w fun e w' => ∃ a c', e = .returned (.tuple #[.slice a (decR s.data.toList).length c', .bool (decB s.data.toList)]) ∧ Own 3 1 w.heap.size w (.slice a (decR s.data.toList).length c') (decR s.data.toList).length (ints (decR s.data.toList)) w' := by
 go_enter Try.func34, Try.ntmps34
 go_wp2
 go_loopg [4, 5] s.size (fun gg o i wr => ∃ (at0 : Nat) (pre : List Int), at0 + gg = s.size ∧ i = .int .i64 at0 ∧ pre.length ≤ at0 ∧ decO s.data.toList = (decO (s.data.toList.drop at0)).map (pre ++ ·) ∧ Own 3 1 w.heap.size w o pre.length (ints pre) wr)
 case atStart => exact ⟨0, [], by omega, rfl, by simp, by simp, by simpa [ints] using Own.lit (e := 3) (size := 1) (n := 0) (Below.refl w.heap.size w) (Nat.le_refl _) #[] rfl (by decide)⟩
 case round =>
  obtain ⟨at0, pre, hk, rfl, hpl, hU, hOk⟩ := hrel
  obtain ⟨av, cv, rfl, _, _⟩ := hOk.shape
  by_cases hlt : at0 < s.size
  ·have hne : s.data.toList.drop at0 ≠ [] := by
    intro e
    have := congrArg List.length e
    simp at this
    omega
   have hle := sg1_le (s.data.toList.drop at0)
   have hle1 : (sg1 (s.data.toList.drop at0)).2 ≤ s.size - at0 := by have := hle.1; simpa using this
   have hi0 : (0 : Int) ≤ (at0 : Int) := by omega
   have hi1 : (at0 : Int) ≤ (s.size : Int) := by omega
   by_cases h0 : (sg1 (s.data.toList.drop at0)).2 = 0
   ·have hO : decO s.data.toList = none := by rw [hU, decO_bad _ hne h0]; rfl
    have HR : Hid (decR s.data.toList = []) := Lib.hid (by unfold decR; rw [hO]; rfl)
    have HB : Hid (decB s.data.toList = false) := Lib.hid (by unfold decB; rw [hO]; rfl)
    have H0 := Lib.hid h0
    clear hU hO hle hle1 h0 hne
    go_wp2_with fail
    refine (l3One_any s at0 _ (by omega) (by omega)).mono ?_; rintro e w1 ⟨rfl, hb1⟩
    unfold sgV
    rw [H0.out]
    go_wp2
    go_ret2
    rw [HR.out, HB.out]
    exact ⟨_, _, rfl, Own.lit (hOk.below.trans (hb1.mono hOk.base)) (Nat.le_trans hOk.base hb1.size) #[] rfl (by decide)⟩
   ·have hU2 : Hid (decO s.data.toList = (decO (s.data.toList.drop (at0 + (sg1 (s.data.toList.drop at0)).2))).map (pre ++ [(sg1 (s.data.toList.drop at0)).1] ++ ·)) := Lib.hid (by
     rw [hU, decO_step _ hne h0, Option.map_map, List.drop_drop]
     congr 1
     funext x
     simp)
    have hz : (((sg1 (s.data.toList.drop at0)).2 : Int) == 0) = false := by simp; omega
    clear hU hle hne
    have hS : sgV (s.data.toList.drop at0) = .tuple #[.int .i64 (sg1 (s.data.toList.drop at0)).1, .int .i64 ((sg1 (s.data.toList.drop at0)).2 : Int)] := rfl
    have HS := Lib.hid hS
    clear hS
    generalize (sg1 (s.data.toList.drop at0)).2 = nn at *
    generalize (sg1 (s.data.toList.drop at0)).1 = cc at *
    go_wp2_with fail
    refine (l3One_any s at0 _ (by omega) (by omega)).mono ?_; rintro e w1 ⟨rfl, hb1⟩
    rw [HS.out]
    have hO1 := hOk.kept hb1
    go_wp2_with (at_builtin; go_loud (refine wp_app1 rfl _ _ 69 rfl 3 (.int .i64 0) 1 8 Try.underlying69 info_i64 rfl (by decide) w.heap.size w _ _ _ (by rfl) (by exact hO1) _ _ (by rfl) (by rfl) (by intro u hu; simp at hu; first | (subst hu; rfl) | (rcases hu with rfl | rfl <;> rfl) | (rcases hu with rfl | rfl | rfl <;> rfl)) (by omega) (by unfold maxLen; omega) ?_); intro a2 c2 w2 hO2)
    go_wp2
    go_roundg (gk - nn)
    case measure => omega
    case rel => exact ⟨at0 + nn, pre ++ [cc], by omega, by go_num, by simp; omega, hU2.out, by rw [List.length_append, ints_append]; exact hO2⟩
  ·have hks : at0 = s.size := by omega
   subst hks
   have hO : decO s.data.toList = some pre := by rw [hU, List.drop_of_length_le (by simp), decO_nil]; simp
   have HR : Hid (decR s.data.toList = pre) := Lib.hid (by unfold decR; rw [hO]; rfl)
   have HB : Hid (decB s.data.toList = true) := Lib.hid (by unfold decB; rw [hO]; rfl)
   clear hU hO
   go_wp2
   go_ret2
   rw [HR.out, HB.out]
   exact ⟨_, _, rfl, hOk⟩
end Go.Proofs.Ytlkfabkkjfmnmaa
