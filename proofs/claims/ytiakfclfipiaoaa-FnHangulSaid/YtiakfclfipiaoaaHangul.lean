/- Each syllable is made of two or three parts, and no two of the same: the law, walked. -/
import Derived.Test.YtiakfclfipiaoaaPartsT
import Derived.Test.YtiakfclfipiaoaaAt
import Derived.Test.YtiakfclfipiaoaaKnown
namespace Go.Proofs.Ytiakfclfipiaoaa
open Go.RowKit

theorem partsF_hang (c : Int) (h : 44032 ≤ c ∧ c ≤ 55203) : partsF c = hang c := by unfold partsF; rw [if_pos h]
theorem hang3 (c : Int) (h : 44032 ≤ c ∧ c ≤ 55203) (h28 : 0 < (c - 44032) % 28) : ∃ p q r, partsF c = [p, q, r] ∧ (4352 ≤ p ∧ p ≤ 4370) ∧ (4449 ≤ q ∧ q ≤ 4469) ∧ (4520 ≤ r ∧ r ≤ 4546) ∧ 44032 + ((p - 4352) * 588 + (q - 4449) * 28 + r - 4519) = c := by
  refine ⟨4352 + (c - 44032) / 588, 4449 + (c - 44032) % 588 / 28, 4519 + (c - 44032) % 28, ?_, by omega, by omega, by omega, by omega⟩
  rw [partsF_hang c h]; unfold hang; rw [if_pos h28]; rfl
theorem hang2 (c : Int) (h : 44032 ≤ c ∧ c ≤ 55203) (h28 : ¬ 0 < (c - 44032) % 28) : ∃ p q, partsF c = [p, q] ∧ (4352 ≤ p ∧ p ≤ 4370) ∧ (4449 ≤ q ∧ q ≤ 4469) ∧ 44032 + ((p - 4352) * 588 + (q - 4449) * 28) = c := by
  refine ⟨4352 + (c - 44032) / 588, 4449 + (c - 44032) % 588 / 28, ?_, by omega, by omega, by omega⟩
  rw [partsF_hang c h]; unfold hang; rw [if_neg h28]; rfl
theorem hang_inj (a b : Int) (ha : 44032 ≤ a ∧ a ≤ 55203) (hb : 44032 ≤ b ∧ b ≤ 55203) : decide (partsF a = partsF b) = (a == b) := by
  rw [Bool.eq_iff_iff]
  simp only [decide_eq_true_eq, beq_iff_eq]
  constructor
  · intro h
    by_cases h1 : 0 < (a - 44032) % 28
    · obtain ⟨p, q, r, e1, _, _, _, e2⟩ := hang3 a ha h1
      by_cases h2 : 0 < (b - 44032) % 28
      · obtain ⟨p', q', r', e3, _, _, _, e4⟩ := hang3 b hb h2
        rw [e1, e3] at h
        simp only [List.cons.injEq, and_true] at h
        obtain ⟨rfl, rfl, rfl⟩ := h
        omega
      · obtain ⟨p', q', e3, _, _, e4⟩ := hang2 b hb h2
        rw [e1, e3] at h
        simp at h
    · obtain ⟨p, q, e1, _, _, e2⟩ := hang2 a ha h1
      by_cases h2 : 0 < (b - 44032) % 28
      · obtain ⟨p', q', r', e3, _, _, _, e4⟩ := hang3 b hb h2
        rw [e1, e3] at h
        simp at h
      · obtain ⟨p', q', e3, _, _, e4⟩ := hang2 b hb h2
        rw [e1, e3] at h
        simp only [List.cons.injEq, and_true] at h
        obtain ⟨rfl, rfl⟩ := h
        omega
  · rintro rfl; rfl
theorem hang_len2 (b : Int) (hb : 44032 ≤ b ∧ b ≤ 55203) : 2 ≤ (partsF b).length := by
  by_cases h2 : 0 < (b - 44032) % 28
  · obtain ⟨p', q', r', e3, _⟩ := hang3 b hb h2
    rw [e3]; simp
  · obtain ⟨p', q', e3, _⟩ := hang2 b hb h2
    rw [e3]; simp
theorem known_p (x : Int) (h : 4352 ≤ x ∧ x ≤ 4370) : knownF x = true := by rw [knownF_hit x 22 (by decide) h.1 h.2]; simp; omega
theorem known_q (x : Int) (h : 4449 ≤ x ∧ x ≤ 4469) : knownF x = true := by rw [knownF_hit x 23 (by decide) h.1 h.2]; simp; omega
theorem known_r (x : Int) (h : 4520 ≤ x ∧ x ≤ 4546) : knownF x = true := by rw [knownF_hit x 24 (by decide) h.1 h.2]; simp; omega

set_option maxRecDepth 1000000 in
set_option maxHeartbeats 2000000 in
theorem lawHangul_walk (a : Option Addr) (len cap : Nat) (zs0 : List Int) (w : World) (hrow : IsRow .u8 w a len cap zs0) : Calls Try.prog 6 #[.slice a len cap] w fun e w' => e = .returned (.bool true) ∧ Below w.heap.size w w' := by
  have hm : len ≤ maxLen := by have h := hrow.rd.1; exact Nat.le_trans h.le h.max
  by_cases hs : 1048576 < len
  · clear hrow
    go_enter Try.func6, Try.ntmps6
    go_wp2_with fail
    refine (big_any_any _ _ _ _ hs hm).mono ?_
    rintro e w' ⟨rfl, rfl⟩
    go_wp2
    go_ret
    exact ⟨rfl, Below.refl _ _⟩
  · obtain ⟨hR, hz⟩ := hrow.rd
    have HR := Lib.hid hR
    have HZ := Lib.hid hz
    have hn : len ≤ 1048576 := by omega
    clear hrow hR hz hs hm
    go_enter Try.func6, Try.ntmps6
    go_wp2_with fail
    refine (big_no_any _ _ _ _ hn).mono ?_
    rintro e w' ⟨rfl, rfl⟩
    go_wp2_with fail
    refine (at_any _ _ _ _ 0 _ HR.out HZ.out hn (by omega)).mono ?_
    rintro e w' ⟨⟨x0, ⟨l0, m0⟩, rfl⟩, rfl⟩
    go_wp2_with fail
    refine (at_any _ _ _ _ 1 _ HR.out HZ.out hn (by omega)).mono ?_
    rintro e w' ⟨⟨x1, ⟨l1, m1⟩, rfl⟩, rfl⟩
    go_wp2_with fail
    refine (at_any _ _ _ _ 2 _ HR.out HZ.out hn (by omega)).mono ?_
    rintro e w' ⟨⟨x2, ⟨l2, m2⟩, rfl⟩, rfl⟩
    go_wp2_with fail
    refine (at_any _ _ _ _ 3 _ HR.out HZ.out hn (by omega)).mono ?_
    rintro e w' ⟨⟨x3, ⟨l3, m3⟩, rfl⟩, rfl⟩
    clear HR HZ
    have hA : Hid (44032 ≤ 44032 + (x0 * 256 + x1) % 11172 ∧ 44032 + (x0 * 256 + x1) % 11172 ≤ 55203) := Lib.hid (by omega)
    have hB : Hid (44032 ≤ 44032 + (x2 * 256 + x3) % 11172 ∧ 44032 + (x2 * 256 + x3) % 11172 ≤ 55203) := Lib.hid (by omega)
    go_wp2_with fail
    generalize 44032 + (x0 * 256 + x1) % 11172 = A at *
    generalize 44032 + (x2 * 256 + x3) % 11172 = B at *
    clear l0 m0 l1 m1 l2 m2 l3 m3
    refine (implParts_any A _).mono ?_
    rintro e w1 ⟨g1, c1, rfl, hOA⟩
    go_wp2_with fail
    refine (implParts_any B _).mono ?_
    rintro e w2 ⟨g2, c2, rfl, hOB⟩
    have hlB := hang_len2 B hB.out
    have hlB3 := partsF_len B
    have HRB := Lib.hid hOB.rd
    have hdec := hang_inj A B hA.out hB.out
    have hbb : ((A == B) != (A == B)) = false := by simp
    have HW2 : Hid (Below w.heap.size w w2) := Lib.hid (hOA.below.trans (hOB.below.mono hOA.below.size))
    by_cases h28 : 0 < (A - 44032) % 28
    · obtain ⟨p, q, r, hP, hp, hq, hr, hsum⟩ := hang3 A hA.out h28
      have HRA : Hid (Rd w2 (some ⟨g1, 0, none⟩) 3 c1 1 (ints [p, q, r])) := Lib.hid (by have h := hOA.rd.below hOB.below (Nat.le_refl _); rw [hP] at h; exact h)
      rw [hP] at hdec
      rw [hP]
      have HD := Lib.hid hdec
      have Hp := Lib.hid (known_p p hp)
      have Hq := Lib.hid (known_q q hq)
      have Hr := Lib.hid (known_r r hr)
      obtain ⟨hr1, hr2⟩ := hr
      obtain ⟨hp1, hp2⟩ := hp
      obtain ⟨hq1, hq2⟩ := hq
      have heq : ((44032 + ((p - 4352) * 588 + (q - 4449) * 28 + r - 4519) : Int) == A) = true := by simp; omega
      clear hP hdec hsum h28 hOA hOB hA hB
      simp only [List.length_cons, List.length_nil, Nat.zero_add, Nat.reduceAdd]
      go_wp2_with fail
      refine (sameInts_any _ _ _ _ _ _ [p, q, r] (partsF B) _ HRA.out HRB.out (by omega) (by omega)).mono ?_
      rintro e w3 ⟨rfl, hb3⟩
      rw [HD.out]
      have HR3 := Lib.hid (HRA.out.below hb3 (Nat.le_refl _))
      have hc0 : w3.cell? ⟨g1, 0, none⟩ = some (.int .i64 p) := rdcellK HR3.out (by omega) 0 (by simp)
      have hc1 : w3.cell? ⟨g1, 1, none⟩ = some (.int .i64 q) := rdcellK HR3.out (by omega) 1 (by simp)
      have hc2 : w3.cell? ⟨g1, 2, none⟩ = some (.int .i64 r) := rdcellK HR3.out (by omega) 2 (by simp)
      have HW3 := Lib.hid (HW2.out.trans (hb3.mono HW2.out.size))
      clear HRA HRB HD hb3
      go_wp2
      go_quiet (fail)
      go_wp2_with fail
      refine (specKnown_any p _).mono ?_
      rintro e w4 ⟨rfl, hb4⟩
      rw [Hp.out]
      have HR4 := Lib.hid ((HR3.out.below (below_drewN (Below.refl _ _) nq) (Nat.le_refl _)).below hb4 (Nat.le_refl _))
      have HW4 := Lib.hid ((below_drewN HW3.out nq).trans (hb4.mono (by simpa using HW3.out.size)))
      have hd1 : w4.cell? ⟨g1, 1, none⟩ = some (.int .i64 q) := rdcellK HR4.out (by omega) 1 (by simp)
      clear hb4 HR3 HW3
      go_wp2_with fail
      refine (specKnown_any q _).mono ?_
      rintro e w5 ⟨rfl, hb5⟩
      rw [Hq.out]
      have HR5 := Lib.hid (HR4.out.below hb5 (Nat.le_refl _))
      have HW5 := Lib.hid (HW4.out.trans (hb5.mono HW4.out.size))
      have hd2 : w5.cell? ⟨g1, 2, none⟩ = some (.int .i64 r) := rdcellK HR5.out (by omega) 2 (by simp)
      clear hb5 HR4 HW4
      go_wp2_with fail
      refine (specKnown_any r _).mono ?_
      rintro e w6 ⟨rfl, hb6⟩
      rw [Hr.out]
      have HW6 := Lib.hid (HW5.out.trans (hb6.mono HW5.out.size))
      clear hb6
      go_wp2
      go_ret
      exact ⟨rfl, HW6.out⟩
    · obtain ⟨p, q, hP, hp, hq, hsum⟩ := hang2 A hA.out h28
      have HRA : Hid (Rd w2 (some ⟨g1, 0, none⟩) 2 c1 1 (ints [p, q])) := Lib.hid (by have h := hOA.rd.below hOB.below (Nat.le_refl _); rw [hP] at h; exact h)
      rw [hP] at hdec
      rw [hP]
      have HD := Lib.hid hdec
      have Hp := Lib.hid (known_p p hp)
      have Hq := Lib.hid (known_q q hq)
      obtain ⟨hp1, hp2⟩ := hp
      obtain ⟨hq1, hq2⟩ := hq
      have heq : ((44032 + ((p - 4352) * 588 + (q - 4449) * 28) : Int) == A) = true := by simp; omega
      clear hP hdec hsum h28 hOA hOB hA hB
      simp only [List.length_cons, List.length_nil, Nat.zero_add, Nat.reduceAdd]
      go_wp2_with fail
      refine (sameInts_any _ _ _ _ _ _ [p, q] (partsF B) _ HRA.out HRB.out (by omega) (by omega)).mono ?_
      rintro e w3 ⟨rfl, hb3⟩
      rw [HD.out]
      have HR3 := Lib.hid (HRA.out.below hb3 (Nat.le_refl _))
      have hc0 : w3.cell? ⟨g1, 0, none⟩ = some (.int .i64 p) := rdcellK HR3.out (by omega) 0 (by simp)
      have hc1 : w3.cell? ⟨g1, 1, none⟩ = some (.int .i64 q) := rdcellK HR3.out (by omega) 1 (by simp)
      have HW3 := Lib.hid (HW2.out.trans (hb3.mono HW2.out.size))
      clear HRA HRB HD hb3
      go_wp2
      go_quiet (fail)
      go_wp2_with fail
      refine (specKnown_any p _).mono ?_
      rintro e w4 ⟨rfl, hb4⟩
      rw [Hp.out]
      have HR4 := Lib.hid ((HR3.out.below (below_drewN (Below.refl _ _) nq) (Nat.le_refl _)).below hb4 (Nat.le_refl _))
      have HW4 := Lib.hid ((below_drewN HW3.out nq).trans (hb4.mono (by simpa using HW3.out.size)))
      have hd1 : w4.cell? ⟨g1, 1, none⟩ = some (.int .i64 q) := rdcellK HR4.out (by omega) 1 (by simp)
      clear hb4 HR3 HW3
      go_wp2_with fail
      refine (specKnown_any q _).mono ?_
      rintro e w5 ⟨rfl, hb5⟩
      rw [Hq.out]
      have HR5 := Lib.hid (HR4.out.below hb5 (Nat.le_refl _))
      have HW5 := Lib.hid (HW4.out.trans (hb5.mono HW4.out.size))
      clear hb5 HR4 HW4
      go_wp2
      go_ret
      exact ⟨rfl, HW5.out⟩
end Go.Proofs.Ytiakfclfipiaoaa
