/- A crash keeps of the writes under way just those that are said, in their order; all of them is a flush, none of them nothing: the law, walked. (Printed by gen_fdev.py.) -/
import Derived.Test.YtbokgbbdjcpgbaaFdevD
import Derived.Deep.DeepCutAuto
namespace Go.Proofs.Ytbokgbbdjcpgbaa
open Go.RowKit

theorem tk_all : ∀ i : Fin 40, tkM 1099511627775 i.val = true := by decide +kernel
theorem tk_none (i : Nat) : tkM 0 i = false := by
  unfold tkM
  rw [Int.zero_ediv]
  decide
theorem doneN_all (ss : List ByteArray) (us : List (Int × ByteArray)) : ∀ k, k ≤ us.length → us.length ≤ 40 → doneN (tkM 1099511627775) ss us k = doneN (fun _ => true) ss us k := by
  intro k
  induction k with
  | zero => intro _ _; rfl
  | succ k ih =>
    intro h h4
    rw [doneN_yes _ ss us k (by omega) (tk_all ⟨k, by omega⟩), doneN_yes _ ss us k (by omega) rfl, ih (by omega) h4]
theorem doneN_none (ss : List ByteArray) (us : List (Int × ByteArray)) : ∀ k, doneN (tkM 0) ss us k = ss := by
  intro k
  induction k with
  | zero => rfl
  | succ k ih => rw [doneN_no _ ss us k (tk_none k), ih]
set_option maxRecDepth 1000000 in
set_option maxHeartbeats 6000000 in
theorem lawFnDev_walk (a : Option Addr) (len cap : Nat) (zs0 : List Int) (w : World) (hrow : IsRow .u8 w a len cap zs0) : Calls Try.prog 8 #[.slice a len cap] w fun e w' => e = .returned (.bool true) ∧ Below w.heap.size w w' := by
  have hm : len ≤ maxLen := by have h := hrow.rd.1; exact Nat.le_trans h.le h.max
  by_cases hs : 1048576 < len
  · clear hrow
    go_enter Try.func8, Try.ntmps8
    go_wp2_with fail
    refine (big_any_any _ _ _ _ hs hm).mono ?_
    rintro e w' ⟨rfl, rfl⟩
    go_wp2
    go_ret
    exact ⟨rfl, Below.refl _ _⟩
  · obtain ⟨hR, hz⟩ := hrow.rd
    have HR := Lib.hid hR
    have HZ2 : Hid (∀ z ∈ zs0.take len, 0 ≤ z ∧ z ≤ 255) := Lib.hid (fun z hz' => by have := hz z hz'; simpa [Lit.wf, IntKind.min, IntKind.max, IntKind.signed, IntKind.bits] using this)
    have hn : len ≤ 1048576 := by omega
    clear hrow hR hz hs hm
    generalize zs0.take len = zs at *
    go_enter Try.func8, Try.ntmps8
    go_wp2_with fail
    refine (big_no_any _ _ _ _ hn).mono ?_
    rintro e w' ⟨rfl, rfl⟩
    go_wp2_with fail
    refine (drawCrash_any _ _ _ _ _ HR.out HZ2.out hn).mono ?_
    rintro e w1 ⟨v, mask, ss, us, rfl, hmr, hD, hb⟩
    obtain ⟨p, c, q, d, rfl, h1, h2⟩ := hD.ex
    have HB1 := Lib.hid hb
    have HMR := Lib.hid hmr
    clear hD hb HR HZ2 hmr
    cases hok : devOkB ss us with
    | false =>
      have e1 : ∀ tk, doneF tk ss us = [] := fun tk => by unfold doneF; rw [if_neg (by rw [hok]; decide)]
      generalize hN : ss.length = N at *
      have HDV : Hid (∀ W, Rd W p N c 1 (strs ss) → Rd W q us.length d 2 (wrs us) → Calls Try.prog 25 #[.agg #[.slice p N c, .slice q us.length d]] W fun e w' => e = .returned (.bool false) ∧ Below W.heap.size W w') := Lib.hid (fun W a b => by subst hN; have := specDevOk_any _ ss us W ⟨p, c, q, d, rfl, a, b⟩; rw [hok] at this; exact this)
      have HCR : Hid (∀ W, Rd W p N c 1 (strs ss) → Rd W q us.length d 2 (wrs us) → Calls Try.prog 29 #[.agg #[.slice p N c, .slice q us.length d], .int .i64 mask] W (DevPost [] [] W)) := Lib.hid (fun W a b => by subst hN; have := implCrash_any _ mask HMR.out ss us W ⟨p, c, q, d, rfl, a, b⟩; rw [e1] at this; exact this)
      have HFL : Hid (∀ W, Rd W p N c 1 (strs ss) → Rd W q us.length d 2 (wrs us) → Calls Try.prog 31 #[.agg #[.slice p N c, .slice q us.length d]] W (DevPost [] [] W)) := Lib.hid (fun W a b => by subst hN; have := implFlush_any _ ss us W ⟨p, c, q, d, rfl, a, b⟩; rw [e1] at this; exact this)
      have H1 := Lib.hid h1
      have H2 := Lib.hid h2
      clear h1 h2 hok e1 hN
      unfold dvV
      go_wp2_with fail
      have HA := Lib.hid (box_alloc w1 (.cells #[.slice p N c, .slice q us.length d] 32))
      have t0 := box0 w1 32 (.slice p N c) (.slice q us.length d)
      have t1 := box1 w1 32 (.slice p N c) (.slice q us.length d)
      refine (HCR.out _ (H1.out.alloc _) (H2.out.alloc _)).mono ?_
      rintro e w2 ⟨v2, rfl, hO, hb⟩
      obtain ⟨p2, c2, q2, d2, rfl, -, -, -⟩ := hO.ex
      replace t0 := box_below t0 hb
      replace t1 := box_below t1 hb
      have H12 := Lib.hid ((H1.out.alloc (.cells #[.slice p N c, .slice q us.length d] 32)).below hb (Nat.le_refl _))
      have H22 := Lib.hid ((H2.out.alloc (.cells #[.slice p N c, .slice q us.length d] 32)).below hb (Nat.le_refl _))
      have HB2 := Lib.hid (below_step1 HB1.out (below_step1 HA.out hb))
      have hz2 : w1.heap.size < w2.heap.size := World.block_lt_of_cell? w2 _ t0
      clear hb hO H1 H2 HA HB1
      generalize w1.heap.size = T at *
      unfold dvV
      simp only [List.length_nil]
      go_wp2_with fail
      have HA := Lib.hid (box_alloc w2 (.cells #[.slice p2 0 c2, .slice q2 0 d2] 32))
      have x0 := box0 w2 32 (.slice p2 0 c2) (.slice q2 0 d2)
      refine (HDV.out _ (H12.out.alloc _) (H22.out.alloc _)).mono ?_
      rintro e w3 ⟨rfl, hb⟩
      replace x0 := box_below x0 hb
      replace t0 := box_below t0 (below_step1 HA.out hb)
      replace t1 := box_below t1 (below_step1 HA.out hb)
      have H13 := Lib.hid (H12.out.below (below_step1 HA.out hb) (Nat.le_refl _))
      have H23 := Lib.hid (H22.out.below (below_step1 HA.out hb) (Nat.le_refl _))
      have HB3 := Lib.hid (below_step1 HB2.out (below_step1 HA.out hb))
      have hz3 : w2.heap.size < w3.heap.size := World.block_lt_of_cell? w3 _ x0
      have hz4 : T < w3.heap.size := World.block_lt_of_cell? w3 _ t0
      clear hb H12 H22 HA HB2 hz2
      generalize w2.heap.size = X at *
      go_wp2_with fail
      refine (HFL.out _ H13.out H23.out).mono ?_
      rintro e w4 ⟨v4, rfl, hO, hb⟩
      obtain ⟨p4, c4, q4, d4, rfl, -, -, -⟩ := hO.ex
      have HB4 := Lib.hid (below_step1 HB3.out hb)
      clear hb hO
      unfold dvV
      simp only [List.length_nil]
      go_wp2
      rw [field_dev]
      go_wp2
      go_ret
      exact ⟨rfl, HB4.out⟩
    | true =>
      obtain ⟨hl18, hl40, hus⟩ := devOk_len hok
      have HUS := Lib.hid hus
      have HSS := Lib.hid hl18
      have HOKX := Lib.hid (doneN_ok (tkM mask) ss us hok us.length (Nat.le_refl _))
      have e1 : ∀ tk, doneF tk ss us = doneN tk ss us us.length := fun tk => by unfold doneF; rw [if_pos hok]
      have HDV : Hid (∀ W, Rd W p 18 c 1 (strs ss) → Rd W q us.length d 2 (wrs us) → Calls Try.prog 25 #[.agg #[.slice p 18 c, .slice q us.length d]] W fun e w' => e = .returned (.bool true) ∧ Below W.heap.size W w') := Lib.hid (fun W a b => by have := specDevOk_any (dvV p 18 c q us.length d) ss us W ⟨p, c, q, d, by rw [hl18], by rw [hl18]; exact a, b⟩; rw [hok] at this; exact this)
      have HCR : Hid (∀ W m, (-9223372036854775808 ≤ m ∧ m ≤ 9223372036854775807) → Rd W p 18 c 1 (strs ss) → Rd W q us.length d 2 (wrs us) → Calls Try.prog 29 #[.agg #[.slice p 18 c, .slice q us.length d], .int .i64 m] W (DevPost (doneN (tkM m) ss us us.length) [] W)) := Lib.hid (fun W m hm a b => by have := implCrash_any (dvV p 18 c q us.length d) m hm ss us W ⟨p, c, q, d, by rw [hl18], by rw [hl18]; exact a, b⟩; rw [e1] at this; exact this)
      have HFL : Hid (∀ W, Rd W p 18 c 1 (strs ss) → Rd W q us.length d 2 (wrs us) → Calls Try.prog 31 #[.agg #[.slice p 18 c, .slice q us.length d]] W (DevPost (doneN (fun _ => true) ss us us.length) [] W)) := Lib.hid (fun W a b => by have := implFlush_any (dvV p 18 c q us.length d) ss us W ⟨p, c, q, d, by rw [hl18], by rw [hl18]; exact a, b⟩; rw [e1] at this; exact this)
      have HC1 := Lib.hid (HCR.out · mask HMR.out)
      have HC2 := Lib.hid (HCR.out · 1099511627775 (by decide))
      have HC3 := Lib.hid (HCR.out · 0 (by decide))
      rw [doneN_all ss us _ (Nat.le_refl _) hl40] at HC2
      rw [doneN_none] at HC3
      have HDL := Lib.hid ((doneN_len (tkM mask) ss us us.length).trans hl18)
      have HFLL := Lib.hid ((doneN_len (fun _ => true) ss us us.length).trans hl18)
      rw [hl18] at h1 ⊢
      have H1 := Lib.hid h1
      have H2 := Lib.hid h2
      clear h1 h2 hok e1 hus HCR HMR
      obtain ⟨D, hDe⟩ : ∃ D, D = doneN (tkM mask) ss us us.length := ⟨_, rfl⟩
      obtain ⟨F, hFe⟩ : ∃ F, F = doneN (fun _ => true) ss us us.length := ⟨_, rfl⟩
      rw [← hDe] at HOKX HC1 HDL
      rw [← hFe] at HFL HC2 HFLL
      have HDE := Lib.hid hDe
      clear hDe hFe hl18
      unfold dvV
      go_wp2_with fail
      have HA := Lib.hid (box_alloc w1 (.cells #[.slice p 18 c, .slice q us.length d] 32))
      have t0 := box0 w1 32 (.slice p 18 c) (.slice q us.length d)
      have t1 := box1 w1 32 (.slice p 18 c) (.slice q us.length d)
      refine (HC1.out _ (H1.out.alloc _) (H2.out.alloc _)).mono ?_
      rintro e w2 ⟨v2, rfl, hO, hb⟩
      obtain ⟨p2, c2, q2, d2, rfl, hP2, hQ2, -⟩ := hO.ex
      rw [HDL.out] at hP2 ⊢
      have HX := Lib.hid hP2.rd
      have HXQ := Lib.hid hQ2.rd
      replace t0 := box_below t0 hb
      replace t1 := box_below t1 hb
      have H1b := Lib.hid (H1.out.below (below_step1 HA.out hb) (Nat.le_refl _))
      have H2b := Lib.hid (H2.out.below (below_step1 HA.out hb) (Nat.le_refl _))
      have HB2 := Lib.hid (below_step1 HB1.out (below_step1 HA.out hb))
      have hz2 : w1.heap.size < w2.heap.size := World.block_lt_of_cell? w2 _ t0
      clear hb hO hP2 hQ2 H1 H2 HA HB1
      generalize w1.heap.size = T at *
      unfold dvV
      simp only [List.length_nil] at HXQ ⊢
      go_wp2_with fail
      have HA := Lib.hid (box_alloc w2 (.cells #[.slice p2 18 c2, .slice q2 0 d2] 32))
      have x0 := box0 w2 32 (.slice p2 18 c2) (.slice q2 0 d2)
      have x1 := box1 w2 32 (.slice p2 18 c2) (.slice q2 0 d2)
      refine (HDV.out _ (H1b.out.alloc _) (H2b.out.alloc _)).mono ?_
      rintro e w3 ⟨rfl, hb⟩
      have HST := Lib.hid (below_step1 HA.out hb)
      replace x0 := box_below x0 hb
      replace x1 := box_below x1 hb
      replace t0 := box_below t0 HST.out
      replace t1 := box_below t1 HST.out
      have H1 := Lib.hid (H1b.out.below HST.out (Nat.le_refl _))
      have H2 := Lib.hid (H2b.out.below HST.out (Nat.le_refl _))
      replace HX := Lib.hid (HX.out.below HST.out (Nat.le_refl _))
      replace HXQ := Lib.hid (HXQ.out.below HST.out (Nat.le_refl _))
      have HB3 := Lib.hid (below_step1 HB2.out HST.out)
      have hz3 : w2.heap.size < w3.heap.size := World.block_lt_of_cell? w3 _ x0
      have hz3t : T < w3.heap.size := World.block_lt_of_cell? w3 _ t0
      clear hb H1b H2b HA HB2 hz2 HST
      generalize w2.heap.size = X at *
      go_wp2_with fail
      refine (HC2.out _ H1.out H2.out).mono ?_
      rintro e w4 ⟨v2, rfl, hO, hb⟩
      obtain ⟨p4, c4, q4, d4, rfl, hP4, -, -⟩ := hO.ex
      rw [HFLL.out] at hP4 ⊢
      have HAL := Lib.hid hP4.rd
      replace x0 := box_below x0 hb
      replace x1 := box_below x1 hb
      replace t0 := box_below t0 hb
      replace t1 := box_below t1 hb
      have H1b := Lib.hid (H1.out.below hb (Nat.le_refl _))
      have H2b := Lib.hid (H2.out.below hb (Nat.le_refl _))
      replace HX := Lib.hid (HX.out.below hb (Nat.le_refl _))
      replace HXQ := Lib.hid (HXQ.out.below hb (Nat.le_refl _))
      have HB4 := Lib.hid (below_step1 HB3.out hb)
      have hz4 : X < w4.heap.size := World.block_lt_of_cell? w4 _ x0
      have hz4t : T < w4.heap.size := World.block_lt_of_cell? w4 _ t0
      clear hb hO hP4 H1 H2 HB3 hz3 hz3t
      unfold dvV
      simp only [List.length_nil]
      go_wp2_with fail
      have HA := Lib.hid (box_alloc w4 (.cells #[.slice p4 18 c4, .slice q4 0 d4] 32))
      have a0 := box0 w4 32 (.slice p4 18 c4) (.slice q4 0 d4)
      refine (HC3.out _ (H1b.out.alloc _) (H2b.out.alloc _)).mono ?_
      rintro e w5 ⟨v2, rfl, hO, hb⟩
      obtain ⟨p5, c5, q5, d5, rfl, hP5, -, -⟩ := hO.ex
      rw [HSS.out] at hP5 ⊢
      have HNO := Lib.hid hP5.rd
      have HST := Lib.hid (below_step1 HA.out hb)
      replace a0 := box_below a0 hb
      replace x0 := box_below x0 HST.out
      replace x1 := box_below x1 HST.out
      replace t0 := box_below t0 HST.out
      replace t1 := box_below t1 HST.out
      have H1 := Lib.hid (H1b.out.below HST.out (Nat.le_refl _))
      have H2 := Lib.hid (H2b.out.below HST.out (Nat.le_refl _))
      replace HX := Lib.hid (HX.out.below HST.out (Nat.le_refl _))
      replace HXQ := Lib.hid (HXQ.out.below HST.out (Nat.le_refl _))
      replace HAL := Lib.hid (HAL.out.below HST.out (Nat.le_refl _))
      have HB5 := Lib.hid (below_step1 HB4.out HST.out)
      have hz5a : w4.heap.size < w5.heap.size := World.block_lt_of_cell? w5 _ a0
      have hz5 : X < w5.heap.size := World.block_lt_of_cell? w5 _ x0
      have hz5t : T < w5.heap.size := World.block_lt_of_cell? w5 _ t0
      clear hb hO hP5 H1b H2b HA HB4 hz4 hz4t HST
      generalize w4.heap.size = AL at *
      unfold dvV
      simp only [List.length_nil]
      have HA := Lib.hid (box_alloc w5 (.cells #[.slice p5 18 c5, .slice q5 0 d5] 32))
      have n0 := box0 w5 32 (.slice p5 18 c5) (.slice q5 0 d5)
      have HCE : Hid (∀ W, Below (w5.alloc (.cells #[.slice p5 18 c5, .slice q5 0 d5] 32)).heap.size (w5.alloc (.cells #[.slice p5 18 c5, .slice q5 0 d5] 32)) W → W.cell? ⟨T, 0, none⟩ = some (.slice p 18 c) ∧ W.cell? ⟨T, 1, none⟩ = some (.slice q us.length d) ∧ W.cell? ⟨X, 0, none⟩ = some (.slice p2 18 c2) ∧ W.cell? ⟨X, 1, none⟩ = some (.slice q2 0 d2) ∧ W.cell? ⟨AL, 0, none⟩ = some (.slice p4 18 c4) ∧ W.cell? ⟨w5.heap.size, 0, none⟩ = some (.slice p5 18 c5)) := Lib.hid (fun W hb => ⟨box_below t0 (below_step1 HA.out hb), box_below t1 (below_step1 HA.out hb), box_below x0 (below_step1 HA.out hb), box_below x1 (below_step1 HA.out hb), box_below a0 (below_step1 HA.out hb), box_below n0 hb⟩)
      have HB6 := Lib.hid (below_step1 HB5.out HA.out)
      have H1c := Lib.hid (H1.out.below HA.out (Nat.le_refl _))
      have H2c := Lib.hid (H2.out.below HA.out (Nat.le_refl _))
      have HXc := Lib.hid (HX.out.below HA.out (Nat.le_refl _))
      have HXQc := Lib.hid (HXQ.out.below HA.out (Nat.le_refl _))
      have HALc := Lib.hid (HAL.out.below HA.out (Nat.le_refl _))
      have HNOc := Lib.hid (HNO.out.below HA.out (Nat.le_refl _))
      have hbT : T < (w5.alloc (.cells #[.slice p5 18 c5, .slice q5 0 d5] 32)).heap.size := by simp; omega
      have HLit := Lib.hid (Own.lit (e := 9) (size := 1) (n := 0) (Below.refl (w5.alloc (.cells #[.slice p5 18 c5, .slice q5 0 d5] 32)).heap.size (w5.alloc (.cells #[.slice p5 18 c5, .slice q5 0 d5] 32))) (Nat.le_refl _) #[] rfl (by decide))
      have HL1 := Lib.hid (H1c.out.alloc (.cells #[] 9))
      clear a0 n0 x0 x1 H1 H2 HX HXQ HAL HNO HB5 HA
      go_upto_region 9 with (fail)
      generalize hW6 : w5.alloc (.cells #[.slice p5 18 c5, .slice q5 0 d5] 32) = w6 at *
      clear hW6
      generalize w5.heap.size = NO at *
      obtain ⟨t0', t1', x0', x1', a0', n0'⟩ := HCE.out _ (Below.refl _ _)
      clear t0 t1 x0' x1' a0' n0' t1'
      go_wp2_with (at_builtin; go_loud (refine wp_app rfl _ _ 29 rfl 9 (.string ByteArray.empty) 1 16 Try.underlying29 info_str rfl (by decide) _ _ _ _ _ (by rfl) (by exact HLit.out) _ _ _ _ (by rfl) (by exact HL1.out) (strs_one _) (by omega) (by unfold maxLen; omega) ?_); intro a9 c9 w9 hO9)
      have HW : Hid (Own 9 1 w6.heap.size w6 (.slice a9 18 c9) 18 (strs ss) w9) := Lib.hid (by simpa using hO9)
      clear HLit HL1 hO9 hbT
      go_wp2
      go_loopg [9] us.length (fun gg i wr => ∃ k : Nat, k + gg = us.length ∧ i = .int .i64 (k : Int) ∧ Hid (Own 9 1 w6.heap.size w6 (.slice a9 18 c9) 18 (strs (doneN (tkM mask) ss us k)) wr))
      case atStart => exact ⟨0, by omega, rfl, HW⟩
      case round =>
        obtain ⟨k, hk, rfl, HO2⟩ := hrel
        have HBW := Lib.hid HO2.out.below
        obtain ⟨t0, t1, x0, x1, l0, n0⟩ := HCE.out _ HBW.out
        have hTl := World.block_lt_of_cell? _ _ t0
        by_cases hlt : k < us.length
        · obtain ⟨bb, off, rfl, hb6, -, -⟩ := wrs_cells H2c.out k hlt
          obtain ⟨bb', off', he, hbs, hc0, hc1⟩ := wrs_cells (H2c.out.below HBW.out (Nat.le_refl _)) k hlt
          cases he
          obtain ⟨ga, ca, he, hgB⟩ := HO2.out.shape1 (by omega)
          cases he
          have hTg : T ≠ ga := by have := World.block_lt_of_cell? _ _ (HCE.out _ (Below.refl _ _)).1; simp only at this; omega
          have hbg : bb ≠ ga := by omega
          have hu := HUS.out us[k] (List.getElem_mem hlt)
          have hi : (k : Int) < (us.length : Int) := by omega
          obtain ⟨q, hq⟩ := Int.eq_ofNat_of_zero_le hu.1
          have hq18 : q < 18 := by omega
          have hq18' : (q : Int) < 18 := by omega
          have HY : Hid (tkM mask k = true → doneN (tkM mask) ss us (k + 1) = (doneN (tkM mask) ss us k).set q us[k].2) := Lib.hid (fun ht => by rw [doneN_yes _ _ _ _ hlt ht, hq]; rfl)
          rw [hq] at hc0
          obtain ⟨s, hs⟩ : ∃ s, s = us[k].2 := ⟨_, rfl⟩
          rw [← hs] at hc1 HY
          have hcg := HO2.out.cell q (by simp [doneN_len, HSS.out]; omega)
          have hfg := HO2.out.free q
          generalize (strs (doneN (tkM mask) ss us k))[q]'_ = old at hcg
          have hgw : ga < wr.heap.size := World.block_lt_of_cell? _ _ hcg
          have HAS := Lib.hid (HO2.out.set q (.string s))
          clear hs hu hq x0 x1 l0 n0
          have hk40 : (k : Int) < 40 := by omega
          by_cases hmk : 0 ≤ mask
          · by_cases ht : (bits BinOp.and IntKind.i64 (mask / 2 ^ k) 1 == 1) = true
            · have HT : Hid (tkM mask k = true) := Lib.hid (by rw [tkM, ht, decide_eq_true hmk]; rfl)
              go_wp2
              refine wp_region_held_drew (S := (fun W => W.cell? ⟨T, 0, none⟩ = some (.slice p 18 c) ∧ W.cell? ⟨T, 1, none⟩ = some (.slice (some ⟨bb, off, none⟩) us.length d) ∧ W.cell? ⟨bb, off + k * 2, none⟩ = some (.int .i64 (q : Int)) ∧ W.cell? ⟨bb, off + k * 2 + 1, none⟩ = some (.string s))) (by kernel_rfl) ?_ (fun hHeld => ?_)
              · try dsimp only
                (first | exact ⟨t0, t1, hc0, hc1⟩ | exact ⟨cell_far t0 hTg, cell_far t1 hTg, cell_far hc0 hbg, cell_far hc1 hbg⟩)
              change wpAnyH _ _ _ _ _ 15 #[false, false, false, false, false, false, false, false, false, false, false, false, false, false, false] _ _
              refine wpH_take (i := 0) (v := ?_) rfl (by kernel_rfl) (by kernel_rfl) (by kernel_rfl) (fun _ _ _ h => h) (by rfl) ?_ (by assumption) ?_; rotate_left; (focus (intro w hSw; (try dsimp only at hSw); go_simp; try with_reducible rfl)); try simp only [Act.put, List.setIfInBounds_toArray, List.set_cons_zero, List.set_cons_succ]
              refine wpH_take (i := 1) (v := ?_) rfl (by kernel_rfl) (by kernel_rfl) (by kernel_rfl) (fun _ _ _ h => h) (by rfl) ?_ (by assumption) ?_; rotate_left; (focus (intro w hSw; (try dsimp only at hSw); go_simp; try with_reducible rfl)); try simp only [Act.put, List.setIfInBounds_toArray, List.set_cons_zero, List.set_cons_succ]
              refine wpH_take (i := 2) (v := ?_) rfl (by kernel_rfl) (by kernel_rfl) (by kernel_rfl) (fun _ _ _ h => h) (by rfl) ?_ (by assumption) ?_; rotate_left; (focus (intro w hSw; (try dsimp only at hSw); go_simp; try with_reducible rfl)); try simp only [Act.put, List.setIfInBounds_toArray, List.set_cons_zero, List.set_cons_succ]
              refine wpH_take (i := 3) (v := ?_) rfl (by kernel_rfl) (by kernel_rfl) (by kernel_rfl) (fun _ _ _ h => h) (by rfl) ?_ (by assumption) ?_; rotate_left; (focus (intro w hSw; (try dsimp only at hSw); go_simp; try with_reducible rfl)); try simp only [Act.put, List.setIfInBounds_toArray, List.set_cons_zero, List.set_cons_succ]
              refine wpH_take (i := 4) (v := ?_) rfl (by kernel_rfl) (by kernel_rfl) (by kernel_rfl) (fun _ _ _ h => h) (by rfl) ?_ (by assumption) ?_; rotate_left; (focus (intro w hSw; (try dsimp only at hSw); go_simp; try with_reducible rfl)); try simp only [Act.put, List.setIfInBounds_toArray, List.set_cons_zero, List.set_cons_succ]
              refine wpH_take (i := 5) (v := ?_) rfl (by kernel_rfl) (by kernel_rfl) (by kernel_rfl) (fun _ _ _ h => h) (by rfl) ?_ (by assumption) ?_; rotate_left; (focus (intro w hSw; (try dsimp only at hSw); go_simp; try with_reducible rfl)); try simp only [Act.put, List.setIfInBounds_toArray, List.set_cons_zero, List.set_cons_succ]
              refine wpH_take (i := 6) (v := ?_) rfl (by kernel_rfl) (by kernel_rfl) (by kernel_rfl) (fun _ _ _ h => h) (by rfl) ?_ (by assumption) ?_; rotate_left; (focus (intro w hSw; (try dsimp only at hSw); go_simp; try with_reducible rfl)); try simp only [Act.put, List.setIfInBounds_toArray, List.set_cons_zero, List.set_cons_succ]
              refine wpH_take (i := 7) (v := ?_) rfl (by kernel_rfl) (by kernel_rfl) (by kernel_rfl) (fun _ _ _ h => h) (by rfl) ?_ (by assumption) ?_; rotate_left; (focus (intro w hSw; (try dsimp only at hSw); go_simp; try with_reducible rfl)); try simp only [Act.put, List.setIfInBounds_toArray, List.set_cons_zero, List.set_cons_succ]
              refine wpH_take (i := 8) (v := ?_) rfl (by kernel_rfl) (by kernel_rfl) (by kernel_rfl) (fun _ _ _ h => h) (by rfl) ?_ (by assumption) ?_; rotate_left; (focus (intro w hSw; (try dsimp only at hSw); go_simp; try with_reducible rfl)); try simp only [Act.put, List.setIfInBounds_toArray, List.set_cons_zero, List.set_cons_succ]
              refine wpH_take (i := 9) (v := ?_) rfl (by kernel_rfl) (by kernel_rfl) (by kernel_rfl) (fun _ _ _ h => h) (by rfl) ?_ (by assumption) ?_; rotate_left; (focus (intro w hSw; (try dsimp only at hSw); go_simp; try with_reducible rfl)); try simp only [Act.put, List.setIfInBounds_toArray, List.set_cons_zero, List.set_cons_succ]
              refine wpH_take (i := 10) (v := ?_) rfl (by kernel_rfl) (by kernel_rfl) (by kernel_rfl) (fun _ _ _ h => h) (by rfl) ?_ (by assumption) ?_; rotate_left; (focus (intro w hSw; (try dsimp only at hSw); go_simp; try with_reducible rfl)); try simp only [Act.put, List.setIfInBounds_toArray, List.set_cons_zero, List.set_cons_succ]
              refine wpH_take (i := 11) (v := ?_) rfl (by kernel_rfl) (by kernel_rfl) (by kernel_rfl) (fun _ _ _ h => h) (by rfl) ?_ (by assumption) ?_; rotate_left; (focus (intro w hSw; (try dsimp only at hSw); go_simp; try with_reducible rfl)); try simp only [Act.put, List.setIfInBounds_toArray, List.set_cons_zero, List.set_cons_succ]
              refine wpH_take (i := 12) (v := ?_) rfl (by kernel_rfl) (by kernel_rfl) (by kernel_rfl) (fun _ _ _ h => h) (by rfl) ?_ (by assumption) ?_; rotate_left; (focus (intro w hSw; (try dsimp only at hSw); go_simp; try with_reducible rfl)); try simp only [Act.put, List.setIfInBounds_toArray, List.set_cons_zero, List.set_cons_succ]
              refine wpH_take (i := 13) (v := ?_) rfl (by kernel_rfl) (by kernel_rfl) (by kernel_rfl) (fun _ _ _ h => h) (by rfl) ?_ (by assumption) ?_; rotate_left; (focus (intro w hSw; (try dsimp only at hSw); go_simp; try with_reducible rfl)); try simp only [Act.put, List.setIfInBounds_toArray, List.set_cons_zero, List.set_cons_succ]
              refine wpAnyH_ready (rs := [14]) (by kernel_rfl) (by simp) ?_
              refine AllReadyH.cons rfl (fun K hK => ?_) AllReadyH.nil
              try dsimp only at hHeld
              go_simp
              skip
              refine hK.out _ _ ?_ (fun hHeld2 => ?_)
              · try dsimp only
                (first | exact ⟨t0, t1, hc0, hc1⟩ | exact ⟨cell_far t0 hTg, cell_far t1 hTg, cell_far hc0 hbg, cell_far hc1 hbg⟩)
              clear hK K hHeld
              have hHeld := hHeld2
              clear hHeld2
              refine wpAnyH_done (by kernel_rfl) ?_ _
              try dsimp only at hHeld
              clear hHeld
              have HAD := Lib.hid HAS.out.drew
              go_wp2
              go_roundg (gk - 1)
              case measure => omega
              case rel => exact ⟨k + 1, by omega, by go_num, Lib.hid (by rw [HY.out HT.out, ← strs_set]; exact HAD.out)⟩
            · have ht : (bits BinOp.and IntKind.i64 (mask / 2 ^ k) 1 == 1) = false := by simpa using ht
              have HN : Hid (doneN (tkM mask) ss us (k + 1) = doneN (tkM mask) ss us k) := Lib.hid (doneN_no _ _ _ _ (by rw [tkM, ht, Bool.and_false]))
              go_wp2
              go_roundg (gk - 1)
              case measure => omega
              case rel => exact ⟨k + 1, by omega, by go_num, Lib.hid (by rw [HN.out]; exact HO2.out)⟩
          · have HN : Hid (doneN (tkM mask) ss us (k + 1) = doneN (tkM mask) ss us k) := Lib.hid (doneN_no _ _ _ _ (by rw [tkM, decide_eq_false hmk, Bool.false_and]))
            go_wp2
            go_roundg (gk - 1)
            case measure => omega
            case rel => exact ⟨k + 1, by omega, by go_num, Lib.hid (by rw [HN.out]; exact HO2.out)⟩
        · have hkl : k = us.length := by omega
          subst hkl
          rw [← HDE.out] at HO2
          have HWR := Lib.hid HO2.out.rd
          have HB7 := Lib.hid (below_step1 HB6.out HBW.out)
          have H1w := Lib.hid (H1c.out.below HBW.out (Nat.le_refl _))
          have H2w := Lib.hid (H2c.out.below HBW.out (Nat.le_refl _))
          have HXw := Lib.hid (HXc.out.below HBW.out (Nat.le_refl _))
          have HXQw := Lib.hid (HXQc.out.below HBW.out (Nat.le_refl _))
          have HALw := Lib.hid (HALc.out.below HBW.out (Nat.le_refl _))
          have HNOw := Lib.hid (HNOc.out.below HBW.out (Nat.le_refl _))
          have HBR := Lib.hid (Below.refl wr.heap.size wr)
          have HFF := Lib.hid (And.intro t0 (And.intro t1 (And.intro x0 (And.intro x1 (And.intro l0 n0)))))
          have hXl := World.block_lt_of_cell? _ _ x0
          have hLl := World.block_lt_of_cell? _ _ l0
          have hNl := World.block_lt_of_cell? _ _ n0
          have HDX : Hid (∀ W, Rd W p2 18 c2 1 (strs D) → Rd W q2 0 d2 2 (wrs []) → Calls Try.prog 25 #[.agg #[.slice p2 18 c2, .slice q2 0 d2]] W fun e w' => e = .returned (.bool true) ∧ Below W.heap.size W w') := Lib.hid (fun W a b => by have := specDevOk_any (dvV p2 18 c2 q2 0 d2) D [] W ⟨p2, c2, q2, d2, by rw [HDL.out]; rfl, by rw [HDL.out]; exact a, b⟩; rw [HOKX.out] at this; exact this)
          clear HW HO2 H1c H2c HXc HXQc HALc HNOc HCE HB6 hlt hk
          go_upto_region 15 with (fail)
          clear t0 t1 x0 x1 l0 n0
          refine wp_region_held_drew (S := (fun W => W.cell? ⟨T, 0, none⟩ = some (.slice p 18 c) ∧ W.cell? ⟨T, 1, none⟩ = some (.slice q us.length d) ∧ W.cell? ⟨X, 0, none⟩ = some (.slice p2 18 c2) ∧ W.cell? ⟨X, 1, none⟩ = some (.slice q2 0 d2) ∧ W.cell? ⟨AL, 0, none⟩ = some (.slice p4 18 c4) ∧ W.cell? ⟨NO, 0, none⟩ = some (.slice p5 18 c5) ∧ Below wr.heap.size wr W)) (by kernel_rfl) ?_ (fun hHeld => ?_)
          · try dsimp only
            first | exact hHeld | exact ⟨HFF.out.1, HFF.out.2.1, HFF.out.2.2.1, HFF.out.2.2.2.1, HFF.out.2.2.2.2.1, HFF.out.2.2.2.2.2, HBR.out.drew⟩ | (refine ⟨?_, ?_, ?_, ?_, ?_, ?_, ?_⟩ <;> first | exact box_below hHeld.1 (by assumption) | exact box_below hHeld.2.1 (by assumption) | exact box_below hHeld.2.2.1 (by assumption) | exact box_below hHeld.2.2.2.1 (by assumption) | exact box_below hHeld.2.2.2.2.1 (by assumption) | exact box_below hHeld.2.2.2.2.2.1 (by assumption) | exact below_step1 hHeld.2.2.2.2.2.2 (by assumption))
          change wpAnyH _ _ _ _ _ 30 #[false, false, false, false, false, false, false, false, false, false, false, false, false, false, false, false, false, false, false, false, false, false, false, false, false, false, false, false, false, false] _ _
          refine wpH_take (i := 0) (v := ?_) rfl (by kernel_rfl) (by kernel_rfl) (by kernel_rfl) (fun _ _ _ h => h) (by rfl) ?_ (by assumption) ?_; rotate_left; (focus (intro w hSw; (try dsimp only at hSw); go_simp; try with_reducible rfl)); try simp only [Act.put, List.setIfInBounds_toArray, List.set_cons_zero, List.set_cons_succ]
          refine wpH_take (i := 1) (v := ?_) rfl (by kernel_rfl) (by kernel_rfl) (by kernel_rfl) (fun _ _ _ h => h) (by rfl) ?_ (by assumption) ?_; rotate_left; (focus (intro w hSw; (try dsimp only at hSw); go_simp; try with_reducible rfl)); try simp only [Act.put, List.setIfInBounds_toArray, List.set_cons_zero, List.set_cons_succ]
          refine wpH_take (i := 2) (v := ?_) rfl (by kernel_rfl) (by kernel_rfl) (by kernel_rfl) (fun _ _ _ h => h) (by rfl) ?_ (by assumption) ?_; rotate_left; (focus (intro w hSw; (try dsimp only at hSw); go_simp; try with_reducible rfl)); try simp only [Act.put, List.setIfInBounds_toArray, List.set_cons_zero, List.set_cons_succ]
          refine wpAnyH_ready (rs := [3]) (by kernel_rfl) (by simp) ?_
          refine AllReadyH.cons rfl (fun K hK => ?_) AllReadyH.nil
          try dsimp only at hHeld
          go_simp
          (go_at_call 34; refine (sameTexts_yes p2 a9 18 18 c2 c9 D _ (HXw.out.below hHeld.2.2.2.2.2.2 (Nat.le_refl _)) (HWR.out.below hHeld.2.2.2.2.2.2 (Nat.le_refl _)) (by omega)).mono ?_; rintro e w11 ⟨rfl, hbk⟩)
          refine hK.out _ _ ?_ (fun hHeld2 => ?_)
          · try dsimp only
            first | exact hHeld | exact ⟨HFF.out.1, HFF.out.2.1, HFF.out.2.2.1, HFF.out.2.2.2.1, HFF.out.2.2.2.2.1, HFF.out.2.2.2.2.2, HBR.out.drew⟩ | (refine ⟨?_, ?_, ?_, ?_, ?_, ?_, ?_⟩ <;> first | exact box_below hHeld.1 (by assumption) | exact box_below hHeld.2.1 (by assumption) | exact box_below hHeld.2.2.1 (by assumption) | exact box_below hHeld.2.2.2.1 (by assumption) | exact box_below hHeld.2.2.2.2.1 (by assumption) | exact box_below hHeld.2.2.2.2.2.1 (by assumption) | exact below_step1 hHeld.2.2.2.2.2.2 (by assumption))
          clear hK K hHeld
          have hHeld := hHeld2
          clear hHeld2
          refine wpH_take (i := 4) (v := ?_) rfl (by kernel_rfl) (by kernel_rfl) (by kernel_rfl) (fun _ _ _ h => h) (by rfl) ?_ (by assumption) ?_; rotate_left; (focus (intro w hSw; (try dsimp only at hSw); go_simp; try with_reducible rfl)); try simp only [Act.put, List.setIfInBounds_toArray, List.set_cons_zero, List.set_cons_succ]
          refine wpH_take (i := 5) (v := ?_) rfl (by kernel_rfl) (by kernel_rfl) (by kernel_rfl) (fun _ _ _ h => h) (by rfl) ?_ (by assumption) ?_; rotate_left; (focus (intro w hSw; (try dsimp only at hSw); go_simp; try with_reducible rfl)); try simp only [Act.put, List.setIfInBounds_toArray, List.set_cons_zero, List.set_cons_succ]
          refine wpH_take (i := 6) (v := ?_) rfl (by kernel_rfl) (by kernel_rfl) (by kernel_rfl) (fun _ _ _ h => h) (by rfl) ?_ (by assumption) ?_; rotate_left; (focus (intro w hSw; (try dsimp only at hSw); go_simp; try with_reducible rfl)); try simp only [Act.put, List.setIfInBounds_toArray, List.set_cons_zero, List.set_cons_succ]
          refine wpH_take (i := 7) (v := ?_) rfl (by kernel_rfl) (by kernel_rfl) (by kernel_rfl) (fun _ _ _ h => h) (by rfl) ?_ (by assumption) ?_; rotate_left; (focus (intro w hSw; (try dsimp only at hSw); go_simp; try with_reducible rfl)); try simp only [Act.put, List.setIfInBounds_toArray, List.set_cons_zero, List.set_cons_succ]
          refine wpH_take (i := 8) (v := ?_) rfl (by kernel_rfl) (by kernel_rfl) (by kernel_rfl) (fun _ _ _ h => h) (by rfl) ?_ (by assumption) ?_; rotate_left; (focus (intro w hSw; (try dsimp only at hSw); go_simp; try with_reducible rfl)); try simp only [Act.put, List.setIfInBounds_toArray, List.set_cons_zero, List.set_cons_succ]
          refine wpH_take (i := 9) (v := ?_) rfl (by kernel_rfl) (by kernel_rfl) (by kernel_rfl) (fun _ _ _ h => h) (by rfl) ?_ (by assumption) ?_; rotate_left; (focus (intro w hSw; (try dsimp only at hSw); go_simp; try with_reducible rfl)); try simp only [Act.put, List.setIfInBounds_toArray, List.set_cons_zero, List.set_cons_succ]
          refine wpH_take (i := 10) (v := ?_) rfl (by kernel_rfl) (by kernel_rfl) (by kernel_rfl) (fun _ _ _ h => h) (by rfl) ?_ (by assumption) ?_; rotate_left; (focus (intro w hSw; (try dsimp only at hSw); go_simp; try with_reducible rfl)); try simp only [Act.put, List.setIfInBounds_toArray, List.set_cons_zero, List.set_cons_succ]
          refine wpH_take (i := 11) (v := ?_) rfl (by kernel_rfl) (by kernel_rfl) (by kernel_rfl) (fun _ _ _ h => h) (by rfl) ?_ (by assumption) ?_; rotate_left; (focus (intro w hSw; (try dsimp only at hSw); go_simp; try with_reducible rfl)); try simp only [Act.put, List.setIfInBounds_toArray, List.set_cons_zero, List.set_cons_succ]
          refine wpH_take (i := 12) (v := ?_) rfl (by kernel_rfl) (by kernel_rfl) (by kernel_rfl) (fun _ _ _ h => h) (by rfl) ?_ (by assumption) ?_; rotate_left; (focus (intro w hSw; (try dsimp only at hSw); go_simp; try with_reducible rfl)); try simp only [Act.put, List.setIfInBounds_toArray, List.set_cons_zero, List.set_cons_succ]
          refine wpH_take (i := 13) (v := ?_) rfl (by kernel_rfl) (by kernel_rfl) (by kernel_rfl) (fun _ _ _ h => h) (by rfl) ?_ (by assumption) ?_; rotate_left; (focus (intro w hSw; (try dsimp only at hSw); go_simp; try with_reducible rfl)); try simp only [Act.put, List.setIfInBounds_toArray, List.set_cons_zero, List.set_cons_succ]
          refine wpAnyH_ready (rs := [14]) (by kernel_rfl) (by simp) ?_
          refine AllReadyH.cons rfl (fun K hK => ?_) AllReadyH.nil
          try dsimp only at hHeld
          go_simp
          (go_at_call 31; refine (HFL.out _ (H1w.out.below hHeld.2.2.2.2.2.2 (Nat.le_refl _)) (H2w.out.below hHeld.2.2.2.2.2.2 (Nat.le_refl _))).mono ?_; rintro e w12 ⟨v6, rfl, hO6, hbk⟩; obtain ⟨p6, c6, q6, d6, rfl, hP6, -, -⟩ := hO6.ex; rw [HFLL.out] at hP6 ⊢; have HP6 := Lib.hid hP6.rd; clear hP6 hO6; unfold dvV; simp only [List.length_nil])
          refine hK.out _ _ ?_ (fun hHeld2 => ?_)
          · try dsimp only
            first | exact hHeld | exact ⟨HFF.out.1, HFF.out.2.1, HFF.out.2.2.1, HFF.out.2.2.2.1, HFF.out.2.2.2.2.1, HFF.out.2.2.2.2.2, HBR.out.drew⟩ | (refine ⟨?_, ?_, ?_, ?_, ?_, ?_, ?_⟩ <;> first | exact box_below hHeld.1 (by assumption) | exact box_below hHeld.2.1 (by assumption) | exact box_below hHeld.2.2.1 (by assumption) | exact box_below hHeld.2.2.2.1 (by assumption) | exact box_below hHeld.2.2.2.2.1 (by assumption) | exact box_below hHeld.2.2.2.2.2.1 (by assumption) | exact below_step1 hHeld.2.2.2.2.2.2 (by assumption))
          clear hK K hHeld
          have hHeld := hHeld2
          clear hHeld2
          have hfd := fun w => field_dev p6 q6 18 c6 0 d6 w
          refine wpH_take (i := 15) (v := ?_) rfl (by kernel_rfl) (by kernel_rfl) (by kernel_rfl) (fun _ _ _ h => h) (by rfl) ?_ (by assumption) ?_; rotate_left; (focus (intro w hSw; (try dsimp only at hSw); go_simp; try with_reducible rfl)); try simp only [Act.put, List.setIfInBounds_toArray, List.set_cons_zero, List.set_cons_succ]
          clear hfd
          refine wpAnyH_ready (rs := [16]) (by kernel_rfl) (by simp) ?_
          refine AllReadyH.cons rfl (fun K hK => ?_) AllReadyH.nil
          try dsimp only at hHeld
          go_simp
          (go_at_call 34; refine (sameTexts_yes p4 p6 18 18 c4 c6 F _ (HALw.out.below hHeld.2.2.2.2.2.2 (Nat.le_refl _)) HP6.out (by omega)).mono ?_; rintro e w13 ⟨rfl, hbk⟩)
          refine hK.out _ _ ?_ (fun hHeld2 => ?_)
          · try dsimp only
            first | exact hHeld | exact ⟨HFF.out.1, HFF.out.2.1, HFF.out.2.2.1, HFF.out.2.2.2.1, HFF.out.2.2.2.2.1, HFF.out.2.2.2.2.2, HBR.out.drew⟩ | (refine ⟨?_, ?_, ?_, ?_, ?_, ?_, ?_⟩ <;> first | exact box_below hHeld.1 (by assumption) | exact box_below hHeld.2.1 (by assumption) | exact box_below hHeld.2.2.1 (by assumption) | exact box_below hHeld.2.2.2.1 (by assumption) | exact box_below hHeld.2.2.2.2.1 (by assumption) | exact box_below hHeld.2.2.2.2.2.1 (by assumption) | exact below_step1 hHeld.2.2.2.2.2.2 (by assumption))
          clear hK K hHeld
          have hHeld := hHeld2
          clear hHeld2
          refine wpH_take (i := 17) (v := ?_) rfl (by kernel_rfl) (by kernel_rfl) (by kernel_rfl) (fun _ _ _ h => h) (by rfl) ?_ (by assumption) ?_; rotate_left; (focus (intro w hSw; (try dsimp only at hSw); go_simp; try with_reducible rfl)); try simp only [Act.put, List.setIfInBounds_toArray, List.set_cons_zero, List.set_cons_succ]
          refine wpH_take (i := 18) (v := ?_) rfl (by kernel_rfl) (by kernel_rfl) (by kernel_rfl) (fun _ _ _ h => h) (by rfl) ?_ (by assumption) ?_; rotate_left; (focus (intro w hSw; (try dsimp only at hSw); go_simp; try with_reducible rfl)); try simp only [Act.put, List.setIfInBounds_toArray, List.set_cons_zero, List.set_cons_succ]
          refine wpH_take (i := 19) (v := ?_) rfl (by kernel_rfl) (by kernel_rfl) (by kernel_rfl) (fun _ _ _ h => h) (by rfl) ?_ (by assumption) ?_; rotate_left; (focus (intro w hSw; (try dsimp only at hSw); go_simp; try with_reducible rfl)); try simp only [Act.put, List.setIfInBounds_toArray, List.set_cons_zero, List.set_cons_succ]
          refine wpH_take (i := 20) (v := ?_) rfl (by kernel_rfl) (by kernel_rfl) (by kernel_rfl) (fun _ _ _ h => h) (by rfl) ?_ (by assumption) ?_; rotate_left; (focus (intro w hSw; (try dsimp only at hSw); go_simp; try with_reducible rfl)); try simp only [Act.put, List.setIfInBounds_toArray, List.set_cons_zero, List.set_cons_succ]
          refine wpH_take (i := 21) (v := ?_) rfl (by kernel_rfl) (by kernel_rfl) (by kernel_rfl) (fun _ _ _ h => h) (by rfl) ?_ (by assumption) ?_; rotate_left; (focus (intro w hSw; (try dsimp only at hSw); go_simp; try with_reducible rfl)); try simp only [Act.put, List.setIfInBounds_toArray, List.set_cons_zero, List.set_cons_succ]
          refine wpH_take (i := 22) (v := ?_) rfl (by kernel_rfl) (by kernel_rfl) (by kernel_rfl) (fun _ _ _ h => h) (by rfl) ?_ (by assumption) ?_; rotate_left; (focus (intro w hSw; (try dsimp only at hSw); go_simp; try with_reducible rfl)); try simp only [Act.put, List.setIfInBounds_toArray, List.set_cons_zero, List.set_cons_succ]
          refine wpAnyH_ready (rs := [23]) (by kernel_rfl) (by simp) ?_
          refine AllReadyH.cons rfl (fun K hK => ?_) AllReadyH.nil
          try dsimp only at hHeld
          go_simp
          (go_at_call 34; refine (sameTexts_yes p5 p 18 18 c5 c ss _ (HNOw.out.below hHeld.2.2.2.2.2.2 (Nat.le_refl _)) (H1w.out.below hHeld.2.2.2.2.2.2 (Nat.le_refl _)) (by omega)).mono ?_; rintro e w14 ⟨rfl, hbk⟩)
          refine hK.out _ _ ?_ (fun hHeld2 => ?_)
          · try dsimp only
            first | exact hHeld | exact ⟨HFF.out.1, HFF.out.2.1, HFF.out.2.2.1, HFF.out.2.2.2.1, HFF.out.2.2.2.2.1, HFF.out.2.2.2.2.2, HBR.out.drew⟩ | (refine ⟨?_, ?_, ?_, ?_, ?_, ?_, ?_⟩ <;> first | exact box_below hHeld.1 (by assumption) | exact box_below hHeld.2.1 (by assumption) | exact box_below hHeld.2.2.1 (by assumption) | exact box_below hHeld.2.2.2.1 (by assumption) | exact box_below hHeld.2.2.2.2.1 (by assumption) | exact box_below hHeld.2.2.2.2.2.1 (by assumption) | exact below_step1 hHeld.2.2.2.2.2.2 (by assumption))
          clear hK K hHeld
          have hHeld := hHeld2
          clear hHeld2
          refine wpH_take (i := 24) (v := ?_) rfl (by kernel_rfl) (by kernel_rfl) (by kernel_rfl) (fun _ _ _ h => h) (by rfl) ?_ (by assumption) ?_; rotate_left; (focus (intro w hSw; (try dsimp only at hSw); go_simp; try with_reducible rfl)); try simp only [Act.put, List.setIfInBounds_toArray, List.set_cons_zero, List.set_cons_succ]
          refine wpH_take (i := 25) (v := ?_) rfl (by kernel_rfl) (by kernel_rfl) (by kernel_rfl) (fun _ _ _ h => h) (by rfl) ?_ (by assumption) ?_; rotate_left; (focus (intro w hSw; (try dsimp only at hSw); go_simp; try with_reducible rfl)); try simp only [Act.put, List.setIfInBounds_toArray, List.set_cons_zero, List.set_cons_succ]
          refine wpH_take (i := 26) (v := ?_) rfl (by kernel_rfl) (by kernel_rfl) (by kernel_rfl) (fun _ _ _ h => h) (by rfl) ?_ (by assumption) ?_; rotate_left; (focus (intro w hSw; (try dsimp only at hSw); go_simp; try with_reducible rfl)); try simp only [Act.put, List.setIfInBounds_toArray, List.set_cons_zero, List.set_cons_succ]
          refine wpAnyH_ready (rs := [27]) (by kernel_rfl) (by simp) ?_
          refine AllReadyH.cons rfl (fun K hK => ?_) AllReadyH.nil
          try dsimp only at hHeld
          go_simp
          (go_at_call 25; refine (HDX.out _ (HXw.out.below hHeld.2.2.2.2.2.2 (Nat.le_refl _)) (HXQw.out.below hHeld.2.2.2.2.2.2 (Nat.le_refl _))).mono ?_; rintro e w15 ⟨rfl, hbk⟩)
          refine hK.out _ _ ?_ (fun hHeld2 => ?_)
          · try dsimp only
            first | exact hHeld | exact ⟨HFF.out.1, HFF.out.2.1, HFF.out.2.2.1, HFF.out.2.2.2.1, HFF.out.2.2.2.2.1, HFF.out.2.2.2.2.2, HBR.out.drew⟩ | (refine ⟨?_, ?_, ?_, ?_, ?_, ?_, ?_⟩ <;> first | exact box_below hHeld.1 (by assumption) | exact box_below hHeld.2.1 (by assumption) | exact box_below hHeld.2.2.1 (by assumption) | exact box_below hHeld.2.2.2.1 (by assumption) | exact box_below hHeld.2.2.2.2.1 (by assumption) | exact box_below hHeld.2.2.2.2.2.1 (by assumption) | exact below_step1 hHeld.2.2.2.2.2.2 (by assumption))
          clear hK K hHeld
          have hHeld := hHeld2
          clear hHeld2
          refine wpH_take (i := 28) (v := ?_) rfl (by kernel_rfl) (by kernel_rfl) (by kernel_rfl) (fun _ _ _ h => h) (by rfl) ?_ (by assumption) ?_; rotate_left; (focus (intro w hSw; (try dsimp only at hSw); go_simp; try with_reducible rfl)); try simp only [Act.put, List.setIfInBounds_toArray, List.set_cons_zero, List.set_cons_succ]
          refine wpH_take (i := 29) (v := ?_) rfl (by kernel_rfl) (by kernel_rfl) (by kernel_rfl) (fun _ _ _ h => h) (by rfl) ?_ (by assumption) ?_; rotate_left; (focus (intro w hSw; (try dsimp only at hSw); go_simp; try with_reducible rfl)); try simp only [Act.put, List.setIfInBounds_toArray, List.set_cons_zero, List.set_cons_succ]
          refine wpAnyH_done (by kernel_rfl) ?_ _
          try dsimp only at hHeld
          have HBE := Lib.hid (below_step1 HB7.out hHeld.2.2.2.2.2.2)
          clear hHeld
          go_wp2
          go_ret
          exact ⟨rfl, HBE.out⟩
end Go.Proofs.Ytbokgbbdjcpgbaa
