/- One text of VolH Lrb. (Printed by merge.py.) -/
import Derived.Test.YtlkfabkkjfmnmaaGreatDoorBlkM
import Derived.Test.YtlkfabkkjfmnmaaGreatDoorRbZ
namespace Go.Proofs.YtlkfabkkjfmnmaaGreatDoor
open Go.RowKit

set_option maxRecDepth 1000000 in
set_option maxHeartbeats 6000000 in
theorem heldEnts_any (a : Option Addr) (n cap : Nat) (k : Nat) (w : World) (h : Rd w a n cap 4 (ens (mke k n))) (hn : n ≤ 134217728) (hk0 : 0 < k) (hk1 : k ≤ 536870912) :
    Calls Tryz.prog 64 #[.slice a n cap, .int .i64 (k : Int)] w fun e' w' => e' = .returned (.int .i64 ((k + 4 * n : Nat) : Int)) ∧ Below w.heap.size w w' := by
  have H := Lib.hid h
  clear h
  go_enter Tryz.func64, Tryz.ntmps64
  go_wp2
  go_loopg [1, 5] n (fun gg m i wr => ∃ j : Nat, j + gg = n ∧ i = .int .i64 (j : Int) ∧ m = .int .i64 ((k : Int) + 4 * (j : Int)) ∧ Hid (Below w.heap.size w wr))
  case atStart => exact ⟨0, by omega, rfl, by simp, Lib.hid (Below.refl _ _)⟩
  case round =>
    obtain ⟨j, hj, rfl, rfl, hB⟩ := hrel
    by_cases hlt : j < n
    · obtain ⟨b, off, rfl, hbs, hc0, hc1, hc2, hc3⟩ := ens_cells (H.out.below hB.out (Nat.le_refl _)) j (by simpa using hlt)
      rw [mke_get k n j hlt] at hc0 hc1 hc2 hc3
      simp only at hc0 hc1 hc2 hc3
      rw [show ((k + 4 * j : Nat) : Int) = (k : Int) + 4 * (j : Int) from by omega] at hc0
      rw [show ((k + 4 * j + 1 : Nat) : Int) = (k : Int) + 4 * (j : Int) + 1 from by omega] at hc1
      rw [show ((k + 4 * j + 3 : Nat) : Int) = (k : Int) + 4 * (j : Int) + 1 + 1 + 1 from by omega] at hc3
      have HALL : Hid (∀ W, Below wr.heap.size wr W → (W.cell? ⟨b, off + j * 4 + 2, none⟩ = some (.string (mtF (k + 4 * j + 2))) ∧ W.cell? ⟨b, off + j * 4 + 3, none⟩ = some (.int .i64 ((k : Int) + 4 * (j : Int) + 1 + 1 + 1)) ∧ Below wr.heap.size wr W)) := Lib.hid (fun W hW => ⟨cellK hc2 hW, cellK hc3 hW, hW⟩)
      have hjn : (j : Int) < (n : Int) := by omega
      have hj0 : (0 : Int) ≤ (j : Int) := by omega
      have HM : Hid (∀ W, Calls Tryz.prog 33 #[.int .i64 ((k : Int) + 4 * (j : Int) + 1 + 1)] W fun e w' => e = .returned (.string (mtF (k + 4 * j + 2))) ∧ Below W.heap.size W w') := Lib.hid (fun W => by
        have := markText_any (k + 4 * j + 2) W (by omega) (by omega)
        rwa [show ((k + 4 * j + 2 : Nat) : Int) = (k : Int) + 4 * (j : Int) + 1 + 1 from by omega] at this)
      have hne0 : (((k : Int) + 4 * (j : Int)) != (k : Int) + 4 * (j : Int)) = false := by simp
      have hne1 : (((k : Int) + 4 * (j : Int) + 1) != (k : Int) + 4 * (j : Int) + 1) = false := by simp
      have hne3 : (((k : Int) + 4 * (j : Int) + 1 + 1 + 1) != (k : Int) + 4 * (j : Int) + 1 + 1 + 1) = false := by simp
      have hB0 := Below.refl wr.heap.size wr
      clear hc2 hc3
      generalize mtF (k + 4 * j + 2) = mt at *
      have hmm : (mt.toList == mt.toList) = true := by simp
      go_wp2
      go_region_held3 (fun W => W.cell? ⟨b, off + j * 4 + 2, none⟩ = some (.string mt) ∧ W.cell? ⟨b, off + j * 4 + 3, none⟩ = some (.int .i64 ((k : Int) + 4 * (j : Int) + 1 + 1 + 1)) ∧ Below wr.heap.size wr W)
        ((go_split_ands; first | exact HALL.out _ (by assumption) | exact HALL.out _ (Below.drew (by assumption)) | exact HALL.out _ (below_step1 (by assumption) (by assumption))))
        (first | (go_at_call 33; refine (HM.out _).mono ?_; rintro e w' ⟨rfl, hbk⟩))
      go_split_ands
      rename_i hq2 hq3 hB9
      go_wp2
      go_roundg (gk - 1)
      case measure => omega
      case rel => exact ⟨j + 1, by omega, by go_num, by go_num, Lib.hid (hB.out.trans (hB9.mono hB.out.size))⟩
    · have hjn : j = n := by omega
      subst hjn
      go_wp2
      go_ret
      exact ⟨by go_num, hB.out⟩
theorem mkP_at (k : Nat) (m : List InoP) (j : Nat) (h : j < m.length) : (mkP k m)[j]'(by rw [mkP_length]; exact h) = ⟨mk1 (mkE k (m.take j)) m[j].x, m[j].ad, m[j].cap⟩ := by
  have e : mkP k m = mkP k (m.take j) ++ mkP (mkE k (m.take j)) (m.drop j) := by rw [← mkP_append, List.take_append_drop]
  have e2 : mkP (mkE k (m.take j)) (m.drop j) = ⟨mk1 (mkE k (m.take j)) m[j].x, m[j].ad, m[j].cap⟩ :: mkP (mkN (mkE k (m.take j)) m[j].x.ents.length) (m.drop (j + 1)) := by rw [List.drop_eq_getElem_cons h]; rfl
  have hl : (mkP k (m.take j)).length = j := by rw [mkP_length, List.length_take]; omega
  simp only [e, e2]
  rw [List.getElem_append_right (by omega)]
  simp [hl]
set_option maxRecDepth 1000000 in
set_option maxHeartbeats 6000000 in
theorem heldInodes_any (a : Option Addr) (n cap : Nat) (m : List InoP) (k : Nat) (w : World) (hr : Rd w a n cap 5 (ins (mkP k m))) (hsub : ∀ y ∈ mkP k m, Rd w y.ad y.x.ents.length y.cap 4 (ens y.x.ents)) (hml : m.length = n) (hk0 : 0 < k) (hk1 : mkE k m ≤ 536870912) :
    Calls Tryz.prog 35 #[.slice a n cap, .int .i64 (k : Int)] w fun e' w' => e' = .returned (.int .i64 ((mkE k m : Nat) : Int)) ∧ Below w.heap.size w w' := by
  subst hml
  have hmt := mkE_tot m k
  have HML := Lib.hid hmt
  have hmx : m.length ≤ 536870912 := by omega
  have HR := Lib.hid hr
  have HSUB := Lib.hid hsub
  clear hmt hr hsub
  go_enter Tryz.func35, Tryz.ntmps35
  go_wp2
  go_loopg [1, 5] m.length (fun gg q i wr => ∃ j : Nat, j + gg = m.length ∧ i = .int .i64 (j : Int) ∧ q = .int .i64 ((mkE k (m.take j) : Nat) : Int) ∧ Hid (Below w.heap.size w wr))
  case atStart => exact ⟨0, by omega, rfl, rfl, Lib.hid (Below.refl _ _)⟩
  case round =>
    obtain ⟨j, hj, rfl, rfl, HB⟩ := hrel
    by_cases hlt : j < m.length
    · have hjn : (j : Int) < (m.length : Int) := by omega
      have hj0 : (0 : Int) ≤ (j : Int) := by omega
      have hEL := mkE_le m k (j + 1)
      have hET := mkE_take m k j hlt
      have hKG := mkE_ge (m.take j) k
      have HE : Hid (((mkE k (m.take (j + 1)) : Nat) : Int) = ((mkE k (m.take j) + 4 + 4 * m[j].x.ents.length : Nat) : Int)) := Lib.hid (by rw [hET])
      obtain ⟨b, off, rfl, hbs, hc⟩ := (HR.out.below HB.out (Nat.le_refl _)).at' (by omega)
      have hg : ∀ i (hi : i < 5), wr.cell? ⟨b, off + (j * 5 + i), none⟩ = some ((in1 ⟨mk1 (mkE k (m.take j)) m[j].x, m[j].ad, m[j].cap⟩)[i]'(by rw [in1_len]; exact hi)) := fun i hi => by
        have h1 := hc (j * 5 + i) (by simp; omega)
        rw [ins_get (mkP k m) j (by rw [mkP_length]; exact hlt) i hi] at h1
        simp only [mkP_at k m j hlt] at h1
        exact h1
      have hsj : Rd w m[j].ad m[j].x.ents.length m[j].cap 4 (ens (mke (mkE k (m.take j) + 4) m[j].x.ents.length)) := by
        have h1 := HSUB.out ((mkP k m)[j]'(by rw [mkP_length]; exact hlt)) (List.getElem_mem _)
        rw [mkP_at k m j hlt] at h1
        simpa [mk1] using h1
      have HSJ := Lib.hid hsj
      have c0 : wr.cell? ⟨b, off + j * 5, none⟩ = some (.int .i64 ((mkE k (m.take j) : Nat) : Int)) := by have := hg 0 (by omega); simpa [in1, mk1] using this
      have c1 : wr.cell? ⟨b, off + j * 5 + 1, none⟩ = some (.int .i64 (((mkE k (m.take j) : Nat) : Int) + 1)) := by have := hg 1 (by omega); simpa [in1, mk1, Nat.add_assoc] using this
      have c2 : wr.cell? ⟨b, off + j * 5 + 2, none⟩ = some (.int .i64 (((mkE k (m.take j) : Nat) : Int) + 1 + 1)) := by have := hg 2 (by omega); simpa [in1, mk1, Nat.add_assoc, Int.add_assoc] using this
      have c3 : wr.cell? ⟨b, off + j * 5 + 3, none⟩ = some (.string (mtF (mkE k (m.take j) + 3))) := by have := hg 3 (by omega); simpa [in1, mk1, Nat.add_assoc] using this
      have c4 : wr.cell? ⟨b, off + j * 5 + 4, none⟩ = some (.slice m[j].ad m[j].x.ents.length m[j].cap) := by have := hg 4 (by omega); simpa [in1, mk1, Nat.add_assoc] using this
      clear hc hg hsj
      obtain ⟨q2, hq2e⟩ : ∃ x, mkE k (m.take (j + 1)) = x := ⟨_, rfl⟩
      rw [hq2e] at hEL hET HE
      have HQ2 := Lib.hid hq2e
      clear hq2e
      generalize mkE k (m.take j) = q at *
      generalize m[j].ad = ad at *
      generalize m[j].cap = cj at *
      generalize m[j].x.ents.length = ne at *
      have HALL : Hid (∀ W, Below wr.heap.size wr W → (W.cell? ⟨b, off + j * 5 + 3, none⟩ = some (.string (mtF (q + 3))) ∧ W.cell? ⟨b, off + j * 5 + 4, none⟩ = some (.slice ad ne cj) ∧ Below wr.heap.size wr W)) := Lib.hid (fun W hW => ⟨cellK c3 hW, cellK c4 hW, hW⟩)
      have HM : Hid (∀ W, Calls Tryz.prog 33 #[.int .i64 ((q : Int) + 1 + 1 + 1)] W fun e w' => e = .returned (.string (mtF (q + 3))) ∧ Below W.heap.size W w') := Lib.hid (fun W => by
        have := markText_any (q + 3) W (by omega) (by omega)
        rwa [show ((q + 3 : Nat) : Int) = (q : Int) + 1 + 1 + 1 from by omega] at this)
      have HH : Hid (∀ W, Below wr.heap.size wr W → Calls Tryz.prog 64 #[.slice ad ne cj, .int .i64 ((q : Int) + 1 + 1 + 1 + 1)] W fun e w' => e = .returned (.int .i64 (q2 : Int)) ∧ Below W.heap.size W w') := Lib.hid (fun W hW => by
        have h1 := heldEnts_any ad ne cj (q + 4) W (HSJ.out.below (HB.out.trans (hW.mono HB.out.size)) (Nat.le_refl _)) (by omega) (by omega) (by omega)
        rw [show ((q + 4 : Nat) : Int) = (q : Int) + 1 + 1 + 1 + 1 from by omega] at h1
        rw [HE.out]
        exact h1)
      have hq0 : ¬ (q2 : Int) < 0 := by omega
      have hB0 := Below.refl wr.heap.size wr
      have hqb : q ≤ 536870912 := by omega
      clear HE HSJ hET
      generalize mtF (q + 3) = mt at *
      have hmm : (mt.toList == mt.toList) = true := by simp
      go_wp2
      go_region_held3 (fun W => W.cell? ⟨b, off + j * 5 + 3, none⟩ = some (.string mt) ∧ W.cell? ⟨b, off + j * 5 + 4, none⟩ = some (.slice ad ne cj) ∧ Below wr.heap.size wr W)
        ((go_split_ands; first | exact HALL.out _ (by assumption) | exact HALL.out _ (Below.drew (by assumption)) | exact HALL.out _ (below_step1 (by assumption) (by assumption))))
        (first | (go_at_call 33; refine (HM.out _).mono ?_; rintro e w' ⟨rfl, hbk⟩))
      go_split_ands
      rename_i hq2 hq3 hB9
      go_wp2_with fail
      refine (HH.out _ hB9).mono ?_
      rintro e w8 ⟨rfl, hb8⟩
      have HB8 := Lib.hid ((HB.out.trans (hB9.mono HB.out.size)).trans (hb8.mono (HB.out.trans (hB9.mono HB.out.size)).size))
      clear hb8
      go_wp2
      go_roundg (gk - 1)
      case measure => omega
      case rel => exact ⟨j + 1, by omega, by go_num, (by rw [HQ2.out]), HB8⟩
    · have hjn : j = m.length := by omega
      subst hjn
      rw [List.take_length]
      go_wp2
      go_ret
      exact ⟨by go_num, HB.out⟩
set_option maxRecDepth 1000000 in
set_option maxHeartbeats 6000000 in
theorem heldVol_any (next : Int) (a : Option Addr) (n cap : Nat) (m : List InoP) (k : Nat) (w : World) (hr : Rd w a n cap 5 (ins (mkP k m))) (hsub : ∀ y ∈ mkP k m, Rd w y.ad y.x.ents.length y.cap 4 (ens y.x.ents)) (hml : m.length = n) (hk0 : 0 < k) (hk1 : mkE k m ≤ 536870912) :
    Calls Tryz.prog 13 #[.agg #[.int .i64 next, .slice a n cap], .int .i64 (k : Int)] w fun e' w' => e' = .returned (.int .i64 ((mkE k m : Nat) : Int)) ∧ Below w.heap.size w w' := by
  have HBX := Lib.hid (boxA w (.cells #[.int .i64 next, .slice a n cap] 26))
  have HH : Hid (∀ W, Below w.heap.size w W → Calls Tryz.prog 35 #[.slice a n cap, .int .i64 (k : Int)] W fun e w' => e = .returned (.int .i64 ((mkE k m : Nat) : Int)) ∧ Below W.heap.size W w') := Lib.hid (fun W hW => heldInodes_any a n cap m k W (hr.below hW (Nat.le_refl _)) (fun y hy => (hsub y hy).below hW (Nat.le_refl _)) hml hk0 hk1)
  have hq0 : ¬ ((mkE k m : Nat) : Int) < 0 := by omega
  clear hr hsub
  go_enter Tryz.func13, Tryz.ntmps13
  go_wp2_with fail
  refine (HH.out _ HBX.out).mono ?_
  rintro e w1 ⟨rfl, hb⟩
  have HB1 := Lib.hid (HBX.out.trans (hb.mono HBX.out.size))
  clear hb
  go_wp2
  go_ret
  exact ⟨rfl, HB1.out⟩
theorem readV_small (t : List ByteArray) : (readV t).2.1.length ≤ 16 ∧ (∀ x ∈ (readV t).2.1, x.ents.length ≤ 12) ∧ totE (readV t).2.1 ≤ 192 := by
  have h : (readV t).2.1.length ≤ 16 ∧ (∀ x ∈ (readV t).2.1, x.ents.length ≤ 12) := by
    cases e : (readV t).2.2 with
    | false =>
      rw [readV_no t e]
      simp
    | true =>
      obtain ⟨h1, -⟩ := (readV_iff t (readV t).1 (readV t).2.1).1 (by rw [← e])
      obtain ⟨-, h2, h3⟩ := volB_parts h1
      refine ⟨h2.2, fun x hx => ?_⟩
      obtain ⟨k, hk, rfl⟩ := List.mem_iff_getElem.1 hx
      exact (inoB_ents (h3 k hk).2).2.1
  exact ⟨h.1, h.2, links_small h.1 h.2⟩
set_option maxRecDepth 1000000 in
set_option maxHeartbeats 6000000 in
theorem lawReadBlocks_walk (a : Option Addr) (n c : Nat) (t : List ByteArray) (w : World) (hs : ∀ s ∈ t, s.size ≤ maxLen) (h : Rd w a n c 1 (strs t)) (hT : KTab w) :
    Calls Tryz.prog 3 #[.slice a n c] w fun e w' => e = .returned (.bool true) ∧ Below w.heap.size w w' := by
  have hl : t.length = n := by have := h.len; simpa using this
  have HI : Hid (∀ p q W, Rd W p n q 1 (strs t) → (∀ s ∈ t, s.size ≤ 1048576) → KTab W → Calls Tryz.prog 8 #[.slice p n q] W (RbPost t W)) := Lib.hid (fun p q W h hs hT => implReadBlocks_any p n q t W h hs hT)
  have HS : Hid (∀ p q W, Rd W p n q 1 (strs t) → (∀ s ∈ t, s.size ≤ 1048576) → KTab W → Calls Tryz.prog 6 #[.slice p n q] W (RbPost t W)) := Lib.hid (fun p q W h hs hT => specReadBlocks_any p n q t W h hs hT)
  have HT := Lib.hid hT
  have HR : Hid (∀ W, Below w.heap.size w W → Rd W a n c 1 (strs t)) := Lib.hid (fun W hW => h.below hW (Nat.le_refl _))
  have HL := Lib.hid hl
  have HSM := Lib.hid (readV_small t)
  have HK : Hid (∀ W, Below w.heap.size w W → KTab W) := Lib.hid (fun W hW => hT.below hW (Nat.le_refl _))
  have hm := Nat.le_trans h.le h.max
  unfold maxLen at hm
  have HSZ := Lib.hid hs
  have H0 := Lib.hid h
  clear hl h hs hT
  go_enter Tryz.func3, Tryz.ntmps3
  go_wp2_with fail
  refine (szStrs_any _ _ _ t 1048576 _ H0.out HSZ.out (by omega) (by omega)).mono ?_
  rintro e w' ⟨x, rfl, hx, hok, rfl⟩
  by_cases hx0 : x < 0
  · clear hok
    go_wp2
    go_ret
    exact ⟨rfl, Below.refl _ _⟩
  obtain ⟨hn1, hs1⟩ := hok.2 (by omega)
  have hn : n ≤ 1048576 := by have := HL.out; omega
  have HS1 : Hid (∀ s ∈ t, s.size ≤ 1048576) := Lib.hid (fun s hh => by have := hs1 s hh; omega)
  clear hok hn1 hs1 HSZ
  go_wp2_with fail
  refine (toStrs_any _ _ _ t _ H0.out hn).mono ?_
  rintro e w1 ⟨g1, q1, rfl, hO⟩
  have HC1 := Lib.hid hO.below
  have H1 := Lib.hid hO.rd
  clear hO
  go_wp2_with fail
  refine (HS.out _ _ _ H1.out HS1.out (HK.out _ HC1.out)).mono ?_
  rintro e w2 ⟨p0, k0, m0, rfl, hm0, hO⟩
  have hl0 : m0.length = (readV t).2.1.length := by rw [← hm0, List.length_map]
  have HW0 : Hid (VolRd w2 p0 (readV t).2.1.length k0 (readV t).2.1) := Lib.hid (by have := hO.rd; rw [hm0, hl0] at this; exact this)
  rw [hl0]
  have HC2 := Lib.hid (HC1.out.trans (hO.below.mono HC1.out.size))
  have HC2S := Lib.hid HC2.out.size
  clear hO hm0 hl0 HC1 H1
  have HRP : Hid (∀ W e W', RbPost t W e W' → ∃ (ad : Option Addr) (q : Nat) (m : List InoP), e = .returned (.tuple #[.agg #[.int .i64 (readV t).1, .slice ad (readV t).2.1.length q], .bool (readV t).2.2]) ∧ m.map (·.x) = (readV t).2.1 ∧ m.length = (readV t).2.1.length ∧ VolOwn W.heap.size W ad q m W') := Lib.hid (fun W e W' h => by
    obtain ⟨ad, q, m, he, hm, hO⟩ := h
    have hl : m.length = (readV t).2.1.length := by rw [← hm, List.length_map]
    refine ⟨ad, q, m, ?_, hm, hl, hO⟩
    rw [he, hl])
  generalize (readV t).1 = nx at *
  generalize (readV t).2.1 = L at *
  generalize (readV t).2.2 = ok at *
  have HB3 := Lib.hid (HC2.out.alloc HC2.out.size (.cells #[.int .i64 nx, .slice p0 L.length k0] 26))
  obtain ⟨c0, c1⟩ := box2 w2 26 (.int .i64 nx) (.slice p0 L.length k0)
  have HW3 := Lib.hid (HW0.out.step (boxA w2 (.cells #[.int .i64 nx, .slice p0 L.length k0] 26)))
  have hz3 : w2.heap.size < (w2.alloc (.cells #[.int .i64 nx, .slice p0 L.length k0] 26)).heap.size := by simp
  have HWZ := HW0
  clear HW0 HC2
  have HT3 := Lib.hid (show Below w2.heap.size w2 (w2.alloc (.cells #[.int .i64 nx, .slice p0 L.length k0] 26)) from boxA w2 _)
  have HWT : Hid (∀ W, Below w2.heap.size w2 W → VolRd W p0 L.length k0 L) := Lib.hid (fun W hW => HWZ.out.step hW)
  clear HWZ
  go_wp2_with fail
  generalize w2.alloc (.cells #[.int .i64 nx, .slice p0 L.length k0] 26) = w3 at *
  generalize w2.heap.size = T at *
  refine (toStrs_any _ _ _ t _ (HR.out _ HB3.out) hn).mono ?_
  rintro e w4 ⟨g2, q2, rfl, hO⟩
  replace c0 := cellK c0 hO.below
  replace c1 := cellK c1 hO.below
  have HB4 := Lib.hid (HB3.out.trans (hO.below.mono HB3.out.size))
  have HW4 := Lib.hid (HW3.out.step hO.below)
  have HT4 := Lib.hid (HT3.out.trans (hO.below.mono (by omega)))
  have HX4 := Lib.hid hO
  have hz4 : T < w4.heap.size := World.block_lt_of_cell? w4 _ c0
  have hx4 : w3.heap.size ≤ g2 := (hO.blk g2 rfl).1
  have hTg : T < g2 := by omega
  clear hO HB3 HW3 hz3 HT3
  go_wp2_with fail
  refine (HI.out _ _ _ HX4.out.rd HS1.out (HK.out _ HB4.out)).mono ?_
  intro e w5 hP
  obtain ⟨p1, k1, m1, rfl, hm1, hl1, hO⟩ := HRP.out _ _ _ hP
  replace c0 := cellK c0 hO.below
  replace c1 := cellK c1 hO.below
  have HB5 := Lib.hid (HB4.out.trans (hO.below.mono HB4.out.size))
  have HW5 := Lib.hid (HW4.out.step hO.below)
  have HT5 := Lib.hid (HT4.out.trans (hO.below.mono (by omega)))
  have HX5 := Lib.hid (HX4.out.kept hO.below)
  have HG5 := Lib.hid hO
  have HM := Lib.hid (And.intro hm1 hl1)
  have HX4S := Lib.hid (HX4.out.blk g2 rfl).2
  have hgS : g2 < w5.heap.size := by have h1 := (HX4.out.blk g2 rfl).2; have h2 := hO.below.size; omega
  clear hP hO hm1 hl1 HB4 HW4 HX4 HT4
  have HSB : Hid (∀ q, VolBl p1 k1 m1 q → w4.heap.size ≤ q ∧ q < w5.heap.size) := Lib.hid (fun q hq => HG5.out.bl q hq)
  have HXR : Hid (∀ B W0 W, VolOwn B W0 p1 k1 m1 W → VolRd W p1 L.length k1 L) := Lib.hid (fun B W0 W h => by have := h.rd; rw [HM.out.1, HM.out.2] at this; exact this)
  have hb6 := boxA w5 (.cells #[.int .i64 nx, .slice p1 L.length k1] 26)
  obtain ⟨d0, d1⟩ := box2 w5 26 (.int .i64 nx) (.slice p1 L.length k1)
  replace c0 := cellK c0 hb6
  replace c1 := cellK c1 hb6
  have HB6 := Lib.hid (HB5.out.trans (hb6.mono HB5.out.size))
  have HW6 := Lib.hid (HW5.out.step hb6)
  have HT6 := Lib.hid (HT5.out.trans (hb6.mono (by omega)))
  have HX6 := Lib.hid (HX5.out.kept hb6)
  have HG6 := Lib.hid (HG5.out.kept hb6)
  have hz6 : w5.heap.size < (w5.alloc (.cells #[.int .i64 nx, .slice p1 L.length k1] 26)).heap.size := by simp
  have hT6 : T < w5.heap.size := by omega
  have HLB := Lib.hid HSM.out
  have hok : (ok != ok) = false := by cases ok <;> rfl
  clear hb6 HB5 HW5 HX5 HG5 HT5
  go_wp2_with fail
  generalize w5.alloc (.cells #[.int .i64 nx, .slice p1 L.length k1] 26) = w6 at *
  generalize w5.heap.size = S at *
  refine (eqVol_yes nx _ _ _ _ _ _ L _ (HXR.out _ _ _ HG6.out) HW6.out (by have := HLB.out.1; omega) (fun x hx => by have := HLB.out.2.1 x hx; omega)).mono ?_
  rintro e w7 ⟨rfl, hb⟩
  have HCT6 := c0
  replace c0 := cellK c0 hb
  replace c1 := cellK c1 hb
  replace d0 := cellK d0 hb
  replace d1 := cellK d1 hb
  have HB7 := Lib.hid (HB6.out.trans (hb.mono HB6.out.size))
  have HW7 := Lib.hid (HW6.out.step hb)
  have HT7 := Lib.hid (HT6.out.trans (hb.mono (Nat.le_of_lt (World.block_lt_of_cell? w6 _ HCT6))))
  have HX7 := Lib.hid (HX6.out.kept hb)
  have HG7 := Lib.hid (HG6.out.kept hb)
  have hT7 : T < w7.heap.size := World.block_lt_of_cell? w7 _ c0
  have hS7 : S < w7.heap.size := World.block_lt_of_cell? w7 _ d0
  clear hb HB6 HW6 HX6 HG6 hz4 hz6
  go_wp2_with fail
  refine (toStrs_any _ _ _ t _ (HR.out _ HB7.out) hn).mono ?_
  rintro e w8 ⟨g3, q3, rfl, hO⟩
  have hb := hO.below
  have HCT7 := c0
  replace c0 := cellK c0 hb
  replace c1 := cellK c1 hb
  replace d0 := cellK d0 hb
  replace d1 := cellK d1 hb
  have HB8 := Lib.hid (HB7.out.trans (hb.mono HB7.out.size))
  have HW8 := Lib.hid (HW7.out.step hb)
  have HT8 := Lib.hid (HT7.out.trans (hb.mono (Nat.le_of_lt (World.block_lt_of_cell? w7 _ HCT7))))
  have HX8 := Lib.hid (HX7.out.kept hb)
  have HG8 := Lib.hid (HG7.out.kept hb)
  have H3 := Lib.hid hO.rd
  clear hb hO HB7 HW7 HX7 HG7
  go_wp2_with fail
  refine (eqStrs_yes _ _ _ _ _ _ t _ HX8.out.rd H3.out (by omega)).mono ?_
  rintro e w9 ⟨rfl, hb⟩
  have HCT8 := c0
  replace c0 := cellK c0 hb
  replace c1 := cellK c1 hb
  replace d0 := cellK d0 hb
  replace d1 := cellK d1 hb
  have HB9 := Lib.hid (HB8.out.trans (hb.mono HB8.out.size))
  have HW9 := Lib.hid (HW8.out.step hb)
  have HT9 := Lib.hid (HT8.out.trans (hb.mono (Nat.le_of_lt (World.block_lt_of_cell? w8 _ HCT8))))
  have HX9 := Lib.hid (HX8.out.kept hb)
  have HG9 := Lib.hid (HG8.out.kept hb)
  have hT9 : T < w9.heap.size := World.block_lt_of_cell? w9 _ c0
  have hS9 : S < w9.heap.size := World.block_lt_of_cell? w9 _ d0
  clear hb H3 HB8 HW8 HX8 HG8 hT7 hS7
  go_wp2_with fail
  refine (markStrs_any 9 _ _ _ n _ t 1 _ HX9.out (by omega) (by omega) (by omega)).mono ?_
  rintro e w10 ⟨rfl, -, hg⟩
  have hg : w9.grownBy w10 (some g2) := hg
  replace c0 := cellq_grown c0 hg (fun e => by have := Option.some.inj e; omega)
  replace c1 := cellq_grown c1 hg (fun e => by have := Option.some.inj e; omega)
  replace d0 := cellq_grown d0 hg (fun e => by have := Option.some.inj e; omega)
  replace d1 := cellq_grown d1 hg (fun e => by have := Option.some.inj e; omega)
  have hwT : w.heap.size ≤ g2 := by have := HB9.out.size; have := HC2S.out; omega
  have HB10 := Lib.hid (HB9.out.grown hg HB9.out.size (fun q hq => by cases hq; exact hwT))
  have HT10 := Lib.hid (HT9.out.grown hg (Nat.le_of_lt hT9) (fun q hq => by cases hq; omega))
  have HG10 := Lib.hid (HG9.out.low hg (fun q hq e => by have h1 := (HG9.out.bl q hq).1; have h2 := Option.some.inj e; have h3 := HX4S.out; omega))
  have hT10 : T < w10.heap.size := World.block_lt_of_cell? w10 _ c0
  have hS10 : S < w10.heap.size := World.block_lt_of_cell? w10 _ d0
  have hk1 : ¬ (1 + (n : Int)) < 0 := by omega
  clear hg HB9 HT9 HG9 HW9 HX9 hT9 hS9
  go_wp2_with fail
  refine (eqVol_yes nx _ _ _ _ _ _ L _ (HXR.out _ _ _ HG10.out) (HWT.out _ HT10.out) (by have := HLB.out.1; omega) (fun x hx => by have := HLB.out.2.1 x hx; omega)).mono ?_
  rintro e w11 ⟨rfl, hb⟩
  have HCT10 := c0
  replace c0 := cellK c0 hb
  replace c1 := cellK c1 hb
  replace d0 := cellK d0 hb
  replace d1 := cellK d1 hb
  have HB11 := Lib.hid (HB10.out.trans (hb.mono HB10.out.size))
  have HT11 := Lib.hid (HT10.out.trans (hb.mono (Nat.le_of_lt hT10)))
  have HG11 := Lib.hid (HG10.out.kept hb)
  clear hb HB10 HT10 HG10 HCT10
  have hT11 : T < w11.heap.size := World.block_lt_of_cell? w11 _ c0
  have hS11 : S < w11.heap.size := World.block_lt_of_cell? w11 _ d0
  have hmk : mkE 1 m1 ≤ 536870912 := by
    have h1 := mkE_tot m1 1
    rw [HM.out.1, HM.out.2] at h1
    have := HLB.out
    omega
  go_wp2_with fail
  refine (markVol_any nx _ _ p1 L.length k1 m1 1 _ HG11.out HM.out.2 (by omega) hmk).mono ?_
  rintro e w12 ⟨rfl, hV, ht⟩
  have nT : ¬ VolBl p1 k1 m1 T := fun hq => by have h1 := (HSB.out _ hq).1; have h2 := HX4S.out; omega
  have nS : ¬ VolBl p1 k1 m1 S := fun hq => by have h1 := (HSB.out _ hq).2; omega
  replace c0 := (World.cell?_of_block (a := ⟨T, 0, none⟩) (ht.block T hT11 nT)).trans c0
  replace c1 := (World.cell?_of_block (a := ⟨T, 1, none⟩) (ht.block T hT11 nT)).trans c1
  replace d0 := (World.cell?_of_block (a := ⟨S, 0, none⟩) (ht.block S hS11 nS)).trans d0
  replace d1 := (World.cell?_of_block (a := ⟨S, 1, none⟩) (ht.block S hS11 nS)).trans d1
  have HB12 := Lib.hid (HB11.out.trans (ht.below (B := w.heap.size) (fun q hq => by have h1 := (HSB.out _ hq).1; have h2 := HX4S.out; omega) HB11.out.size))
  have HT12 := Lib.hid (HT11.out.trans (ht.below (B := T) (fun q hq => by have h1 := (HSB.out _ hq).1; have h2 := HX4S.out; omega) (Nat.le_of_lt hT11)))
  have hT12 : T < w12.heap.size := World.block_lt_of_cell? w12 _ c0
  have hS12 : S < w12.heap.size := World.block_lt_of_cell? w12 _ d0
  have HHV : Hid (∀ W, Below w12.heap.size w12 W → Calls Tryz.prog 13 #[.agg #[.int .i64 nx, .slice p1 L.length k1], .int .i64 1] W fun e w' => e = .returned (.int .i64 ((mkE 1 m1 : Nat) : Int)) ∧ Below W.heap.size W w') := Lib.hid (fun W hW => by
    have hv := hV.kept hW
    have h1 := hv.top.rd
    rw [mkP_length, HM.out.2] at h1
    exact heldVol_any nx p1 L.length k1 m1 1 W h1 (fun y hy => (hv.sub y hy).rd) HM.out.2 (by omega) hmk)
  have hE0 : ¬ ((mkE 1 m1 : Nat) : Int) < 0 := by omega
  have hEE : (((mkE 1 m1 : Nat) : Int) != ((mkE 1 m1 : Nat) : Int)) = false := by simp
  generalize mkE 1 m1 = E at *
  clear hV ht HB11 HT11 HG11 hT11 hS11 nT nS hT10 hS10
  go_wp2_with fail
  refine (HHV.out _ (Below.refl _ _)).mono ?_
  rintro e w13 ⟨rfl, hb⟩
  have HCT12 := c0
  replace c0 := cellK c0 hb
  replace c1 := cellK c1 hb
  replace d0 := cellK d0 hb
  replace d1 := cellK d1 hb
  have HB13 := Lib.hid (HB12.out.trans (hb.mono HB12.out.size))
  have HT13 := Lib.hid (HT12.out.trans (hb.mono (Nat.le_of_lt (World.block_lt_of_cell? w12 _ HCT12))))
  have HV13 := Lib.hid hb
  clear hb HCT12 HB12 HT12 hT12 hS12
  go_wp2_with fail
  refine (toStrs_any _ _ _ t _ (HR.out _ HB13.out) hn).mono ?_
  rintro e w14 ⟨g4, q4, rfl, hO⟩
  have hb := hO.below
  have HCT13 := c0
  replace c0 := cellK c0 hb
  replace c1 := cellK c1 hb
  replace d0 := cellK d0 hb
  replace d1 := cellK d1 hb
  have HB14 := Lib.hid (HB13.out.trans (hb.mono HB13.out.size))
  have HT14 := Lib.hid (HT13.out.trans (hb.mono (Nat.le_of_lt (World.block_lt_of_cell? w13 _ HCT13))))
  have HV14 := Lib.hid (HV13.out.trans (hb.mono HV13.out.size))
  have HX14 := Lib.hid hO.rd
  clear hO hb HCT13 HB13 HT13 HV13
  go_wp2_with fail
  refine (HI.out _ _ _ HX14.out HS1.out (HK.out _ HB14.out)).mono ?_
  intro e w15 hP
  obtain ⟨p5, k5, m5, rfl, hm5, hl5, hO⟩ := HRP.out _ _ _ hP
  have hb := hO.below
  have HCT14 := c0
  replace c0 := cellK c0 hb
  replace c1 := cellK c1 hb
  replace d0 := cellK d0 hb
  replace d1 := cellK d1 hb
  have HB15 := Lib.hid (HB14.out.trans (hb.mono HB14.out.size))
  have HT15 := Lib.hid (HT14.out.trans (hb.mono (Nat.le_of_lt (World.block_lt_of_cell? w14 _ HCT14))))
  have HV15 := Lib.hid (HV14.out.trans (hb.mono HV14.out.size))
  have HH15 : Hid (VolRd w15 p5 L.length k5 L) := Lib.hid (by have := hO.rd; rw [hm5, hl5] at this; exact this)
  clear hO hb hP hm5 hl5 HCT14 HB14 HT14 HV14 HX14
  have hb := boxA w15 (.cells #[.int .i64 nx, .slice p5 L.length k5] 26)
  obtain ⟨f0, f1⟩ := box2 w15 26 (.int .i64 nx) (.slice p5 L.length k5)
  have HCT15 := c0
  replace c0 := cellK c0 hb
  replace c1 := cellK c1 hb
  replace d0 := cellK d0 hb
  replace d1 := cellK d1 hb
  have HB16 := Lib.hid (HB15.out.trans (hb.mono HB15.out.size))
  have HT16 := Lib.hid (HT15.out.trans (hb.mono (Nat.le_of_lt (World.block_lt_of_cell? w15 _ HCT15))))
  have HV16 := Lib.hid (HV15.out.trans (hb.mono HV15.out.size))
  have HH16 := Lib.hid (HH15.out.step hb)
  clear hb HCT15 HB15 HT15 HV15 HH15
  go_wp2_with fail
  generalize w15.alloc (.cells #[.int .i64 nx, .slice p5 L.length k5] 26) = w16 at *
  refine (eqVol_yes nx _ _ _ _ _ _ L _ HH16.out (HWT.out _ HT16.out) (by have := HLB.out.1; omega) (fun x hx => by have := HLB.out.2.1 x hx; omega)).mono ?_
  rintro e w17 ⟨rfl, hb⟩
  have HCT16 := c0
  replace c0 := cellK c0 hb
  replace c1 := cellK c1 hb
  replace d0 := cellK d0 hb
  replace d1 := cellK d1 hb
  have HB17 := Lib.hid (HB16.out.trans (hb.mono HB16.out.size))
  have HT17 := Lib.hid (HT16.out.trans (hb.mono (Nat.le_of_lt (World.block_lt_of_cell? w16 _ HCT16))))
  have HV17 := Lib.hid (HV16.out.trans (hb.mono HV16.out.size))
  clear hb HCT16 HB16 HT16 HV16 HH16
  go_wp2_with fail
  refine (HHV.out _ HV17.out).mono ?_
  rintro e w18 ⟨rfl, hb⟩
  have HB18 := Lib.hid (HB17.out.trans (hb.mono HB17.out.size))
  clear hb
  go_wp2
  go_ret
  exact ⟨rfl, HB18.out⟩
end Go.Proofs.YtlkfabkkjfmnmaaGreatDoor
