/- Taken apart once more nothing changes; no sign that is left has parts; marks stand in order: the law, walked. -/
import Derived.Test.YtiakfclfipiaoaaApartS
import Derived.Test.YtiakfclfipiaoaaCur3
import Derived.Test.YtiakfclfipiaoaaAt
import Derived.Test.YtiakfclfipiaoaaPartsT
import Derived.Deep.DeepCutAuto
namespace Go.Proofs.Ytiakfclfipiaoaa
open Go.RowKit

theorem below_step {B : Nat} {w0 w w' : World} (h : Below B w0 w) (hB : B ≤ w.heap.size) (hb : Below w.heap.size w w') : Below B w0 w' := h.trans (hb.mono hB)
theorem below_stepS {w0 w w' : World} (h : Below w0.heap.size w0 w) (hb : Below w.heap.size w w') : Below w0.heap.size w0 w' := h.trans (hb.mono h.size)
/-- A slice's beginning, and the rest of it. -/
theorem Rd.take {w : World} {a : Option Addr} {n cap : Nat} {l : List Int} (h : Rd w a n cap 1 (ints l)) (k : Nat) (hk : k ≤ n) : Rd w a k cap 1 (ints (l.take k)) := by
  have hl : l.length = n := by have := h.len; simpa using this
  refine ⟨by simp; omega, Nat.le_trans hk h.le, h.max, h.nil, fun h0 => ?_⟩
  obtain ⟨b, off, e, hlt, hc⟩ := h.at' (by omega)
  refine ⟨b, off, e, hlt, fun j hj => ?_⟩
  have hj' : j < k := by simp at hj; omega
  rw [hc j (by simp; omega), ints_get l j (by omega), ints_get _ j (by simp; omega), List.getElem_take]
theorem Rd.drop {w : World} {b off n cap : Nat} {l : List Int} (h : Rd w (some ⟨b, off, none⟩) n cap 1 (ints l)) (k : Nat) (hk : k < n) : Rd w (some ⟨b, off + k, none⟩) (n - k) (cap - k) 1 (ints (l.drop k)) := by
  have hl : l.length = n := by have := h.len; simpa using this
  have h1 := h.le
  have h2 := h.max
  refine ⟨by simp; omega, by omega, by omega, (fun e => by cases e), fun h0 => ?_⟩
  obtain ⟨b', off', e, hlt, hc⟩ := h.at' (by omega)
  cases e
  refine ⟨b, off + k, rfl, hlt, fun j hj => ?_⟩
  have hj' : j < n - k := by simp at hj; omega
  rw [Nat.add_assoc, hc (k + j) (by simp; omega), ints_get l (k + j) (by omega), ints_get _ j (by simp; omega), List.getElem_drop]

set_option maxRecDepth 1000000 in
set_option maxHeartbeats 6000000 in
theorem lawFnApart_walk (a : Option Addr) (len cap : Nat) (zs0 : List Int) (w : World) (hrow : IsRow .u8 w a len cap zs0) : Calls Try.prog 11 #[.slice a len cap] w fun e w' => e = .returned (.bool true) ∧ Below w.heap.size w w' := by
  have hm : len ≤ maxLen := by have h := hrow.rd.1; exact Nat.le_trans h.le h.max
  by_cases hs : 1048576 < len
  · clear hrow
    go_enter Try.func11, Try.ntmps11
    go_wp2_with fail
    refine (big_any_any _ _ _ _ hs hm).mono ?_
    rintro e w' ⟨rfl, rfl⟩
    go_wp2
    go_ret
    exact ⟨rfl, Below.refl _ _⟩
  · obtain ⟨hR, hz⟩ := hrow.rd
    have HR := Lib.hid hR
    have HZ := Lib.hid hz
    have HZ2 : Hid (∀ z ∈ zs0.take len, 0 ≤ z ∧ z ≤ 255) := Lib.hid (fun z hz' => by have := hz z hz'; simpa [Lit.wf, IntKind.min, IntKind.max, IntKind.signed, IntKind.bits] using this)
    have hn : len ≤ 1048576 := by omega
    clear hrow hR hz hs hm
    generalize zs0.take len = zs at *
    go_enter Try.func11, Try.ntmps11
    go_wp2_with fail
    refine (big_no_any _ _ _ _ hn).mono ?_
    rintro e w' ⟨rfl, rfl⟩
    go_wp2_with fail
    refine (drawApart_any _ _ _ _ _ HR.out HZ2.out hn).mono ?_
    rintro e w1 ⟨l, p, c, rfl, hl8, -, hO1⟩
    have hl8 : l.length ≤ 8 := by omega
    have HO1 := Lib.hid hO1
    clear hO1
    have hxl := apartF_len l
    go_wp2_with fail
    refine (implApart_any _ _ _ l _ HO1.out.rd (by omega)).mono ?_
    rintro e w2 ⟨g2, c2, rfl, hX⟩
    have HX := Lib.hid hX
    clear hX
    have HI := Lib.hid (apartF_idem l)
    have HT := Lib.hid (apartF_two (l.take 0) (l.drop 0))
    have HTWO : Hid (∀ k, apartF (apartF (l.take k) ++ apartF (l.drop k)) = apartF l) := Lib.hid (fun k => by rw [apartF_two, List.take_append_drop])
    have HNO := Lib.hid (apartF_no l)
    have HOK : Hid (∀ i (h0 : 0 < i) (h : i < (apartF l).length), ¬ (0 < classF (apartF l)[i] ∧ classF (apartF l)[i] < classF ((apartF l)[i - 1]'(by omega)))) := Lib.hid (insAll_get _)
    have hLT := fun k => apartF_len (l.take k)
    have hLD := fun k => apartF_len (l.drop k)
    have HLT := Lib.hid hLT
    have HLD := Lib.hid hLD
    clear HT hLT hLD
    obtain ⟨x, hx⟩ : ∃ x, x = apartF l := ⟨_, rfl⟩
    rw [← hx] at HX HI HNO hxl ⊢
    have HTX : Hid (∀ k, apartF (apartF (l.take k) ++ apartF (l.drop k)) = x) := Lib.hid (fun k => by rw [hx]; exact HTWO.out k)
    have HOX : Hid (∀ i (h0 : 0 < i) (h : i < x.length), ¬ (0 < classF x[i] ∧ classF x[i] < classF (x[i - 1]'(by omega)))) := Lib.hid (by subst hx; exact HOK.out)
    have HAP := Lib.hid hx
    clear HTWO HOK hx
    go_wp2_with fail
    refine (implApart_any _ _ _ x _ HX.out.rd (by omega)).mono ?_
    rintro e w3 ⟨g3, c3, rfl, hY⟩
    rw [HI.out] at hY ⊢
    have HY := Lib.hid hY
    clear hY
    go_wp2_with fail
    refine (sameInts_any _ _ _ _ _ _ x x _ HY.out.rd (HX.out.rd.below HY.out.below (Nat.le_refl _)) (by omega) (by omega)).mono ?_
    rintro e w4 ⟨rfl, hb4⟩
    have edec : decide (x = x) = true := by simp
    rw [edec]
    have HB4 : Hid (Below w1.heap.size w1 w4) := Lib.hid (HX.out.below.trans (below_stepS HY.out.below hb4 |>.mono HX.out.below.size))
    have HX4 : Hid (Rd w4 g2 x.length c2 1 (ints x)) := Lib.hid (HX.out.rd.below (below_stepS HY.out.below hb4) (Nat.le_refl _))
    have HX4b : Hid (Below w2.heap.size w2 w4) := Lib.hid (below_stepS HY.out.below hb4)
    clear hb4 edec HY
    go_wp2_with fail
    refine (specApart_any _ _ _ l _ (HO1.out.rd.below HB4.out (Nat.le_refl _)) (by omega)).mono ?_
    rintro e w5 ⟨g5, c5, rfl, hZ⟩
    rw [← HAP.out] at hZ ⊢
    have HZZ := Lib.hid hZ
    clear hZ
    go_wp2_with fail
    refine (sameInts_any _ _ _ _ _ _ x x _ (HX4.out.below HZZ.out.below (Nat.le_refl _)) HZZ.out.rd (by omega) (by omega)).mono ?_
    rintro e w6 ⟨rfl, hb6⟩
    have edec : decide (x = x) = true := by simp
    rw [edec]
    have HB6 : Hid (Below w1.heap.size w1 w6) := Lib.hid (HB4.out.trans ((below_stepS HZZ.out.below hb6).mono HB4.out.size))
    have HX6 : Hid (Rd w6 g2 x.length c2 1 (ints x)) := Lib.hid (HX4.out.below (below_stepS HZZ.out.below hb6) (Nat.le_refl _))
    clear hb6 edec HZZ HX4 HX4b HB4
    go_wp2
    go_loopg [5] x.length (fun gg i wr => ∃ k : Nat, k + gg = x.length ∧ i = .int .i64 (k : Int) ∧ Hid (Below w6.heap.size w6 wr))
    case atStart => exact ⟨0, by omega, rfl, Lib.hid (Below.refl _ _)⟩
    case round =>
      obtain ⟨k, hk, rfl, hB⟩ := hrel
      by_cases hlt : k < x.length
      · obtain ⟨b, off, e0, hbs, hc⟩ := HX6.out.at' (by omega)
        have hR6 := HX6.out
        rw [e0] at hR6
        have HAT := Lib.hid hc
        clear hc hbs
        have hpk := HNO.out x[k] (List.getElem_mem hlt)
        have hc0 : ∀ W, Below w6.heap.size w6 W → W.cell? ⟨b, off + k, none⟩ = some (.int .i64 x[k]) := fun W hW => by
          have h1 := hR6.below hW (Nat.le_refl _)
          obtain ⟨b', off', e, _, hc⟩ := h1.at' (by omega)
          cases e
          rw [hc k (by simpa using hlt), ints_get x k hlt]
        subst e0
        have hki : (k : Int) < (x.length : Int) := by omega
        have hk0' : (0 : Int) ≤ (k : Int) := by omega
        by_cases hk0 : k = 0
        · subst hk0
          have HALL : Hid (∀ W, Below w6.heap.size w6 W → (W.cell? ⟨b, off, none⟩ = some (.int .i64 x[0]) ∧ Below w6.heap.size w6 W)) := Lib.hid (fun W hW => ⟨hc0 W hW, hW⟩)
          have HP := Lib.hid hpk
          clear hc0 hpk hR6 HAT
          generalize x[0] = y at *
          have hB0 := hB.out
          go_wp2
          refine wp_region_held_drew (S := (fun W => W.cell? ⟨b, off, none⟩ = some (.int .i64 y) ∧ Below w6.heap.size w6 W)) (by kernel_rfl) ?_ (fun hHeld => ?_)
          · try dsimp only
            (go_split_ands; first | exact HALL.out _ (by assumption) | exact HALL.out _ (Below.drew (by assumption)) | exact HALL.out _ (below_stepS (by assumption) (by assumption)))
          change wpAnyH _ _ _ _ _ 33 #[false, false, false, false, false, false, false, false, false, false, false, false, false, false, false, false, false, false, false, false, false, false, false, false, false, false, false, false, false, false, false, false, false] _ _
          clear hB0
          refine wpH_take (i := 0) (v := ?_) rfl (by kernel_rfl) (by kernel_rfl) (by kernel_rfl) (fun _ _ _ h => h) (by rfl) ?_ (by assumption) ?_; rotate_left; (focus (intro w hSw; (try dsimp only at hSw); go_simp; try with_reducible rfl)); try simp only [Act.put, List.setIfInBounds_toArray, List.set_cons_zero, List.set_cons_succ]
          refine wpH_take (i := 1) (v := ?_) rfl (by kernel_rfl) (by kernel_rfl) (by kernel_rfl) (fun _ _ _ h => h) (by rfl) ?_ (by assumption) ?_; rotate_left; (focus (intro w hSw; (try dsimp only at hSw); go_simp; try with_reducible rfl)); try simp only [Act.put, List.setIfInBounds_toArray, List.set_cons_zero, List.set_cons_succ]
          refine wpH_take (i := 2) (v := ?_) rfl (by kernel_rfl) (by kernel_rfl) (by kernel_rfl) (fun _ _ _ h => h) (by rfl) ?_ (by assumption) ?_; rotate_left; (focus (intro w hSw; (try dsimp only at hSw); go_simp; try with_reducible rfl)); try simp only [Act.put, List.setIfInBounds_toArray, List.set_cons_zero, List.set_cons_succ]
          refine wpH_take (i := 3) (v := ?_) rfl (by kernel_rfl) (by kernel_rfl) (by kernel_rfl) (fun _ _ _ h => h) (by rfl) ?_ (by assumption) ?_; rotate_left; (focus (intro w hSw; (try dsimp only at hSw); go_simp; try with_reducible rfl)); try simp only [Act.put, List.setIfInBounds_toArray, List.set_cons_zero, List.set_cons_succ]
          refine wpAnyH_ready (rs := [4]) (by kernel_rfl) (by simp) ?_
          refine AllReadyH.cons rfl (fun K hK => ?_) AllReadyH.nil
          try dsimp only at hHeld
          go_simp
          (go_at_call 25; refine (implParts_any _ _).mono ?_; rintro e w' ⟨g9, c9, rfl, hP9⟩; have hbk := hP9.below; clear hP9; rw [HP.out]; simp only [List.length_nil])
          refine hK.out _ _ ?_ (fun hHeld2 => ?_)
          · try dsimp only
            (go_split_ands; first | exact HALL.out _ (by assumption) | exact HALL.out _ (Below.drew (by assumption)) | exact HALL.out _ (below_stepS (by assumption) (by assumption)))
          clear hK K hHeld
          have hHeld := hHeld2
          clear hHeld2
          clear hbk
          refine wpH_take (i := 5) (v := ?_) rfl (by kernel_rfl) (by kernel_rfl) (by kernel_rfl) (fun _ _ _ h => h) (by rfl) ?_ (by assumption) ?_; rotate_left; (focus (intro w hSw; (try dsimp only at hSw); go_simp; try with_reducible rfl)); try simp only [Act.put, List.setIfInBounds_toArray, List.set_cons_zero, List.set_cons_succ]
          refine wpH_take (i := 6) (v := ?_) rfl (by kernel_rfl) (by kernel_rfl) (by kernel_rfl) (fun _ _ _ h => h) (by rfl) ?_ (by assumption) ?_; rotate_left; (focus (intro w hSw; (try dsimp only at hSw); go_simp; try with_reducible rfl)); try simp only [Act.put, List.setIfInBounds_toArray, List.set_cons_zero, List.set_cons_succ]
          refine wpH_take (i := 7) (v := ?_) rfl (by kernel_rfl) (by kernel_rfl) (by kernel_rfl) (fun _ _ _ h => h) (by rfl) ?_ (by assumption) ?_; rotate_left; (focus (intro w hSw; (try dsimp only at hSw); go_simp; try with_reducible rfl)); try simp only [Act.put, List.setIfInBounds_toArray, List.set_cons_zero, List.set_cons_succ]
          refine wpH_take (i := 8) (v := ?_) rfl (by kernel_rfl) (by kernel_rfl) (by kernel_rfl) (fun _ _ _ h => h) (by rfl) ?_ (by assumption) ?_; rotate_left; (focus (intro w hSw; (try dsimp only at hSw); go_simp; try with_reducible rfl)); try simp only [Act.put, List.setIfInBounds_toArray, List.set_cons_zero, List.set_cons_succ]
          refine wpH_take (i := 9) (v := ?_) rfl (by kernel_rfl) (by kernel_rfl) (by kernel_rfl) (fun _ _ _ h => h) (by rfl) ?_ (by assumption) ?_; rotate_left; (focus (intro w hSw; (try dsimp only at hSw); go_simp; try with_reducible rfl)); try simp only [Act.put, List.setIfInBounds_toArray, List.set_cons_zero, List.set_cons_succ]
          refine wpH_take (i := 10) (v := ?_) rfl (by kernel_rfl) (by kernel_rfl) (by kernel_rfl) (fun _ _ _ h => h) (by rfl) ?_ (by assumption) ?_; rotate_left; (focus (intro w hSw; (try dsimp only at hSw); go_simp; try with_reducible rfl)); try simp only [Act.put, List.setIfInBounds_toArray, List.set_cons_zero, List.set_cons_succ]
          refine wpH_off (i := 11) rfl (by kernel_rfl) (by kernel_rfl) (by kernel_rfl) (fun _ _ _ h => h) (by rfl) (by assumption) ?_; try simp only [Act.put, List.setIfInBounds_toArray, List.set_cons_zero, List.set_cons_succ]
          refine wpH_off (i := 12) rfl (by kernel_rfl) (by kernel_rfl) (by kernel_rfl) (fun _ _ _ h => h) (by rfl) (by assumption) ?_; try simp only [Act.put, List.setIfInBounds_toArray, List.set_cons_zero, List.set_cons_succ]
          refine wpH_off (i := 13) rfl (by kernel_rfl) (by kernel_rfl) (by kernel_rfl) (fun _ _ _ h => h) (by rfl) (by assumption) ?_; try simp only [Act.put, List.setIfInBounds_toArray, List.set_cons_zero, List.set_cons_succ]
          refine wpH_off (i := 14) rfl (by kernel_rfl) (by kernel_rfl) (by kernel_rfl) (fun _ _ _ h => h) (by rfl) (by assumption) ?_; try simp only [Act.put, List.setIfInBounds_toArray, List.set_cons_zero, List.set_cons_succ]
          refine wpH_off (i := 15) rfl (by kernel_rfl) (by kernel_rfl) (by kernel_rfl) (fun _ _ _ h => h) (by rfl) (by assumption) ?_; try simp only [Act.put, List.setIfInBounds_toArray, List.set_cons_zero, List.set_cons_succ]
          refine wpH_off (i := 16) rfl (by kernel_rfl) (by kernel_rfl) (by kernel_rfl) (fun _ _ _ h => h) (by rfl) (by assumption) ?_; try simp only [Act.put, List.setIfInBounds_toArray, List.set_cons_zero, List.set_cons_succ]
          refine wpH_take (i := 17) (v := ?_) rfl (by kernel_rfl) (by kernel_rfl) (by kernel_rfl) (fun _ _ _ h => h) (by rfl) ?_ (by assumption) ?_; rotate_left; (focus (intro w hSw; (try dsimp only at hSw); go_simp; try with_reducible rfl)); try simp only [Act.put, List.setIfInBounds_toArray, List.set_cons_zero, List.set_cons_succ]
          refine wpH_take (i := 18) (v := ?_) rfl (by kernel_rfl) (by kernel_rfl) (by kernel_rfl) (fun _ _ _ h => h) (by rfl) ?_ (by assumption) ?_; rotate_left; (focus (intro w hSw; (try dsimp only at hSw); go_simp; try with_reducible rfl)); try simp only [Act.put, List.setIfInBounds_toArray, List.set_cons_zero, List.set_cons_succ]
          refine wpH_off (i := 19) rfl (by kernel_rfl) (by kernel_rfl) (by kernel_rfl) (fun _ _ _ h => h) (by rfl) (by assumption) ?_; try simp only [Act.put, List.setIfInBounds_toArray, List.set_cons_zero, List.set_cons_succ]
          refine wpH_off (i := 20) rfl (by kernel_rfl) (by kernel_rfl) (by kernel_rfl) (fun _ _ _ h => h) (by rfl) (by assumption) ?_; try simp only [Act.put, List.setIfInBounds_toArray, List.set_cons_zero, List.set_cons_succ]
          refine wpH_off (i := 21) rfl (by kernel_rfl) (by kernel_rfl) (by kernel_rfl) (fun _ _ _ h => h) (by rfl) (by assumption) ?_; try simp only [Act.put, List.setIfInBounds_toArray, List.set_cons_zero, List.set_cons_succ]
          refine wpH_off (i := 22) rfl (by kernel_rfl) (by kernel_rfl) (by kernel_rfl) (fun _ _ _ h => h) (by rfl) (by assumption) ?_; try simp only [Act.put, List.setIfInBounds_toArray, List.set_cons_zero, List.set_cons_succ]
          refine wpH_off (i := 23) rfl (by kernel_rfl) (by kernel_rfl) (by kernel_rfl) (fun _ _ _ h => h) (by rfl) (by assumption) ?_; try simp only [Act.put, List.setIfInBounds_toArray, List.set_cons_zero, List.set_cons_succ]
          refine wpH_off (i := 24) rfl (by kernel_rfl) (by kernel_rfl) (by kernel_rfl) (fun _ _ _ h => h) (by rfl) (by assumption) ?_; try simp only [Act.put, List.setIfInBounds_toArray, List.set_cons_zero, List.set_cons_succ]
          refine wpH_off (i := 25) rfl (by kernel_rfl) (by kernel_rfl) (by kernel_rfl) (fun _ _ _ h => h) (by rfl) (by assumption) ?_; try simp only [Act.put, List.setIfInBounds_toArray, List.set_cons_zero, List.set_cons_succ]
          refine wpH_off (i := 26) rfl (by kernel_rfl) (by kernel_rfl) (by kernel_rfl) (fun _ _ _ h => h) (by rfl) (by assumption) ?_; try simp only [Act.put, List.setIfInBounds_toArray, List.set_cons_zero, List.set_cons_succ]
          refine wpH_off (i := 27) rfl (by kernel_rfl) (by kernel_rfl) (by kernel_rfl) (fun _ _ _ h => h) (by rfl) (by assumption) ?_; try simp only [Act.put, List.setIfInBounds_toArray, List.set_cons_zero, List.set_cons_succ]
          refine wpH_off (i := 28) rfl (by kernel_rfl) (by kernel_rfl) (by kernel_rfl) (fun _ _ _ h => h) (by rfl) (by assumption) ?_; try simp only [Act.put, List.setIfInBounds_toArray, List.set_cons_zero, List.set_cons_succ]
          refine wpH_off (i := 29) rfl (by kernel_rfl) (by kernel_rfl) (by kernel_rfl) (fun _ _ _ h => h) (by rfl) (by assumption) ?_; try simp only [Act.put, List.setIfInBounds_toArray, List.set_cons_zero, List.set_cons_succ]
          refine wpH_off (i := 30) rfl (by kernel_rfl) (by kernel_rfl) (by kernel_rfl) (fun _ _ _ h => h) (by rfl) (by assumption) ?_; try simp only [Act.put, List.setIfInBounds_toArray, List.set_cons_zero, List.set_cons_succ]
          refine wpH_take (i := 31) (v := ?_) rfl (by kernel_rfl) (by kernel_rfl) (by kernel_rfl) (fun _ _ _ h => h) (by rfl) ?_ (by assumption) ?_; rotate_left; (focus (intro w hSw; (try dsimp only at hSw); go_simp; try with_reducible rfl)); try simp only [Act.put, List.setIfInBounds_toArray, List.set_cons_zero, List.set_cons_succ]
          refine wpH_take (i := 32) (v := ?_) rfl (by kernel_rfl) (by kernel_rfl) (by kernel_rfl) (fun _ _ _ h => h) (by rfl) ?_ (by assumption) ?_; rotate_left; (focus (intro w hSw; (try dsimp only at hSw); go_simp; try with_reducible rfl)); try simp only [Act.put, List.setIfInBounds_toArray, List.set_cons_zero, List.set_cons_succ]
          refine wpAnyH_done (by kernel_rfl) ?_ _
          try dsimp only at hHeld
          obtain ⟨-, hB9⟩ := hHeld
          go_wp2
          go_roundg (gk - 1)
          case measure => omega
          case rel => exact ⟨1, by omega, by go_num, Lib.hid hB9⟩
        · obtain ⟨q, rfl⟩ : ∃ q, k = q + 1 := ⟨k - 1, by omega⟩
          have hord := HOX.out (q + 1) (by omega) hlt
          have hcz : ∀ W, Below w6.heap.size w6 W → W.cell? ⟨b, off + q, none⟩ = some (.int .i64 (x[q]'(by omega))) := fun W hW => by
            have h1 := hR6.below hW (Nat.le_refl _)
            obtain ⟨b', off', e, _, hc⟩ := h1.at' (by omega)
            cases e
            rw [hc q (by simp; omega), ints_get x q (by omega)]
          have HALL : Hid (∀ W, Below w6.heap.size w6 W → (W.cell? ⟨b, off + (q + 1), none⟩ = some (.int .i64 x[q + 1]) ∧ W.cell? ⟨b, off + q, none⟩ = some (.int .i64 (x[q]'(by omega))) ∧ Below w6.heap.size w6 W)) := Lib.hid (fun W hW => ⟨hc0 W hW, hcz W hW, hW⟩)
          have HP := Lib.hid hpk
          simp only [Nat.add_sub_cancel] at hord
          clear hc0 hcz hpk hR6 HAT hk0
          generalize x[q + 1] = y at *
          generalize (x[q]'(by omega)) = z at *
          have hB0 := hB.out
          have hwr : IntKind.i64.wrap ((q : Int) + 1 - 1) = (q : Int) := by rw [IntWalk.i64_in _ (by omega)]; omega
          have hwr2 : IntKind.i64.wrap (q : Int) = (q : Int) := IntWalk.i64_in _ (by omega)
          have hq0 : (0 : Int) ≤ (q : Int) := by omega
          have hq1 : (0 : Int) < (q : Int) + 1 := by omega
          have hq2 : (0 : Int) ≤ (q : Int) + 1 := by omega
          have hq3 : (q : Int) + 1 < (x.length : Int) := by omega
          have hq4 : (q : Int) < (x.length : Int) := by omega
          rw [show ((q + 1 : Nat) : Int) = (q : Int) + 1 from by omega] at *
          by_cases hc1 : 0 < classF y
          · have hd : decide (classF z > classF y) = false := by simp; omega
            have hd2 : decide (classF y < classF z) = false := by simp; omega
            clear hord
            go_wp2
            refine wp_region_held_drew (S := (fun W => W.cell? ⟨b, off + (q + 1), none⟩ = some (.int .i64 y) ∧ W.cell? ⟨b, off + q, none⟩ = some (.int .i64 z) ∧ Below w6.heap.size w6 W)) (by kernel_rfl) ?_ (fun hHeld => ?_)
            · try dsimp only
              (go_split_ands; first | exact HALL.out _ (by assumption) | exact HALL.out _ (Below.drew (by assumption)) | exact HALL.out _ (below_stepS (by assumption) (by assumption)))
            change wpAnyH _ _ _ _ _ 33 #[false, false, false, false, false, false, false, false, false, false, false, false, false, false, false, false, false, false, false, false, false, false, false, false, false, false, false, false, false, false, false, false, false] _ _
            clear hB0
            refine wpH_take (i := 0) (v := ?_) rfl (by kernel_rfl) (by kernel_rfl) (by kernel_rfl) (fun _ _ _ h => h) (by rfl) ?_ (by assumption) ?_; rotate_left; (focus (intro w hSw; (try dsimp only at hSw); go_simp; try with_reducible rfl)); try simp only [Act.put, List.setIfInBounds_toArray, List.set_cons_zero, List.set_cons_succ]
            refine wpH_take (i := 1) (v := ?_) rfl (by kernel_rfl) (by kernel_rfl) (by kernel_rfl) (fun _ _ _ h => h) (by rfl) ?_ (by assumption) ?_; rotate_left; (focus (intro w hSw; (try dsimp only at hSw); go_simp; try with_reducible rfl)); try simp only [Act.put, List.setIfInBounds_toArray, List.set_cons_zero, List.set_cons_succ]
            refine wpH_take (i := 2) (v := ?_) rfl (by kernel_rfl) (by kernel_rfl) (by kernel_rfl) (fun _ _ _ h => h) (by rfl) ?_ (by assumption) ?_; rotate_left; (focus (intro w hSw; (try dsimp only at hSw); go_simp; try with_reducible rfl)); try simp only [Act.put, List.setIfInBounds_toArray, List.set_cons_zero, List.set_cons_succ]
            refine wpH_take (i := 3) (v := ?_) rfl (by kernel_rfl) (by kernel_rfl) (by kernel_rfl) (fun _ _ _ h => h) (by rfl) ?_ (by assumption) ?_; rotate_left; (focus (intro w hSw; (try dsimp only at hSw); go_simp; try with_reducible rfl)); try simp only [Act.put, List.setIfInBounds_toArray, List.set_cons_zero, List.set_cons_succ]
            refine wpAnyH_ready (rs := [4]) (by kernel_rfl) (by simp) ?_
            refine AllReadyH.cons rfl (fun K hK => ?_) AllReadyH.nil
            try dsimp only at hHeld
            go_simp
            (go_at_call 25; refine (implParts_any _ _).mono ?_; rintro e w' ⟨g9, c9, rfl, hP9⟩; have hbk := hP9.below; clear hP9; rw [HP.out]; simp only [List.length_nil])
            refine hK.out _ _ ?_ (fun hHeld2 => ?_)
            · try dsimp only
              (go_split_ands; first | exact HALL.out _ (by assumption) | exact HALL.out _ (Below.drew (by assumption)) | exact HALL.out _ (below_stepS (by assumption) (by assumption)))
            clear hK K hHeld
            have hHeld := hHeld2
            clear hHeld2
            clear hbk
            refine wpH_take (i := 5) (v := ?_) rfl (by kernel_rfl) (by kernel_rfl) (by kernel_rfl) (fun _ _ _ h => h) (by rfl) ?_ (by assumption) ?_; rotate_left; (focus (intro w hSw; (try dsimp only at hSw); go_simp; try with_reducible rfl)); try simp only [Act.put, List.setIfInBounds_toArray, List.set_cons_zero, List.set_cons_succ]
            refine wpH_take (i := 6) (v := ?_) rfl (by kernel_rfl) (by kernel_rfl) (by kernel_rfl) (fun _ _ _ h => h) (by rfl) ?_ (by assumption) ?_; rotate_left; (focus (intro w hSw; (try dsimp only at hSw); go_simp; try with_reducible rfl)); try simp only [Act.put, List.setIfInBounds_toArray, List.set_cons_zero, List.set_cons_succ]
            refine wpH_take (i := 7) (v := ?_) rfl (by kernel_rfl) (by kernel_rfl) (by kernel_rfl) (fun _ _ _ h => h) (by rfl) ?_ (by assumption) ?_; rotate_left; (focus (intro w hSw; (try dsimp only at hSw); go_simp; try with_reducible rfl)); try simp only [Act.put, List.setIfInBounds_toArray, List.set_cons_zero, List.set_cons_succ]
            refine wpH_take (i := 8) (v := ?_) rfl (by kernel_rfl) (by kernel_rfl) (by kernel_rfl) (fun _ _ _ h => h) (by rfl) ?_ (by assumption) ?_; rotate_left; (focus (intro w hSw; (try dsimp only at hSw); go_simp; try with_reducible rfl)); try simp only [Act.put, List.setIfInBounds_toArray, List.set_cons_zero, List.set_cons_succ]
            refine wpH_take (i := 9) (v := ?_) rfl (by kernel_rfl) (by kernel_rfl) (by kernel_rfl) (fun _ _ _ h => h) (by rfl) ?_ (by assumption) ?_; rotate_left; (focus (intro w hSw; (try dsimp only at hSw); go_simp; try with_reducible rfl)); try simp only [Act.put, List.setIfInBounds_toArray, List.set_cons_zero, List.set_cons_succ]
            refine wpH_take (i := 10) (v := ?_) rfl (by kernel_rfl) (by kernel_rfl) (by kernel_rfl) (fun _ _ _ h => h) (by rfl) ?_ (by assumption) ?_; rotate_left; (focus (intro w hSw; (try dsimp only at hSw); go_simp; try with_reducible rfl)); try simp only [Act.put, List.setIfInBounds_toArray, List.set_cons_zero, List.set_cons_succ]
            refine wpH_take (i := 11) (v := ?_) rfl (by kernel_rfl) (by kernel_rfl) (by kernel_rfl) (fun _ _ _ h => h) (by rfl) ?_ (by assumption) ?_; rotate_left; (focus (intro w hSw; (try dsimp only at hSw); go_simp; try with_reducible rfl)); try simp only [Act.put, List.setIfInBounds_toArray, List.set_cons_zero, List.set_cons_succ]
            refine wpH_take (i := 12) (v := ?_) rfl (by kernel_rfl) (by kernel_rfl) (by kernel_rfl) (fun _ _ _ h => h) (by rfl) ?_ (by assumption) ?_; rotate_left; (focus (intro w hSw; (try dsimp only at hSw); go_simp; try with_reducible rfl)); try simp only [Act.put, List.setIfInBounds_toArray, List.set_cons_zero, List.set_cons_succ]
            refine wpH_take (i := 13) (v := ?_) rfl (by kernel_rfl) (by kernel_rfl) (by kernel_rfl) (fun _ _ _ h => h) (by rfl) ?_ (by assumption) ?_; rotate_left; (focus (intro w hSw; (try dsimp only at hSw); go_simp; try with_reducible rfl)); try simp only [Act.put, List.setIfInBounds_toArray, List.set_cons_zero, List.set_cons_succ]
            refine wpH_take (i := 14) (v := ?_) rfl (by kernel_rfl) (by kernel_rfl) (by kernel_rfl) (fun _ _ _ h => h) (by rfl) ?_ (by assumption) ?_; rotate_left; (focus (intro w hSw; (try dsimp only at hSw); go_simp; try with_reducible rfl)); try simp only [Act.put, List.setIfInBounds_toArray, List.set_cons_zero, List.set_cons_succ]
            refine wpAnyH_ready (rs := [15]) (by kernel_rfl) (by simp) ?_
            refine AllReadyH.cons rfl (fun K hK => ?_) AllReadyH.nil
            try dsimp only at hHeld
            go_simp
            (go_at_call 36; refine (specClass_any _ _).mono ?_; rintro e w' ⟨rfl, hbk⟩)
            refine hK.out _ _ ?_ (fun hHeld2 => ?_)
            · try dsimp only
              (go_split_ands; first | exact HALL.out _ (by assumption) | exact HALL.out _ (Below.drew (by assumption)) | exact HALL.out _ (below_stepS (by assumption) (by assumption)))
            clear hK K hHeld
            have hHeld := hHeld2
            clear hHeld2
            clear hbk
            refine wpH_take (i := 16) (v := ?_) rfl (by kernel_rfl) (by kernel_rfl) (by kernel_rfl) (fun _ _ _ h => h) (by rfl) ?_ (by assumption) ?_; rotate_left; (focus (intro w hSw; (try dsimp only at hSw); go_simp; try with_reducible rfl)); try simp only [Act.put, List.setIfInBounds_toArray, List.set_cons_zero, List.set_cons_succ]
            refine wpH_take (i := 17) (v := ?_) rfl (by kernel_rfl) (by kernel_rfl) (by kernel_rfl) (fun _ _ _ h => h) (by rfl) ?_ (by assumption) ?_; rotate_left; (focus (intro w hSw; (try dsimp only at hSw); go_simp; try with_reducible rfl)); try simp only [Act.put, List.setIfInBounds_toArray, List.set_cons_zero, List.set_cons_succ]
            refine wpH_take (i := 18) (v := ?_) rfl (by kernel_rfl) (by kernel_rfl) (by kernel_rfl) (fun _ _ _ h => h) (by rfl) ?_ (by assumption) ?_; rotate_left; (focus (intro w hSw; (try dsimp only at hSw); go_simp; try with_reducible rfl)); try simp only [Act.put, List.setIfInBounds_toArray, List.set_cons_zero, List.set_cons_succ]
            refine wpH_take (i := 19) (v := ?_) rfl (by kernel_rfl) (by kernel_rfl) (by kernel_rfl) (fun _ _ _ h => h) (by rfl) ?_ (by assumption) ?_; rotate_left; (focus (intro w hSw; (try dsimp only at hSw); go_simp; try with_reducible rfl)); try simp only [Act.put, List.setIfInBounds_toArray, List.set_cons_zero, List.set_cons_succ]
            refine wpH_take (i := 20) (v := ?_) rfl (by kernel_rfl) (by kernel_rfl) (by kernel_rfl) (fun _ _ _ h => h) (by rfl) ?_ (by assumption) ?_; rotate_left; (focus (intro w hSw; (try dsimp only at hSw); go_simp; try with_reducible rfl)); try simp only [Act.put, List.setIfInBounds_toArray, List.set_cons_zero, List.set_cons_succ]
            refine wpH_take (i := 21) (v := ?_) rfl (by kernel_rfl) (by kernel_rfl) (by kernel_rfl) (fun _ _ _ h => h) (by rfl) ?_ (by assumption) ?_; rotate_left; (focus (intro w hSw; (try dsimp only at hSw); go_simp; try with_reducible rfl)); try simp only [Act.put, List.setIfInBounds_toArray, List.set_cons_zero, List.set_cons_succ]
            refine wpH_take (i := 22) (v := ?_) rfl (by kernel_rfl) (by kernel_rfl) (by kernel_rfl) (fun _ _ _ h => h) (by rfl) ?_ (by assumption) ?_; rotate_left; (focus (intro w hSw; (try dsimp only at hSw); go_simp; try with_reducible rfl)); try simp only [Act.put, List.setIfInBounds_toArray, List.set_cons_zero, List.set_cons_succ]
            refine wpH_take (i := 23) (v := ?_) rfl (by kernel_rfl) (by kernel_rfl) (by kernel_rfl) (fun _ _ _ h => h) (by rfl) ?_ (by assumption) ?_; rotate_left; (focus (intro w hSw; (try dsimp only at hSw); go_simp; try with_reducible rfl)); try simp only [Act.put, List.setIfInBounds_toArray, List.set_cons_zero, List.set_cons_succ]
            refine wpH_take (i := 25) (v := ?_) rfl (by kernel_rfl) (by kernel_rfl) (by kernel_rfl) (fun _ _ _ h => h) (by rfl) ?_ (by assumption) ?_; rotate_left; (focus (intro w hSw; (try dsimp only at hSw); go_simp; try with_reducible rfl)); try simp only [Act.put, List.setIfInBounds_toArray, List.set_cons_zero, List.set_cons_succ]
            refine wpH_take (i := 26) (v := ?_) rfl (by kernel_rfl) (by kernel_rfl) (by kernel_rfl) (fun _ _ _ h => h) (by rfl) ?_ (by assumption) ?_; rotate_left; (focus (intro w hSw; (try dsimp only at hSw); go_simp; try with_reducible rfl)); try simp only [Act.put, List.setIfInBounds_toArray, List.set_cons_zero, List.set_cons_succ]
            refine wpH_take (i := 27) (v := ?_) rfl (by kernel_rfl) (by kernel_rfl) (by kernel_rfl) (fun _ _ _ h => h) (by rfl) ?_ (by assumption) ?_; rotate_left; (focus (intro w hSw; (try dsimp only at hSw); go_simp; try with_reducible rfl)); try simp only [Act.put, List.setIfInBounds_toArray, List.set_cons_zero, List.set_cons_succ]
            refine wpH_take (i := 28) (v := ?_) rfl (by kernel_rfl) (by kernel_rfl) (by kernel_rfl) (fun _ _ _ h => h) (by rfl) ?_ (by assumption) ?_; rotate_left; (focus (intro w hSw; (try dsimp only at hSw); go_simp; try with_reducible rfl)); try simp only [Act.put, List.setIfInBounds_toArray, List.set_cons_zero, List.set_cons_succ]
            refine wpAnyH_ready (rs := [24]) (by kernel_rfl) (by simp) ?_
            refine AllReadyH.cons rfl (fun K hK => ?_) AllReadyH.nil
            try dsimp only at hHeld
            go_simp
            (go_at_call 36; refine (specClass_any _ _).mono ?_; rintro e w' ⟨rfl, hbk⟩)
            refine hK.out _ _ ?_ (fun hHeld2 => ?_)
            · try dsimp only
              (go_split_ands; first | exact HALL.out _ (by assumption) | exact HALL.out _ (Below.drew (by assumption)) | exact HALL.out _ (below_stepS (by assumption) (by assumption)))
            clear hK K hHeld
            have hHeld := hHeld2
            clear hHeld2
            clear hbk
            refine wpAnyH_ready (rs := [29]) (by kernel_rfl) (by simp) ?_
            refine AllReadyH.cons rfl (fun K hK => ?_) AllReadyH.nil
            try dsimp only at hHeld
            go_simp
            (go_at_call 36; refine (specClass_any _ _).mono ?_; rintro e w' ⟨rfl, hbk⟩)
            refine hK.out _ _ ?_ (fun hHeld2 => ?_)
            · try dsimp only
              (go_split_ands; first | exact HALL.out _ (by assumption) | exact HALL.out _ (Below.drew (by assumption)) | exact HALL.out _ (below_stepS (by assumption) (by assumption)))
            clear hK K hHeld
            have hHeld := hHeld2
            clear hHeld2
            clear hbk
            refine wpH_take (i := 30) (v := ?_) rfl (by kernel_rfl) (by kernel_rfl) (by kernel_rfl) (fun _ _ _ h => h) (by rfl) ?_ (by assumption) ?_; rotate_left; (focus (intro w hSw; (try dsimp only at hSw); go_simp; try with_reducible rfl)); try simp only [Act.put, List.setIfInBounds_toArray, List.set_cons_zero, List.set_cons_succ]
            refine wpH_take (i := 31) (v := ?_) rfl (by kernel_rfl) (by kernel_rfl) (by kernel_rfl) (fun _ _ _ h => h) (by rfl) ?_ (by assumption) ?_; rotate_left; (focus (intro w hSw; (try dsimp only at hSw); go_simp; try with_reducible rfl)); try simp only [Act.put, List.setIfInBounds_toArray, List.set_cons_zero, List.set_cons_succ]
            refine wpH_take (i := 32) (v := ?_) rfl (by kernel_rfl) (by kernel_rfl) (by kernel_rfl) (fun _ _ _ h => h) (by rfl) ?_ (by assumption) ?_; rotate_left; (focus (intro w hSw; (try dsimp only at hSw); go_simp; try with_reducible rfl)); try simp only [Act.put, List.setIfInBounds_toArray, List.set_cons_zero, List.set_cons_succ]
            refine wpAnyH_done (by kernel_rfl) ?_ _
            try dsimp only at hHeld
            obtain ⟨-, -, hB9⟩ := hHeld
            go_wp2
            go_roundg (gk - 1)
            case measure => omega
            case rel => exact ⟨q + 1 + 1, by omega, by go_num, Lib.hid hB9⟩
          · have hd : decide (0 < classF y) = false := by simpa using hc1
            clear hord
            go_wp2
            refine wp_region_held_drew (S := (fun W => W.cell? ⟨b, off + (q + 1), none⟩ = some (.int .i64 y) ∧ W.cell? ⟨b, off + q, none⟩ = some (.int .i64 z) ∧ Below w6.heap.size w6 W)) (by kernel_rfl) ?_ (fun hHeld => ?_)
            · try dsimp only
              (go_split_ands; first | exact HALL.out _ (by assumption) | exact HALL.out _ (Below.drew (by assumption)) | exact HALL.out _ (below_stepS (by assumption) (by assumption)))
            change wpAnyH _ _ _ _ _ 33 #[false, false, false, false, false, false, false, false, false, false, false, false, false, false, false, false, false, false, false, false, false, false, false, false, false, false, false, false, false, false, false, false, false] _ _
            clear hB0
            refine wpH_take (i := 0) (v := ?_) rfl (by kernel_rfl) (by kernel_rfl) (by kernel_rfl) (fun _ _ _ h => h) (by rfl) ?_ (by assumption) ?_; rotate_left; (focus (intro w hSw; (try dsimp only at hSw); go_simp; try with_reducible rfl)); try simp only [Act.put, List.setIfInBounds_toArray, List.set_cons_zero, List.set_cons_succ]
            refine wpH_take (i := 1) (v := ?_) rfl (by kernel_rfl) (by kernel_rfl) (by kernel_rfl) (fun _ _ _ h => h) (by rfl) ?_ (by assumption) ?_; rotate_left; (focus (intro w hSw; (try dsimp only at hSw); go_simp; try with_reducible rfl)); try simp only [Act.put, List.setIfInBounds_toArray, List.set_cons_zero, List.set_cons_succ]
            refine wpH_take (i := 2) (v := ?_) rfl (by kernel_rfl) (by kernel_rfl) (by kernel_rfl) (fun _ _ _ h => h) (by rfl) ?_ (by assumption) ?_; rotate_left; (focus (intro w hSw; (try dsimp only at hSw); go_simp; try with_reducible rfl)); try simp only [Act.put, List.setIfInBounds_toArray, List.set_cons_zero, List.set_cons_succ]
            refine wpH_take (i := 3) (v := ?_) rfl (by kernel_rfl) (by kernel_rfl) (by kernel_rfl) (fun _ _ _ h => h) (by rfl) ?_ (by assumption) ?_; rotate_left; (focus (intro w hSw; (try dsimp only at hSw); go_simp; try with_reducible rfl)); try simp only [Act.put, List.setIfInBounds_toArray, List.set_cons_zero, List.set_cons_succ]
            refine wpAnyH_ready (rs := [4]) (by kernel_rfl) (by simp) ?_
            refine AllReadyH.cons rfl (fun K hK => ?_) AllReadyH.nil
            try dsimp only at hHeld
            go_simp
            (go_at_call 25; refine (implParts_any _ _).mono ?_; rintro e w' ⟨g9, c9, rfl, hP9⟩; have hbk := hP9.below; clear hP9; rw [HP.out]; simp only [List.length_nil])
            refine hK.out _ _ ?_ (fun hHeld2 => ?_)
            · try dsimp only
              (go_split_ands; first | exact HALL.out _ (by assumption) | exact HALL.out _ (Below.drew (by assumption)) | exact HALL.out _ (below_stepS (by assumption) (by assumption)))
            clear hK K hHeld
            have hHeld := hHeld2
            clear hHeld2
            clear hbk
            refine wpH_take (i := 5) (v := ?_) rfl (by kernel_rfl) (by kernel_rfl) (by kernel_rfl) (fun _ _ _ h => h) (by rfl) ?_ (by assumption) ?_; rotate_left; (focus (intro w hSw; (try dsimp only at hSw); go_simp; try with_reducible rfl)); try simp only [Act.put, List.setIfInBounds_toArray, List.set_cons_zero, List.set_cons_succ]
            refine wpH_take (i := 6) (v := ?_) rfl (by kernel_rfl) (by kernel_rfl) (by kernel_rfl) (fun _ _ _ h => h) (by rfl) ?_ (by assumption) ?_; rotate_left; (focus (intro w hSw; (try dsimp only at hSw); go_simp; try with_reducible rfl)); try simp only [Act.put, List.setIfInBounds_toArray, List.set_cons_zero, List.set_cons_succ]
            refine wpH_take (i := 7) (v := ?_) rfl (by kernel_rfl) (by kernel_rfl) (by kernel_rfl) (fun _ _ _ h => h) (by rfl) ?_ (by assumption) ?_; rotate_left; (focus (intro w hSw; (try dsimp only at hSw); go_simp; try with_reducible rfl)); try simp only [Act.put, List.setIfInBounds_toArray, List.set_cons_zero, List.set_cons_succ]
            refine wpH_take (i := 8) (v := ?_) rfl (by kernel_rfl) (by kernel_rfl) (by kernel_rfl) (fun _ _ _ h => h) (by rfl) ?_ (by assumption) ?_; rotate_left; (focus (intro w hSw; (try dsimp only at hSw); go_simp; try with_reducible rfl)); try simp only [Act.put, List.setIfInBounds_toArray, List.set_cons_zero, List.set_cons_succ]
            refine wpH_take (i := 9) (v := ?_) rfl (by kernel_rfl) (by kernel_rfl) (by kernel_rfl) (fun _ _ _ h => h) (by rfl) ?_ (by assumption) ?_; rotate_left; (focus (intro w hSw; (try dsimp only at hSw); go_simp; try with_reducible rfl)); try simp only [Act.put, List.setIfInBounds_toArray, List.set_cons_zero, List.set_cons_succ]
            refine wpH_take (i := 10) (v := ?_) rfl (by kernel_rfl) (by kernel_rfl) (by kernel_rfl) (fun _ _ _ h => h) (by rfl) ?_ (by assumption) ?_; rotate_left; (focus (intro w hSw; (try dsimp only at hSw); go_simp; try with_reducible rfl)); try simp only [Act.put, List.setIfInBounds_toArray, List.set_cons_zero, List.set_cons_succ]
            refine wpH_take (i := 11) (v := ?_) rfl (by kernel_rfl) (by kernel_rfl) (by kernel_rfl) (fun _ _ _ h => h) (by rfl) ?_ (by assumption) ?_; rotate_left; (focus (intro w hSw; (try dsimp only at hSw); go_simp; try with_reducible rfl)); try simp only [Act.put, List.setIfInBounds_toArray, List.set_cons_zero, List.set_cons_succ]
            refine wpH_take (i := 12) (v := ?_) rfl (by kernel_rfl) (by kernel_rfl) (by kernel_rfl) (fun _ _ _ h => h) (by rfl) ?_ (by assumption) ?_; rotate_left; (focus (intro w hSw; (try dsimp only at hSw); go_simp; try with_reducible rfl)); try simp only [Act.put, List.setIfInBounds_toArray, List.set_cons_zero, List.set_cons_succ]
            refine wpH_take (i := 13) (v := ?_) rfl (by kernel_rfl) (by kernel_rfl) (by kernel_rfl) (fun _ _ _ h => h) (by rfl) ?_ (by assumption) ?_; rotate_left; (focus (intro w hSw; (try dsimp only at hSw); go_simp; try with_reducible rfl)); try simp only [Act.put, List.setIfInBounds_toArray, List.set_cons_zero, List.set_cons_succ]
            refine wpH_take (i := 14) (v := ?_) rfl (by kernel_rfl) (by kernel_rfl) (by kernel_rfl) (fun _ _ _ h => h) (by rfl) ?_ (by assumption) ?_; rotate_left; (focus (intro w hSw; (try dsimp only at hSw); go_simp; try with_reducible rfl)); try simp only [Act.put, List.setIfInBounds_toArray, List.set_cons_zero, List.set_cons_succ]
            refine wpAnyH_ready (rs := [15]) (by kernel_rfl) (by simp) ?_
            refine AllReadyH.cons rfl (fun K hK => ?_) AllReadyH.nil
            try dsimp only at hHeld
            go_simp
            (go_at_call 36; refine (specClass_any _ _).mono ?_; rintro e w' ⟨rfl, hbk⟩)
            refine hK.out _ _ ?_ (fun hHeld2 => ?_)
            · try dsimp only
              (go_split_ands; first | exact HALL.out _ (by assumption) | exact HALL.out _ (Below.drew (by assumption)) | exact HALL.out _ (below_stepS (by assumption) (by assumption)))
            clear hK K hHeld
            have hHeld := hHeld2
            clear hHeld2
            clear hbk
            refine wpH_take (i := 16) (v := ?_) rfl (by kernel_rfl) (by kernel_rfl) (by kernel_rfl) (fun _ _ _ h => h) (by rfl) ?_ (by assumption) ?_; rotate_left; (focus (intro w hSw; (try dsimp only at hSw); go_simp; try with_reducible rfl)); try simp only [Act.put, List.setIfInBounds_toArray, List.set_cons_zero, List.set_cons_succ]
            refine wpH_take (i := 17) (v := ?_) rfl (by kernel_rfl) (by kernel_rfl) (by kernel_rfl) (fun _ _ _ h => h) (by rfl) ?_ (by assumption) ?_; rotate_left; (focus (intro w hSw; (try dsimp only at hSw); go_simp; try with_reducible rfl)); try simp only [Act.put, List.setIfInBounds_toArray, List.set_cons_zero, List.set_cons_succ]
            refine wpH_take (i := 18) (v := ?_) rfl (by kernel_rfl) (by kernel_rfl) (by kernel_rfl) (fun _ _ _ h => h) (by rfl) ?_ (by assumption) ?_; rotate_left; (focus (intro w hSw; (try dsimp only at hSw); go_simp; try with_reducible rfl)); try simp only [Act.put, List.setIfInBounds_toArray, List.set_cons_zero, List.set_cons_succ]
            refine wpH_off (i := 19) rfl (by kernel_rfl) (by kernel_rfl) (by kernel_rfl) (fun _ _ _ h => h) (by rfl) (by assumption) ?_; try simp only [Act.put, List.setIfInBounds_toArray, List.set_cons_zero, List.set_cons_succ]
            refine wpH_off (i := 20) rfl (by kernel_rfl) (by kernel_rfl) (by kernel_rfl) (fun _ _ _ h => h) (by rfl) (by assumption) ?_; try simp only [Act.put, List.setIfInBounds_toArray, List.set_cons_zero, List.set_cons_succ]
            refine wpH_off (i := 21) rfl (by kernel_rfl) (by kernel_rfl) (by kernel_rfl) (fun _ _ _ h => h) (by rfl) (by assumption) ?_; try simp only [Act.put, List.setIfInBounds_toArray, List.set_cons_zero, List.set_cons_succ]
            refine wpH_off (i := 22) rfl (by kernel_rfl) (by kernel_rfl) (by kernel_rfl) (fun _ _ _ h => h) (by rfl) (by assumption) ?_; try simp only [Act.put, List.setIfInBounds_toArray, List.set_cons_zero, List.set_cons_succ]
            refine wpH_off (i := 23) rfl (by kernel_rfl) (by kernel_rfl) (by kernel_rfl) (fun _ _ _ h => h) (by rfl) (by assumption) ?_; try simp only [Act.put, List.setIfInBounds_toArray, List.set_cons_zero, List.set_cons_succ]
            refine wpH_off (i := 24) rfl (by kernel_rfl) (by kernel_rfl) (by kernel_rfl) (fun _ _ _ h => h) (by rfl) (by assumption) ?_; try simp only [Act.put, List.setIfInBounds_toArray, List.set_cons_zero, List.set_cons_succ]
            refine wpH_off (i := 25) rfl (by kernel_rfl) (by kernel_rfl) (by kernel_rfl) (fun _ _ _ h => h) (by rfl) (by assumption) ?_; try simp only [Act.put, List.setIfInBounds_toArray, List.set_cons_zero, List.set_cons_succ]
            refine wpH_off (i := 26) rfl (by kernel_rfl) (by kernel_rfl) (by kernel_rfl) (fun _ _ _ h => h) (by rfl) (by assumption) ?_; try simp only [Act.put, List.setIfInBounds_toArray, List.set_cons_zero, List.set_cons_succ]
            refine wpH_off (i := 27) rfl (by kernel_rfl) (by kernel_rfl) (by kernel_rfl) (fun _ _ _ h => h) (by rfl) (by assumption) ?_; try simp only [Act.put, List.setIfInBounds_toArray, List.set_cons_zero, List.set_cons_succ]
            refine wpH_off (i := 28) rfl (by kernel_rfl) (by kernel_rfl) (by kernel_rfl) (fun _ _ _ h => h) (by rfl) (by assumption) ?_; try simp only [Act.put, List.setIfInBounds_toArray, List.set_cons_zero, List.set_cons_succ]
            refine wpH_off (i := 29) rfl (by kernel_rfl) (by kernel_rfl) (by kernel_rfl) (fun _ _ _ h => h) (by rfl) (by assumption) ?_; try simp only [Act.put, List.setIfInBounds_toArray, List.set_cons_zero, List.set_cons_succ]
            refine wpH_off (i := 30) rfl (by kernel_rfl) (by kernel_rfl) (by kernel_rfl) (fun _ _ _ h => h) (by rfl) (by assumption) ?_; try simp only [Act.put, List.setIfInBounds_toArray, List.set_cons_zero, List.set_cons_succ]
            refine wpH_take (i := 31) (v := ?_) rfl (by kernel_rfl) (by kernel_rfl) (by kernel_rfl) (fun _ _ _ h => h) (by rfl) ?_ (by assumption) ?_; rotate_left; (focus (intro w hSw; (try dsimp only at hSw); go_simp; try with_reducible rfl)); try simp only [Act.put, List.setIfInBounds_toArray, List.set_cons_zero, List.set_cons_succ]
            refine wpH_take (i := 32) (v := ?_) rfl (by kernel_rfl) (by kernel_rfl) (by kernel_rfl) (fun _ _ _ h => h) (by rfl) ?_ (by assumption) ?_; rotate_left; (focus (intro w hSw; (try dsimp only at hSw); go_simp; try with_reducible rfl)); try simp only [Act.put, List.setIfInBounds_toArray, List.set_cons_zero, List.set_cons_succ]
            refine wpAnyH_done (by kernel_rfl) ?_ _
            try dsimp only at hHeld
            obtain ⟨-, -, hB9⟩ := hHeld
            go_wp2
            go_roundg (gk - 1)
            case measure => omega
            case rel => exact ⟨q + 1 + 1, by omega, by go_num, Lib.hid hB9⟩
      · have hkl : k = x.length := by omega
        subst hkl
        have HRp := Lib.hid HO1.out.rd
        have HBl := Lib.hid (HO1.out.below)
        have HB9 := Lib.hid (HB6.out.trans (hB.out.mono HB6.out.size))
        have HX9 := Lib.hid (HX6.out.below hB.out (Nat.le_refl _))
        clear HX6 HB6 hB HO1 HX
        have HRl := Lib.hid (HRp.out.below HB9.out (Nat.le_refl _))
        by_cases hl0 : 0 < l.length
        · have hl1 : (0 : Int) < (l.length : Int) := by omega
          go_wp2_with fail
          refine (at_any _ _ _ _ 0 _ (HR.out.below (HBl.out.trans (HB9.out.mono HBl.out.size)) (Nat.le_refl _)) HZ.out hn (by omega)).mono ?_
          rintro e w' ⟨⟨x0, ⟨l0, m0⟩, rfl⟩, rfl⟩
          obtain ⟨q, hqe⟩ : ∃ q : Nat, x0 % (l.length : Int) = (q : Int) := ⟨(x0 % (l.length : Int)).toNat, by have := Int.emod_nonneg x0 (show (l.length : Int) ≠ 0 by omega); omega⟩
          have hql : (q : Int) < (l.length : Int) := by have := Int.emod_lt_of_pos x0 hl1; omega
          obtain ⟨bp, op, e0, hbp, _⟩ := HRl.out.at' hl0
          subst e0
          have hlc := HRl.out.le
          have hqc : (q : Int) ≤ (c : Int) := by omega
          have hcq : ¬ c = q := by omega
          have hcq2 : ¬ q = c := by omega
          have hcq3 : ¬ (c : Int) = (q : Int) := by omega
          have hq0 : (0 : Int) ≤ (q : Int) := by omega
          have hql2 : (q : Int) ≤ (l.length : Int) := by omega
          have hlc2 : (l.length : Int) ≤ (c : Int) := by omega
          have HT1 := Lib.hid (HRl.out.take q (by omega))
          have HD1 := Lib.hid (HRl.out.drop q (by omega))
          have hlt1 := HLT.out q
          have hld1 := HLD.out q
          rw [List.length_take] at hlt1
          rw [List.length_drop] at hld1
          clear hlc hbp
          go_upto_region 15 with (fail)
          rw [hqe]
          clear hqe
          go_wp2_with fail
          refine (implApart_any _ q c (l.take q) _ HT1.out (by omega)).mono ?_
          rintro e w10 ⟨g10, c10, rfl, hA⟩
          have HA := Lib.hid hA
          clear hA
          go_wp2_with fail
          refine (implApart_any _ _ _ (l.drop q) _ (HD1.out.below HA.out.below (Nat.le_refl _)) (by omega)).mono ?_
          rintro e w11 ⟨g11, c11, rfl, hA⟩
          have HA2 := Lib.hid hA
          clear hA
          have HRA := Lib.hid ((HA.out.rd.below HA2.out.below (Nat.le_refl _)).alloc (.cells #[] 3))
          have HRB0 := Lib.hid HA2.out.rd
          have HHA := Lib.hid (And.intro HA.out.below.size HA2.out.below.size)
          have HLit := Lib.hid (Own.lit (e := 3) (size := 1) (n := 0) (Below.refl w11.heap.size w11) (Nat.le_refl _) #[] rfl (by decide))
          have HB11 := Lib.hid (HB9.out.trans ((below_stepS HA.out.below HA2.out.below).mono HB9.out.size))
          have HX11 := Lib.hid (HX9.out.below (below_stepS HA.out.below HA2.out.below) (Nat.le_refl _))
          have HTq := Lib.hid (HTX.out q)
          clear HA HA2 HTX
          generalize apartF (l.take q) = A at *
          generalize apartF (l.drop q) = B at *
          go_wp2_with (first | ((at_builtin; go_loud (refine wp_app rfl _ _ 22 rfl 3 (.int .i64 0) 1 8 Try.underlying22 info_i64 rfl (by decide) w11.heap.size w11 _ _ _ (by rfl) (by exact HLit.out) _ _ _ _ (by rfl) (by exact HRA.out) (ints_one _) (by omega) (by unfold maxLen; omega) ?_); intro a2 c2 w2 hO2); (simp only [Nat.zero_add, List.nil_append] at hO2)) | (at_builtin; go_loud (refine wp_app rfl _ _ 22 rfl 3 (.int .i64 0) 1 8 Try.underlying22 info_i64 rfl (by decide) w11.heap.size w11 _ _ _ (by rfl) (by exact hO2) _ _ _ _ (by rfl) (by exact (HRB0.out.below hO2.below (Nat.le_refl _))) (ints_one _) (by omega) (by unfold maxLen; omega) ?_); intro a3 c3 w3 hO3) | fail)
          have hR3 : Rd w3 a3 (A.length + B.length) c3 1 (ints (A ++ B)) := by have := hO3.rd; rwa [← ints_append] at this
          have HR3 := Lib.hid hR3
          have HB3 := Lib.hid hO3.below
          clear hO2 hO3 hR3
          go_wp2_with fail
          refine (implApart_any _ _ _ (A ++ B) _ HR3.out (by omega)).mono ?_
          rintro e w12 ⟨g12, c12, rfl, hA⟩
          rw [HTq.out] at hA ⊢
          have HA3 := Lib.hid hA
          clear hA
          go_wp2_with fail
          refine (sameInts_any _ _ _ _ _ _ x x _ HA3.out.rd (HX11.out.below (below_stepS HB3.out HA3.out.below) (Nat.le_refl _)) (by omega) (by omega)).mono ?_
          rintro e w13 ⟨rfl, hb13⟩
          have edec : decide (x = x) = true := by simp
          rw [edec]
          have HB13 := Lib.hid (HBl.out.trans ((HB11.out.trans ((below_stepS (below_stepS HB3.out HA3.out.below) hb13).mono HB11.out.size)).mono HBl.out.size))
          clear hb13 edec
          go_wp2
          go_ret
          exact ⟨rfl, HB13.out⟩
        · have hl : l.length = 0 := by omega
          have hl1 : decide ((l.length : Int) > 0) = false := by rw [hl]; rfl
          have hl2 : ¬ (0 : Int) < (l.length : Int) := by omega
          have HRn := Lib.hid (HRl.out.take 0 (by omega))
          have HA0 : Hid (l.take 0 = [] ∧ l = []) := Lib.hid ⟨by simp, List.eq_nil_of_length_eq_zero hl⟩
          have hX0 : Hid (x = []) := Lib.hid (by rw [HAP.out, HA0.out.2]; rfl)
          have HRn0 : Hid (Rd wr p 0 c 1 (ints [])) := Lib.hid (by have := HRn.out; rw [HA0.out.1] at this; exact this)
          have hc0 : (0 : Int) ≤ (c : Int) := by omega
          have hcl := HRl.out.le
          have hl3 : (l.length : Int) = 0 := by omega
          clear hl2 hcl HRn HLT HLD HTX
          rw [hl]
          by_cases hcz : c = 0
          · subst hcz
            have HRn1 := HRn0
            go_upto_region 15 with (fail)
            go_wp2_with fail
            refine (implApart_any _ 0 _ [] _ HRn0.out (by omega)).mono ?_
            rintro e w10 ⟨g10, c10, rfl, hA⟩
            have HA := Lib.hid hA
            clear hA
            go_wp2_with fail
            refine (implApart_any _ _ _ [] _ (HRn1.out.below HA.out.below (Nat.le_refl _)) (by omega)).mono ?_
            rintro e w11 ⟨g11, c11, rfl, hA⟩
            have HA2 := Lib.hid hA
            clear hA
            have HRA := Lib.hid ((HA.out.rd.below HA2.out.below (Nat.le_refl _)).alloc (.cells #[] 3))
            have HRB0 := Lib.hid HA2.out.rd
            have HHA := Lib.hid (And.intro HA.out.below.size HA2.out.below.size)
            have HLit := Lib.hid (Own.lit (e := 3) (size := 1) (n := 0) (Below.refl w11.heap.size w11) (Nat.le_refl _) #[] rfl (by decide))
            have HB11 := Lib.hid (HB9.out.trans ((below_stepS HA.out.below HA2.out.below).mono HB9.out.size))
            have HX11 := Lib.hid (HX9.out.below (below_stepS HA.out.below HA2.out.below) (Nat.le_refl _))
            have HTq := Lib.hid (show apartF (apartF [] ++ apartF []) = x by rw [hX0.out]; rfl)
            clear HA HA2
            have hA0 : (apartF []).length ≤ 27 := by decide
            generalize apartF [] = A at *
            go_wp2_with (first | ((at_builtin; go_loud (refine wp_app rfl _ _ 22 rfl 3 (.int .i64 0) 1 8 Try.underlying22 info_i64 rfl (by decide) w11.heap.size w11 _ _ _ (by rfl) (by exact HLit.out) _ _ _ _ (by rfl) (by exact HRA.out) (ints_one _) (by omega) (by unfold maxLen; omega) ?_); intro a2 c2 w2 hO2); (simp only [Nat.zero_add, List.nil_append] at hO2)) | (at_builtin; go_loud (refine wp_app rfl _ _ 22 rfl 3 (.int .i64 0) 1 8 Try.underlying22 info_i64 rfl (by decide) w11.heap.size w11 _ _ _ (by rfl) (by exact hO2) _ _ _ _ (by rfl) (by exact (HRB0.out.below hO2.below (Nat.le_refl _))) (ints_one _) (by omega) (by unfold maxLen; omega) ?_); intro a3 c3 w3 hO3) | fail)
            have hR3 : Rd w3 a3 (A.length + A.length) c3 1 (ints (A ++ A)) := by have := hO3.rd; rwa [← ints_append] at this
            have HR3 := Lib.hid hR3
            have HB3 := Lib.hid hO3.below
            clear hO2 hO3 hR3
            go_wp2_with fail
            refine (implApart_any _ _ _ (A ++ A) _ HR3.out (by omega)).mono ?_
            rintro e w12 ⟨g12, c12, rfl, hA⟩
            rw [HTq.out] at hA ⊢
            have HA3 := Lib.hid hA
            clear hA
            go_wp2_with fail
            refine (sameInts_any _ _ _ _ _ _ x x _ HA3.out.rd (HX11.out.below (below_stepS HB3.out HA3.out.below) (Nat.le_refl _)) (by omega) (by omega)).mono ?_
            rintro e w13 ⟨rfl, hb13⟩
            have edec : decide (x = x) = true := by simp
            rw [edec]
            have HB13 := Lib.hid (HBl.out.trans ((HB11.out.trans ((below_stepS (below_stepS HB3.out HA3.out.below) hb13).mono HB11.out.size)).mono HBl.out.size))
            clear hb13 edec
            go_wp2
            go_ret
            exact ⟨rfl, HB13.out⟩
          · have hcz2 : ¬ 0 = c := by omega
            have hcz3 : ¬ (c : Int) = 0 := by omega
            have hcz4 : (0 : Int) < (c : Int) := by omega
            obtain ⟨ap, rfl⟩ : ∃ ap : Addr, p = some ap := by
              cases p with
              | none => exact absurd (HRn0.out.nil rfl) hcz
              | some ap => exact ⟨ap, rfl⟩
            have HRn1 : Hid (∀ (q : Addr) (W : World), Rd W (some q) 0 c 1 (ints [])) := Lib.hid (fun q W => ⟨rfl, by omega, HRn0.out.max, (fun e => by cases e), (fun h => by omega)⟩)
            go_upto_region 15 with (fail)
            go_wp2_with fail
            refine (implApart_any _ 0 _ [] _ HRn0.out (by omega)).mono ?_
            rintro e w10 ⟨g10, c10, rfl, hA⟩
            have HA := Lib.hid hA
            clear hA
            go_wp2_with fail
            refine (implApart_any _ _ _ [] _ (HRn1.out _ _) (by omega)).mono ?_
            rintro e w11 ⟨g11, c11, rfl, hA⟩
            have HA2 := Lib.hid hA
            clear hA
            have HRA := Lib.hid ((HA.out.rd.below HA2.out.below (Nat.le_refl _)).alloc (.cells #[] 3))
            have HRB0 := Lib.hid HA2.out.rd
            have HHA := Lib.hid (And.intro HA.out.below.size HA2.out.below.size)
            have HLit := Lib.hid (Own.lit (e := 3) (size := 1) (n := 0) (Below.refl w11.heap.size w11) (Nat.le_refl _) #[] rfl (by decide))
            have HB11 := Lib.hid (HB9.out.trans ((below_stepS HA.out.below HA2.out.below).mono HB9.out.size))
            have HX11 := Lib.hid (HX9.out.below (below_stepS HA.out.below HA2.out.below) (Nat.le_refl _))
            have HTq := Lib.hid (show apartF (apartF [] ++ apartF []) = x by rw [hX0.out]; rfl)
            clear HA HA2
            have hA0 : (apartF []).length ≤ 27 := by decide
            generalize apartF [] = A at *
            go_wp2_with (first | ((at_builtin; go_loud (refine wp_app rfl _ _ 22 rfl 3 (.int .i64 0) 1 8 Try.underlying22 info_i64 rfl (by decide) w11.heap.size w11 _ _ _ (by rfl) (by exact HLit.out) _ _ _ _ (by rfl) (by exact HRA.out) (ints_one _) (by omega) (by unfold maxLen; omega) ?_); intro a2 c2 w2 hO2); (simp only [Nat.zero_add, List.nil_append] at hO2)) | (at_builtin; go_loud (refine wp_app rfl _ _ 22 rfl 3 (.int .i64 0) 1 8 Try.underlying22 info_i64 rfl (by decide) w11.heap.size w11 _ _ _ (by rfl) (by exact hO2) _ _ _ _ (by rfl) (by exact (HRB0.out.below hO2.below (Nat.le_refl _))) (ints_one _) (by omega) (by unfold maxLen; omega) ?_); intro a3 c3 w3 hO3) | fail)
            have hR3 : Rd w3 a3 (A.length + A.length) c3 1 (ints (A ++ A)) := by have := hO3.rd; rwa [← ints_append] at this
            have HR3 := Lib.hid hR3
            have HB3 := Lib.hid hO3.below
            clear hO2 hO3 hR3
            go_wp2_with fail
            refine (implApart_any _ _ _ (A ++ A) _ HR3.out (by omega)).mono ?_
            rintro e w12 ⟨g12, c12, rfl, hA⟩
            rw [HTq.out] at hA ⊢
            have HA3 := Lib.hid hA
            clear hA
            go_wp2_with fail
            refine (sameInts_any _ _ _ _ _ _ x x _ HA3.out.rd (HX11.out.below (below_stepS HB3.out HA3.out.below) (Nat.le_refl _)) (by omega) (by omega)).mono ?_
            rintro e w13 ⟨rfl, hb13⟩
            have edec : decide (x = x) = true := by simp
            rw [edec]
            have HB13 := Lib.hid (HBl.out.trans ((HB11.out.trans ((below_stepS (below_stepS HB3.out HA3.out.below) hb13).mono HB11.out.size)).mono HBl.out.size))
            clear hb13 edec
            go_wp2
            go_ret
            exact ⟨rfl, HB13.out⟩
end Go.Proofs.Ytiakfclfipiaoaa
