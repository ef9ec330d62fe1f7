import Derived.Test.YtlkfabkkjfmnmaaKan
import Derived.Test.YtlkfabkkjfmnmaaKbq
namespace Go.Proofs.Ytlkfabkkjfmnmaa
open Go.RowKit
set_option linter.all false
theorem diffN_pre (a b : List ByteArray) (K : Nat) : ∀ n, K ≤ n → ∃ r, diffN a b n = diffN a b K ++ r := by
 intro n
 induction n with
 | zero => intro h; have : K = 0 := by omega
           subst this; exact ⟨[], by simp⟩
 | succ n ih =>
  intro h
  by_cases e : K = n + 1
  ·subst e; exact ⟨[], by simp⟩
  ·obtain ⟨r, hr⟩ := ih (by omega)
   rw [diffN, hr]
   exact ⟨_, List.append_assoc ..⟩
theorem diff_next (a b : List ByteArray) (i : Nat) (hlt : i < (diffN a b 17).length) : ∀ (f K : Nat), 17 - K = f → K ≤ 17 → (diffN a b K).length = i →
  ∃ k, K ≤ k ∧ k < 17 ∧ (diffN a b 17)[i] = ((k : Int), b.getD k ByteArray.empty) ∧ a.getD k ByteArray.empty ≠ b.getD k ByteArray.empty ∧ (∀ j, K ≤ j → j < k → a.getD j ByteArray.empty = b.getD j ByteArray.empty) ∧ (diffN a b (k + 1)).length = i + 1 := by
 intro f
 induction f with
 | zero => intro K h1 h2 h3; have : K = 17 := by omega
           subst this; omega
 | succ f ih =>
  intro K h1 h2 h3
  by_cases e : a.getD K ByteArray.empty = b.getD K ByteArray.empty
  ·have hK : diffN a b (K + 1) = diffN a b K := by rw [diffN, if_pos e, List.append_nil]
   obtain ⟨k, k1, k2, k3, k4, k5, k6⟩ := ih (K + 1) (by omega) (by omega) (by rw [hK]; exact h3)
   refine ⟨k, by omega, k2, k3, k4, fun j j1 j2 => ?_, k6⟩
   by_cases ej : j = K
   ·subst ej; exact e
   ·exact k5 j (by omega) j2
  ·have hK : diffN a b (K + 1) = diffN a b K ++ [((K : Int), b.getD K ByteArray.empty)] := by rw [diffN, if_neg e]
   obtain ⟨r, hr⟩ := diffN_pre a b (K + 1) 17 (by omega)
   refine ⟨K, Nat.le_refl _, by omega, ?_, e, fun j j1 j2 => by omega, by rw [hK, List.length_append, h3]; rfl⟩
   have hs : (diffN a b 17)[i]? = some ((K : Int), b.getD K ByteArray.empty) := by
    rw [hr, hK, List.append_assoc, List.getElem?_append_right (by omega), h3, Nat.sub_self]
    rfl
   exact (List.getElem?_eq_some_iff.1 hs).2
theorem diff_end (a b : List ByteArray) (K : Nat) (hK : K ≤ 17) (h : (diffN a b K).length = (diffN a b 17).length) : ∀ j, K ≤ j → j < 17 → a.getD j ByteArray.empty = b.getD j ByteArray.empty := by
 intro j h1 h2
 apply Classical.byContradiction
 intro hne
 obtain ⟨r, hr⟩ := diffN_pre a b (j + 1) 17 (by omega)
 obtain ⟨r2, hr2⟩ := diffN_pre a b K j h1
 have hj : diffN a b (j + 1) = diffN a b j ++ [((j : Int), b.getD j ByteArray.empty)] := by rw [diffN, if_neg hne]
 have e1 := congrArg List.length hr
 rw [hj, hr2] at e1
 simp at e1
 omega
theorem diffN_nil (b : List ByteArray) : ∀ n, diffN b b n = [] := by
 intro n
 induction n with
 | zero => rfl
 | succ n ih => rw [diffN, ih, if_pos rfl]; rfl
structure Led (a b x : List ByteArray) (i K : Nat) : Prop where
 hK : K ≤ 17
 len : (diffN a b K).length = i
 xl : x.length = 17
 xs : ∀ j, j < 17 → x.getD j ByteArray.empty = if j < K then b.getD j ByteArray.empty else a.getD j ByteArray.empty
theorem led_start {a b : List ByteArray} (ha : a.length = 17) : Led a b a 0 0 := ⟨by omega, rfl, ha, fun j _ => by rw [if_neg (by omega)]⟩
theorem led_next {a b x : List ByteArray} {i K : Nat} (h : Led a b x i K) (hlt : i < (diffN a b 17).length) :
  ∃ k, K ≤ k ∧ k < 17 ∧ (diffN a b 17)[i] = ((k : Int), b.getD k ByteArray.empty) ∧ x.getD k ByteArray.empty ≠ b.getD k ByteArray.empty ∧ Led a b (x.set k (b.getD k ByteArray.empty)) (i + 1) (k + 1) := by
 obtain ⟨k, k1, k2, k3, k4, k5, k6⟩ := diff_next a b i hlt _ K rfl h.hK h.len
 refine ⟨k, k1, k2, k3, ?_, by omega, k6, by rw [List.length_set]; exact h.xl, fun j hj => ?_⟩
 ·rw [h.xs k k2, if_neg (by omega)]; exact k4
 ·rw [List.getD_eq_getElem?_getD, List.getElem?_set]
  by_cases e : k = j
  ·subst e
   rw [if_pos rfl, if_pos (by rw [h.xl]; exact hj), if_pos (by omega)]; rfl
  ·rw [if_neg e, ← List.getD_eq_getElem?_getD, h.xs j hj]
   by_cases e2 : j < K
   ·rw [if_pos e2, if_pos (by omega)]
   ·rw [if_neg e2]
    by_cases e3 : j < k + 1
    ·rw [if_pos e3]; exact k5 j (by omega) (by omega)
    ·rw [if_neg e3]
theorem led_end {a b x : List ByteArray} {i K : Nat} (h : Led a b x i K) (hb : b.length = 17) (he : i = (diffN a b 17).length) : x = b := by
 refine List.ext_getElem (by rw [h.xl, hb]) fun j h1 h2 => ?_
 have hx := h.xs j (by omega)
 have e1 : x.getD j ByteArray.empty = x[j] := by rw [List.getD_eq_getElem?_getD, List.getElem?_eq_getElem h1]; rfl
 have e2 : b.getD j ByteArray.empty = b[j] := by rw [List.getD_eq_getElem?_getD, List.getElem?_eq_getElem h2]; rfl
 rw [← e1, ← e2, hx]
 split
 ·rfl
 ·exact diff_end a b K h.hK (by rw [h.len, he]) j (by omega) (by omega)
set_option maxRecDepth 1000000 in
set_option maxHeartbeats 6000000 in
theorem sameTexts_yes (a b : Option Addr) (n m c d : Nat) (l : List ByteArray) (w : World) (ha : Rd w a n c 1 (strs l)) (hb : Rd w b m d 1 (strs l)) (hn : n ≤ 1073741824) :
  Calls Try.prog 7 #[.slice a n c, .slice b m d] w fun e w' => e = .returned (.bool true) ∧ Below w.heap.size w w' := by
 have hl : l.length = n := by have := ha.len; simpa using this
 have hl2 : l.length = m := by have := hb.len; simpa using this
 subst hl
 subst hl2
 go_enter Try.func7, Try.ntmps7
 go_wp2
 go_loopg [5] l.length (fun gg i wr => ∃ k : Nat, k + gg = l.length ∧ i = .int .i64 k ∧ Below w.heap.size w wr)
 case atStart => exact ⟨0, by omega, rfl, Below.refl _ _⟩
 case round =>
  obtain ⟨k, hk, rfl, hB⟩ := hrel
  by_cases hlt : k < l.length
  ·obtain ⟨ba, oa, rfl, hba, hca⟩ := ha.at' (by omega)
   obtain ⟨bb, ob, rfl, hbb, hcb⟩ := hb.at' (by omega)
   have hc1 := hca k (by simpa using hlt)
   have hc2 := hcb k (by simpa using hlt)
   rw [← hB.cell (p := ⟨ba, oa + k, none⟩) (by exact hba), strs_get l k hlt] at hc1
   rw [← hB.cell (p := ⟨bb, ob + k, none⟩) (by exact hbb), strs_get l k hlt] at hc2
   have hi : (k : Int) < (l.length : Int) := by omega
   have hi0 : (0 : Int) ≤ (k : Int) := by omega
   clear hca hcb ha hb
   go_wp2
   go_quiet (fail)
   go_wp2
   go_roundg (gk - 1)
   case measure => omega
   case rel => exact ⟨k + 1, by omega, by go_num, below_drewN hB _⟩
  ·go_wp2
   go_ret
   exact ⟨rfl, hB⟩
theorem led_next2 {a b x : List ByteArray} {i K : Nat} {D : List (Int × ByteArray)} (hD : diffN a b 17 = D) (h : Led a b x i K) (hlt : i < D.length) :
  ∃ k, K ≤ k ∧ k < 17 ∧ D[i] = ((k : Int), b.getD k ByteArray.empty) ∧ x.getD k ByteArray.empty ≠ b.getD k ByteArray.empty ∧ Led a b (x.set k (b.getD k ByteArray.empty)) (i + 1) (k + 1) := by
 subst hD
 exact led_next h hlt
set_option maxRecDepth 1000000 in
set_option maxHeartbeats 6000000 in
theorem lawFnDiff_walk (a : Option Addr) (len cap : Nat) (zs0 : List Int) (w : World) (hrow : IsRow .u8 w a len cap zs0) : Calls Try.prog 3 #[.slice a len cap] w fun e w' => e = .returned (.bool true) ∧ Below w.heap.size w w' := by
 have hm : len ≤ maxLen := by have h := hrow.rd.1; exact Nat.le_trans h.le h.max
 by_cases hs : 1048576 < len
 ·clear hrow
  go_enter Try.func3, Try.ntmps3
  go_wp2_with fail
  refine (big_any_any _ _ _ _ hs hm).mono ?_
  rintro e w' ⟨rfl, rfl⟩
  go_wp2
  go_ret
  exact ⟨rfl, Below.refl _ _⟩
 ·obtain ⟨hR, hz⟩ := hrow.rd
  have HR := Lib.hid hR
  have HZ2 : Hid (∀ z ∈ zs0.take len, 0 ≤ z ∧ z ≤ 255) := Lib.hid (fun z hz' => by have := hz z hz'; simpa [Lit.wf, IntKind.min, IntKind.max, IntKind.signed, IntKind.bits] using this)
  have hn : len ≤ 1048576 := by omega
  clear hrow hR hz hs hm
  generalize zs0.take len = zs at *
  go_enter Try.func3, Try.ntmps3
  go_wp2_with fail
  refine (big_no_any _ _ _ _ hn).mono ?_
  rintro e w' ⟨rfl, rfl⟩
  go_wp2_with fail
  refine (drawDiff_any _ _ _ _ _ HR.out HZ2.out hn).mono ?_
  rintro e w1 ⟨la, lb, pa, pb, ca, cb, rfl, hla, hlb, hra, hrb, hb⟩
  have HB1 := Lib.hid hb
  have HA1 := Lib.hid hra
  have HBB1 := Lib.hid hrb
  have HLA := Lib.hid hla
  have hlb17 := hlb
  clear hb hra hrb HR HZ2 hla hlb
  go_wp2_with fail
  refine (implDiff_any pa pb la.length lb.length ca cb la lb _ HA1.out HBB1.out).mono ?_
  rintro e w2 ⟨pl, cl, rfl, hO⟩
  have HB2 := Lib.hid (HB1.out.trans (hO.below.mono HB1.out.size))
  have HA2 := Lib.hid (HA1.out.below hO.below (Nat.le_refl _))
  have HBB2 := Lib.hid (HBB1.out.below hO.below (Nat.le_refl _))
  have HL2 := Lib.hid hO.rd
  have hdl := diffL_len la lb
  clear hO HB1 HA1 HBB1
  have hla2 : (la.length : Int) = 17 := by have := HLA.out; omega
  by_cases hlb2 : lb.length = 17
  rotate_left
  ·have hne : ((lb.length : Int) != 17) = true := by simp; omega
   have HE : Hid ((diffL la lb).length = 0) := Lib.hid (by unfold diffL; rw [if_neg (by omega)]; rfl)
   have hla3 : ((la.length : Int) != 17) = false := by simp [hla2]
   have HA17 := Lib.hid hla2
   clear hla2
   rw [HE.out]
   go_wp2
   go_ret
   exact ⟨rfl, HB2.out⟩
  have HLBL := Lib.hid hlb2
  have HLAL := Lib.hid HLA.out
  have HDF : Hid (diffL la lb = diffN la lb 17) := Lib.hid (by unfold diffL; rw [if_pos ⟨HLA.out, hlb2⟩])
  have HBN : Hid ((diffL lb lb).length = 0) := Lib.hid (by unfold diffL; rw [if_pos ⟨hlb2, hlb2⟩, diffN_nil]; rfl)
  rw [HLA.out] at HA2 ⊢
  rw [hlb2] at HBB2 ⊢
  rw [HDF.out] at hdl HL2 ⊢
  clear hla2 hlb2 hlb17
  generalize hD : diffN la lb 17 = D at *
  have HD := Lib.hid hD
  clear hD
  have HLit := Lib.hid (Own.lit (e := 9) (size := 1) (n := 0) (Below.refl w2.heap.size w2) (Nat.le_refl _) #[] rfl (by decide))
  have HA3 := Lib.hid (HA2.out.alloc (.cells #[] 9))
  go_wp2_with (first | (at_builtin; go_loud (refine wp_app rfl _ _ 24 rfl 9 (.string ByteArray.empty) 1 16 Try.underlying24 info_str rfl (by decide) _ _ _ _ _ (by rfl) (by exact HLit.out) _ _ _ _ (by rfl) (by exact HA3.out) (strs_one _) (by omega) (by unfold maxLen; omega) ?_); intro a3 c3 w3 hO3) | fail)
  rw [Nat.zero_add, List.nil_append] at hO3
  have HB3 := Lib.hid (HB2.out.trans (hO3.below.mono HB2.out.size))
  have HBB3 := Lib.hid (HBB2.out.below hO3.below (Nat.le_refl _))
  have HL3 := Lib.hid (HL2.out.below hO3.below (Nat.le_refl _))
  obtain ⟨gb, cgb, hgb, hgbB⟩ := hO3.shape1 (by omega)
  simp only [Value.slice.injEq] at hgb
  obtain ⟨rfl, -, rfl⟩ := hgb
  go_loopg [7] D.length (fun gg i wr => ∃ (j K : Nat) (x : List ByteArray), j + gg = D.length ∧ i = .int .i64 (j : Int) ∧ Hid (Led la lb x j K) ∧ Hid (Own 9 1 w2.heap.size w2 (.slice (some ⟨gb, 0, none⟩) 17 c3) 17 (strs x) wr) ∧ Hid (∀ (h : j - 1 < D.length), 0 < j → D[j - 1].1 < (K : Int)))
  case atStart => exact ⟨0, 0, la, by omega, rfl, Lib.hid (led_start HLAL.out), Lib.hid hO3, Lib.hid (fun h h0 => by omega)⟩
  case round =>
   clear hO3
   obtain ⟨j, K, x, hj, rfl, HLd, HO, HP⟩ := hrel
   have HBw := Lib.hid HO.out.below
   by_cases hlt : j < D.length
   ·obtain ⟨k, hk1, hk2, hk3, hk4, hk5⟩ := led_next2 HD.out HLd.out hlt
    obtain ⟨bl, ol, hpl, hbl, d0, d1⟩ := wrs_cells (HL2.out.below HBw.out (Nat.le_refl _)) j hlt
    subst hpl
    have HLW : Hid (∀ q (hq : q < D.length), wr.cell? ⟨bl, ol + q * 2, none⟩ = some (.int .i64 D[q].1)) := Lib.hid (fun q hq => by
     obtain ⟨b', o', e', _, p0, _⟩ := wrs_cells (HL2.out.below HBw.out (Nat.le_refl _)) q hq
     cases e'
     exact p0)
    have HPN : Hid (∀ (h : j + 1 - 1 < D.length), 0 < j + 1 → D[j + 1 - 1].1 < ((k + 1 : Nat) : Int)) := Lib.hid (fun h _ => by
     have e : D[j + 1 - 1] = D[j] := by congr 1
     rw [e, hk3]; dsimp only; omega)
    rw [hk3] at d0 d1
    dsimp only at d0 d1
    have HXL := Lib.hid HLd.out.xl
    have dx : wr.cell? ⟨gb, k, none⟩ = some (.string (x.getD k ByteArray.empty)) := by
     have hkx : k < x.length := by have := HXL.out; omega
     rw [HO.out.cell k (by simp; omega), strs_get x k hkx, List.getD_eq_getElem?_getD, List.getElem?_eq_getElem hkx]; rfl
    obtain ⟨hn1, hn2⟩ := strNe _ _ hk4
    have HLN := Lib.hid hk5
    have HST : Hid ((strs x).set k (.string (lb.getD k ByteArray.empty)) = strs (x.set k (lb.getD k ByteArray.empty))) := Lib.hid (by rw [strs_eq, strs_eq, List.map_set])
    have HKP : Hid (∀ (h : j - 1 < D.length), 0 < j → D[j - 1].1 < (k : Int)) := Lib.hid (fun h h0 => by have := HP.out h h0; omega)
    clear hk3 hk4 hk5 HP HLd
    generalize lb.getD k ByteArray.empty = st at *
    generalize x.getD k ByteArray.empty = sx at *
    have DT := Lib.hid d1
    have hji : (j : Int) < (D.length : Int) := by omega
    have hji0 : (0 : Int) ≤ (j : Int) := by omega
    have hki : (k : Int) < 17 := by omega
    have hki0 : (0 : Int) ≤ (k : Int) := by omega
    have HF12 : Hid (((k : Int) < 0) = False ∧ ((17 : Int) ≤ (k : Int)) = False) := Lib.hid ⟨eq_false (by omega), eq_false (by omega)⟩
    by_cases hj0 : j = 0
    ·have HF3 : Hid (((0 : Int) < (j : Int)) = False ∧ (0 < j) = False) := Lib.hid ⟨eq_false (by omega), eq_false (by omega)⟩
     have HJ0 := Lib.hid hj0
     clear hj0
     have HALL : Hid (wr.cell? ⟨gb, k, none⟩ = some (.string sx) ∧ wr.cell? ⟨bl, ol + j * 2 + 1, none⟩ = some (.string st)) := Lib.hid ⟨dx, d1⟩
     go_wp2
     obtain ⟨hf1, hf2⟩ := HF12.out
     obtain ⟨hf3, hf3n⟩ := HF3.out
     refine wp_region_held_drew (S := (fun W => W.cell? ⟨gb, k, none⟩ = some (.string sx) ∧ W.cell? ⟨bl, ol + j * 2 + 1, none⟩ = some (.string st))) (by kernel_rfl) ?_ (fun hHeld => ?_)
     ·try dsimp only
      exact HALL.out
     change wpAnyH _ _ _ _ _ 32 #[false, false, false, false, false, false, false, false, false, false, false, false, false, false, false, false, false, false, false, false, false, false, false, false, false, false, false, false, false, false, false, false] _ _
     refine wpH_take (i := 0) (v := ?_) rfl (by kernel_rfl) (by kernel_rfl) (by kernel_rfl) (fun _ _ _ h => h) (by rfl) ?_ (by assumption) ?_; rotate_left; (focus (intro w hSw; (try dsimp only at hSw); go_simp; try with_reducible rfl)); try simp only [Act.put, List.setIfInBounds_toArray, List.set_cons_zero, List.set_cons_succ]
     refine wpH_take (i := 1) (v := ?_) rfl (by kernel_rfl) (by kernel_rfl) (by kernel_rfl) (fun _ _ _ h => h) (by rfl) ?_ (by assumption) ?_; rotate_left; (focus (intro w hSw; (try dsimp only at hSw); go_simp; try with_reducible rfl)); try simp only [Act.put, List.setIfInBounds_toArray, List.set_cons_zero, List.set_cons_succ]
     refine wpH_take (i := 2) (v := ?_) rfl (by kernel_rfl) (by kernel_rfl) (by kernel_rfl) (fun _ _ _ h => h) (by rfl) ?_ (by assumption) ?_; rotate_left; (focus (intro w hSw; (try dsimp only at hSw); go_simp; try with_reducible rfl)); try simp only [Act.put, List.setIfInBounds_toArray, List.set_cons_zero, List.set_cons_succ]
     refine wpH_take (i := 3) (v := ?_) rfl (by kernel_rfl) (by kernel_rfl) (by kernel_rfl) (fun _ _ _ h => h) (by rfl) ?_ (by assumption) ?_; rotate_left; (focus (intro w hSw; (try dsimp only at hSw); go_simp; try with_reducible rfl)); try simp only [Act.put, List.setIfInBounds_toArray, List.set_cons_zero, List.set_cons_succ]
     refine wpH_take (i := 4) (v := ?_) rfl (by kernel_rfl) (by kernel_rfl) (by kernel_rfl) (fun _ _ _ h => h) (by rfl) ?_ (by assumption) ?_; rotate_left; (focus (intro w hSw; (try dsimp only at hSw); go_simp; try with_reducible rfl)); try simp only [Act.put, List.setIfInBounds_toArray, List.set_cons_zero, List.set_cons_succ]
     refine wpH_take (i := 5) (v := ?_) rfl (by kernel_rfl) (by kernel_rfl) (by kernel_rfl) (fun _ _ _ h => h) (by rfl) ?_ (by assumption) ?_; rotate_left; (focus (intro w hSw; (try dsimp only at hSw); go_simp; try with_reducible rfl)); try simp only [Act.put, List.setIfInBounds_toArray, List.set_cons_zero, List.set_cons_succ]
     refine wpH_take (i := 6) (v := ?_) rfl (by kernel_rfl) (by kernel_rfl) (by kernel_rfl) (fun _ _ _ h => h) (by rfl) ?_ (by assumption) ?_; rotate_left; (focus (intro w hSw; (try dsimp only at hSw); go_simp; try with_reducible rfl)); try simp only [Act.put, List.setIfInBounds_toArray, List.set_cons_zero, List.set_cons_succ]
     refine wpH_take (i := 7) (v := ?_) rfl (by kernel_rfl) (by kernel_rfl) (by kernel_rfl) (fun _ _ _ h => h) (by rfl) ?_ (by assumption) ?_; rotate_left; (focus (intro w hSw; (try dsimp only at hSw); go_simp; try with_reducible rfl)); try simp only [Act.put, List.setIfInBounds_toArray, List.set_cons_zero, List.set_cons_succ]
     refine wpH_take (i := 8) (v := ?_) rfl (by kernel_rfl) (by kernel_rfl) (by kernel_rfl) (fun _ _ _ h => h) (by rfl) ?_ (by assumption) ?_; rotate_left; (focus (intro w hSw; (try dsimp only at hSw); go_simp; try with_reducible rfl)); try simp only [Act.put, List.setIfInBounds_toArray, List.set_cons_zero, List.set_cons_succ]
     refine wpH_take (i := 9) (v := ?_) rfl (by kernel_rfl) (by kernel_rfl) (by kernel_rfl) (fun _ _ _ h => h) (by rfl) ?_ (by assumption) ?_; rotate_left; (focus (intro w hSw; (try dsimp only at hSw); go_simp; try with_reducible rfl)); try simp only [Act.put, List.setIfInBounds_toArray, List.set_cons_zero, List.set_cons_succ]
     refine wpH_off (i := 10) rfl (by kernel_rfl) (by kernel_rfl) (by kernel_rfl) (fun _ _ _ h => h) (by rfl) (by assumption) ?_; try simp only [Act.put, List.setIfInBounds_toArray, List.set_cons_zero, List.set_cons_succ]
     refine wpH_off (i := 11) rfl (by kernel_rfl) (by kernel_rfl) (by kernel_rfl) (fun _ _ _ h => h) (by rfl) (by assumption) ?_; try simp only [Act.put, List.setIfInBounds_toArray, List.set_cons_zero, List.set_cons_succ]
     refine wpH_off (i := 12) rfl (by kernel_rfl) (by kernel_rfl) (by kernel_rfl) (fun _ _ _ h => h) (by rfl) (by assumption) ?_; try simp only [Act.put, List.setIfInBounds_toArray, List.set_cons_zero, List.set_cons_succ]
     refine wpH_off (i := 13) rfl (by kernel_rfl) (by kernel_rfl) (by kernel_rfl) (fun _ _ _ h => h) (by rfl) (by assumption) ?_; try simp only [Act.put, List.setIfInBounds_toArray, List.set_cons_zero, List.set_cons_succ]
     refine wpH_off (i := 14) rfl (by kernel_rfl) (by kernel_rfl) (by kernel_rfl) (fun _ _ _ h => h) (by rfl) (by assumption) ?_; try simp only [Act.put, List.setIfInBounds_toArray, List.set_cons_zero, List.set_cons_succ]
     refine wpH_off (i := 15) rfl (by kernel_rfl) (by kernel_rfl) (by kernel_rfl) (fun _ _ _ h => h) (by rfl) (by assumption) ?_; try simp only [Act.put, List.setIfInBounds_toArray, List.set_cons_zero, List.set_cons_succ]
     refine wpH_off (i := 16) rfl (by kernel_rfl) (by kernel_rfl) (by kernel_rfl) (fun _ _ _ h => h) (by rfl) (by assumption) ?_; try simp only [Act.put, List.setIfInBounds_toArray, List.set_cons_zero, List.set_cons_succ]
     refine wpH_off (i := 17) rfl (by kernel_rfl) (by kernel_rfl) (by kernel_rfl) (fun _ _ _ h => h) (by rfl) (by assumption) ?_; try simp only [Act.put, List.setIfInBounds_toArray, List.set_cons_zero, List.set_cons_succ]
     refine wpH_take (i := 18) (v := ?_) rfl (by kernel_rfl) (by kernel_rfl) (by kernel_rfl) (fun _ _ _ h => h) (by rfl) ?_ (by assumption) ?_; rotate_left; (focus (intro w hSw; (try dsimp only at hSw); go_simp; try with_reducible rfl)); try simp only [Act.put, List.setIfInBounds_toArray, List.set_cons_zero, List.set_cons_succ]
     refine wpH_take (i := 19) (v := ?_) rfl (by kernel_rfl) (by kernel_rfl) (by kernel_rfl) (fun _ _ _ h => h) (by rfl) ?_ (by assumption) ?_; rotate_left; (focus (intro w hSw; (try dsimp only at hSw); go_simp; try with_reducible rfl)); try simp only [Act.put, List.setIfInBounds_toArray, List.set_cons_zero, List.set_cons_succ]
     refine wpH_take (i := 20) (v := ?_) rfl (by kernel_rfl) (by kernel_rfl) (by kernel_rfl) (fun _ _ _ h => h) (by rfl) ?_ (by assumption) ?_; rotate_left; (focus (intro w hSw; (try dsimp only at hSw); go_simp; try with_reducible rfl)); try simp only [Act.put, List.setIfInBounds_toArray, List.set_cons_zero, List.set_cons_succ]
     refine wpH_take (i := 21) (v := ?_) rfl (by kernel_rfl) (by kernel_rfl) (by kernel_rfl) (fun _ _ _ h => h) (by rfl) ?_ (by assumption) ?_; rotate_left; (focus (intro w hSw; (try dsimp only at hSw); go_simp; try with_reducible rfl)); try simp only [Act.put, List.setIfInBounds_toArray, List.set_cons_zero, List.set_cons_succ]
     refine wpH_take (i := 22) (v := ?_) rfl (by kernel_rfl) (by kernel_rfl) (by kernel_rfl) (fun _ _ _ h => h) (by rfl) ?_ (by assumption) ?_; rotate_left; (focus (intro w hSw; (try dsimp only at hSw); go_simp; try with_reducible rfl)); try simp only [Act.put, List.setIfInBounds_toArray, List.set_cons_zero, List.set_cons_succ]
     refine wpH_take (i := 23) (v := ?_) rfl (by kernel_rfl) (by kernel_rfl) (by kernel_rfl) (fun _ _ _ h => h) (by rfl) ?_ (by assumption) ?_; rotate_left; (focus (intro w hSw; (try dsimp only at hSw); go_simp; try with_reducible rfl)); try simp only [Act.put, List.setIfInBounds_toArray, List.set_cons_zero, List.set_cons_succ]
     refine wpH_take (i := 24) (v := ?_) rfl (by kernel_rfl) (by kernel_rfl) (by kernel_rfl) (fun _ _ _ h => h) (by rfl) ?_ (by assumption) ?_; rotate_left; (focus (intro w hSw; (try dsimp only at hSw); go_simp; try with_reducible rfl)); try simp only [Act.put, List.setIfInBounds_toArray, List.set_cons_zero, List.set_cons_succ]
     refine wpH_take (i := 25) (v := ?_) rfl (by kernel_rfl) (by kernel_rfl) (by kernel_rfl) (fun _ _ _ h => h) (by rfl) ?_ (by assumption) ?_; rotate_left; (focus (intro w hSw; (try dsimp only at hSw); go_simp; try with_reducible rfl)); try simp only [Act.put, List.setIfInBounds_toArray, List.set_cons_zero, List.set_cons_succ]
     refine wpH_take (i := 26) (v := ?_) rfl (by kernel_rfl) (by kernel_rfl) (by kernel_rfl) (fun _ _ _ h => h) (by rfl) ?_ (by assumption) ?_; rotate_left; (focus (intro w hSw; (try dsimp only at hSw); go_simp; try with_reducible rfl)); try simp only [Act.put, List.setIfInBounds_toArray, List.set_cons_zero, List.set_cons_succ]
     refine wpH_take (i := 27) (v := ?_) rfl (by kernel_rfl) (by kernel_rfl) (by kernel_rfl) (fun _ _ _ h => h) (by rfl) ?_ (by assumption) ?_; rotate_left; (focus (intro w hSw; (try dsimp only at hSw); go_simp; try with_reducible rfl)); try simp only [Act.put, List.setIfInBounds_toArray, List.set_cons_zero, List.set_cons_succ]
     refine wpH_take (i := 28) (v := ?_) rfl (by kernel_rfl) (by kernel_rfl) (by kernel_rfl) (fun _ _ _ h => h) (by rfl) ?_ (by assumption) ?_; rotate_left; (focus (intro w hSw; (try dsimp only at hSw); go_simp; try with_reducible rfl)); try simp only [Act.put, List.setIfInBounds_toArray, List.set_cons_zero, List.set_cons_succ]
     refine wpH_take (i := 29) (v := ?_) rfl (by kernel_rfl) (by kernel_rfl) (by kernel_rfl) (fun _ _ _ h => h) (by rfl) ?_ (by assumption) ?_; rotate_left; (focus (intro w hSw; (try dsimp only at hSw); go_simp; try with_reducible rfl)); try simp only [Act.put, List.setIfInBounds_toArray, List.set_cons_zero, List.set_cons_succ]
     refine wpH_take (i := 30) (v := ?_) rfl (by kernel_rfl) (by kernel_rfl) (by kernel_rfl) (fun _ _ _ h => h) (by rfl) ?_ (by assumption) ?_; rotate_left; (focus (intro w hSw; (try dsimp only at hSw); go_simp; try with_reducible rfl)); try simp only [Act.put, List.setIfInBounds_toArray, List.set_cons_zero, List.set_cons_succ]
     refine wpH_take (i := 31) (v := ?_) rfl (by kernel_rfl) (by kernel_rfl) (by kernel_rfl) (fun _ _ _ h => h) (by rfl) ?_ (by assumption) ?_; rotate_left; (focus (intro w hSw; (try dsimp only at hSw); go_simp; try with_reducible rfl)); try simp only [Act.put, List.setIfInBounds_toArray, List.set_cons_zero, List.set_cons_succ]
     refine wpAnyH_done (by kernel_rfl) ?_ _
     try dsimp only at hHeld
     clear hHeld HALL d0 d1 dx
     have HOd := Lib.hid HO.out.drew
     have HLd1 : Hid (wr.drew.cell? ⟨bl, ol + j * 2 + 1, none⟩ = some (.string st)) := Lib.hid DT.out
     clear HO DT
     generalize wr.drew = wd at *
     have d1 := HLd1.out
     have hf := HOd.out.free k
     obtain ⟨u, hu⟩ : ∃ u, wd.cell? ⟨gb, k, none⟩ = some u := ⟨_, HOd.out.cell k (by simp; have := HXL.out; omega)⟩
     have HO9 := Lib.hid (HOd.out.set k (.string st))
     rw [HST.out] at HO9
     clear HOd HLd1
     go_wp2
     go_roundg (gk - 1)
     case measure => omega
     case rel => exact ⟨j + 1, k + 1, x.set k st, by omega, by go_num, HLN, HO9, HPN⟩
    obtain ⟨jp, hjp⟩ : ∃ jp, j = jp + 1 := ⟨j - 1, by omega⟩
    have hjpl : jp < D.length := by omega
    have hkp := HKP.out (by omega) (by omega)
    have ejp : D[j - 1]'(by omega) = D[jp] := by congr 1; omega
    rw [ejp] at hkp
    have dp := HLW.out jp hjpl
    have HF3 : Hid (((0 : Int) < (j : Int)) = True ∧ (0 < j) = True) := Lib.hid ⟨eq_true (by omega), eq_true (by omega)⟩
    have hwj : IntKind.i64.wrap ((j : Int) - 1) = (jp : Int) := by rw [IntWalk.i64_in _ ⟨by omega, by omega⟩]; omega
    have hpi : (jp : Int) < (D.length : Int) := by omega
    have hpi0 : (0 : Int) ≤ (jp : Int) := by omega
    have HJP := Lib.hid hjp
    clear hj0 hjp ejp
    generalize D[jp].1 = kp at *
    have HF4 : Hid (((k : Int) ≤ kp) = False) := Lib.hid (eq_false (by omega))
    have HALL : Hid (wr.cell? ⟨gb, k, none⟩ = some (.string sx) ∧ wr.cell? ⟨bl, ol + j * 2 + 1, none⟩ = some (.string st) ∧ wr.cell? ⟨bl, ol + jp * 2, none⟩ = some (.int .i64 kp)) := Lib.hid ⟨dx, d1, dp⟩
    go_wp2
    obtain ⟨hf1, hf2⟩ := HF12.out
    obtain ⟨hf3, hf3n⟩ := HF3.out
    have hf4 := HF4.out
    refine wp_region_held_drew (S := (fun W => W.cell? ⟨gb, k, none⟩ = some (.string sx) ∧ W.cell? ⟨bl, ol + j * 2 + 1, none⟩ = some (.string st) ∧ W.cell? ⟨bl, ol + jp * 2, none⟩ = some (.int .i64 kp))) (by kernel_rfl) ?_ (fun hHeld => ?_)
    ·try dsimp only
     exact HALL.out
    change wpAnyH _ _ _ _ _ 32 #[false, false, false, false, false, false, false, false, false, false, false, false, false, false, false, false, false, false, false, false, false, false, false, false, false, false, false, false, false, false, false, false] _ _
    refine wpH_take (i := 0) (v := ?_) rfl (by kernel_rfl) (by kernel_rfl) (by kernel_rfl) (fun _ _ _ h => h) (by rfl) ?_ (by assumption) ?_; rotate_left; (focus (intro w hSw; (try dsimp only at hSw); go_simp; try with_reducible rfl)); try simp only [Act.put, List.setIfInBounds_toArray, List.set_cons_zero, List.set_cons_succ]
    refine wpH_take (i := 1) (v := ?_) rfl (by kernel_rfl) (by kernel_rfl) (by kernel_rfl) (fun _ _ _ h => h) (by rfl) ?_ (by assumption) ?_; rotate_left; (focus (intro w hSw; (try dsimp only at hSw); go_simp; try with_reducible rfl)); try simp only [Act.put, List.setIfInBounds_toArray, List.set_cons_zero, List.set_cons_succ]
    refine wpH_take (i := 2) (v := ?_) rfl (by kernel_rfl) (by kernel_rfl) (by kernel_rfl) (fun _ _ _ h => h) (by rfl) ?_ (by assumption) ?_; rotate_left; (focus (intro w hSw; (try dsimp only at hSw); go_simp; try with_reducible rfl)); try simp only [Act.put, List.setIfInBounds_toArray, List.set_cons_zero, List.set_cons_succ]
    refine wpH_take (i := 3) (v := ?_) rfl (by kernel_rfl) (by kernel_rfl) (by kernel_rfl) (fun _ _ _ h => h) (by rfl) ?_ (by assumption) ?_; rotate_left; (focus (intro w hSw; (try dsimp only at hSw); go_simp; try with_reducible rfl)); try simp only [Act.put, List.setIfInBounds_toArray, List.set_cons_zero, List.set_cons_succ]
    refine wpH_take (i := 4) (v := ?_) rfl (by kernel_rfl) (by kernel_rfl) (by kernel_rfl) (fun _ _ _ h => h) (by rfl) ?_ (by assumption) ?_; rotate_left; (focus (intro w hSw; (try dsimp only at hSw); go_simp; try with_reducible rfl)); try simp only [Act.put, List.setIfInBounds_toArray, List.set_cons_zero, List.set_cons_succ]
    refine wpH_take (i := 5) (v := ?_) rfl (by kernel_rfl) (by kernel_rfl) (by kernel_rfl) (fun _ _ _ h => h) (by rfl) ?_ (by assumption) ?_; rotate_left; (focus (intro w hSw; (try dsimp only at hSw); go_simp; try with_reducible rfl)); try simp only [Act.put, List.setIfInBounds_toArray, List.set_cons_zero, List.set_cons_succ]
    refine wpH_take (i := 6) (v := ?_) rfl (by kernel_rfl) (by kernel_rfl) (by kernel_rfl) (fun _ _ _ h => h) (by rfl) ?_ (by assumption) ?_; rotate_left; (focus (intro w hSw; (try dsimp only at hSw); go_simp; try with_reducible rfl)); try simp only [Act.put, List.setIfInBounds_toArray, List.set_cons_zero, List.set_cons_succ]
    refine wpH_take (i := 7) (v := ?_) rfl (by kernel_rfl) (by kernel_rfl) (by kernel_rfl) (fun _ _ _ h => h) (by rfl) ?_ (by assumption) ?_; rotate_left; (focus (intro w hSw; (try dsimp only at hSw); go_simp; try with_reducible rfl)); try simp only [Act.put, List.setIfInBounds_toArray, List.set_cons_zero, List.set_cons_succ]
    refine wpH_take (i := 8) (v := ?_) rfl (by kernel_rfl) (by kernel_rfl) (by kernel_rfl) (fun _ _ _ h => h) (by rfl) ?_ (by assumption) ?_; rotate_left; (focus (intro w hSw; (try dsimp only at hSw); go_simp; try with_reducible rfl)); try simp only [Act.put, List.setIfInBounds_toArray, List.set_cons_zero, List.set_cons_succ]
    refine wpH_take (i := 9) (v := ?_) rfl (by kernel_rfl) (by kernel_rfl) (by kernel_rfl) (fun _ _ _ h => h) (by rfl) ?_ (by assumption) ?_; rotate_left; (focus (intro w hSw; (try dsimp only at hSw); go_simp; try with_reducible rfl)); try simp only [Act.put, List.setIfInBounds_toArray, List.set_cons_zero, List.set_cons_succ]
    refine wpH_take (i := 10) (v := ?_) rfl (by kernel_rfl) (by kernel_rfl) (by kernel_rfl) (fun _ _ _ h => h) (by rfl) ?_ (by assumption) ?_; rotate_left; (focus (intro w hSw; (try dsimp only at hSw); go_simp; try with_reducible rfl)); try simp only [Act.put, List.setIfInBounds_toArray, List.set_cons_zero, List.set_cons_succ]
    refine wpH_take (i := 11) (v := ?_) rfl (by kernel_rfl) (by kernel_rfl) (by kernel_rfl) (fun _ _ _ h => h) (by rfl) ?_ (by assumption) ?_; rotate_left; (focus (intro w hSw; (try dsimp only at hSw); go_simp; try with_reducible rfl)); try simp only [Act.put, List.setIfInBounds_toArray, List.set_cons_zero, List.set_cons_succ]
    refine wpH_take (i := 12) (v := ?_) rfl (by kernel_rfl) (by kernel_rfl) (by kernel_rfl) (fun _ _ _ h => h) (by rfl) ?_ (by assumption) ?_; rotate_left; (focus (intro w hSw; (try dsimp only at hSw); go_simp; try with_reducible rfl)); try simp only [Act.put, List.setIfInBounds_toArray, List.set_cons_zero, List.set_cons_succ]
    refine wpH_take (i := 13) (v := ?_) rfl (by kernel_rfl) (by kernel_rfl) (by kernel_rfl) (fun _ _ _ h => h) (by rfl) ?_ (by assumption) ?_; rotate_left; (focus (intro w hSw; (try dsimp only at hSw); go_simp; try with_reducible rfl)); try simp only [Act.put, List.setIfInBounds_toArray, List.set_cons_zero, List.set_cons_succ]
    refine wpH_take (i := 14) (v := ?_) rfl (by kernel_rfl) (by kernel_rfl) (by kernel_rfl) (fun _ _ _ h => h) (by rfl) ?_ (by assumption) ?_; rotate_left; (focus (intro w hSw; (try dsimp only at hSw); go_simp; try with_reducible rfl)); try simp only [Act.put, List.setIfInBounds_toArray, List.set_cons_zero, List.set_cons_succ]
    refine wpH_take (i := 15) (v := ?_) rfl (by kernel_rfl) (by kernel_rfl) (by kernel_rfl) (fun _ _ _ h => h) (by rfl) ?_ (by assumption) ?_; rotate_left; (focus (intro w hSw; (try dsimp only at hSw); go_simp; try with_reducible rfl)); try simp only [Act.put, List.setIfInBounds_toArray, List.set_cons_zero, List.set_cons_succ]
    refine wpH_take (i := 16) (v := ?_) rfl (by kernel_rfl) (by kernel_rfl) (by kernel_rfl) (fun _ _ _ h => h) (by rfl) ?_ (by assumption) ?_; rotate_left; (focus (intro w hSw; (try dsimp only at hSw); go_simp; try with_reducible rfl)); try simp only [Act.put, List.setIfInBounds_toArray, List.set_cons_zero, List.set_cons_succ]
    refine wpH_take (i := 17) (v := ?_) rfl (by kernel_rfl) (by kernel_rfl) (by kernel_rfl) (fun _ _ _ h => h) (by rfl) ?_ (by assumption) ?_; rotate_left; (focus (intro w hSw; (try dsimp only at hSw); go_simp; try with_reducible rfl)); try simp only [Act.put, List.setIfInBounds_toArray, List.set_cons_zero, List.set_cons_succ]
    refine wpH_take (i := 18) (v := ?_) rfl (by kernel_rfl) (by kernel_rfl) (by kernel_rfl) (fun _ _ _ h => h) (by rfl) ?_ (by assumption) ?_; rotate_left; (focus (intro w hSw; (try dsimp only at hSw); go_simp; try with_reducible rfl)); try simp only [Act.put, List.setIfInBounds_toArray, List.set_cons_zero, List.set_cons_succ]
    refine wpH_take (i := 19) (v := ?_) rfl (by kernel_rfl) (by kernel_rfl) (by kernel_rfl) (fun _ _ _ h => h) (by rfl) ?_ (by assumption) ?_; rotate_left; (focus (intro w hSw; (try dsimp only at hSw); go_simp; try with_reducible rfl)); try simp only [Act.put, List.setIfInBounds_toArray, List.set_cons_zero, List.set_cons_succ]
    refine wpH_take (i := 20) (v := ?_) rfl (by kernel_rfl) (by kernel_rfl) (by kernel_rfl) (fun _ _ _ h => h) (by rfl) ?_ (by assumption) ?_; rotate_left; (focus (intro w hSw; (try dsimp only at hSw); go_simp; try with_reducible rfl)); try simp only [Act.put, List.setIfInBounds_toArray, List.set_cons_zero, List.set_cons_succ]
    refine wpH_take (i := 21) (v := ?_) rfl (by kernel_rfl) (by kernel_rfl) (by kernel_rfl) (fun _ _ _ h => h) (by rfl) ?_ (by assumption) ?_; rotate_left; (focus (intro w hSw; (try dsimp only at hSw); go_simp; try with_reducible rfl)); try simp only [Act.put, List.setIfInBounds_toArray, List.set_cons_zero, List.set_cons_succ]
    refine wpH_take (i := 22) (v := ?_) rfl (by kernel_rfl) (by kernel_rfl) (by kernel_rfl) (fun _ _ _ h => h) (by rfl) ?_ (by assumption) ?_; rotate_left; (focus (intro w hSw; (try dsimp only at hSw); go_simp; try with_reducible rfl)); try simp only [Act.put, List.setIfInBounds_toArray, List.set_cons_zero, List.set_cons_succ]
    refine wpH_take (i := 23) (v := ?_) rfl (by kernel_rfl) (by kernel_rfl) (by kernel_rfl) (fun _ _ _ h => h) (by rfl) ?_ (by assumption) ?_; rotate_left; (focus (intro w hSw; (try dsimp only at hSw); go_simp; try with_reducible rfl)); try simp only [Act.put, List.setIfInBounds_toArray, List.set_cons_zero, List.set_cons_succ]
    refine wpH_take (i := 24) (v := ?_) rfl (by kernel_rfl) (by kernel_rfl) (by kernel_rfl) (fun _ _ _ h => h) (by rfl) ?_ (by assumption) ?_; rotate_left; (focus (intro w hSw; (try dsimp only at hSw); go_simp; try with_reducible rfl)); try simp only [Act.put, List.setIfInBounds_toArray, List.set_cons_zero, List.set_cons_succ]
    refine wpH_take (i := 25) (v := ?_) rfl (by kernel_rfl) (by kernel_rfl) (by kernel_rfl) (fun _ _ _ h => h) (by rfl) ?_ (by assumption) ?_; rotate_left; (focus (intro w hSw; (try dsimp only at hSw); go_simp; try with_reducible rfl)); try simp only [Act.put, List.setIfInBounds_toArray, List.set_cons_zero, List.set_cons_succ]
    refine wpH_take (i := 26) (v := ?_) rfl (by kernel_rfl) (by kernel_rfl) (by kernel_rfl) (fun _ _ _ h => h) (by rfl) ?_ (by assumption) ?_; rotate_left; (focus (intro w hSw; (try dsimp only at hSw); go_simp; try with_reducible rfl)); try simp only [Act.put, List.setIfInBounds_toArray, List.set_cons_zero, List.set_cons_succ]
    refine wpH_take (i := 27) (v := ?_) rfl (by kernel_rfl) (by kernel_rfl) (by kernel_rfl) (fun _ _ _ h => h) (by rfl) ?_ (by assumption) ?_; rotate_left; (focus (intro w hSw; (try dsimp only at hSw); go_simp; try with_reducible rfl)); try simp only [Act.put, List.setIfInBounds_toArray, List.set_cons_zero, List.set_cons_succ]
    refine wpH_take (i := 28) (v := ?_) rfl (by kernel_rfl) (by kernel_rfl) (by kernel_rfl) (fun _ _ _ h => h) (by rfl) ?_ (by assumption) ?_; rotate_left; (focus (intro w hSw; (try dsimp only at hSw); go_simp; try with_reducible rfl)); try simp only [Act.put, List.setIfInBounds_toArray, List.set_cons_zero, List.set_cons_succ]
    refine wpH_take (i := 29) (v := ?_) rfl (by kernel_rfl) (by kernel_rfl) (by kernel_rfl) (fun _ _ _ h => h) (by rfl) ?_ (by assumption) ?_; rotate_left; (focus (intro w hSw; (try dsimp only at hSw); go_simp; try with_reducible rfl)); try simp only [Act.put, List.setIfInBounds_toArray, List.set_cons_zero, List.set_cons_succ]
    refine wpH_take (i := 30) (v := ?_) rfl (by kernel_rfl) (by kernel_rfl) (by kernel_rfl) (fun _ _ _ h => h) (by rfl) ?_ (by assumption) ?_; rotate_left; (focus (intro w hSw; (try dsimp only at hSw); go_simp; try with_reducible rfl)); try simp only [Act.put, List.setIfInBounds_toArray, List.set_cons_zero, List.set_cons_succ]
    refine wpH_take (i := 31) (v := ?_) rfl (by kernel_rfl) (by kernel_rfl) (by kernel_rfl) (fun _ _ _ h => h) (by rfl) ?_ (by assumption) ?_; rotate_left; (focus (intro w hSw; (try dsimp only at hSw); go_simp; try with_reducible rfl)); try simp only [Act.put, List.setIfInBounds_toArray, List.set_cons_zero, List.set_cons_succ]
    refine wpAnyH_done (by kernel_rfl) ?_ _
    try dsimp only at hHeld
    clear hHeld HALL d0 d1 dx dp
    have HOd := Lib.hid HO.out.drew
    have HLd1 : Hid (wr.drew.cell? ⟨bl, ol + j * 2 + 1, none⟩ = some (.string st)) := Lib.hid DT.out
    clear HO DT
    generalize wr.drew = wd at *
    have d1 := HLd1.out
    have hf := HOd.out.free k
    obtain ⟨u, hu⟩ : ∃ u, wd.cell? ⟨gb, k, none⟩ = some u := ⟨_, HOd.out.cell k (by simp; have := HXL.out; omega)⟩
    have HO9 := Lib.hid (HOd.out.set k (.string st))
    rw [HST.out] at HO9
    clear HOd HLd1
    go_wp2
    go_roundg (gk - 1)
    case measure => omega
    case rel => exact ⟨j + 1, k + 1, x.set k st, by omega, by go_num, HLN, HO9, HPN⟩
   ·have hjl : j = D.length := by omega
    have HXB : Hid (x = lb) := Lib.hid (led_end HLd.out HLBL.out (by rw [HD.out]; exact hjl))
    have HJL := Lib.hid hjl
    clear hjl
    rw [HXB.out] at HO
    have hnl : ¬ (j : Int) < (D.length : Int) := by omega
    have HBBr := Lib.hid (HBB2.out.below HBw.out (Nat.le_refl _))
    have HBr := Lib.hid (HB2.out.trans (HBw.out.mono HB2.out.size))
    go_wp2_with fail
    refine (sameTexts_yes _ _ 17 17 _ _ lb _ HO.out.rd HBBr.out (by omega)).mono ?_
    rintro e w5 ⟨rfl, hb5⟩
    have HBB5 := Lib.hid (HBBr.out.below hb5 (Nat.le_refl _))
    have HB5 := Lib.hid (HBr.out.trans (hb5.mono HBr.out.size))
    clear hb5
    go_wp2_with fail
    refine (implDiff_any pb pb 17 17 cb cb lb lb _ HBB5.out HBB5.out).mono ?_
    rintro e w6 ⟨p6, c6, rfl, hO6⟩
    have HB6 := Lib.hid (HB5.out.trans (hO6.below.mono HB5.out.size))
    clear hO6
    rw [HBN.out]
    go_wp2
    go_ret
    exact ⟨rfl, HB6.out⟩
end Go.Proofs.Ytlkfabkkjfmnmaa
