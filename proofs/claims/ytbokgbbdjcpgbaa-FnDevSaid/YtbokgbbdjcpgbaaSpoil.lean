/- A text that is spoiled at one byte; texts that are drawn of a code. -/
import Derived.Test.YtbokgbbdjcpgbaaCur3
import Derived.Test.YtbokgbbdjcpgbaaRv
namespace Go.Proofs.Ytbokgbbdjcpgbaa
open Go.RowKit

theorem xor_byte (a b : Nat) (ha : a < 256) (hb : b < 256) : bits .xor .i64 (a : Int) (b : Int) = ((a ^^^ b : Nat) : Int) ∧ a ^^^ b < 256 := by
  have hx : a ^^^ b < 2 ^ 8 := Nat.xor_lt_two_pow (by simpa using ha) (by simpa using hb)
  refine ⟨?_, by simpa using hx⟩
  have ha' : a % 2 ^ 64 = a := Nat.mod_eq_of_lt (by omega)
  have hb' : b % 2 ^ 64 = b := Nat.mod_eq_of_lt (by omega)
  show IntKind.i64.wrap ((BitVec.ofInt 64 (a : Int) ^^^ BitVec.ofInt 64 (b : Int)).toNat : Int) = _
  rw [BitVec.ofInt_natCast, BitVec.ofInt_natCast, BitVec.toNat_xor, BitVec.toNat_ofNat, BitVec.toNat_ofNat, ha', hb']
  exact wraps_i64 _ (Int.natCast_nonneg _) (by omega)
theorem u8_in (x : Int) (h0 : 0 ≤ x) (h1 : x < 256) : IntKind.u8.wrap x = x := by
  have : IntKind.u8.wrap x = x % 256 := by simp [IntKind.wrap, IntKind.bits, IntKind.signed]
  rw [this]; omega
/-- Byte k of a text. -/
def byteAt (t : ByteArray) (k : Nat) : Nat := (t.data.toList.getD k 0).toNat
theorem byteAt_lt (t : ByteArray) (k : Nat) : byteAt t k < 256 := (t.data.toList.getD k 0).toNat_lt
theorem byteAt_get (t : ByteArray) (k : Nat) (h : k < t.size) : byteAt t k = (t[k]'h).toNat := by
  unfold byteAt
  rw [List.getD_eq_getElem?_getD, List.getElem?_eq_getElem (by simpa using h)]
  rfl
def spoilK (bs : List Int) (t : ByteArray) (k : Nat) (m : Int) (s : CS) : ByteArray × CS :=
  if m = 0 then (t.extract 0 k ++ t.extract (k + 1) t.size, s)
  else if m = 1 then (t.extract 0 k ++ ⟨#[ub (byteF bs s).1]⟩ ++ t.extract k t.size, (byteF bs s).2)
  else if m = 2 then (t.extract 0 k, s)
  else (t.extract 0 k ++ ⟨#[ub ((byteAt t k ^^^ (1 + (belowF bs 255 s).1.toNat) : Nat) : Int)]⟩ ++ t.extract (k + 1) t.size, (belowF bs 255 s).2)
def spoilF (bs : List Int) (t : ByteArray) (s : CS) : ByteArray × CS :=
  if t.size = 0 then textF bs 3 s
  else spoilK bs t (belowF bs t.size s).1.toNat (belowF bs 4 (belowF bs t.size s).2).1 (belowF bs 4 (belowF bs t.size s).2).2
theorem size_one (u : UInt8) : (⟨#[u]⟩ : ByteArray).size = 1 := rfl
theorem spoilF_size (bs : List Int) (t : ByteArray) (s : CS) : (spoilF bs t s).1.size ≤ t.size + 3 := by
  unfold spoilF
  split
  · have := textF_size bs 3 s (by omega); omega
  · unfold spoilK
    split
    · simp only [ByteArray.size_append, ByteArray.size_extract]; omega
    · split
      · simp only [ByteArray.size_append, ByteArray.size_extract, size_one]; omega
      · split
        · simp only [ByteArray.size_extract]; omega
        · simp only [ByteArray.size_append, ByteArray.size_extract, size_one]; omega

set_option maxRecDepth 1000000 in
set_option maxHeartbeats 6000000 in
theorem l1Spoil_any (a : Option Addr) (n cap : Nat) (bs : List Int) (g : Nat) (s : CS) (t : ByteArray) (w : World) (hC : CurAt a n cap bs g s w) (ht : t.size ≤ 1048576) :
    Calls Try.prog 106 #[.pointer (some ⟨g, 0, none⟩), .string t] w (DrewStr a n cap bs g w (spoilF bs t s)) := by
  have HC := Lib.hid hC
  clear hC
  by_cases h0 : t.size = 0
  · have HF : Hid (spoilF bs t s = textF bs 3 s) := Lib.hid (by unfold spoilF; rw [if_pos h0])
    have hz : ((t.size : Int) == 0) = true := by simp [h0]
    clear h0
    go_enter Try.func106, Try.ntmps106
    go_wp2_with fail
    refine (l1Text_any a n cap bs g s 3 _ HC.out (by omega) (by omega)).mono ?_
    rintro e w1 ⟨rfl, hC1, hG1⟩
    have HR := Lib.hid (And.intro hC1 hG1)
    clear hC1 hG1
    go_wp2
    go_ret
    rw [HF.out]
    exact ⟨rfl, HR.out.1, HR.out.2⟩
  · have hz : ((t.size : Int) == 0) = false := by rw [beq_eq_false_iff_ne]; omega
    have r1 := belowF_range bs t.size s (by omega)
    have r2 := belowF_range bs 4 (belowF bs t.size s).2 (by omega)
    have r3 := byteF_range bs (belowF bs 4 (belowF bs t.size s).2).2
    have r4 := belowF_range bs 255 (belowF bs 4 (belowF bs t.size s).2).2 (by omega)
    have HF : Hid (spoilF bs t s = spoilK bs t (belowF bs t.size s).1.toNat (belowF bs 4 (belowF bs t.size s).2).1 (belowF bs 4 (belowF bs t.size s).2).2) := Lib.hid (by unfold spoilF; rw [if_neg h0])
    go_enter Try.func106, Try.ntmps106
    go_wp2_with fail
    refine (l1Below_any a n cap bs g s t.size _ HC.out (by omega)).mono ?_
    rintro e w1 ⟨rfl, hC1, hG1⟩
    have HC1 := Lib.hid hC1
    have HG1 := Lib.hid hG1
    clear hC1 hG1 HC
    go_wp2_with fail
    refine (l1Below_any a n cap bs g _ 4 _ HC1.out (by omega)).mono ?_
    rintro e w2 ⟨rfl, hC1, hG1⟩
    have HC2 := Lib.hid hC1
    have HG2 := Lib.hid (HG1.out.trans hG1)
    clear hC1 hG1 HC1 HG1
    generalize (belowF bs 4 (belowF bs t.size s).2).2 = s2 at *
    generalize (belowF bs 4 (belowF bs t.size s).2).1 = m at *
    generalize (belowF bs t.size s).1 = kk at *
    obtain ⟨k0, k1⟩ := r1
    obtain ⟨k, rfl⟩ := Int.eq_ofNat_of_zero_le k0
    rw [Int.toNat_natCast] at HF
    have hkt : k < t.size := by omega
    have hw1 : IntKind.i64.wrap ((k : Int) + 1) = (k : Int) + 1 := IntWalk.i64_in _ ⟨by omega, by omega⟩
    have hw2 : ((k : Int) + 1).toNat = k + 1 := by omega
    have hw3 : (0 : Int) ≤ (k : Int) + 1 := by omega
    have hw4 : (k : Int) + 1 ≤ (t.size : Int) := by omega
    have hw5 : (k : Int) ≤ (t.size : Int) := by omega
    by_cases m0 : m = 0
    · subst m0
      have HF2 := Lib.hid (HF.out.trans (by unfold spoilK; rw [if_pos rfl]))
      go_wp2
      go_quiet (fail)
      go_wp2
      go_ret
      rw [HF2.out]
      exact ⟨rfl, HC2.out.drewN _, grown_drewN HG2.out _⟩
    · by_cases m1 : m = 1
      · subst m1
        have HF2 := Lib.hid (HF.out.trans (by unfold spoilK; rw [if_neg (by omega), if_pos rfl]))
        go_wp2
        refine wp_region_held_drew (S := (fun _ : World => True)) (by kernel_rfl) ?_ (fun hHeld => ?_)
        · try dsimp only
          (try trivial)
        change wpAnyH _ _ _ _ _ 14 #[false, false, false, false, false, false, false, false, false, false, false, false, false, false] _ _
        refine wpH_take (i := 0) (v := ?_) rfl (by kernel_rfl) (by kernel_rfl) (by kernel_rfl) (fun _ _ _ h => h) (by rfl) ?_ (by assumption) ?_; rotate_left; (focus (intro w hSw; (try dsimp only at hSw); go_simp; try with_reducible rfl)); try simp only [Act.put, List.setIfInBounds_toArray, List.set_cons_zero, List.set_cons_succ]
        refine wpH_take (i := 1) (v := ?_) rfl (by kernel_rfl) (by kernel_rfl) (by kernel_rfl) (fun _ _ _ h => h) (by rfl) ?_ (by assumption) ?_; rotate_left; (focus (intro w hSw; (try dsimp only at hSw); go_simp; try with_reducible rfl)); try simp only [Act.put, List.setIfInBounds_toArray, List.set_cons_zero, List.set_cons_succ]
        refine wpH_take (i := 2) (v := ?_) rfl (by kernel_rfl) (by kernel_rfl) (by kernel_rfl) (fun _ _ _ h => h) (by rfl) ?_ (by assumption) ?_; rotate_left; (focus (intro w hSw; (try dsimp only at hSw); go_simp; try with_reducible rfl)); try simp only [Act.put, List.setIfInBounds_toArray, List.set_cons_zero, List.set_cons_succ]
        refine wpH_take (i := 3) (v := ?_) rfl (by kernel_rfl) (by kernel_rfl) (by kernel_rfl) (fun _ _ _ h => h) (by rfl) ?_ (by assumption) ?_; rotate_left; (focus (intro w hSw; (try dsimp only at hSw); go_simp; try with_reducible rfl)); try simp only [Act.put, List.setIfInBounds_toArray, List.set_cons_zero, List.set_cons_succ]
        refine wpH_take (i := 9) (v := ?_) rfl (by kernel_rfl) (by kernel_rfl) (by kernel_rfl) (fun _ _ _ h => h) (by rfl) ?_ (by assumption) ?_; rotate_left; (focus (intro w hSw; (try dsimp only at hSw); go_simp; try with_reducible rfl)); try simp only [Act.put, List.setIfInBounds_toArray, List.set_cons_zero, List.set_cons_succ]
        refine wpH_take (i := 10) (v := ?_) rfl (by kernel_rfl) (by kernel_rfl) (by kernel_rfl) (fun _ _ _ h => h) (by rfl) ?_ (by assumption) ?_; rotate_left; (focus (intro w hSw; (try dsimp only at hSw); go_simp; try with_reducible rfl)); try simp only [Act.put, List.setIfInBounds_toArray, List.set_cons_zero, List.set_cons_succ]
        refine wpH_take (i := 11) (v := ?_) rfl (by kernel_rfl) (by kernel_rfl) (by kernel_rfl) (fun _ _ _ h => h) (by rfl) ?_ (by assumption) ?_; rotate_left; (focus (intro w hSw; (try dsimp only at hSw); go_simp; try with_reducible rfl)); try simp only [Act.put, List.setIfInBounds_toArray, List.set_cons_zero, List.set_cons_succ]
        refine wpAnyH_ready (rs := [4]) (by kernel_rfl) (by simp) ?_
        refine AllReadyH.cons rfl (fun K hK => ?_) AllReadyH.nil
        try dsimp only at hHeld
        go_simp
        (go_at_call 110; refine (l1Byte_any a n cap bs g _ _ HC2.out.drew).mono ?_; rintro e w3 ⟨rfl, hC3, hG3⟩)
        refine hK.out _ _ ?_ (fun hHeld2 => ?_)
        · try dsimp only
          (try trivial)
        clear hK K hHeld
        have hHeld := hHeld2
        clear hHeld2
        have HC3 := Lib.hid hC3
        have HG3 := Lib.hid ((grown_drew HG2.out).trans hG3)
        clear hC3 hG3
        generalize (byteF bs s2).2 = s3 at *
        generalize (byteF bs s2).1 = x at *
        obtain ⟨x0, x1⟩ := r3
        have hwx := u8_in x x0 (by omega)
        refine wpH_take (i := 5) (v := ?_) rfl (by kernel_rfl) (by kernel_rfl) (by kernel_rfl) (fun _ _ _ h => h) (by rfl) ?_ (by assumption) ?_; rotate_left; (focus (intro w hSw; (try dsimp only at hSw); go_simp; try with_reducible rfl)); try simp only [Act.put, List.setIfInBounds_toArray, List.set_cons_zero, List.set_cons_succ]
        refine wpAnyH_ready (rs := [6]) (by kernel_rfl) (by simp) ?_
        refine AllReadyH.cons rfl (fun K hK => ?_) AllReadyH.nil
        try dsimp only at hHeld
        go_simp
        skip
        refine hK.out _ _ ?_ (fun hHeld2 => ?_)
        · try dsimp only
          (try trivial)
        clear hK K hHeld
        have hHeld := hHeld2
        clear hHeld2
        have hcv := run_str (P := Try.prog) 47 9 5 Try.underlying47 Try.underlying5 Try.underlying9 (rd_byte w3 5 x x0 (by omega))
        refine wpAnyH_ready (rs := [7]) (by kernel_rfl) (by simp) ?_
        refine AllReadyH.cons rfl (fun K hK => ?_) AllReadyH.nil
        try dsimp only at hHeld
        go_simp
        skip
        refine hK.out _ _ ?_ (fun hHeld2 => ?_)
        · try dsimp only
          (try trivial)
        clear hK K hHeld
        have hHeld := hHeld2
        clear hHeld2
        clear hcv
        have hmin : min k t.size = k := Nat.min_eq_left (by omega)
        have hs1 : ¬ 9223372036854775807 < k + 1 := by omega
        have hs2 : ¬ 9223372036854775807 < k + 1 + (t.size - k) := by omega
        have hs3 : ¬ 9223372036854775807 < k + 1 + (t.size - (k + 1)) := by omega
        refine wpH_take (i := 8) (v := ?_) rfl (by kernel_rfl) (by kernel_rfl) (by kernel_rfl) (fun _ _ _ h => h) (by rfl) ?_ (by assumption) ?_; rotate_left; (focus (intro w hSw; (try dsimp only at hSw); go_simp; try with_reducible rfl)); try simp only [Act.put, List.setIfInBounds_toArray, List.set_cons_zero, List.set_cons_succ]
        refine wpH_take (i := 12) (v := ?_) rfl (by kernel_rfl) (by kernel_rfl) (by kernel_rfl) (fun _ _ _ h => h) (by rfl) ?_ (by assumption) ?_; rotate_left; (focus (intro w hSw; (try dsimp only at hSw); go_simp; try with_reducible rfl)); try simp only [Act.put, List.setIfInBounds_toArray, List.set_cons_zero, List.set_cons_succ]
        refine wpH_take (i := 13) (v := ?_) rfl (by kernel_rfl) (by kernel_rfl) (by kernel_rfl) (fun _ _ _ h => h) (by rfl) ?_ (by assumption) ?_; rotate_left; (focus (intro w hSw; (try dsimp only at hSw); go_simp; try with_reducible rfl)); try simp only [Act.put, List.setIfInBounds_toArray, List.set_cons_zero, List.set_cons_succ]
        refine wpAnyH_done (by kernel_rfl) ?_ _
        try dsimp only at hHeld
        go_wp2
        go_ret
        rw [HF2.out]
        exact ⟨rfl, HC3.out.alloc _, HG3.out.trans (World.grownBy_alloc _ _ _)⟩
      · by_cases m2 : m = 2
        · subst m2
          have HF2 := Lib.hid (HF.out.trans (by unfold spoilK; rw [if_neg (by omega), if_neg (by omega), if_pos rfl]))
          go_wp2
          go_ret
          rw [HF2.out]
          exact ⟨rfl, HC2.out, HG2.out⟩
        · have HF2 := Lib.hid (HF.out.trans (by unfold spoilK; rw [if_neg m0, if_neg m1, if_neg m2]))
          have e0 : (m == 0) = false := by simp [m0]
          have e1 : (m == 1) = false := by simp [m1]
          have e2 : (m == 2) = false := by simp [m2]
          have hbk := byteAt_get t k hkt
          have hbl := byteAt_lt t k
          clear m0 m1 m2
          go_wp2
          refine wp_region_held_drew (S := (fun _ : World => True)) (by kernel_rfl) ?_ (fun hHeld => ?_)
          · try dsimp only
            (try trivial)
          change wpAnyH _ _ _ _ _ 21 #[false, false, false, false, false, false, false, false, false, false, false, false, false, false, false, false, false, false, false, false, false] _ _
          have hv1 : IntKind.i64.wrap ((t[k]'hkt).toNat : Int) = ((t[k]'hkt).toNat : Int) := IntWalk.i64_in _ (by omega)
          refine wpH_take (i := 0) (v := ?_) rfl (by kernel_rfl) (by kernel_rfl) (by kernel_rfl) (fun _ _ _ h => h) (by rfl) ?_ (by assumption) ?_; rotate_left; (focus (intro w hSw; (try dsimp only at hSw); go_simp; try with_reducible rfl)); try simp only [Act.put, List.setIfInBounds_toArray, List.set_cons_zero, List.set_cons_succ]
          refine wpH_take (i := 1) (v := ?_) rfl (by kernel_rfl) (by kernel_rfl) (by kernel_rfl) (fun _ _ _ h => h) (by rfl) ?_ (by assumption) ?_; rotate_left; (focus (intro w hSw; (try dsimp only at hSw); go_simp; try with_reducible rfl)); try simp only [Act.put, List.setIfInBounds_toArray, List.set_cons_zero, List.set_cons_succ]
          refine wpH_take (i := 2) (v := ?_) rfl (by kernel_rfl) (by kernel_rfl) (by kernel_rfl) (fun _ _ _ h => h) (by rfl) ?_ (by assumption) ?_; rotate_left; (focus (intro w hSw; (try dsimp only at hSw); go_simp; try with_reducible rfl)); try simp only [Act.put, List.setIfInBounds_toArray, List.set_cons_zero, List.set_cons_succ]
          refine wpH_take (i := 3) (v := ?_) rfl (by kernel_rfl) (by kernel_rfl) (by kernel_rfl) (fun _ _ _ h => h) (by rfl) ?_ (by assumption) ?_; rotate_left; (focus (intro w hSw; (try dsimp only at hSw); go_simp; try with_reducible rfl)); try simp only [Act.put, List.setIfInBounds_toArray, List.set_cons_zero, List.set_cons_succ]
          refine wpH_take (i := 4) (v := ?_) rfl (by kernel_rfl) (by kernel_rfl) (by kernel_rfl) (fun _ _ _ h => h) (by rfl) ?_ (by assumption) ?_; rotate_left; (focus (intro w hSw; (try dsimp only at hSw); go_simp; try with_reducible rfl)); try simp only [Act.put, List.setIfInBounds_toArray, List.set_cons_zero, List.set_cons_succ]
          refine wpH_take (i := 5) (v := ?_) rfl (by kernel_rfl) (by kernel_rfl) (by kernel_rfl) (fun _ _ _ h => h) (by rfl) ?_ (by assumption) ?_; rotate_left; (focus (intro w hSw; (try dsimp only at hSw); go_simp; try with_reducible rfl)); try simp only [Act.put, List.setIfInBounds_toArray, List.set_cons_zero, List.set_cons_succ]
          refine wpH_take (i := 6) (v := ?_) rfl (by kernel_rfl) (by kernel_rfl) (by kernel_rfl) (fun _ _ _ h => h) (by rfl) ?_ (by assumption) ?_; rotate_left; (focus (intro w hSw; (try dsimp only at hSw); go_simp; try with_reducible rfl)); try simp only [Act.put, List.setIfInBounds_toArray, List.set_cons_zero, List.set_cons_succ]
          refine wpH_take (i := 7) (v := ?_) rfl (by kernel_rfl) (by kernel_rfl) (by kernel_rfl) (fun _ _ _ h => h) (by rfl) ?_ (by assumption) ?_; rotate_left; (focus (intro w hSw; (try dsimp only at hSw); go_simp; try with_reducible rfl)); try simp only [Act.put, List.setIfInBounds_toArray, List.set_cons_zero, List.set_cons_succ]
          refine wpH_take (i := 15) (v := ?_) rfl (by kernel_rfl) (by kernel_rfl) (by kernel_rfl) (fun _ _ _ h => h) (by rfl) ?_ (by assumption) ?_; rotate_left; (focus (intro w hSw; (try dsimp only at hSw); go_simp; try with_reducible rfl)); try simp only [Act.put, List.setIfInBounds_toArray, List.set_cons_zero, List.set_cons_succ]
          refine wpH_take (i := 16) (v := ?_) rfl (by kernel_rfl) (by kernel_rfl) (by kernel_rfl) (fun _ _ _ h => h) (by rfl) ?_ (by assumption) ?_; rotate_left; (focus (intro w hSw; (try dsimp only at hSw); go_simp; try with_reducible rfl)); try simp only [Act.put, List.setIfInBounds_toArray, List.set_cons_zero, List.set_cons_succ]
          refine wpH_take (i := 17) (v := ?_) rfl (by kernel_rfl) (by kernel_rfl) (by kernel_rfl) (fun _ _ _ h => h) (by rfl) ?_ (by assumption) ?_; rotate_left; (focus (intro w hSw; (try dsimp only at hSw); go_simp; try with_reducible rfl)); try simp only [Act.put, List.setIfInBounds_toArray, List.set_cons_zero, List.set_cons_succ]
          refine wpH_take (i := 18) (v := ?_) rfl (by kernel_rfl) (by kernel_rfl) (by kernel_rfl) (fun _ _ _ h => h) (by rfl) ?_ (by assumption) ?_; rotate_left; (focus (intro w hSw; (try dsimp only at hSw); go_simp; try with_reducible rfl)); try simp only [Act.put, List.setIfInBounds_toArray, List.set_cons_zero, List.set_cons_succ]
          refine wpAnyH_ready (rs := [8]) (by kernel_rfl) (by simp) ?_
          refine AllReadyH.cons rfl (fun K hK => ?_) AllReadyH.nil
          try dsimp only at hHeld
          go_simp
          (go_at_call 77; refine (l1Below_any a n cap bs g _ 255 _ HC2.out.drew (by omega)).mono ?_; rintro e w3 ⟨rfl, hC3, hG3⟩)
          refine hK.out _ _ ?_ (fun hHeld2 => ?_)
          · try dsimp only
            (try trivial)
          clear hK K hHeld
          have hHeld := hHeld2
          clear hHeld2
          have HC3 := Lib.hid hC3
          have HG3 := Lib.hid ((grown_drew HG2.out).trans hG3)
          clear hC3 hG3
          generalize (belowF bs 255 s2).2 = s3 at *
          generalize (belowF bs 255 s2).1 = x at *
          obtain ⟨x0, x1⟩ := r4
          obtain ⟨q, rfl⟩ := Int.eq_ofNat_of_zero_le x0
          rw [Int.toNat_natCast] at HF2
          obtain ⟨hxe, hxl⟩ := xor_byte (byteAt t k) (1 + q) hbl (by omega)
          rw [hbk, show ((1 + q : Nat) : Int) = 1 + (q : Int) from by omega] at hxe
          rw [hbk] at hxl HF2
          have hv2 : IntKind.i64.wrap (1 + (q : Int)) = 1 + (q : Int) := IntWalk.i64_in _ (by omega)
          refine wpH_take (i := 9) (v := ?_) rfl (by kernel_rfl) (by kernel_rfl) (by kernel_rfl) (fun _ _ _ h => h) (by rfl) ?_ (by assumption) ?_; rotate_left; (focus (intro w hSw; (try dsimp only at hSw); go_simp; try with_reducible rfl)); try simp only [Act.put, List.setIfInBounds_toArray, List.set_cons_zero, List.set_cons_succ]
          refine wpH_take (i := 10) (v := ?_) rfl (by kernel_rfl) (by kernel_rfl) (by kernel_rfl) (fun _ _ _ h => h) (by rfl) ?_ (by assumption) ?_; rotate_left; (focus (intro w hSw; (try dsimp only at hSw); go_simp; try with_reducible rfl)); try simp only [Act.put, List.setIfInBounds_toArray, List.set_cons_zero, List.set_cons_succ]
          generalize (t[k]'hkt).toNat ^^^ (1 + q) = z at *
          have hz0 : (0 : Int) ≤ (z : Int) := by omega
          have hz1 : (z : Int) < 256 := by omega
          have hwx := u8_in (z : Int) hz0 hz1
          clear hxe
          refine wpH_take (i := 11) (v := ?_) rfl (by kernel_rfl) (by kernel_rfl) (by kernel_rfl) (fun _ _ _ h => h) (by rfl) ?_ (by assumption) ?_; rotate_left; (focus (intro w hSw; (try dsimp only at hSw); go_simp; try with_reducible rfl)); try simp only [Act.put, List.setIfInBounds_toArray, List.set_cons_zero, List.set_cons_succ]
          refine wpAnyH_ready (rs := [12]) (by kernel_rfl) (by simp) ?_
          refine AllReadyH.cons rfl (fun K hK => ?_) AllReadyH.nil
          try dsimp only at hHeld
          go_simp
          skip
          refine hK.out _ _ ?_ (fun hHeld2 => ?_)
          · try dsimp only
            (try trivial)
          clear hK K hHeld
          have hHeld := hHeld2
          clear hHeld2
          have hcv := run_str (P := Try.prog) 47 9 5 Try.underlying47 Try.underlying5 Try.underlying9 (rd_byte w3 5 (z : Int) hz0 hz1)
          refine wpAnyH_ready (rs := [13]) (by kernel_rfl) (by simp) ?_
          refine AllReadyH.cons rfl (fun K hK => ?_) AllReadyH.nil
          try dsimp only at hHeld
          go_simp
          skip
          refine hK.out _ _ ?_ (fun hHeld2 => ?_)
          · try dsimp only
            (try trivial)
          clear hK K hHeld
          have hHeld := hHeld2
          clear hHeld2
          clear hcv
          have hmin : min k t.size = k := Nat.min_eq_left (by omega)
          have hs1 : ¬ 9223372036854775807 < k + 1 := by omega
          have hs2 : ¬ 9223372036854775807 < k + 1 + (t.size - k) := by omega
          have hs3 : ¬ 9223372036854775807 < k + 1 + (t.size - (k + 1)) := by omega
          refine wpH_take (i := 14) (v := ?_) rfl (by kernel_rfl) (by kernel_rfl) (by kernel_rfl) (fun _ _ _ h => h) (by rfl) ?_ (by assumption) ?_; rotate_left; (focus (intro w hSw; (try dsimp only at hSw); go_simp; try with_reducible rfl)); try simp only [Act.put, List.setIfInBounds_toArray, List.set_cons_zero, List.set_cons_succ]
          refine wpH_take (i := 19) (v := ?_) rfl (by kernel_rfl) (by kernel_rfl) (by kernel_rfl) (fun _ _ _ h => h) (by rfl) ?_ (by assumption) ?_; rotate_left; (focus (intro w hSw; (try dsimp only at hSw); go_simp; try with_reducible rfl)); try simp only [Act.put, List.setIfInBounds_toArray, List.set_cons_zero, List.set_cons_succ]
          refine wpH_take (i := 20) (v := ?_) rfl (by kernel_rfl) (by kernel_rfl) (by kernel_rfl) (fun _ _ _ h => h) (by rfl) ?_ (by assumption) ?_; rotate_left; (focus (intro w hSw; (try dsimp only at hSw); go_simp; try with_reducible rfl)); try simp only [Act.put, List.setIfInBounds_toArray, List.set_cons_zero, List.set_cons_succ]
          refine wpAnyH_done (by kernel_rfl) ?_ _
          try dsimp only at hHeld
          go_wp2
          go_ret
          rw [HF2.out]
          exact ⟨rfl, HC3.out.alloc _, HG3.out.trans (World.grownBy_alloc _ _ _)⟩
end Go.Proofs.Ytbokgbbdjcpgbaa
