/- The reference's way of reading: so many numbers from a place on; a piece at a place. -/
import Derived.Test.YtbokgbbdjcpgbaaTxnS
import Derived.Test.YtbokgbbdjcpgbaaScan
import Derived.Test.YtbokgbbdjcpgbaaInts
import Derived.Test.YtbokgbbdjcpgbaaStrs
namespace Go.Proofs.Ytbokgbbdjcpgbaa
open Go.RowKit

def VarsPost (s : List UInt8) (n : Nat) (p : Int) (w : World) (e : Ending) (w' : World) : Prop := ∃ (g : Option Addr) (c : Nat), e = .returned (.tuple #[.slice g (varsF s n p []).1.length c, .int .i64 (varsF s n p []).2]) ∧ Own 3 1 w.heap.size w (.slice g (varsF s n p []).1.length c) (varsF s n p []).1.length (ints (varsF s n p []).1) w'
theorem varsF_out (s : List UInt8) (n : Nat) (p : Int) (out : List Int) (h : p < 0 ∨ (s.length : Int) < p) : varsF s (n + 1) p out = (out, -1) := by rw [varsF, if_pos h]
theorem varsF_no (s : List UInt8) (n : Nat) (k : Nat) (out : List Int) (h : k ≤ s.length) (h0 : (rdVar (s.drop k)).2 = 0) : varsF s (n + 1) (k : Int) out = (out, -1) := by
  rw [varsF, if_neg (by omega), Int.toNat_natCast, if_pos h0]
set_option maxRecDepth 1000000 in
set_option maxHeartbeats 6000000 in
theorem varsF_yes (s : List UInt8) (n : Nat) (k : Nat) (out : List Int) (h : k ≤ s.length) (h0 : (rdVar (s.drop k)).2 ≠ 0) : varsF s (n + 1) (k : Int) out = varsF s n ((k : Int) + (rdVar (s.drop k)).2) (out ++ [((rdVar (s.drop k)).1 : Int)]) := by
  rw [varsF, if_neg (by omega), Int.toNat_natCast, if_neg h0]
set_option maxRecDepth 1000000 in
set_option maxHeartbeats 6000000 in
theorem l7Vars_any (s : ByteArray) (p : Int) (n : Nat) (w : World) (hs : s.size ≤ 1048576) (hp0 : -1 ≤ p) (hp1 : p ≤ 1048581) (hn : n ≤ 3) :
    Calls Try.prog 99 #[.string s, .int .i64 p, .int .i64 (n : Int)] w (VarsPost s.data.toList n p w) := by
  have hlen : s.data.toList.length = s.size := Array.length_toList
  have HLEN := Lib.hid hlen
  have HO0 := Lib.hid (Own.lit (e := 3) (size := 1) (n := 0) (Below.refl w.heap.size w) (Nat.le_refl _) #[] rfl (by decide))
  clear hlen
  go_enter Try.func99, Try.ntmps99
  go_wp2
  go_loopg [1, 8, 9, 10, 11] n (fun gg pv ov i x10 x11 wr => ∃ (k m : Nat) (q : Int) (l : List Int) (g : Option Addr) (c : Nat), k + gg = n ∧ i = .int .i64 (k : Int) ∧ pv = .int .i64 q ∧ ov = .slice g m c ∧ Hid (l.length = m) ∧ m ≤ 3 ∧ m ≤ k ∧ (-1 ≤ q ∧ q ≤ 1048600) ∧ Hid (varsF s.data.toList n p [] = varsF s.data.toList gg q l) ∧ Hid (Own 3 1 w.heap.size w (.slice g m c) m (ints l) wr))
  case atStart => exact ⟨0, 0, p, [], _, _, by omega, rfl, rfl, rfl, Lib.hid rfl, by omega, by omega, ⟨hp0, by omega⟩, Lib.hid rfl, Lib.hid (by exact HO0.out)⟩
  case round =>
    obtain ⟨k, m, q, l, g, c, hk, rfl, rfl, rfl, HL, hm3, hmk, ⟨hq0, hq1⟩, HV, HO⟩ := hrel
    by_cases hlt : k < n
    · have hi : (k : Int) < (n : Int) := by omega
      obtain ⟨r, hr⟩ : ∃ r, gk = r + 1 := ⟨gk - 1, by omega⟩
      have HVR : Hid (varsF s.data.toList n p [] = varsF s.data.toList (r + 1) q l) := Lib.hid (by rw [HV.out, hr])
      have HR := Lib.hid hr
      clear HV hr
      by_cases hq : q < 0
      · have HE : Hid (varsF s.data.toList n p [] = (l, -1)) := Lib.hid (by rw [HVR.out, varsF_out _ _ _ _ (.inl hq)])
        go_wp2
        go_ret2
        unfold VarsPost
        rw [HE.out]
        refine ⟨g, c, by rw [HL.out]; rfl, ?_⟩
        rw [HL.out]
        exact HO.out
      · obtain ⟨j, rfl⟩ := Int.eq_ofNat_of_zero_le (show 0 ≤ q by omega)
        by_cases hj : s.size < j
        · have HE : Hid (varsF s.data.toList n p [] = (l, -1)) := Lib.hid (by rw [HVR.out, varsF_out _ _ _ _ (.inr (by rw [HLEN.out]; omega))])
          have hj2 : (s.size : Int) < (j : Int) := by omega
          clear hj
          go_wp2
          go_ret2
          unfold VarsPost
          rw [HE.out]
          refine ⟨g, c, by rw [HL.out]; rfl, ?_⟩
          rw [HL.out]
          exact HO.out
        · have hj2 : ¬ (s.size : Int) < (j : Int) := by omega
          have hj3 : (j : Int) ≤ (s.size : Int) := by omega
          have hj4 : (0 : Int) ≤ (j : Int) := by omega
          have hjn : ¬ (j : Int) < 0 := by omega
          have HXS := Lib.hid (ex_size s j 1073741824 (by omega))
          have HXD := Lib.hid (ex_drop s j)
          have HN := Lib.hid (varsF_no s.data.toList r j l (by rw [HLEN.out]; omega))
          have HY := Lib.hid (varsF_yes s.data.toList r j l (by rw [HLEN.out]; omega))
          have hrl := rdVar_le (s.data.toList.drop j)
          have hrd : (rdVar (s.data.toList.drop j)).2 ≤ 7 := rdVar_eq _
          clear hj hq
          go_wp2_with fail
          refine (specReadVar_any _ _ HXS.out).mono ?_
          rintro e w2 ⟨rfl, hb⟩
          rw [HXD.out]
          unfold rdVarV
          have HO2 := Lib.hid (HO.out.kept hb)
          clear hb HO
          generalize (rdVar (s.data.toList.drop j)).2 = d at *
          generalize (rdVar (s.data.toList.drop j)).1 = x at *
          by_cases hd : d = 0
          · have HE : Hid (varsF s.data.toList n p [] = (l, -1)) := Lib.hid (by rw [HVR.out, HN.out hd])
            have hd2 : ((d : Int) == 0) = true := by simp [hd]
            clear HN HY
            subst hd
            go_wp2
            go_ret2
            unfold VarsPost
            rw [HE.out]
            refine ⟨g, c, by rw [HL.out]; rfl, ?_⟩
            rw [HL.out]
            exact HO2.out
          · have HE : Hid (varsF s.data.toList n p [] = varsF s.data.toList r ((j : Int) + d) (l ++ [(x : Int)])) := Lib.hid (by rw [HVR.out, HY.out hd])
            have hd2 : ((d : Int) == 0) = false := by simp [hd]
            clear HN HY hd
            go_wp2_with (at_builtin; go_loud (refine wp_app1g rfl _ _ 95 rfl 3 (.int .i64 0) 1 8 Try.underlying95 info_i64 rfl (by decide) _ _ _ _ _ (by rfl) (by exact HO2.out) _ _ (by rfl) (by rfl) (by intro u hu; simp at hu; first | (subst hu; rfl) | (rcases hu with rfl | rfl <;> rfl) | (rcases hu with rfl | rfl | rfl <;> rfl) | (rcases hu with rfl | rfl | rfl | rfl <;> rfl)) (by omega) (by unfold maxLen; omega) ?_); intro a9 c9 w9 hO9 hG9 hN9)
            have HO9 := Lib.hid hO9
            clear hO9 hG9 hN9
            go_roundg r
            case measure => have := HR.out; omega
            case rel => exact ⟨k + 1, m + 1, (j : Int) + d, l ++ [(x : Int)], _, _, by have := HR.out; omega, by go_num, by go_num, rfl, Lib.hid (by rw [List.length_append, HL.out]; rfl), by omega, by omega, ⟨by omega, by omega⟩, HE, Lib.hid (by rw [ints_append]; exact HO9.out)⟩
    · have hi : ¬ (k : Int) < (n : Int) := by omega
      have h0 : gk = 0 := by omega
      have HE : Hid (varsF s.data.toList n p [] = (l, q)) := Lib.hid (by rw [HV.out, h0]; rfl)
      clear h0
      go_wp2
      go_ret2
      unfold VarsPost
      rw [HE.out]
      refine ⟨g, c, by rw [HL.out]; rfl, ?_⟩
      rw [HL.out]
      exact HO.out
theorem take_one (s : List UInt8) (p : Int) : 0 ≤ (varsF s 1 p []).2 → ∃ x, (varsF s 1 p []).1 = [x] ∧ 0 ≤ x ∧ x ≤ 562949953421311 := by
  intro h
  have h1 := (varsF_len s 1 p []).1 h
  have h2 := varsF_num s 1 p [] (fun x hx => by simp at hx)
  match hl : (varsF s 1 p []).1, h1, h2 with
  | [x], _, h2 => exact ⟨x, rfl, h2 x (by simp)⟩
def TakePost (s : List UInt8) (p : Int) (w : World) (e : Ending) (w' : World) : Prop := e = .returned (.tuple #[.string ⟨(takeP s p).1.toArray⟩, .int .i64 (takeP s p).2]) ∧ Below w.heap.size w w'
theorem ex_mid (s : ByteArray) (a b : Nat) : (⟨((s.data.toList.drop a).take b).toArray⟩ : ByteArray) = s.extract a (a + b) := by
  have h : (s.extract a (a + b)).data.toList = (s.data.toList.drop a).take b := by
    simp only [ByteArray.data_extract, Array.toList_extract]
    rw [List.extract_eq_take_drop]
    congr 1
    omega
  rw [← h, ba_self]
set_option maxRecDepth 1000000 in
set_option maxHeartbeats 6000000 in
theorem l7Take_any (s : ByteArray) (p : Int) (w : World) (hs : s.size ≤ 1048576) (hp0 : -1 ≤ p) (hp1 : p ≤ 1048581) :
    Calls Try.prog 100 #[.string s, .int .i64 p] w (TakePost s.data.toList p w) := by
  have hlen : s.data.toList.length = s.size := Array.length_toList
  have HT : Hid (takeP s.data.toList p = if (varsF s.data.toList 1 p []).2 < 0 ∨ (s.data.toList.length : Int) - (varsF s.data.toList 1 p []).2 < (varsF s.data.toList 1 p []).1.getD 0 0 then ([], -1)
      else ((s.data.toList.drop (varsF s.data.toList 1 p []).2.toNat).take ((varsF s.data.toList 1 p []).1.getD 0 0).toNat, (varsF s.data.toList 1 p []).2 + (varsF s.data.toList 1 p []).1.getD 0 0)) := Lib.hid rfl
  have HONE := Lib.hid (take_one s.data.toList p)
  have hle := varsF_le5 s.data.toList 0 p [] hp0
  rw [hlen] at HT hle
  have HM := Lib.hid (ex_mid s)
  clear hlen
  go_enter Try.func100, Try.ntmps100
  go_wp2_with fail
  refine (l7Vars_any s p 1 _ hs hp0 hp1 (by omega)).mono ?_
  rintro e w1 ⟨g, c, rfl, hO⟩
  have HO := Lib.hid hO
  clear hO
  generalize (varsF s.data.toList 1 p []).2 = q at *
  generalize (varsF s.data.toList 1 p []).1 = l at *
  by_cases hq : q < 0
  · have HE : Hid (takeP s.data.toList p = ([], -1)) := Lib.hid (by rw [HT.out, if_pos (.inl hq)])
    clear HT
    go_wp2
    go_ret2
    unfold TakePost
    rw [HE.out]
    exact ⟨rfl, HO.out.below⟩
  · obtain ⟨x, hx, hx0, hx1⟩ := HONE.out (by omega)
    obtain ⟨j, rfl⟩ := Int.eq_ofNat_of_zero_le (show 0 ≤ q by omega)
    obtain ⟨y, rfl⟩ := Int.eq_ofNat_of_zero_le hx0
    subst hx
    obtain ⟨b, off, rfl, hbs, hc⟩ := HO.out.rd.at' (by simp)
    have hc0 := hc 0 (by simp)
    have hc0 : w1.cell? ⟨b, off, none⟩ = some (.int .i64 (y : Int)) := hc0
    have HB := Lib.hid HO.out.below
    clear hc HO HONE hq
    by_cases hgt : (s.size : Int) - (j : Int) < (y : Int)
    · have HE : Hid (takeP s.data.toList p = ([], -1)) := Lib.hid (by rw [HT.out, if_pos (.inr (by simpa using hgt))])
      have hjw : IntKind.i64.wrap ((s.size : Int) - (j : Int)) = (s.size : Int) - (j : Int) := IntWalk.i64_in _ ⟨by omega, by omega⟩
      clear HT
      go_wp2
      go_ret2
      unfold TakePost
      rw [HE.out]
      exact ⟨rfl, HB.out⟩
    · have HE : Hid (takeP s.data.toList p = ((s.data.toList.drop j).take y, (j : Int) + y)) := Lib.hid (by rw [HT.out, if_neg (by simp; omega)]; simp)
      have hjw : IntKind.i64.wrap ((s.size : Int) - (j : Int)) = (s.size : Int) - (j : Int) := IntWalk.i64_in _ ⟨by omega, by omega⟩
      have hyw : IntKind.i64.wrap ((j : Int) + (y : Int)) = (j : Int) + (y : Int) := IntWalk.i64_in _ ⟨by omega, by omega⟩
      have hj1 : (j : Int) + (y : Int) ≤ (s.size : Int) := by omega
      have hj2 : (0 : Int) ≤ (j : Int) := by omega
      have hj3 : (j : Int) ≤ (j : Int) + (y : Int) := by omega
      clear HT
      go_wp2
      go_quiet (fail)
      go_wp2
      go_ret2
      unfold TakePost
      rw [HE.out]
      simp only
      rw [HM.out]
      exact ⟨rfl, below_drewN HB.out _⟩
end Go.Proofs.Ytbokgbbdjcpgbaa
