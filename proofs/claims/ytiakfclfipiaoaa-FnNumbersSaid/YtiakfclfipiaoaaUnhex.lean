/- Unhex: the program's and the reference's come to one. -/
import Derived.Test.YtiakfclfipiaoaaIn
import Derived.Test.YtiakfclfipiaoaaHex
namespace Go.Proofs.Ytiakfclfipiaoaa
open Go.RowKit

/-- What a digit of base 16 stands for; -1 where it is none. -/
def hexV (b : Int) : Int := if 48 ≤ b ∧ b ≤ 57 then b - 48 else if 97 ≤ b ∧ b ≤ 102 then b - 87 else -1
theorem hexV_lo (b : Int) : -1 ≤ hexV b := by unfold hexV; split <;> (try split) <;> omega
theorem hexV_hi (b : Int) : hexV b ≤ 15 := by unfold hexV; split <;> (try split) <;> omega

theorem dg_hexV_fin : ∀ k : Fin 16, hexV ((dg k.val).toNat : Int) = k.val := by decide
theorem dg_hexV (k : Nat) (h : k < 16) : hexV ((dg k).toNat : Int) = k := dg_hexV_fin ⟨k, h⟩
theorem hexV_none (b : Int) (h : ∀ j, j < 16 → ((dg j).toNat : Int) ≠ b) : hexV b = -1 := by
  unfold hexV
  split
  · exfalso
    refine h (b - 48).toNat (by omega) ?_
    have : (dg (b - 48).toNat) = UInt8.ofNat (48 + (b - 48).toNat) := by unfold dg; rw [if_pos (by omega)]
    rw [this, UInt8.toNat_ofNat']
    omega
  · split
    · exfalso
      refine h (b - 87).toNat (by omega) ?_
      have : (dg (b - 87).toNat) = UInt8.ofNat (87 + (b - 87).toNat) := by unfold dg; rw [if_neg (by omega)]
      rw [this, UInt8.toNat_ofNat']
      omega
    · rfl

/-- The byte of two digits. -/
def hb2 (a b : UInt8) : UInt8 := UInt8.ofNat (hexV a.toNat * 16 + hexV b.toNat).toNat
def unhexL : List UInt8 → Option (List UInt8)
  | [] => some []
  | [_] => none
  | a :: b :: r => if hexV a.toNat < 0 ∨ hexV b.toNat < 0 then none else (unhexL r).map (hb2 a b :: ·)
theorem unhexL_odd : ∀ l : List UInt8, l.length % 2 = 1 → unhexL l = none
  | [], h => by simp at h
  | [_], _ => rfl
  | a :: b :: r, h => by
    have := unhexL_odd r (by simp only [List.length_cons] at h; omega)
    unfold unhexL
    rw [this]
    split <;> rfl
/-- What Unhex comes to. -/
def unhexV (l : List UInt8) : Value := match unhexL l with
  | some r => .tuple #[.string ⟨r.toArray⟩, .bool true]
  | none => .tuple #[.string ⟨#[]⟩, .bool false]
theorem drop_two (s : ByteArray) (j : Nat) (h : j + 1 < s.size) : s.data.toList.drop j = s[j] :: s[j + 1] :: s.data.toList.drop (j + 2) := by
  rw [List.drop_eq_getElem_cons (by simp; omega), List.drop_eq_getElem_cons (by simp; omega)]
  rfl

set_option maxRecDepth 1000000 in
set_option maxHeartbeats 2000000 in
theorem hexValue_any (b : Int) (w : World) (h0 : 0 ≤ b) (h1 : b < 256) : Calls Try.prog 68 #[.int .u8 b] w fun e w' => e = .returned (.int .i64 (hexV b)) ∧ w = w' := by
  by_cases c1 : 48 ≤ b
  · by_cases c2 : b ≤ 57
    · have H : Hid (hexV b = b - 48) := Lib.hid (by unfold hexV; rw [if_pos ⟨c1, c2⟩])
      go_enter Try.func68, Try.ntmps68
      go_wp2
      go_ret
      exact ⟨ret_int (by rw [H.out]), rfl⟩
    · by_cases c3 : 97 ≤ b
      · by_cases c4 : b ≤ 102
        · have H : Hid (hexV b = b - 97 + 10) := Lib.hid (by unfold hexV; rw [if_neg (by omega), if_pos ⟨c3, c4⟩]; omega)
          go_enter Try.func68, Try.ntmps68
          go_wp2
          go_ret
          exact ⟨ret_int (by rw [H.out]), rfl⟩
        · have H : Hid (hexV b = -1) := Lib.hid (by unfold hexV; rw [if_neg (by omega), if_neg (by omega)])
          go_enter Try.func68, Try.ntmps68
          go_wp2
          go_ret
          exact ⟨ret_int (by rw [H.out]), rfl⟩
      · have H : Hid (hexV b = -1) := Lib.hid (by unfold hexV; rw [if_neg (by omega), if_neg (by omega)])
        go_enter Try.func68, Try.ntmps68
        go_wp2
        go_ret
        exact ⟨ret_int (by rw [H.out]), rfl⟩
  · have H : Hid (hexV b = -1) := Lib.hid (by unfold hexV; rw [if_neg (by omega), if_neg (by omega)])
    go_enter Try.func68, Try.ntmps68
    go_wp2
    go_ret
    exact ⟨ret_int (by rw [H.out]), rfl⟩

set_option maxRecDepth 1000000 in
set_option maxHeartbeats 2000000 in
theorem implUnhex_any (s : ByteArray) (w : World) (hs : s.size ≤ 1073741824) :
    Calls Try.prog 45 #[.string s] w fun e w' => e = .returned (unhexV s.data.toList) ∧ Below w.heap.size w w' := by
  by_cases hodd : s.size % 2 = 1
  · have H : Hid (unhexV s.data.toList = .tuple #[.string ⟨#[]⟩, .bool false]) := Lib.hid (by unfold unhexV; rw [unhexL_odd _ (by simpa using hodd)])
    have hne : ((s.size : Int) % 2 != 0) = true := by simp; omega
    clear hodd
    go_enter Try.func45, Try.ntmps45
    go_wp2
    go_ret2
    exact ⟨by rw [H.out]; rfl, Below.refl _ _⟩
  · have hne : ((s.size : Int) % 2 != 0) = false := by simp; omega
    obtain ⟨h, hh⟩ : ∃ h, s.size = 2 * h := ⟨s.size / 2, by omega⟩
    have hq : ((s.size : Int) / 2) = (h : Int) := by omega
    have hq2 : h ≤ 536870912 := by omega
    have HE := Lib.hid hh
    clear hodd hh
    go_enter Try.func45, Try.ntmps45
    go_wp2_with (at_make; refine wp_make0 rfl _ _ 30 rfl 5 _ 1 1 Try.underlying30 info_u8 w.heap.size w (Below.refl _ _) (Nat.le_refl _) _ _ _ h rfl rfl (by omega) (by omega) (by unfold maxLen; omega) ?_; intro w1 hO)
    go_loopg [4, 5] s.size (fun g v i wr => ∃ (j : Nat) (pre : List UInt8), j + g = s.size ∧ j % 2 = 0 ∧ i = .int .i64 j ∧ pre.length ≤ j ∧ unhexL s.data.toList = (unhexL (s.data.toList.drop j)).map (pre ++ ·) ∧ Own 5 1 w.heap.size w v pre.length (u8s pre) wr)
    case atStart => exact ⟨0, [], by omega, rfl, rfl, by simp, by simp, by simpa [u8s] using hO⟩
    case round =>
      obtain ⟨j, pre, hj, he, rfl, hpl, hU, hOk⟩ := hrel
      have hs2 := HE.out
      obtain ⟨av, cv, rfl, _, _⟩ := hOk.shape
      by_cases hlt : j < s.size
      · have hlt1 : j + 1 < s.size := by omega
        rw [drop_two s j hlt1] at hU
        have hB := Lib.hid he
        have hB2 := Lib.hid hs2
        clear he hs2 hq hne
        have ha0 : (s[j].toNat : Int) < 256 := by have := s[j].toNat_lt; omega
        have hb0 : (s[j + 1].toNat : Int) < 256 := by have := s[j + 1].toNat_lt; omega
        have hal := hexV_lo (s[j].toNat : Int)
        have hah := hexV_hi (s[j].toNat : Int)
        have hbl := hexV_lo (s[j + 1].toNat : Int)
        have hbh := hexV_hi (s[j + 1].toNat : Int)
        have hi1 : (j : Int) < (s.size : Int) := by omega
        have hi2 : (j : Int) + 1 < (s.size : Int) := by omega
        by_cases hneg : hexV (s[j].toNat : Int) < 0 ∨ hexV (s[j + 1].toNat : Int) < 0
        · have H : Hid (unhexV s.data.toList = .tuple #[.string ⟨#[]⟩, .bool false]) := Lib.hid (by unfold unhexV; rw [hU, unhexL, if_pos hneg]; rfl)
          clear hU
          by_cases hn1 : hexV (s[j].toNat : Int) < 0
          all_goals
            try (have hn2 : hexV (s[j + 1].toNat : Int) < 0 := by omega)
            clear hneg
            go_wp2
            have hw1 : IntKind.i64.wrap ((j : Int) + 1) = (j : Int) + 1 := IntWalk.i64_in _ ⟨by omega, by omega⟩
            have hw2 : ((j : Int) + 1).toNat = j + 1 := by omega
            have hw3 : 0 ≤ (j : Int) + 1 := by omega
            refine wp_region_any (by kernel_rfl) ?_
            try (change wpAny _ _ _ _ _ _ _ (World.drew _))
            refine wpAny_take (i := 0) (v := ?_) rfl (by kernel_rfl) (by kernel_rfl) (by kernel_rfl) (fun _ _ _ h => h) (Or.inl ⟨by rfl, ?hy⟩) ?_; (case hy => (intro w; go_simp; try with_reducible rfl))
            refine wpAny_take (i := 1) (v := ?_) rfl (by kernel_rfl) (by kernel_rfl) (by kernel_rfl) (fun _ _ _ h => h) (Or.inl ⟨by rfl, ?hy⟩) ?_; (case hy => (intro w; go_simp; try with_reducible rfl))
            refine wpAny_take (i := 2) (v := ?_) rfl (by kernel_rfl) (by kernel_rfl) (by kernel_rfl) (fun _ _ _ h => h) (Or.inl ⟨by rfl, ?hy⟩) ?_; (case hy => (intro w; go_simp; try with_reducible rfl))
            refine wpAny_take (i := 4) (v := ?_) rfl (by kernel_rfl) (by kernel_rfl) (by kernel_rfl) (fun _ _ _ h => h) (Or.inl ⟨by rfl, ?hy⟩) ?_; (case hy => (intro w; go_simp; try with_reducible rfl))
            refine wpAny_take (i := 5) (v := ?_) rfl (by kernel_rfl) (by kernel_rfl) (by kernel_rfl) (fun _ _ _ h => h) (Or.inl ⟨by rfl, ?hy⟩) ?_; (case hy => (intro w; go_simp; try with_reducible rfl))
            refine wpAny_take (i := 6) (v := ?_) rfl (by kernel_rfl) (by kernel_rfl) (by kernel_rfl) (fun _ _ _ h => h) (Or.inl ⟨by rfl, ?hy⟩) ?_; (case hy => (intro w; go_simp; try with_reducible rfl))
            refine wpAny_take (i := 7) (v := ?_) rfl (by kernel_rfl) (by kernel_rfl) (by kernel_rfl) (fun _ _ _ h => h) (Or.inl ⟨by rfl, ?hy⟩) ?_; (case hy => (intro w; go_simp; try with_reducible rfl))
            try clear hw1
            refine wpAny_ready (rs := [3]) (by kernel_rfl) (by simp) ?_
            refine AllReady.cons rfl (fun K hK => ?_) AllReady.nil
            go_simp
            refine (hexValue_any _ _ (by omega) (by omega)).mono ?_; rintro e w' ⟨rfl, rfl⟩
            refine hK _ _ ?_
            clear hK K
            refine wpAny_ready (rs := [8]) (by kernel_rfl) (by simp) ?_
            refine AllReady.cons rfl (fun K hK => ?_) AllReady.nil
            go_simp
            refine (hexValue_any _ _ (by omega) (by omega)).mono ?_; rintro e w' ⟨rfl, rfl⟩
            refine hK _ _ ?_
            clear hK K
            refine wpAny_take (i := 9) (v := ?_) rfl (by kernel_rfl) (by kernel_rfl) (by kernel_rfl) (fun _ _ _ h => h) (Or.inl ⟨by rfl, ?hy⟩) ?_; (case hy => (intro w; go_simp; try with_reducible rfl))
            refine wpAny_take (i := 10) (v := ?_) rfl (by kernel_rfl) (by kernel_rfl) (by kernel_rfl) (fun _ _ _ h => h) (Or.inl ⟨by rfl, ?hy⟩) ?_; (case hy => (intro w; go_simp; try with_reducible rfl))
            refine wpAny_done (by kernel_rfl) ?_ _
            go_wp2
            go_ret2
            exact ⟨by rw [H.out]; rfl, hOk.below.drew⟩
        · have hn1 : 0 ≤ hexV (s[j].toNat : Int) := by omega
          have hn2 : 0 ≤ hexV (s[j + 1].toNat : Int) := by omega
          have hU2 : Hid (unhexL s.data.toList = (unhexL (s.data.toList.drop (j + 2))).map (pre ++ [hb2 s[j] s[j + 1]] ++ ·)) := Lib.hid (by
            rw [hU, unhexL, if_neg hneg, Option.map_map]
            congr 1
            funext x
            simp)
          have hor := i64_or 4 (hexV (s[j].toNat : Int) * 16) (hexV (s[j + 1].toNat : Int)) (by omega) (by omega) (by omega) (by omega) (by omega) (by omega)
          have hbyte : Hid (u8s [hb2 s[j] s[j + 1]] = [.int .u8 (hexV (s[j].toNat : Int) * 16 + hexV (s[j + 1].toNat : Int))]) := Lib.hid (u8s_one _ (by omega) (by omega))
          clear hU hneg
          go_wp2
          have hw1 : IntKind.i64.wrap ((j : Int) + 1) = (j : Int) + 1 := IntWalk.i64_in _ ⟨by omega, by omega⟩
          have hw2 : ((j : Int) + 1).toNat = j + 1 := by omega
          have hw3 : 0 ≤ (j : Int) + 1 := by omega
          refine wp_region_any (by kernel_rfl) ?_
          try (change wpAny _ _ _ _ _ _ _ (World.drew _))
          refine wpAny_take (i := 0) (v := ?_) rfl (by kernel_rfl) (by kernel_rfl) (by kernel_rfl) (fun _ _ _ h => h) (Or.inl ⟨by rfl, ?hy⟩) ?_; (case hy => (intro w; go_simp; try with_reducible rfl))
          refine wpAny_take (i := 1) (v := ?_) rfl (by kernel_rfl) (by kernel_rfl) (by kernel_rfl) (fun _ _ _ h => h) (Or.inl ⟨by rfl, ?hy⟩) ?_; (case hy => (intro w; go_simp; try with_reducible rfl))
          refine wpAny_take (i := 2) (v := ?_) rfl (by kernel_rfl) (by kernel_rfl) (by kernel_rfl) (fun _ _ _ h => h) (Or.inl ⟨by rfl, ?hy⟩) ?_; (case hy => (intro w; go_simp; try with_reducible rfl))
          refine wpAny_take (i := 4) (v := ?_) rfl (by kernel_rfl) (by kernel_rfl) (by kernel_rfl) (fun _ _ _ h => h) (Or.inl ⟨by rfl, ?hy⟩) ?_; (case hy => (intro w; go_simp; try with_reducible rfl))
          refine wpAny_take (i := 5) (v := ?_) rfl (by kernel_rfl) (by kernel_rfl) (by kernel_rfl) (fun _ _ _ h => h) (Or.inl ⟨by rfl, ?hy⟩) ?_; (case hy => (intro w; go_simp; try with_reducible rfl))
          refine wpAny_take (i := 6) (v := ?_) rfl (by kernel_rfl) (by kernel_rfl) (by kernel_rfl) (fun _ _ _ h => h) (Or.inl ⟨by rfl, ?hy⟩) ?_; (case hy => (intro w; go_simp; try with_reducible rfl))
          refine wpAny_take (i := 7) (v := ?_) rfl (by kernel_rfl) (by kernel_rfl) (by kernel_rfl) (fun _ _ _ h => h) (Or.inl ⟨by rfl, ?hy⟩) ?_; (case hy => (intro w; go_simp; try with_reducible rfl))
          try clear hw1
          refine wpAny_ready (rs := [3]) (by kernel_rfl) (by simp) ?_
          refine AllReady.cons rfl (fun K hK => ?_) AllReady.nil
          go_simp
          refine (hexValue_any _ _ (by omega) (by omega)).mono ?_; rintro e w' ⟨rfl, rfl⟩
          refine hK _ _ ?_
          clear hK K
          refine wpAny_ready (rs := [8]) (by kernel_rfl) (by simp) ?_
          refine AllReady.cons rfl (fun K hK => ?_) AllReady.nil
          go_simp
          refine (hexValue_any _ _ (by omega) (by omega)).mono ?_; rintro e w' ⟨rfl, rfl⟩
          refine hK _ _ ?_
          clear hK K
          refine wpAny_take (i := 9) (v := ?_) rfl (by kernel_rfl) (by kernel_rfl) (by kernel_rfl) (fun _ _ _ h => h) (Or.inl ⟨by rfl, ?hy⟩) ?_; (case hy => (intro w; go_simp; try with_reducible rfl))
          refine wpAny_take (i := 10) (v := ?_) rfl (by kernel_rfl) (by kernel_rfl) (by kernel_rfl) (fun _ _ _ h => h) (Or.inl ⟨by rfl, ?hy⟩) ?_; (case hy => (intro w; go_simp; try with_reducible rfl))
          refine wpAny_done (by kernel_rfl) ?_ _
          go_wp2_with (at_builtin; go_loud (refine wp_app rfl _ _ 30 rfl 5 (.int .u8 0) 1 1 Try.underlying30 info_u8 rfl (by decide) w.heap.size w _ _ _ (by rfl) (by exact (Own.alloc hOk _).drew) _ _ _ _ (by rfl) (by exact (lit_rd rfl (by decide)).drew) (by intro u hu; simp at hu; first | (subst hu; rfl) | (rcases hu with rfl | rfl <;> rfl) | (rcases hu with rfl | rfl | rfl <;> rfl) | (rcases hu with rfl | rfl | rfl | rfl <;> rfl)) (by omega) (by unfold maxLen; omega) ?_); intro a2 c2 w2 hO2)
          go_wp2
          go_roundg (gk - 2)
          case measure => omega
          case rel => exact ⟨j + 2, pre ++ [hb2 s[j] s[j + 1]], by omega, by have := hB.out; omega, by go_num, by simp; omega, hU2.out, by rw [u8s_append, hbyte.out, List.length_append]; exact hO2⟩
      · have hjs : j = s.size := by omega
        subst hjs
        have H : Hid (unhexV s.data.toList = .tuple #[.string ⟨pre.toArray⟩, .bool true]) := Lib.hid (by
          unfold unhexV
          rw [hU, List.drop_of_length_le (by simp), unhexL]
          simp)
        clear hU hs2 hq
        have hr := hOk.rd
        go_wp2_with (refine wp_str rfl _ 30 9 5 rfl Try.underlying30 Try.underlying5 Try.underlying9 _ _ _ _ (by rfl) (by exact hr) ?_)
        go_ret2
        exact ⟨by rw [H.out]; rfl, hOk.below⟩
end Go.Proofs.Ytiakfclfipiaoaa
