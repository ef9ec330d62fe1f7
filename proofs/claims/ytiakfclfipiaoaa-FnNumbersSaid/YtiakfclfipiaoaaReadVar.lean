/- ReadVar: the program's and the reference's come to one. -/
import Derived.Test.YtiakfclfipiaoaaIn
import Derived.Test.YtiakfclfipiaoaaVar
import Derived.Test.YtiakfclfipiaoaaRv
namespace Go.Proofs.Ytiakfclfipiaoaa
open Go.RowKit

def rdVarV (l : List UInt8) : Value := .tuple #[.int .i64 ((rdVar l).1 : Int), .int .i64 ((rdVar l).2 : Int)]

theorem shl7 (x i : Nat) (hx : x < 128) (hi : i < 7) : IntKind.i64.wrap ((x : Int) * 2 ^ (7 * i)) = ((x * 128 ^ i : Nat) : Int) := by
  match i, hi with
  | 0, _ => simp; rw [IntKind.wrap_i64]; omega
  | 1, _ => simp; rw [IntKind.wrap_i64]; omega
  | 2, _ => simp; rw [IntKind.wrap_i64]; omega
  | 3, _ => simp; rw [IntKind.wrap_i64]; omega
  | 4, _ => simp; rw [IntKind.wrap_i64]; omega
  | 5, _ => simp; rw [IntKind.wrap_i64]; omega
  | 6, _ => simp; rw [IntKind.wrap_i64]; omega

theorem or7 (r x i : Nat) (hr : r < 128 ^ i) (hx : x < 128) (hi : i < 7) : bits .or .i64 (r : Int) ((x * 128 ^ i : Nat) : Int) = ((r + x * 128 ^ i : Nat) : Int) := by
  rw [bits_or_comm]
  match i, hi, hr with
  | 0, _, hr => simp at hr; subst hr; rw [i64_or 0] <;> omega
  | 1, _, hr => rw [i64_or 7] <;> omega
  | 2, _, hr => rw [i64_or 14] <;> omega
  | 3, _, hr => rw [i64_or 21] <;> omega
  | 4, _, hr => rw [i64_or 28] <;> omega
  | 5, _, hr => rw [i64_or 35] <;> omega
  | 6, _, hr => rw [i64_or 42] <;> omega
theorem u8_and127 (x : Int) (h₀ : 0 ≤ x) (h₁ : x < 256) : bits .and .u8 x 127 = x % 128 := bits_mask .u8 8 (by decide) wraps_u8 7 (by decide) x h₀ h₁

set_option maxRecDepth 1000000 in
set_option maxHeartbeats 6000000 in
theorem implReadVar_any (s : ByteArray) (w : World) (hs : s.size ≤ 1073741824) :
    Calls Try.prog 40 #[.string s] w fun e w' => e = .returned (rdVarV s.data.toList) ∧ Below w.heap.size w w' := by
  go_enter Try.func40, Try.ntmps40
  go_wp2
  go_loopg [4, 5] 8 (fun g n i wr => ∃ k : Nat, k + g = 8 ∧ k ≤ s.size ∧ k ≤ 7 ∧ i = .int .i64 k ∧ n = .int .i64 (rv (s.data.toList.take k) : Nat) ∧ (∀ j (h : j < s.data.toList.length), j < k → 128 ≤ (s.data.toList[j]).toNat) ∧ wr = w)
  case atStart => exact ⟨0, by omega, by omega, by omega, rfl, rfl, fun j _ h => by omega, rfl⟩
  case round =>
    obtain ⟨k, hk, hks, hk7, rfl, rfl, hlo, rfl⟩ := hrel
    by_cases hlt : k < s.size
    · by_cases hl7 : k < 7
      · have hb0 : (s[k].toNat : Int) < 256 := by have := s[k].toNat_lt; omega
        have ha := u8_and127 (s[k].toNat : Int) (by omega) (by omega)
        have hx : s[k].toNat % 128 < 128 := Nat.mod_lt _ (by decide)
        have hsh : wrap64 ((s[k].toNat : Int) % 128 * 2 ^ (7 * k)) = ((s[k].toNat % 128 * 128 ^ k : Nat) : Int) := by
          have := shl7 (s[k].toNat % 128) k hx hl7
          rw [PlainAid.i64_is] at this
          rw [← this, Int.natCast_emod]; rfl
        have hor := or7 (rv (s.data.toList.take k)) (s[k].toNat % 128) k (by have := rv_lt (s.data.toList.take k); rw [List.length_take] at this; simpa [Nat.min_eq_left hks] using this) hx hl7
        have hR : rv (s.data.toList.take (k + 1)) = rv (s.data.toList.take k) + s[k].toNat % 128 * 128 ^ k := by
          rw [take_snoc s k hlt, rv_snoc, List.length_take]
          simp [Nat.min_eq_left hks]
        have hbig := rv_take_lt s.data.toList (k + 1) (by omega)
        rw [← hR] at hor
        clear hR
        have hlen : k < s.data.toList.length := by simpa using hlt
        have hsk : s.data.toList[k] = s[k] := rfl
        generalize s[k].toNat % 128 * 128 ^ k = X at *
        by_cases hc : s[k].toNat < 128
        · have hat := rdVar_at s.data.toList k hl7 hlen (by rw [hsk]; exact hc) (fun j hj hjk => hlo j hj hjk)
          have hV : varV ((rv (s.data.toList.take (k + 1)) : Nat) : Int) = varL (rv (s.data.toList.take (k + 1))) := varV_yes _ (by omega)
          have HV := Lib.hid hV
          clear hlo hV hsk
          by_cases hE : varL (rv (s.data.toList.take (k + 1))) = s.data.toList.take (k + 1)
          · rw [if_pos hE] at hat
            have HA := Lib.hid hat
            have HE := Lib.hid hE
            clear hat hE
            generalize rv (s.data.toList.take (k + 1)) = N at *
            generalize rv (s.data.toList.take k) = r at *
            go_wp2
            have hw1 : IntKind.i64.wrap ((k : Int) + 1) = (k : Int) + 1 := IntWalk.i64_in _ ⟨by omega, by omega⟩
            have hw2 : ((k : Int) + 1).toNat = k + 1 := by omega
            have hw3 : 0 ≤ (k : Int) + 1 := by omega
            have hw4 : (k : Int) + 1 ≤ (s.size : Int) := by omega
            refine wp_region_any (by kernel_rfl) ?_
            try (change wpAny _ _ _ _ _ _ _ (World.drew _))
            refine wpAny_take (i := 0) (v := ?_) rfl (by kernel_rfl) (by kernel_rfl) (by kernel_rfl) (fun _ _ _ h => h) (Or.inl ⟨by rfl, ?hy⟩) ?_; (case hy => (intro w; go_simp; try with_reducible rfl))
            refine wpAny_take (i := 2) (v := ?_) rfl (by kernel_rfl) (by kernel_rfl) (by kernel_rfl) (fun _ _ _ h => h) (Or.inl ⟨by rfl, ?hy⟩) ?_; (case hy => (intro w; go_simp; try with_reducible rfl))
            refine wpAny_take (i := 3) (v := ?_) rfl (by kernel_rfl) (by kernel_rfl) (by kernel_rfl) (fun _ _ _ h => h) (Or.inl ⟨by rfl, ?hy⟩) ?_; (case hy => (intro w; go_simp; try with_reducible rfl))
            refine wpAny_take (i := 4) (v := ?_) rfl (by kernel_rfl) (by kernel_rfl) (by kernel_rfl) (fun _ _ _ h => h) (Or.inl ⟨by rfl, ?hy⟩) ?_; (case hy => (intro w; go_simp; try with_reducible rfl))
            refine wpAny_take (i := 5) (v := ?_) rfl (by kernel_rfl) (by kernel_rfl) (by kernel_rfl) (fun _ _ _ h => h) (Or.inl ⟨by rfl, ?hy⟩) ?_; (case hy => (intro w; go_simp; try with_reducible rfl))
            refine wpAny_ready (rs := [1]) (by kernel_rfl) (by simp) ?_
            refine AllReady.cons rfl (fun K hK => ?_) AllReady.nil
            go_simp
            refine (implVar_any _ _).mono ?_; rintro e w2 ⟨rfl, hb2⟩
            refine hK _ _ ?_
            clear hK K
            rw [HV.out, HE.out]
            have hex := extract_take s (k + 1)
            refine wpAny_ready (rs := [6]) (by kernel_rfl) (by simp) ?_
            refine AllReady.cons rfl (fun K hK => ?_) AllReady.nil
            go_simp
            refine hK _ _ ?_
            clear hK K
            refine wpAny_done (by kernel_rfl) ?_ _
            go_wp2
            go_ret2
            exact ⟨by rw [rdVarV, HA.out]; go_num, hb2.drewL⟩
          · rw [if_neg hE] at hat
            have HA := Lib.hid hat
            have hE2 : (varL (rv (s.data.toList.take (k + 1))) == s.data.toList.take (k + 1)) = false := by simpa using hE
            clear hat hE
            generalize rv (s.data.toList.take (k + 1)) = N at *
            generalize rv (s.data.toList.take k) = r at *
            go_wp2
            have hw1 : IntKind.i64.wrap ((k : Int) + 1) = (k : Int) + 1 := IntWalk.i64_in _ ⟨by omega, by omega⟩
            have hw2 : ((k : Int) + 1).toNat = k + 1 := by omega
            have hw3 : 0 ≤ (k : Int) + 1 := by omega
            have hw4 : (k : Int) + 1 ≤ (s.size : Int) := by omega
            refine wp_region_any (by kernel_rfl) ?_
            try (change wpAny _ _ _ _ _ _ _ (World.drew _))
            refine wpAny_take (i := 0) (v := ?_) rfl (by kernel_rfl) (by kernel_rfl) (by kernel_rfl) (fun _ _ _ h => h) (Or.inl ⟨by rfl, ?hy⟩) ?_; (case hy => (intro w; go_simp; try with_reducible rfl))
            refine wpAny_take (i := 2) (v := ?_) rfl (by kernel_rfl) (by kernel_rfl) (by kernel_rfl) (fun _ _ _ h => h) (Or.inl ⟨by rfl, ?hy⟩) ?_; (case hy => (intro w; go_simp; try with_reducible rfl))
            refine wpAny_take (i := 3) (v := ?_) rfl (by kernel_rfl) (by kernel_rfl) (by kernel_rfl) (fun _ _ _ h => h) (Or.inl ⟨by rfl, ?hy⟩) ?_; (case hy => (intro w; go_simp; try with_reducible rfl))
            refine wpAny_take (i := 4) (v := ?_) rfl (by kernel_rfl) (by kernel_rfl) (by kernel_rfl) (fun _ _ _ h => h) (Or.inl ⟨by rfl, ?hy⟩) ?_; (case hy => (intro w; go_simp; try with_reducible rfl))
            refine wpAny_take (i := 5) (v := ?_) rfl (by kernel_rfl) (by kernel_rfl) (by kernel_rfl) (fun _ _ _ h => h) (Or.inl ⟨by rfl, ?hy⟩) ?_; (case hy => (intro w; go_simp; try with_reducible rfl))
            refine wpAny_ready (rs := [1]) (by kernel_rfl) (by simp) ?_
            refine AllReady.cons rfl (fun K hK => ?_) AllReady.nil
            go_simp
            refine (implVar_any _ _).mono ?_; rintro e w2 ⟨rfl, hb2⟩
            refine hK _ _ ?_
            clear hK K
            rw [HV.out]
            have hex := extract_take s (k + 1)
            refine wpAny_ready (rs := [6]) (by kernel_rfl) (by simp) ?_
            refine AllReady.cons rfl (fun K hK => ?_) AllReady.nil
            go_simp
            refine hK _ _ ?_
            clear hK K
            refine wpAny_done (by kernel_rfl) ?_ _
            go_wp2
            go_ret2
            exact ⟨by rw [rdVarV, HA.out]; rfl, hb2.drewL⟩
        · have hlo2 : Hid (∀ j (h : j < s.data.toList.length), j < k + 1 → 128 ≤ (s.data.toList[j]).toNat) := Lib.hid (fun j h hj => by
            rcases Nat.lt_or_ge j k with hjk | hjk
            · exact hlo j h hjk
            · have : j = k := by omega
              subst this; rw [hsk]; omega)
          clear hlo hsk
          go_wp2
          go_roundg (gk - 1)
          case measure => omega
          case rel => exact ⟨k + 1, by omega, by omega, by omega, by go_num, rfl, hlo2.out, rfl⟩
      · have H : Hid (rdVar s.data.toList = (0, 0)) := Lib.hid (rdVar_none _ k (by omega) hlo)
        clear hlo
        go_wp2
        go_ret2
        exact ⟨by rw [rdVarV, H.out]; rfl, Below.refl _ _⟩
    · have H : Hid (rdVar s.data.toList = (0, 0)) := Lib.hid (rdVar_none _ k (by simp; omega) hlo)
      clear hlo
      go_wp2
      go_ret2
      exact ⟨by rw [rdVarV, H.out]; rfl, Below.refl _ _⟩
end Go.Proofs.Ytiakfclfipiaoaa
