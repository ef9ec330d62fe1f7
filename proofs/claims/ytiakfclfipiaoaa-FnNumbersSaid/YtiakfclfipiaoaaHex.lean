/- Hex: the program's and the reference's come to one text. -/
import Derived.Test.YtiakfclfipiaoaaIn
namespace Go.Proofs.Ytiakfclfipiaoaa
open Go.RowKit

/-- A digit of base 16, as a byte. -/
def dg (k : Nat) : UInt8 := if k < 10 then UInt8.ofNat (48 + k) else UInt8.ofNat (87 + k)
def hexL (bs : List UInt8) : List UInt8 := bs.flatMap fun b => [dg (b.toNat / 16), dg (b.toNat % 16)]
theorem hexL_length (bs : List UInt8) : (hexL bs).length = 2 * bs.length := by
  induction bs with
  | nil => rfl
  | cons b bs ih => simp only [hexL, List.flatMap_cons, List.length_append, List.length_cons, List.length_nil] at *; omega
theorem hexL_snoc (s : ByteArray) (k : Nat) (h : k < s.size) : hexL (s.data.toList.take (k + 1)) = hexL (s.data.toList.take k) ++ [dg (s[k].toNat / 16), dg (s[k].toNat % 16)] := by
  rw [List.take_succ_eq_append_getElem (by simpa using h)]
  simp only [hexL, List.flatMap_append, List.flatMap_cons, List.flatMap_nil, List.append_nil]
  rfl

def digits : Array UInt8 := #[48, 49, 50, 51, 52, 53, 54, 55, 56, 57, 97, 98, 99, 100, 101, 102]
theorem dig_fin : ∀ n : Fin 16, (⟨digits⟩ : ByteArray)[n.val]'n.isLt = dg n.val := by decide
theorem dig_at (x : Int) (h0 : 0 ≤ x) (h1 : x < 16) : (⟨digits⟩ : ByteArray)[x.toNat]'(by show _ < 16; omega) = dg x.toNat := dig_fin ⟨x.toNat, by omega⟩

set_option maxRecDepth 1000000 in
set_option maxHeartbeats 2000000 in
theorem implHex_any (s : ByteArray) (w : World) (hs : s.size ≤ 1073741824) :
    Calls Try.prog 46 #[.string s] w fun e w' => e = .returned (.string ⟨(hexL s.data.toList).toArray⟩) ∧ Below w.heap.size w w' := by
  go_enter Try.func46, Try.ntmps46
  go_wp2_with (at_make; refine wp_make0 rfl _ _ 30 rfl 5 _ 1 1 Try.underlying30 info_u8 w.heap.size w (Below.refl _ _) (Nat.le_refl _) _ _ _ (2 * s.size) rfl rfl (by omega) (by omega) (by unfold maxLen; omega) ?_; intro w1 hO)
  go_loopg [3, 4] s.size (fun g v i wr => ∃ k : Nat, k + g = s.size ∧ i = .int .i64 k ∧ Own 5 1 w.heap.size w v (hexL (s.data.toList.take k)).length (u8s (hexL (s.data.toList.take k))) wr)
  case atStart => exact ⟨0, by omega, rfl, by simpa [hexL, u8s] using hO⟩
  case round =>
    obtain ⟨k, hk, rfl, hOk⟩ := hrel
    have hn : (hexL (s.data.toList.take k)).length ≤ 2147483648 := by rw [hexL_length, List.length_take]; omega
    by_cases hlt : k < s.size
    · have hb0 : (s[k].toNat : Int) < 256 := by have := s[k].toNat_lt; omega
      obtain ⟨av, cv, rfl, _, _⟩ := hOk.shape
      have q0 : (0 : Int) ≤ (s[k].toNat : Int) / 16 := by omega
      have q1 : (s[k].toNat : Int) / 16 < 16 := by omega
      have q2 : (0 : Int) ≤ (s[k].toNat : Int) % 16 := by omega
      have q3 : (s[k].toNat : Int) % 16 < 16 := by omega
      have q4 := u8_and15 (s[k].toNat : Int) (by omega) (by omega)
      have hi1 : (k : Int) < (s.size : Int) := by omega
      have hi0 : (0 : Int) ≤ (k : Int) := by omega
      go_wp2
      refine wp_region_any (by kernel_rfl) ?_
      try (change wpAny _ _ _ _ _ _ _ (World.drew _))
      refine wpAny_take (i := 0) (v := ?_) rfl (by kernel_rfl) (by kernel_rfl) (by kernel_rfl) (fun _ _ _ h => h) (Or.inl ⟨by rfl, ?hy⟩) ?_; (case hy => (intro w; go_simp; try with_reducible rfl))
      refine wpAny_take (i := 1) (v := ?_) rfl (by kernel_rfl) (by kernel_rfl) (by kernel_rfl) (fun _ _ _ h => h) (Or.inl ⟨by rfl, ?hy⟩) ?_; (case hy => (intro w; go_simp; try with_reducible rfl))
      refine wpAny_take (i := 2) (v := ?_) rfl (by kernel_rfl) (by kernel_rfl) (by kernel_rfl) (fun _ _ _ h => h) (Or.inl ⟨by rfl, ?hy⟩) ?_; (case hy => (intro w; go_simp; try with_reducible rfl))
      refine wpAny_take (i := 3) (v := ?_) rfl (by kernel_rfl) (by kernel_rfl) (by kernel_rfl) (fun _ _ _ h => h) (Or.inl ⟨by rfl, ?hy⟩) ?_; (case hy => (intro w; go_simp; try with_reducible rfl))
      refine wpAny_take (i := 4) (v := ?_) rfl (by kernel_rfl) (by kernel_rfl) (by kernel_rfl) (fun _ _ _ h => h) (Or.inl ⟨by rfl, ?hy⟩) ?_; (case hy => (intro w; go_simp; try with_reducible rfl))
      refine wpAny_take (i := 5) (v := ?_) rfl (by kernel_rfl) (by kernel_rfl) (by kernel_rfl) (fun _ _ _ h => h) (Or.inl ⟨by rfl, ?hy⟩) ?_; (case hy => (intro w; go_simp; try with_reducible rfl))
      refine wpAny_take (i := 6) (v := ?_) rfl (by kernel_rfl) (by kernel_rfl) (by kernel_rfl) (fun _ _ _ h => h) (Or.inl ⟨by rfl, ?hy⟩) ?_; (case hy => (intro w; go_simp; try with_reducible rfl))
      refine wpAny_take (i := 7) (v := ?_) rfl (by kernel_rfl) (by kernel_rfl) (by kernel_rfl) (fun _ _ _ h => h) (Or.inl ⟨by rfl, ?hy⟩) ?_; (case hy => (intro w; go_simp; try with_reducible rfl))
      refine wpAny_take (i := 8) (v := ?_) rfl (by kernel_rfl) (by kernel_rfl) (by kernel_rfl) (fun _ _ _ h => h) (Or.inl ⟨by rfl, ?hy⟩) ?_; (case hy => (intro w; go_simp; try with_reducible rfl))
      refine wpAny_take (i := 9) (v := ?_) rfl (by kernel_rfl) (by kernel_rfl) (by kernel_rfl) (fun _ _ _ h => h) (Or.inl ⟨by rfl, ?hy⟩) ?_; (case hy => (intro w; go_simp; try with_reducible rfl))
      refine wpAny_take (i := 10) (v := ?_) rfl (by kernel_rfl) (by kernel_rfl) (by kernel_rfl) (fun _ _ _ h => h) (Or.inl ⟨by rfl, ?hy⟩) ?_; (case hy => (intro w; go_simp; try with_reducible rfl))
      refine wpAny_ready (rs := [11]) (by kernel_rfl) (by simp) ?_
      refine AllReady.cons rfl (fun K hK => ?_) AllReady.nil
      go_simp
      refine hK _ _ ?_
      clear hK K
      refine wpAny_ready (rs := [12]) (by kernel_rfl) (by simp) ?_
      refine AllReady.cons rfl (fun K hK => ?_) AllReady.nil
      refine step_app rfl _ _ 30 rfl 5 (.int .u8 0) 1 1 Try.underlying30 info_u8 rfl (by decide) w.heap.size w _ _ _ rfl ((hOk.alloc _).drew) _ 2 2 _ rfl ((lit_rd rfl (by decide)).drew) (by intro u hu; simp at hu; rcases hu with rfl | rfl <;> rfl) (by omega) (by unfold maxLen; omega) ?_; intro a2 c2 w2 hO2
      refine hK _ _ ?_
      clear hK K
      refine wpAny_ready (rs := [13]) (by kernel_rfl) (by simp) ?_
      refine AllReady.cons rfl (fun K hK => ?_) AllReady.nil
      go_simp
      refine hK _ _ ?_
      clear hK K
      refine wpAny_done (by kernel_rfl) ?_ _
      go_wp2
      go_roundg (gk - 1)
      case measure => omega
      case rel =>
        refine ⟨k + 1, by omega, by go_num, ?_⟩
        rw [hexL_snoc s k hlt]
        simp only [List.length_append, List.length_cons, List.length_nil, u8s_append]
        have e : u8s [dg (s[k].toNat / 16), dg (s[k].toNat % 16)] = [.int .u8 ((⟨digits⟩ : ByteArray)[((s[k].toNat : Int) / 16).toNat]'(by show _ < 16; omega)).toNat, .int .u8 ((⟨digits⟩ : ByteArray)[((s[k].toNat : Int) % 16).toNat]'(by show _ < 16; omega)).toNat] := by
          simp only [u8s, List.map_cons, List.map_nil]
          rw [dig_at ((s[k].toNat : Int) / 16) (by omega) (by omega), dig_at ((s[k].toNat : Int) % 16) (by omega) (by omega)]
          rfl
        rw [e]
        exact hO2
    · have hk0 : k = s.size := by omega
      subst hk0
      have hfull : s.data.toList.take s.size = s.data.toList := List.take_of_length_le (by simp)
      rw [hfull] at hOk
      obtain ⟨av, cv, rfl, hr, _⟩ := hOk.shape
      go_wp2_with (refine wp_str rfl _ 30 9 5 rfl Try.underlying30 Try.underlying5 Try.underlying9 _ _ _ _ rfl hr ?_)
      go_ret
      exact ⟨rfl, hOk.below⟩

end Go.Proofs.Ytiakfclfipiaoaa
