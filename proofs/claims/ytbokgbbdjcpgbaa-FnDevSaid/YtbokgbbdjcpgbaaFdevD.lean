/- A crash keeps of the writes under way just those that are said, in their order; all of them is a flush, none of them nothing: the law, walked. -/
import Derived.Test.YtbokgbbdjcpgbaaDevD
import Derived.Test.YtbokgbbdjcpgbaaAt
namespace Go.Proofs.Ytbokgbbdjcpgbaa
open Go.RowKit

set_option maxRecDepth 1000000 in
set_option maxHeartbeats 6000000 in
theorem l1Size_any (a : Option Addr) (n cap : Nat) (most : Int) (w : World) (h0 : 1 ≤ most) (h1 : most ≤ 1048576) (hn : n ≤ 1048576) :
    Calls Try.prog 81 #[.slice a n cap, .int .i64 most] w fun e w' => ∃ x : Int, e = .returned (.int .i64 x) ∧ 1 ≤ x ∧ x ≤ most ∧ w = w' := by
  have hq : ((n : Int)).tdiv 20 = ((n / 20 : Nat) : Int) := by rw [Int.tdiv_eq_ediv_of_nonneg (by omega)]; omega
  have hw1 : IntKind.i64.wrap ((n / 20 : Nat) : Int) = ((n / 20 : Nat) : Int) := IntWalk.i64_in _ ⟨by omega, by omega⟩
  have hw2 : IntKind.i64.wrap (2 + ((n / 20 : Nat) : Int)) = 2 + ((n / 20 : Nat) : Int) := IntWalk.i64_in _ ⟨by omega, by omega⟩
  generalize n / 20 = k at *
  by_cases hc : most < 2 + (k : Int)
  · go_enter Try.func81, Try.ntmps81
    go_wp2
    go_ret
    exact ⟨most, rfl, h0, Int.le_refl _, rfl⟩
  · go_enter Try.func81, Try.ntmps81
    go_wp2
    go_ret
    exact ⟨2 + (k : Int), rfl, by omega, by omega, rfl⟩
set_option maxRecDepth 1000000 in
set_option maxHeartbeats 6000000 in
theorem drawCrash_any (a : Option Addr) (n cap : Nat) (bs : List Int) (w : World) (h : Rd w a n cap 1 (bs.map (Value.int .u8))) (hb : ∀ z ∈ bs, 0 ≤ z ∧ z ≤ 255) (hn : n ≤ 1048576) :
    Calls Try.prog 33 #[.slice a n cap] w (DrewCrash w) := by
  have HR0 := Lib.hid (two_new w 32 (.slice none 0 0) (.slice none 0 0))
  have HB0 := Lib.hid (box_alloc w (.cells #[.slice none 0 0, .slice none 0 0] 32))
  have H := Lib.hid h
  clear h
  go_enter Try.func33, Try.ntmps33
  go_wp2_with fail
  refine (l1New_any a n cap bs _ (H.out.alloc _) hb hn).mono ?_
  rintro e w1 ⟨rfl, hC, hB⟩
  have e1 : (w.alloc (.cells #[.slice none 0 0, .slice none 0 0] 32)).heap.size = w.heap.size + 1 := by simp
  rw [e1] at hC ⊢
  clear e1
  have HC := Lib.hid hC
  have HB := Lib.hid (below_step1 HB0.out hB)
  have HR1 := Lib.hid (HR0.out.grown (grown_of_below none hB) (fun e => by cases e))
  clear hC hB HR0 HB0
  generalize (⟨0, newH bs⟩ : CS) = s0 at *
  go_wp2_with fail
  refine (l1Below_any a n cap bs _ s0 256 _ HC.out (by omega)).mono ?_
  rintro e w2 ⟨rfl, hC, hG⟩
  have hr2 := belowF_range bs 256 s0 (by omega)
  have HC2 := Lib.hid hC
  have HB2 := Lib.hid (HB.out.grown hG HB.out.size (fun k hk => by cases hk; omega))
  have HR2 := Lib.hid (HR1.out.grown hG (fun e => by have := Option.some.inj e; omega))
  clear hC hG HC HB HR1
  generalize (belowF bs 256 s0).2 = s2 at *
  generalize (belowF bs 256 s0).1 = k2 at *
  obtain ⟨ha0, ha1⟩ := hr2
  have hw2 : IntKind.i64.wrap (k2 * 257) = k2 * 257 := IntWalk.i64_in _ ⟨by omega, by omega⟩
  simp only at HC2 ⊢
  go_wp2_with fail
  refine (l1Below_any a n cap bs _ s2 256 _ HC2.out (by omega)).mono ?_
  rintro e w3 ⟨rfl, hC, hG⟩
  have hr3 := belowF_range bs 256 s2 (by omega)
  have HC3 := Lib.hid hC
  have HB3 := Lib.hid (HB2.out.grown hG HB2.out.size (fun k hk => by cases hk; omega))
  have HR3 := Lib.hid (HR2.out.grown hG (fun e => by have := Option.some.inj e; omega))
  clear hC hG HC2 HB2 HR2
  generalize (belowF bs 256 s2).2 = s3 at *
  generalize (belowF bs 256 s2).1 = k3 at *
  obtain ⟨hb0, hb1⟩ := hr3
  have hw3 : IntKind.i64.wrap (k2 * 257 + k3) = k2 * 257 + k3 := IntWalk.i64_in _ ⟨by omega, by omega⟩
  have hm3 : -9223372036854775808 ≤ k2 * 257 + k3 ∧ k2 * 257 + k3 ≤ 9223372036854775807 := by omega
  simp only at HC3 ⊢
  go_wp2_with fail
  refine (l1Once_any a n cap bs _ s3 8 _ HC3.out (by omega)).mono ?_
  rintro e w4 ⟨rfl, hC, hG⟩
  have HC4 := Lib.hid hC
  have HB4 := Lib.hid (HB3.out.grown hG HB3.out.size (fun k hk => by cases hk; omega))
  have HR4 := Lib.hid (HR3.out.grown hG (fun e => by have := Option.some.inj e; omega))
  clear hC hG HC3 HB3 HR3 hw2
  generalize k2 * 257 + k3 = m3 at *
  clear hw3 ha0 ha1 hb0 hb1
  simp only at HC4 ⊢
  generalize (belowF bs 8 s3).2 = s4 at *
  generalize ((belowF bs 8 s3).1 == 0) = t4 at *
  cases t4 with
  | false =>
    go_wp2_with fail
    refine (l1Size_any a n cap 25 _ (by omega) (by omega) hn).mono ?_
    rintro e w' ⟨x, rfl, hx0, hx1, rfl⟩
    go_wp2_with fail
    refine (l8Dev_any a n cap bs _ s4 x _ HC4.out hx0 (by omega)).mono ?_
    rintro e w5 ⟨v, ss, us, rfl, hD, hG⟩
    have hz5 := HR4.out.lt
    obtain ⟨p, c, q, d, rfl, -, -⟩ := (hD _ (Nat.le_refl _) (fun _ _ _ => rfl)).ex
    have HD := Lib.hid hD
    have HR5 := Lib.hid (HR4.out.grown hG (fun e => by have := Option.some.inj e; omega))
    have HB5 := Lib.hid (HB4.out.grown hG HB4.out.size (fun k hk => by cases hk; omega))
    have hr0 := HR5.out.1.1
    have hr1 := HR5.out.1.2
    have hf0 := HR5.out.2.1
    have hf1 := HR5.out.2.2
    have hrl := HR5.out.lt
    clear hD hG HC4 HB4
    unfold dvV
    go_wp2
    refine bodyPost_ret (v := .tuple #[.agg #[.slice p ss.length c, .slice q us.length d], .int .i64 m3]) (by simp [results, Try.results33, go_sem, hr0, hr1, hrl]) rfl ?_
    refine ⟨_, m3, ss, us, rfl, hm3, HD.out _ (by simp) (fun j h1 h2 => ?_), (HB5.out.setCell (p := ⟨w.heap.size, 0, none⟩) (Nat.le_refl _) _).setCell (p := ⟨w.heap.size, 1, none⟩) (Nat.le_refl _) _⟩
    rw [heap_setCell_other _ _ _ _ (by dsimp only; omega), heap_setCell_other _ _ _ _ (by dsimp only; omega)]
  | true =>
    go_wp2_with fail
    refine (l1PickInt_any a n cap bs _ s4 _ 4 4 [-1, 0, 9223372036854775807, 1099511627775] _ (HC4.out.alloc _) (by exact lit_rd (news := (ints [-1, 0, 9223372036854775807, 1099511627775]).toArray) rfl (by decide)) (fun x hx => by cases hx; have := HC4.out.lt; show w4.heap.size ≠ w.heap.size + 1; omega) (by omega) (by omega)).mono ?_
    rintro e w5 ⟨rfl, hC, hG⟩
    have hk5 := getD_range [-1, 0, 9223372036854775807, 1099511627775] (-1) 9223372036854775807 (by decide) (by decide) (belowF bs 4 s4).1.toNat
    have HC5 := Lib.hid hC
    have hbA := box_alloc w4 (.cells #[.int .i64 (-1), .int .i64 0, .int .i64 9223372036854775807, .int .i64 1099511627775] 3)
    have HB5 := Lib.hid ((below_step1 HB4.out hbA).grown hG (below_step1 HB4.out hbA).size (fun k hk => by cases hk; omega))
    have HR5 := Lib.hid ((HR4.out.alloc (.cells #[.int .i64 (-1), .int .i64 0, .int .i64 9223372036854775807, .int .i64 1099511627775] 3)).grown hG (fun e => by have := Option.some.inj e; omega))
    clear hC hG HC4 HB4 HR4 hbA
    simp only at HC5 ⊢
    generalize (belowF bs 4 s4).2 = s5 at *
    generalize List.getD [-1, 0, 9223372036854775807, 1099511627775] (belowF bs 4 s4).1.toNat 0 = m5 at *
    have hm5 : -9223372036854775808 ≤ m5 ∧ m5 ≤ 9223372036854775807 := by omega
    go_wp2_with fail
    refine (l1Size_any a n cap 25 _ (by omega) (by omega) hn).mono ?_
    rintro e w' ⟨x, rfl, hx0, hx1, rfl⟩
    go_wp2_with fail
    refine (l8Dev_any a n cap bs _ s5 x _ HC5.out hx0 (by omega)).mono ?_
    rintro e w6 ⟨v, ss, us, rfl, hD, hG⟩
    have hz5 := HR5.out.lt
    obtain ⟨p, c, q, d, rfl, -, -⟩ := (hD _ (Nat.le_refl _) (fun _ _ _ => rfl)).ex
    have HD := Lib.hid hD
    have HR6 := Lib.hid (HR5.out.grown hG (fun e => by have := Option.some.inj e; omega))
    have HB6 := Lib.hid (HB5.out.grown hG HB5.out.size (fun k hk => by cases hk; omega))
    have hr0 := HR6.out.1.1
    have hr1 := HR6.out.1.2
    have hf0 := HR6.out.2.1
    have hf1 := HR6.out.2.2
    have hrl := HR6.out.lt
    clear hD hG HC5 HB5
    unfold dvV
    go_wp2
    refine bodyPost_ret (v := .tuple #[.agg #[.slice p ss.length c, .slice q us.length d], .int .i64 m5]) (by simp [results, Try.results33, go_sem, hr0, hr1, hrl]) rfl ?_
    refine ⟨_, m5, ss, us, rfl, hm5, HD.out _ (by simp) (fun j h1 h2 => ?_), (HB6.out.setCell (p := ⟨w.heap.size, 0, none⟩) (Nat.le_refl _) _).setCell (p := ⟨w.heap.size, 1, none⟩) (Nat.le_refl _) _⟩
    rw [heap_setCell_other _ _ _ _ (by dsimp only; omega), heap_setCell_other _ _ _ _ (by dsimp only; omega)]
set_option maxRecDepth 1000000 in
set_option maxHeartbeats 6000000 in
theorem sameTexts_yes (a b : Option Addr) (n m c d : Nat) (l : List ByteArray) (w : World) (ha : Rd w a n c 1 (strs l)) (hb : Rd w b m d 1 (strs l)) (hn : n ≤ 1073741824) :
    Calls Try.prog 34 #[.slice a n c, .slice b m d] w fun e w' => e = .returned (.bool true) ∧ Below w.heap.size w w' := by
  have hl : l.length = n := by have := ha.len; simpa using this
  have hl2 : l.length = m := by have := hb.len; simpa using this
  subst hl
  subst hl2
  go_enter Try.func34, Try.ntmps34
  go_wp2
  go_loopg [5] l.length (fun gg i wr => ∃ k : Nat, k + gg = l.length ∧ i = .int .i64 k ∧ Below w.heap.size w wr)
  case atStart => exact ⟨0, by omega, rfl, Below.refl _ _⟩
  case round =>
    obtain ⟨k, hk, rfl, hB⟩ := hrel
    by_cases hlt : k < l.length
    · obtain ⟨ba, oa, rfl, hba, hca⟩ := ha.at' (by omega)
      obtain ⟨bb, ob, rfl, hbb, hcb⟩ := hb.at' (by omega)
      have hc1 := hca k (by simpa using hlt)
      have hc2 := hcb k (by simpa using hlt)
      rw [← hB.cell (p := ⟨ba, oa + k, none⟩) (by exact hba), strs_get l k hlt] at hc1
      rw [← hB.cell (p := ⟨bb, ob + k, none⟩) (by exact hbb), strs_get l k hlt] at hc2
      have hi : (k : Int) < (l.length : Int) := by omega
      have hi0 : (0 : Int) ≤ (k : Int) := by omega
      clear hca hcb ha hb
      go_wp2
      go_quiet (fail)
      go_wp2
      go_roundg (gk - 1)
      case measure => omega
      case rel => exact ⟨k + 1, by omega, by go_num, below_drewN hB _⟩
    · go_wp2
      go_ret
      exact ⟨rfl, hB⟩
theorem field_dev (p q : Option Addr) (n c m d : Nat) (w : World) : (Instr.field 32 (.agg #[.slice p n c, .slice q m d]) 0).run Try.prog w = .ok (.slice p n c) w := by
  have h := Try.underlying32
  simp [Instr.field, run_underlying h, go_sem, asAgg]
end Go.Proofs.Ytbokgbbdjcpgbaa
