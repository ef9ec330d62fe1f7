/- done, at both of its closures: the writes that are taken, done on a copy. (Printed by gen_done.py.) -/
import Derived.Test.YtbokgbbdjcpgbaaDevOk
namespace Go.Proofs.Ytbokgbbdjcpgbaa
open Go.RowKit

/-- The blocks behind the first k writes, where those are done that are taken. -/
def doneN (tk : Nat → Bool) (ss : List ByteArray) (us : List (Int × ByteArray)) : Nat → List ByteArray
  | 0 => ss
  | k + 1 => if tk k then (doneN tk ss us k).set (us.getD k (0, ByteArray.empty)).1.toNat (us.getD k (0, ByteArray.empty)).2 else doneN tk ss us k
theorem doneN_len (tk : Nat → Bool) (ss : List ByteArray) (us : List (Int × ByteArray)) (k : Nat) : (doneN tk ss us k).length = ss.length := by
  induction k with
  | zero => rfl
  | succ k ih => rw [doneN]; split <;> simp [ih]
theorem getD_us (us : List (Int × ByteArray)) (k : Nat) (h : k < us.length) : us.getD k (0, ByteArray.empty) = us[k] := by simp [List.getD, h]
set_option maxRecDepth 1000000 in
set_option maxHeartbeats 6000000 in
theorem doneN_yes (tk : Nat → Bool) (ss : List ByteArray) (us : List (Int × ByteArray)) (k : Nat) (h : k < us.length) (ht : tk k = true) : doneN tk ss us (k + 1) = (doneN tk ss us k).set us[k].1.toNat us[k].2 := by
  rw [doneN, if_pos ht, getD_us us k h]
theorem doneN_no (tk : Nat → Bool) (ss : List ByteArray) (us : List (Int × ByteArray)) (k : Nat) (ht : tk k = false) : doneN tk ss us (k + 1) = doneN tk ss us k := by
  rw [doneN, if_neg (by simp [ht])]
theorem strs_set (l : List ByteArray) (k : Nat) (s : ByteArray) : (strs l).set k (.string s) = strs (l.set k s) := by simp [strs_eq, List.map_set]

/-- Does the mask take the write? -/
def tkM (mask : Int) (i : Nat) : Bool := decide (0 ≤ mask) && (bits BinOp.and IntKind.i64 (mask / 2 ^ i) 1 == 1)
set_option maxRecDepth 1000000 in
set_option maxHeartbeats 6000000 in
theorem flush1_any (i : Int) (w : World) : Calls Try.prog 75 #[.int .i64 i] w fun e w' => e = .returned (.bool true) ∧ w = w' := by
  go_enter Try.func75, Try.ntmps75
  go_wp2
  go_ret
  exact ⟨rfl, rfl⟩
set_option maxRecDepth 1000000 in
set_option maxHeartbeats 6000000 in
theorem crash1_any (i : Nat) (b : Nat) (mask : Int) (w : World) (hi : i < 64) (h : w.cell? ⟨b, 0, none⟩ = some (.int .i64 mask)) (hf : -9223372036854775808 ≤ mask ∧ mask ≤ 9223372036854775807) :
    Calls Try.prog 74 #[.int .i64 (i : Int), .pointer (some ⟨b, 0, none⟩)] w fun e w' => e = .returned (.bool (tkM mask i)) ∧ w = w' := by
  have hi0 : ¬ (i : Int) < 0 := by omega
  by_cases hm : 0 ≤ mask
  · go_enter Try.func74, Try.ntmps74
    go_wp2
    go_ret
    exact ⟨by rw [tkM, decide_eq_true hm, Bool.true_and]; rfl, rfl⟩
  · go_enter Try.func74, Try.ntmps74
    go_wp2
    go_ret
    exact ⟨by rw [tkM, decide_eq_false (by omega), Bool.false_and]; rfl, rfl⟩
set_option maxRecDepth 1000000 in
set_option maxHeartbeats 6000000 in
theorem copyTexts_any (a : Option Addr) (n c : Nat) (ss : List ByteArray) (w : World) (h : Rd w a n c 1 (strs ss)) (hn : n ≤ 1048576) :
    Calls Try.prog 109 #[.slice a n c] w fun e w' => ∃ g d, e = .returned (.slice g n d) ∧ Own 9 1 w.heap.size w (.slice g n d) n (strs ss) w' := by
  have hl : ss.length = n := by have := h.len; simpa using this
  have H := Lib.hid h
  have hO : Own 9 1 w.heap.size w (.slice none 0 0) 0 [] w := ⟨World.ownsRow_nil _ _ _ _, Below.refl _ _, Nat.le_refl _⟩
  have HO := Lib.hid hO
  clear h hO
  go_enter Try.func109, Try.ntmps109
  go_wp2_with (at_builtin; go_loud (refine wp_app rfl _ _ 29 rfl 9 (.string ByteArray.empty) 1 16 Try.underlying29 info_str rfl (by decide) _ _ _ _ _ (by rfl) (by exact HO.out) _ _ _ _ (by rfl) (by exact H.out) (strs_one _) (by omega) (by unfold maxLen; omega) ?_); intro a2 c2 w2 hO2)
  go_ret
  refine ⟨a2, c2, rfl, ?_⟩
  rw [Nat.zero_add, List.nil_append] at hO2
  exact hO2
theorem grow0 (w : World) (e : TypeId) (u0 u1 : Value) : (w.alloc (.cells #[u0, u1] e)).frozen? ⟨w.heap.size, 0, none⟩ = false ∧ (w.alloc (.cells #[u0, u1] e)).frozen? ⟨w.heap.size, 1, none⟩ = false := by constructor <;> go_simp
set_option maxRecDepth 1000000 in
set_option maxHeartbeats 6000000 in
theorem doneF_any (a b : Option Addr) (c d : Nat) (ss : List ByteArray) (us : List (Int × ByteArray)) (w : World) (h1 : Rd w a 18 c 1 (strs ss)) (h2 : Rd w b us.length d 2 (wrs us)) (hss : ss.length = 18) (hus : ∀ u ∈ us, 0 ≤ u.1 ∧ u.1 < 18) (hm : us.length ≤ 40) :
    Calls Try.prog 73 #[dvV a 18 c b us.length d, .func (.func 75) #[] #[]] w (DevPost (doneN (fun _ => true) ss us us.length) [] w) := by
  have H1 := Lib.hid h1
  have H2 := Lib.hid h2
  have HS := Lib.hid hss
  have HU := Lib.hid hus
  clear h1 h2 hss hus
  unfold dvV
  go_enter Try.func73, Try.ntmps73
  go_wp2_with fail
  refine (copyTexts_any _ _ _ ss _ ((H1.out.alloc _).alloc _) (by omega)).mono ?_
  rintro e w1 ⟨g0, d0, rfl, hO⟩
  obtain ⟨g, d1, he, hg0⟩ := hO.shape1 (by omega)
  cases he
  have hb := hO.below
  obtain ⟨hc, hf⟩ := bcell hb
  have hz : w.heap.size + 1 < w1.heap.size := by have := hb.size; simp at this; omega
  have hgl : g < w1.heap.size := (hO.blk g rfl).2
  have hg1 : w.heap.size + 1 < g := by simp at hg0; omega
  have HB1 : Hid (Below w.heap.size w w1) := Lib.hid ((((Below.refl w.heap.size w).alloc (Nat.le_refl _) _).alloc (by simp) _).trans (hb.mono (by simp; omega)))
  have HO : Hid (Own 9 1 w.heap.size w (.slice (some ⟨g, 0, none⟩) 18 d0) 18 (strs ss) w1) := Lib.hid ⟨row_mono1 hO.row (by simp; omega), HB1.out, by omega⟩
  have e10 : w1.cell? ⟨w.heap.size + 1, 0, none⟩ = some (.slice none 0 0) := (hc _ _ (by simp)).trans (by go_simp)
  have e11 : w1.cell? ⟨w.heap.size + 1, 1, none⟩ = some (.slice none 0 0) := (hc _ _ (by simp)).trans (by go_simp)
  have f10 : w1.frozen? ⟨w.heap.size + 1, 0, none⟩ = false := (hf _ _ (by simp)).trans (by go_simp)
  have f11 : w1.frozen? ⟨w.heap.size + 1, 1, none⟩ = false := (hf _ _ (by simp)).trans (by go_simp)
  have HE := Lib.hid (And.intro (And.intro e10 e11) (And.intro f10 f11))
  have e01 : w1.cell? ⟨w.heap.size, 1, none⟩ = some (.slice b us.length d) := (hc _ _ (by simp; omega)).trans (by go_simp)
  have hz0 : w.heap.size < w1.heap.size := by omega
  clear hO hb f10 f11 hc hf
  go_wp2
  go_loopg [6, 7, 15] us.length (fun gg x6 x7 i wr => ∃ k : Nat, k + gg = us.length ∧ i = .int .i64 (k : Int) ∧ Hid (Own 9 1 w.heap.size w (.slice (some ⟨g, 0, none⟩) 18 d0) 18 (strs (doneN (fun _ => true) ss us k)) wr) ∧ Hid ((w1.alloc (.cells #[.slice (some ⟨g, 0, none⟩) 18 d0, .slice none 0 0] 32)).grownBy wr (some g)))
  case atStart => exact ⟨0, by omega, rfl, Lib.hid (HO.out.alloc _), Lib.hid (grown_of_below _ (Below.refl _ _))⟩
  case round =>
    obtain ⟨k, hk, rfl, HO2, HG⟩ := hrel
    have hwr : w1.heap.size < wr.heap.size := by have := HG.out.size; simp at this; omega
    have q0 : wr.cell? ⟨w1.heap.size, 0, none⟩ = some (.slice (some ⟨g, 0, none⟩) 18 d0) := cell_block (box0 w1 32 _ _) (HG.out.block w1.heap.size (by simp) (by simp; omega))
    have q1 : wr.cell? ⟨w1.heap.size, 1, none⟩ = some (.slice none 0 0) := cell_block (box1 w1 32 _ _) (HG.out.block w1.heap.size (by simp) (by simp; omega))
    by_cases hlt : k < us.length
    · obtain ⟨bb, off, rfl, hbs, hc0, hc1⟩ := wrs_cells (H2.out.below HO2.out.below (Nat.le_refl _)) k hlt
      have hu := HU.out us[k] (List.getElem_mem hlt)
      have hi : (k : Int) < (us.length : Int) := by omega
      obtain ⟨q, hq⟩ := Int.eq_ofNat_of_zero_le hu.1
      have hq18 : q < 18 := by omega
      have hq18' : (q : Int) < 18 := by omega
      have HY : Hid ((fun _ => true) k = true → doneN (fun _ => true) ss us (k + 1) = (doneN (fun _ => true) ss us k).set q us[k].2) := Lib.hid (fun ht => by rw [doneN_yes _ _ _ _ hlt ht, hq]; rfl)
      rw [hq] at hc0
      obtain ⟨s, hs⟩ : ∃ s, s = us[k].2 := ⟨_, rfl⟩
      rw [← hs] at hc1 HY
      have hcg := HO2.out.cell q (by simp [doneN_len, HS.out]; omega)
      have hfg := HO2.out.free q
      generalize (strs (doneN (fun _ => true) ss us k))[q]'_ = old at hcg
      have hgw : g < wr.heap.size := by omega
      have HA := Lib.hid (HO2.out.alloc (.cells #[.int .i64 (q : Int), .string s] 53))
      have HGA := Lib.hid (grown_trans HG.out (grown_of_below (some g) (box_alloc wr (.cells #[.int .i64 (q : Int), .string s] 53))) (fun x hx => .inl hx))
      have HAS := Lib.hid ((HO2.out.set q (.string s)).alloc (.cells #[.int .i64 (q : Int), .string s] 53))
      have HGS := Lib.hid (grown_trans (grown_trans HG.out (setCell_grownD wr g q (.string s)) (fun x hx => .inl hx)) (grown_of_below (some g) (box_alloc (wr.setCell ⟨g, q, none⟩ (.string s)) (.cells #[.int .i64 (q : Int), .string s] 53))) (fun x hx => .inl hx))
      clear hs hu hq
      go_wp2_with (go_at_call 75; refine (flush1_any _ _).mono ?_; rintro e w' ⟨rfl, rfl⟩)
      go_roundg (gk - 1)
      case measure => omega
      case rel => exact ⟨k + 1, by omega, by go_num, Lib.hid (by rw [HY.out (by first | rfl | trivial), ← strs_set]; exact HAS.out), HGS⟩
    · have hkl : k = us.length := by omega
      subst hkl
      have g10 := HG.out.block (w.heap.size + 1) (by simp; omega) (by simp; omega)
      obtain ⟨⟨e10, e11⟩, f10, f11⟩ := HE.out
      have r10 : wr.cell? ⟨w.heap.size + 1, 0, none⟩ = some (.slice none 0 0) := cell_block (box_below e10 (box_alloc w1 _)) g10
      have r11 : wr.cell? ⟨w.heap.size + 1, 1, none⟩ = some (.slice none 0 0) := cell_block (box_below e11 (box_alloc w1 _)) g10
      have z10 : wr.frozen? ⟨w.heap.size + 1, 0, none⟩ = false := (World.frozen?_of_block (a := ⟨w.heap.size + 1, 0, none⟩) g10).trans (((box_alloc w1 _).frozen (p := ⟨w.heap.size + 1, 0, none⟩) hz).trans f10)
      have z11 : wr.frozen? ⟨w.heap.size + 1, 1, none⟩ = false := (World.frozen?_of_block (a := ⟨w.heap.size + 1, 1, none⟩) g10).trans (((box_alloc w1 _).frozen (p := ⟨w.heap.size + 1, 1, none⟩) hz).trans f11)
      have hO1 := Lib.hid ((HO2.out.setFar (w.heap.size + 1) 0 (.slice (some ⟨g, 0, none⟩) 18 d0) (fun k hk => by cases hk; dsimp only; omega)).setFar (w.heap.size + 1) 1 (.slice none 0 0) (fun k hk => by cases hk; dsimp only; omega))
      have hB2 := Lib.hid ((HO2.out.below.setCell (p := ⟨w.heap.size + 1, 0, none⟩) (by dsimp only; omega) (.slice (some ⟨g, 0, none⟩) 18 d0)).setCell (p := ⟨w.heap.size + 1, 1, none⟩) (by dsimp only; omega) (.slice none 0 0))
      have hlen : (doneN (fun _ => true) ss us us.length).length = 18 := (doneN_len _ _ _ _).trans HS.out
      have HL := Lib.hid hlen
      clear g10 e10 e11 f10 f11 hlen
      go_wp2
      refine bodyPost_ret (v := .agg #[.slice (some ⟨g, 0, none⟩) 18 d0, .slice none 0 0]) (by simp [results, Try.results73, go_sem, r10, r11]) rfl ?_
      refine ⟨_, rfl, ⟨⟨some ⟨g, 0, none⟩, d0, none, 0, by rw [HL.out]; rfl, by rw [HL.out]; exact hO1.out.self, ⟨World.ownsRow_nil _ _ _ _, Below.refl _ _, hB2.out.size⟩, fun k hk => by cases hk⟩⟩, hB2.out⟩
set_option maxRecDepth 1000000 in
set_option maxHeartbeats 6000000 in
theorem doneM_any (a b : Option Addr) (c d : Nat) (ss : List ByteArray) (us : List (Int × ByteArray)) (bm : Nat) (mask : Int) (w : World) (h1 : Rd w a 18 c 1 (strs ss)) (h2 : Rd w b us.length d 2 (wrs us)) (hss : ss.length = 18) (hus : ∀ u ∈ us, 0 ≤ u.1 ∧ u.1 < 18) (hm : us.length ≤ 40) (hbm : w.cell? ⟨bm, 0, none⟩ = some (.int .i64 mask)) (hmr : -9223372036854775808 ≤ mask ∧ mask ≤ 9223372036854775807) :
    Calls Try.prog 73 #[dvV a 18 c b us.length d, .func (.func 74) #[] #[.pointer (some ⟨bm, 0, none⟩)]] w (DevPost (doneN (tkM mask) ss us us.length) [] w) := by
  have H1 := Lib.hid h1
  have H2 := Lib.hid h2
  have HS := Lib.hid hss
  have HU := Lib.hid hus
  have HM := Lib.hid hbm
  clear hbm
  clear h1 h2 hss hus
  unfold dvV
  go_enter Try.func73, Try.ntmps73
  go_wp2_with fail
  refine (copyTexts_any _ _ _ ss _ ((H1.out.alloc _).alloc _) (by omega)).mono ?_
  rintro e w1 ⟨g0, d0, rfl, hO⟩
  obtain ⟨g, d1, he, hg0⟩ := hO.shape1 (by omega)
  cases he
  have hb := hO.below
  obtain ⟨hc, hf⟩ := bcell hb
  have hz : w.heap.size + 1 < w1.heap.size := by have := hb.size; simp at this; omega
  have hgl : g < w1.heap.size := (hO.blk g rfl).2
  have hg1 : w.heap.size + 1 < g := by simp at hg0; omega
  have HB1 : Hid (Below w.heap.size w w1) := Lib.hid ((((Below.refl w.heap.size w).alloc (Nat.le_refl _) _).alloc (by simp) _).trans (hb.mono (by simp; omega)))
  have HO : Hid (Own 9 1 w.heap.size w (.slice (some ⟨g, 0, none⟩) 18 d0) 18 (strs ss) w1) := Lib.hid ⟨row_mono1 hO.row (by simp; omega), HB1.out, by omega⟩
  have e10 : w1.cell? ⟨w.heap.size + 1, 0, none⟩ = some (.slice none 0 0) := (hc _ _ (by simp)).trans (by go_simp)
  have e11 : w1.cell? ⟨w.heap.size + 1, 1, none⟩ = some (.slice none 0 0) := (hc _ _ (by simp)).trans (by go_simp)
  have f10 : w1.frozen? ⟨w.heap.size + 1, 0, none⟩ = false := (hf _ _ (by simp)).trans (by go_simp)
  have f11 : w1.frozen? ⟨w.heap.size + 1, 1, none⟩ = false := (hf _ _ (by simp)).trans (by go_simp)
  have HE := Lib.hid (And.intro (And.intro e10 e11) (And.intro f10 f11))
  have e01 : w1.cell? ⟨w.heap.size, 1, none⟩ = some (.slice b us.length d) := (hc _ _ (by simp; omega)).trans (by go_simp)
  have hz0 : w.heap.size < w1.heap.size := by omega
  clear hO hb f10 f11 hc hf
  go_wp2
  go_loopg [6, 7, 15] us.length (fun gg x6 x7 i wr => ∃ k : Nat, k + gg = us.length ∧ i = .int .i64 (k : Int) ∧ Hid (Own 9 1 w.heap.size w (.slice (some ⟨g, 0, none⟩) 18 d0) 18 (strs (doneN (tkM mask) ss us k)) wr) ∧ Hid ((w1.alloc (.cells #[.slice (some ⟨g, 0, none⟩) 18 d0, .slice none 0 0] 32)).grownBy wr (some g)))
  case atStart => exact ⟨0, by omega, rfl, Lib.hid (HO.out.alloc _), Lib.hid (grown_of_below _ (Below.refl _ _))⟩
  case round =>
    obtain ⟨k, hk, rfl, HO2, HG⟩ := hrel
    have hwr : w1.heap.size < wr.heap.size := by have := HG.out.size; simp at this; omega
    have q0 : wr.cell? ⟨w1.heap.size, 0, none⟩ = some (.slice (some ⟨g, 0, none⟩) 18 d0) := cell_block (box0 w1 32 _ _) (HG.out.block w1.heap.size (by simp) (by simp; omega))
    have q1 : wr.cell? ⟨w1.heap.size, 1, none⟩ = some (.slice none 0 0) := cell_block (box1 w1 32 _ _) (HG.out.block w1.heap.size (by simp) (by simp; omega))
    by_cases hlt : k < us.length
    · obtain ⟨bb, off, rfl, hbs, hc0, hc1⟩ := wrs_cells (H2.out.below HO2.out.below (Nat.le_refl _)) k hlt
      have hu := HU.out us[k] (List.getElem_mem hlt)
      have hi : (k : Int) < (us.length : Int) := by omega
      obtain ⟨q, hq⟩ := Int.eq_ofNat_of_zero_le hu.1
      have hq18 : q < 18 := by omega
      have hq18' : (q : Int) < 18 := by omega
      have HY : Hid ((tkM mask) k = true → doneN (tkM mask) ss us (k + 1) = (doneN (tkM mask) ss us k).set q us[k].2) := Lib.hid (fun ht => by rw [doneN_yes _ _ _ _ hlt ht, hq]; rfl)
      rw [hq] at hc0
      obtain ⟨s, hs⟩ : ∃ s, s = us[k].2 := ⟨_, rfl⟩
      rw [← hs] at hc1 HY
      have hcg := HO2.out.cell q (by simp [doneN_len, HS.out]; omega)
      have hfg := HO2.out.free q
      generalize (strs (doneN (tkM mask) ss us k))[q]'_ = old at hcg
      have hgw : g < wr.heap.size := by omega
      have HA := Lib.hid (HO2.out.alloc (.cells #[.int .i64 (q : Int), .string s] 53))
      have HGA := Lib.hid (grown_trans HG.out (grown_of_below (some g) (box_alloc wr (.cells #[.int .i64 (q : Int), .string s] 53))) (fun x hx => .inl hx))
      have HAS := Lib.hid ((HO2.out.set q (.string s)).alloc (.cells #[.int .i64 (q : Int), .string s] 53))
      have HGS := Lib.hid (grown_trans (grown_trans HG.out (setCell_grownD wr g q (.string s)) (fun x hx => .inl hx)) (grown_of_below (some g) (box_alloc (wr.setCell ⟨g, q, none⟩ (.string s)) (.cells #[.int .i64 (q : Int), .string s] 53))) (fun x hx => .inl hx))
      clear hs hu hq
      have hbm := (HO2.out.below.cell (p := ⟨bm, 0, none⟩) (World.block_lt_of_cell? w _ HM.out)).trans HM.out
      have hbl : bm < wr.heap.size := World.block_lt_of_cell? wr _ hbm
      by_cases ht : tkM mask k = true
      · go_wp2_with (go_at_call 74; refine (crash1_any k bm mask _ (by omega) (box_below hbm (box_alloc _ _)) hmr).mono ?_; rintro e w' ⟨rfl, rfl⟩; rw [ht])
        go_roundg (gk - 1)
        case measure => omega
        case rel => exact ⟨k + 1, by omega, by go_num, Lib.hid (by rw [HY.out ht, ← strs_set]; exact HAS.out), HGS⟩
      · have ht : tkM mask k = false := by simpa using ht
        have HN := Lib.hid (doneN_no (tkM mask) ss us k ht)
        go_wp2_with (go_at_call 74; refine (crash1_any k bm mask _ (by omega) (box_below hbm (box_alloc _ _)) hmr).mono ?_; rintro e w' ⟨rfl, rfl⟩; rw [ht])
        go_roundg (gk - 1)
        case measure => omega
        case rel => exact ⟨k + 1, by omega, by go_num, Lib.hid (by rw [HN.out]; exact HA.out), HGA⟩
    · have hkl : k = us.length := by omega
      subst hkl
      have g10 := HG.out.block (w.heap.size + 1) (by simp; omega) (by simp; omega)
      obtain ⟨⟨e10, e11⟩, f10, f11⟩ := HE.out
      have r10 : wr.cell? ⟨w.heap.size + 1, 0, none⟩ = some (.slice none 0 0) := cell_block (box_below e10 (box_alloc w1 _)) g10
      have r11 : wr.cell? ⟨w.heap.size + 1, 1, none⟩ = some (.slice none 0 0) := cell_block (box_below e11 (box_alloc w1 _)) g10
      have z10 : wr.frozen? ⟨w.heap.size + 1, 0, none⟩ = false := (World.frozen?_of_block (a := ⟨w.heap.size + 1, 0, none⟩) g10).trans (((box_alloc w1 _).frozen (p := ⟨w.heap.size + 1, 0, none⟩) hz).trans f10)
      have z11 : wr.frozen? ⟨w.heap.size + 1, 1, none⟩ = false := (World.frozen?_of_block (a := ⟨w.heap.size + 1, 1, none⟩) g10).trans (((box_alloc w1 _).frozen (p := ⟨w.heap.size + 1, 1, none⟩) hz).trans f11)
      have hO1 := Lib.hid ((HO2.out.setFar (w.heap.size + 1) 0 (.slice (some ⟨g, 0, none⟩) 18 d0) (fun k hk => by cases hk; dsimp only; omega)).setFar (w.heap.size + 1) 1 (.slice none 0 0) (fun k hk => by cases hk; dsimp only; omega))
      have hB2 := Lib.hid ((HO2.out.below.setCell (p := ⟨w.heap.size + 1, 0, none⟩) (by dsimp only; omega) (.slice (some ⟨g, 0, none⟩) 18 d0)).setCell (p := ⟨w.heap.size + 1, 1, none⟩) (by dsimp only; omega) (.slice none 0 0))
      have hlen : (doneN (tkM mask) ss us us.length).length = 18 := (doneN_len _ _ _ _).trans HS.out
      have HL := Lib.hid hlen
      clear g10 e10 e11 f10 f11 hlen
      go_wp2
      refine bodyPost_ret (v := .agg #[.slice (some ⟨g, 0, none⟩) 18 d0, .slice none 0 0]) (by simp [results, Try.results73, go_sem, r10, r11]) rfl ?_
      refine ⟨_, rfl, ⟨⟨some ⟨g, 0, none⟩, d0, none, 0, by rw [HL.out]; rfl, by rw [HL.out]; exact hO1.out.self, ⟨World.ownsRow_nil _ _ _ _, Below.refl _ _, hB2.out.size⟩, fun k hk => by cases hk⟩⟩, hB2.out⟩

theorem devOk_len {ss : List ByteArray} {us : List (Int × ByteArray)} (h : devOkB ss us = true) : ss.length = 18 ∧ us.length ≤ 40 ∧ ∀ u ∈ us, 0 ≤ u.1 ∧ u.1 < 18 := by
  simp only [devOkB, Bool.and_eq_true, decide_eq_true_eq, List.all_eq_true, wrOk] at h
  exact ⟨h.1.1.1, h.1.1.2, fun u hu => ⟨(h.2 u hu).1, (h.2 u hu).2.1⟩⟩
/-- What Flush, Crash come to. -/
def doneF (tk : Nat → Bool) (ss : List ByteArray) (us : List (Int × ByteArray)) : List ByteArray := if devOkB ss us = true then doneN tk ss us us.length else []
theorem doneF_len (tk : Nat → Bool) (ss : List ByteArray) (us : List (Int × ByteArray)) : (doneF tk ss us).length ≤ 18 := by
  unfold doneF
  split
  · rename_i h; rw [doneN_len, (devOk_len h).1]; exact Nat.le_refl _
  · exact Nat.zero_le _
theorem dev_nil (B : Nat) (w : World) (h : B ≤ w.heap.size) : DevOwn B w (.agg #[.slice none 0 0, .slice none 0 0]) [] [] :=
  ⟨⟨none, 0, none, 0, rfl, ⟨World.ownsRow_nil _ _ _ _, Below.refl _ _, h⟩, ⟨World.ownsRow_nil _ _ _ _, Below.refl _ _, h⟩, fun k hk => by cases hk⟩⟩
theorem DevOwn.setFar {B : Nat} {w : World} {v : Value} {ss : List ByteArray} {us : List (Int × ByteArray)} (h : DevOwn B w v ss us) (b j : Nat) (u : Value) (hb : b < B) : DevOwn B (w.setCell ⟨b, j, none⟩ u) v ss us := by
  obtain ⟨a, c, b', d, e, h1, h2, h3⟩ := h.ex
  exact ⟨a, c, b', d, e, h1.setFar b j u (fun k hk e => by have := (h1.blk k hk).1; omega), h2.setFar b j u (fun k hk e => by have := (h2.blk k hk).1; omega), h3⟩
theorem DevOwn.low {B B' : Nat} {w : World} {v : Value} {ss : List ByteArray} {us : List (Int × ByteArray)} (h : DevOwn B w v ss us) (hB : B' ≤ B) : DevOwn B' w v ss us := by
  have hs := h.size
  obtain ⟨a, c, b', d, e, h1, h2, h3⟩ := h.ex
  exact ⟨a, c, b', d, e, ⟨row_mono1 h1.row hB, Below.refl _ _, by omega⟩, ⟨row_mono1 h2.row hB, Below.refl _ _, by omega⟩, h3⟩
set_option maxRecDepth 1000000 in
set_option maxHeartbeats 6000000 in
theorem implFlush_any (v : Value) (ss : List ByteArray) (us : List (Int × ByteArray)) (w : World) (h : DevRd w v ss us) :
    Calls Try.prog 31 #[v] w (DevPost (doneF (fun _ => true) ss us) [] w) := by
  obtain ⟨a, c, b, d, rfl, h1, h2⟩ := h.ex
  clear h
  unfold dvV
  have HB0 := Lib.hid ((box_alloc w (.cells #[.slice a ss.length c, .slice b us.length d] 32)).alloc (by simp) (.cells #[.slice none 0 0, .slice none 0 0] 32))
  have H1 := Lib.hid (h1.below HB0.out (Nat.le_refl _))
  have H2 := Lib.hid (h2.below HB0.out (Nat.le_refl _))
  clear h1 h2
  go_enter Try.func31, Try.ntmps31
  go_wp2_with fail
  refine (implDevOk_any _ ss us _ ⟨a, c, b, d, rfl, H1.out, H2.out⟩).mono ?_
  rintro e w1 ⟨rfl, hb⟩
  obtain ⟨hc, hf⟩ := bcell hb
  have hz : w.heap.size + 1 < w1.heap.size := by have := hb.size; simp at this; omega
  have hz0 : w.heap.size < w1.heap.size := by omega
  have e00 : w1.cell? ⟨w.heap.size, 0, none⟩ = some (.slice a ss.length c) := (hc _ _ (by simp; omega)).trans (by go_simp)
  have e01 : w1.cell? ⟨w.heap.size, 1, none⟩ = some (.slice b us.length d) := (hc _ _ (by simp; omega)).trans (by go_simp)
  have e10 : w1.cell? ⟨w.heap.size + 1, 0, none⟩ = some (.slice none 0 0) := (hc _ _ (by simp)).trans (by go_simp)
  have e11 : w1.cell? ⟨w.heap.size + 1, 1, none⟩ = some (.slice none 0 0) := (hc _ _ (by simp)).trans (by go_simp)
  have f10 : w1.frozen? ⟨w.heap.size + 1, 0, none⟩ = false := (hf _ _ (by simp)).trans (by go_simp)
  have f11 : w1.frozen? ⟨w.heap.size + 1, 1, none⟩ = false := (hf _ _ (by simp)).trans (by go_simp)
  have H1b := Lib.hid (H1.out.below hb (Nat.le_refl _))
  have H2b := Lib.hid (H2.out.below hb (Nat.le_refl _))
  have HB1 := Lib.hid (below_step1 HB0.out hb)
  clear hb hc hf H1 H2 HB0
  by_cases hok : devOkB ss us = true
  · obtain ⟨hl, hm, hus⟩ := devOk_len hok
    have HF : Hid (doneF (fun _ => true) ss us = doneN (fun _ => true) ss us us.length) := Lib.hid (by unfold doneF; rw [if_pos hok])
    have HU := Lib.hid hus
    have HS := Lib.hid hl
    rw [hok, hl]
    rw [hl] at e00 H1b
    clear hok hus hl
    go_wp2_with fail
    refine (doneF_any a b c d ss us _ H1b.out H2b.out HS.out HU.out hm).mono ?_
    rintro e w2 ⟨v, rfl, hO, hb⟩
    obtain ⟨p, q, r, t, rfl, -⟩ := hO.ex
    have r10 := box_below e10 hb
    have r11 := box_below e11 hb
    have z10 : w2.frozen? ⟨w.heap.size + 1, 0, none⟩ = false := ((bcell hb).2 _ _ hz).trans f10
    have z11 : w2.frozen? ⟨w.heap.size + 1, 1, none⟩ = false := ((bcell hb).2 _ _ hz).trans f11
    have hB := below_step1 HB1.out hb
    have hO2 := Lib.hid (((hO.setFar (w.heap.size + 1) 0 (.slice p (doneN (fun _ => true) ss us us.length).length q) hz).setFar (w.heap.size + 1) 1 (.slice r ([] : List (Int × ByteArray)).length t) hz).low (by omega : w.heap.size ≤ w1.heap.size))
    have hB2 := Lib.hid ((hB.setCell (p := ⟨w.heap.size + 1, 0, none⟩) (by dsimp only; omega) (.slice p (doneN (fun _ => true) ss us us.length).length q)).setCell (p := ⟨w.heap.size + 1, 1, none⟩) (by dsimp only; omega) (.slice r ([] : List (Int × ByteArray)).length t))
    have hln : (doneN (fun _ => true) ss us us.length).length = 18 := (doneN_len _ _ _ _).trans HS.out
    unfold dvV at hO2 ⊢
    rw [hln, List.length_nil] at hO2 hB2 ⊢
    clear hO hb e00 e01 e10 e11 f10 f11 hB hln
    go_wp2
    refine bodyPost_ret (v := .agg #[.slice p 18 q, .slice r 0 t]) (by simp [results, Try.results31, go_sem, r10, r11]) rfl ?_
    exact ⟨_, rfl, by rw [HF.out]; exact hO2.out, hB2.out⟩
  · have HF : Hid (doneF (fun _ => true) ss us = []) := Lib.hid (by unfold doneF; rw [if_neg hok])
    have hok : devOkB ss us = false := by simpa using hok
    rw [hok]
    clear hok
    go_wp2
    have hB2 := Lib.hid ((HB1.out.setCell (p := ⟨w.heap.size + 1, 0, none⟩) (by dsimp only; omega) (.slice none 0 0)).setCell (p := ⟨w.heap.size + 1, 1, none⟩) (by dsimp only; omega) (.slice none 0 0))
    refine bodyPost_ret (v := .agg #[.slice none 0 0, .slice none 0 0]) (by simp [results, Try.results31, go_sem, e10, e11]) rfl ?_
    exact ⟨_, rfl, by rw [HF.out]; exact dev_nil _ _ hB2.out.size, hB2.out⟩
set_option maxRecDepth 1000000 in
set_option maxHeartbeats 6000000 in
theorem implCrash_any (v : Value) (mask : Int) (hmr : -9223372036854775808 ≤ mask ∧ mask ≤ 9223372036854775807) (ss : List ByteArray) (us : List (Int × ByteArray)) (w : World) (h : DevRd w v ss us) :
    Calls Try.prog 29 #[v, .int .i64 mask] w (DevPost (doneF (tkM mask) ss us) [] w) := by
  obtain ⟨a, c, b, d, rfl, h1, h2⟩ := h.ex
  clear h
  unfold dvV
  have HB0 := Lib.hid (((box_alloc w (.cells #[.slice a ss.length c, .slice b us.length d] 32)).alloc (by simp) (.cells #[.int .i64 mask] 3)).alloc (by simp; omega) (.cells #[.slice none 0 0, .slice none 0 0] 32))
  have H1 := Lib.hid (h1.below HB0.out (Nat.le_refl _))
  have H2 := Lib.hid (h2.below HB0.out (Nat.le_refl _))
  clear h1 h2
  go_enter Try.func29, Try.ntmps29
  go_wp2_with fail
  refine (implDevOk_any _ ss us _ ⟨a, c, b, d, rfl, H1.out, H2.out⟩).mono ?_
  rintro e w1 ⟨rfl, hb⟩
  obtain ⟨hc, hf⟩ := bcell hb
  have hz : w.heap.size + 1 + 1 < w1.heap.size := by have := hb.size; simp at this; omega
  have hz0 : w.heap.size < w1.heap.size := by omega
  have hz1 : w.heap.size + 1 < w1.heap.size := by omega
  have hmk : w1.cell? ⟨w.heap.size + 1, 0, none⟩ = some (.int .i64 mask) := (hc _ _ (by simp)).trans (by go_simp)
  have e00 : w1.cell? ⟨w.heap.size, 0, none⟩ = some (.slice a ss.length c) := (hc _ _ (by simp; omega)).trans (by go_simp)
  have e01 : w1.cell? ⟨w.heap.size, 1, none⟩ = some (.slice b us.length d) := (hc _ _ (by simp; omega)).trans (by go_simp)
  have e10 : w1.cell? ⟨w.heap.size + 1 + 1, 0, none⟩ = some (.slice none 0 0) := (hc _ _ (by simp)).trans (by go_simp)
  have e11 : w1.cell? ⟨w.heap.size + 1 + 1, 1, none⟩ = some (.slice none 0 0) := (hc _ _ (by simp)).trans (by go_simp)
  have f10 : w1.frozen? ⟨w.heap.size + 1 + 1, 0, none⟩ = false := (hf _ _ (by simp)).trans (by go_simp)
  have f11 : w1.frozen? ⟨w.heap.size + 1 + 1, 1, none⟩ = false := (hf _ _ (by simp)).trans (by go_simp)
  have H1b := Lib.hid (H1.out.below hb (Nat.le_refl _))
  have H2b := Lib.hid (H2.out.below hb (Nat.le_refl _))
  have HB1 := Lib.hid (below_step1 HB0.out hb)
  clear hb hc hf H1 H2 HB0
  by_cases hok : devOkB ss us = true
  · obtain ⟨hl, hm, hus⟩ := devOk_len hok
    have HF : Hid (doneF (tkM mask) ss us = doneN (tkM mask) ss us us.length) := Lib.hid (by unfold doneF; rw [if_pos hok])
    have HU := Lib.hid hus
    have HS := Lib.hid hl
    rw [hok, hl]
    rw [hl] at e00 H1b
    clear hok hus hl
    go_wp2_with fail
    refine (doneM_any a b c d ss us (w.heap.size + 1) mask _ H1b.out H2b.out HS.out HU.out hm hmk hmr).mono ?_
    rintro e w2 ⟨v, rfl, hO, hb⟩
    obtain ⟨p, q, r, t, rfl, -⟩ := hO.ex
    have r10 := box_below e10 hb
    have r11 := box_below e11 hb
    have z10 : w2.frozen? ⟨w.heap.size + 1 + 1, 0, none⟩ = false := ((bcell hb).2 _ _ hz).trans f10
    have z11 : w2.frozen? ⟨w.heap.size + 1 + 1, 1, none⟩ = false := ((bcell hb).2 _ _ hz).trans f11
    have hB := below_step1 HB1.out hb
    have hO2 := Lib.hid (((hO.setFar (w.heap.size + 1 + 1) 0 (.slice p (doneN (tkM mask) ss us us.length).length q) hz).setFar (w.heap.size + 1 + 1) 1 (.slice r ([] : List (Int × ByteArray)).length t) hz).low (by omega : w.heap.size ≤ w1.heap.size))
    have hB2 := Lib.hid ((hB.setCell (p := ⟨w.heap.size + 1 + 1, 0, none⟩) (by dsimp only; omega) (.slice p (doneN (tkM mask) ss us us.length).length q)).setCell (p := ⟨w.heap.size + 1 + 1, 1, none⟩) (by dsimp only; omega) (.slice r ([] : List (Int × ByteArray)).length t))
    have hln : (doneN (tkM mask) ss us us.length).length = 18 := (doneN_len _ _ _ _).trans HS.out
    unfold dvV at hO2 ⊢
    rw [hln, List.length_nil] at hO2 hB2 ⊢
    clear hO hb e00 e01 e10 e11 f10 f11 hB hln
    go_wp2
    refine bodyPost_ret (v := .agg #[.slice p 18 q, .slice r 0 t]) (by simp [results, Try.results29, go_sem, r10, r11]) rfl ?_
    exact ⟨_, rfl, by rw [HF.out]; exact hO2.out, hB2.out⟩
  · have HF : Hid (doneF (tkM mask) ss us = []) := Lib.hid (by unfold doneF; rw [if_neg hok])
    have hok : devOkB ss us = false := by simpa using hok
    rw [hok]
    clear hok
    go_wp2
    have hB2 := Lib.hid ((HB1.out.setCell (p := ⟨w.heap.size + 1 + 1, 0, none⟩) (by dsimp only; omega) (.slice none 0 0)).setCell (p := ⟨w.heap.size + 1 + 1, 1, none⟩) (by dsimp only; omega) (.slice none 0 0))
    refine bodyPost_ret (v := .agg #[.slice none 0 0, .slice none 0 0]) (by simp [results, Try.results29, go_sem, e10, e11]) rfl ?_
    exact ⟨_, rfl, by rw [HF.out]; exact dev_nil _ _ hB2.out.size, hB2.out⟩
end Go.Proofs.Ytbokgbbdjcpgbaa
