/- The law of NewVol, walked: the laws' own helpers at a volume of one inode. -/
import Derived.Test.YtbokgbbdjcpgbaaVol
import Derived.Test.YtbokgbbdjcpgbaaRdTxnS
namespace Go.Proofs.Ytbokgbbdjcpgbaa
open Go.RowKit

def mkCells : List Value := [.int .i64 1, .int .i64 2, .int .i64 3, .string (mtF 4), .slice none 0 0]
/-- Five cells of a block. -/
def Five (w : World) (g : Nat) (a b c d e : Value) : Prop := w.cell? ⟨g, 0, none⟩ = some a ∧ w.cell? ⟨g, 1, none⟩ = some b ∧ w.cell? ⟨g, 2, none⟩ = some c ∧ w.cell? ⟨g, 3, none⟩ = some d ∧ w.cell? ⟨g, 4, none⟩ = some e
theorem Five.below {w w' : World} {g : Nat} {a b c d e : Value} (h : Five w g a b c d e) (hb : Below w.heap.size w w') : Five w' g a b c d e :=
  ⟨box_below h.1 hb, box_below h.2.1 hb, box_below h.2.2.1 hb, box_below h.2.2.2.1 hb, box_below h.2.2.2.2 hb⟩
theorem five_of {w : World} {g cp : Nat} {a b c d e : Value} (h : Rd w (some ⟨g, 0, none⟩) 1 cp 5 [a, b, c, d, e]) : Five w g a b c d e := by
  obtain ⟨b', off, e', hgl, hc⟩ := h.at' (by omega)
  cases e'
  exact ⟨hc 0 (by simp), hc 1 (by simp), hc 2 (by simp), hc 3 (by simp), hc 4 (by simp)⟩
abbrev in5 (w : World) (g : Nat) : Prop := Five w g (.int .i64 1) (.int .i64 2) (.int .i64 1) (.string ByteArray.empty) (.slice none 0 0)
set_option maxRecDepth 1000000 in
set_option maxHeartbeats 6000000 in
theorem eqEnt0_yes (w : World) : Calls Try.prog 121 #[.slice none 0 0, .slice none 0 0] w fun e w' => e = .returned (.bool true) ∧ w = w' := by
  go_enter Try.func121, Try.ntmps121
  go_wp2
  go_loopg [5] 0 (fun gg i wr => i = .int .i64 0 ∧ w = wr)
  case atStart => exact ⟨rfl, rfl⟩
  case round =>
    obtain ⟨rfl, rfl⟩ := hrel
    go_wp2
    go_ret
    exact ⟨rfl, rfl⟩
set_option maxRecDepth 1000000 in
set_option maxHeartbeats 6000000 in
theorem markEnt0_any (w : World) : Calls Try.prog 114 #[.slice none 0 0, .int .i64 5] w fun e w' => e = .returned (.int .i64 5) ∧ w = w' := by
  go_enter Try.func114, Try.ntmps114
  go_wp2
  go_loopg [1, 5] 0 (fun gg q i wr => i = .int .i64 0 ∧ q = .int .i64 5 ∧ w = wr)
  case atStart => exact ⟨rfl, rfl, rfl⟩
  case round =>
    obtain ⟨rfl, rfl, rfl⟩ := hrel
    go_wp2
    go_ret
    exact ⟨rfl, rfl⟩
set_option maxRecDepth 1000000 in
set_option maxHeartbeats 6000000 in
theorem heldEnt0_any (w : World) : Calls Try.prog 115 #[.slice none 0 0, .int .i64 5] w fun e w' => e = .returned (.int .i64 5) ∧ w = w' := by
  go_enter Try.func115, Try.ntmps115
  go_wp2
  go_loopg [1, 5] 0 (fun gg q i wr => i = .int .i64 0 ∧ q = .int .i64 5 ∧ w = wr)
  case atStart => exact ⟨rfl, rfl, rfl⟩
  case round =>
    obtain ⟨rfl, rfl, rfl⟩ := hrel
    go_wp2
    go_ret
    exact ⟨rfl, rfl⟩
set_option maxRecDepth 1000000 in
set_option maxHeartbeats 6000000 in
theorem eqInode_yes (w : World) : Calls Try.prog 113 #[.agg #[.int .i64 1, .int .i64 2, .int .i64 1, .string ByteArray.empty, .slice none 0 0], .agg #[.int .i64 1, .int .i64 2, .int .i64 1, .string ByteArray.empty, .slice none 0 0]] w fun e w' => e = .returned (.bool true) ∧ Below w.heap.size w w' := by
  have HB := Lib.hid ((box_alloc w (.cells #[.int .i64 1, .int .i64 2, .int .i64 1, .string ByteArray.empty, .slice none 0 0] 101)).alloc (by simp) (.cells #[.int .i64 1, .int .i64 2, .int .i64 1, .string ByteArray.empty, .slice none 0 0] 101))
  go_enter Try.func113, Try.ntmps113
  go_wp2_with fail
  refine (eqEnt0_yes _).mono ?_
  rintro e w2 ⟨rfl, rfl⟩
  go_wp2
  go_ret
  exact ⟨rfl, HB.out⟩
set_option maxRecDepth 1000000 in
set_option maxHeartbeats 6000000 in
theorem eqInodeS_yes (g c h d : Nat) (w : World) (h1 : in5 w g) (h2 : in5 w h) :
    Calls Try.prog 84 #[.slice (some ⟨g, 0, none⟩) 1 c, .slice (some ⟨h, 0, none⟩) 1 d] w fun e w' => e = .returned (.bool true) ∧ Below w.heap.size w w' := by
  have HA := Lib.hid (And.intro h1 h2)
  have hB0 := Below.refl w.heap.size w
  have HALL : Hid (∀ W, Below w.heap.size w W → ((W.cell? ⟨g, 0, none⟩ = some (.int .i64 1) ∧ W.cell? ⟨g, 1, none⟩ = some (.int .i64 2) ∧ W.cell? ⟨g, 2, none⟩ = some (.int .i64 1) ∧ W.cell? ⟨g, 3, none⟩ = some (.string ByteArray.empty) ∧ W.cell? ⟨g, 4, none⟩ = some (.slice none 0 0)) ∧ (W.cell? ⟨h, 0, none⟩ = some (.int .i64 1) ∧ W.cell? ⟨h, 1, none⟩ = some (.int .i64 2) ∧ W.cell? ⟨h, 2, none⟩ = some (.int .i64 1) ∧ W.cell? ⟨h, 3, none⟩ = some (.string ByteArray.empty) ∧ W.cell? ⟨h, 4, none⟩ = some (.slice none 0 0)) ∧ Below w.heap.size w W)) := Lib.hid (fun W hW => ⟨HA.out.1.below hW, HA.out.2.below hW, hW⟩)
  clear h1 h2
  go_enter Try.func84, Try.ntmps84
  go_wp2
  go_loopg [5] 1 (fun gg i wr => ∃ k : Nat, k + gg = 1 ∧ i = .int .i64 (k : Int) ∧ Hid (Below w.heap.size w wr))
  case atStart => exact ⟨0, by omega, rfl, Lib.hid (Below.refl _ _)⟩
  case round =>
    obtain ⟨k, hk, rfl, HB⟩ := hrel
    rcases Nat.eq_zero_or_pos k with hk0 | hk0
    · subst hk0
      have hB1 := HB.out
      clear hB0
      go_wp2
      refine wp_region_held_drew (S := (fun W => (W.cell? ⟨g, 0, none⟩ = some (.int .i64 1) ∧ W.cell? ⟨g, 1, none⟩ = some (.int .i64 2) ∧ W.cell? ⟨g, 2, none⟩ = some (.int .i64 1) ∧ W.cell? ⟨g, 3, none⟩ = some (.string ByteArray.empty) ∧ W.cell? ⟨g, 4, none⟩ = some (.slice none 0 0)) ∧ (W.cell? ⟨h, 0, none⟩ = some (.int .i64 1) ∧ W.cell? ⟨h, 1, none⟩ = some (.int .i64 2) ∧ W.cell? ⟨h, 2, none⟩ = some (.int .i64 1) ∧ W.cell? ⟨h, 3, none⟩ = some (.string ByteArray.empty) ∧ W.cell? ⟨h, 4, none⟩ = some (.slice none 0 0)) ∧ Below w.heap.size w W)) (by kernel_rfl) ?_ (fun hHeld => ?_)
      · try dsimp only
        (go_split_ands; first | exact HALL.out _ (by assumption) | exact HALL.out _ (Below.drew (by assumption)) | exact HALL.out _ (below_step1 (by assumption) (by assumption)))
      change wpAnyH _ _ _ _ _ 10 #[false, false, false, false, false, false, false, false, false, false] _ _
      clear hB1
      refine wpH_take (i := 0) (v := ?_) rfl (by kernel_rfl) (by kernel_rfl) (by kernel_rfl) (fun _ _ _ h => h) (by rfl) ?_ (by assumption) ?_; rotate_left; (focus (intro w hSw; (try dsimp only at hSw); go_simp; try with_reducible rfl)); try simp only [Act.put, List.setIfInBounds_toArray, List.set_cons_zero, List.set_cons_succ]
      refine wpH_take (i := 1) (v := ?_) rfl (by kernel_rfl) (by kernel_rfl) (by kernel_rfl) (fun _ _ _ h => h) (by rfl) ?_ (by assumption) ?_; rotate_left; (focus (intro w hSw; (try dsimp only at hSw); go_simp; try with_reducible rfl)); try simp only [Act.put, List.setIfInBounds_toArray, List.set_cons_zero, List.set_cons_succ]
      refine wpH_take (i := 2) (v := ?_) rfl (by kernel_rfl) (by kernel_rfl) (by kernel_rfl) (fun _ _ _ h => h) (by rfl) ?_ (by assumption) ?_; rotate_left; (focus (intro w hSw; (try dsimp only at hSw); go_simp; try with_reducible rfl)); try simp only [Act.put, List.setIfInBounds_toArray, List.set_cons_zero, List.set_cons_succ]
      refine wpH_take (i := 3) (v := ?_) rfl (by kernel_rfl) (by kernel_rfl) (by kernel_rfl) (fun _ _ _ h => h) (by rfl) ?_ (by assumption) ?_; rotate_left; (focus (intro w hSw; (try dsimp only at hSw); go_simp; try with_reducible rfl)); try simp only [Act.put, List.setIfInBounds_toArray, List.set_cons_zero, List.set_cons_succ]
      refine wpH_take (i := 4) (v := ?_) rfl (by kernel_rfl) (by kernel_rfl) (by kernel_rfl) (fun _ _ _ h => h) (by rfl) ?_ (by assumption) ?_; rotate_left; (focus (intro w hSw; (try dsimp only at hSw); go_simp; try with_reducible rfl)); try simp only [Act.put, List.setIfInBounds_toArray, List.set_cons_zero, List.set_cons_succ]
      refine wpH_take (i := 5) (v := ?_) rfl (by kernel_rfl) (by kernel_rfl) (by kernel_rfl) (fun _ _ _ h => h) (by rfl) ?_ (by assumption) ?_; rotate_left; (focus (intro w hSw; (try dsimp only at hSw); go_simp; try with_reducible rfl)); try simp only [Act.put, List.setIfInBounds_toArray, List.set_cons_zero, List.set_cons_succ]
      refine wpH_take (i := 6) (v := ?_) rfl (by kernel_rfl) (by kernel_rfl) (by kernel_rfl) (fun _ _ _ h => h) (by rfl) ?_ (by assumption) ?_; rotate_left; (focus (intro w hSw; (try dsimp only at hSw); go_simp; try with_reducible rfl)); try simp only [Act.put, List.setIfInBounds_toArray, List.set_cons_zero, List.set_cons_succ]
      refine wpH_take (i := 7) (v := ?_) rfl (by kernel_rfl) (by kernel_rfl) (by kernel_rfl) (fun _ _ _ h => h) (by rfl) ?_ (by assumption) ?_; rotate_left; (focus (intro w hSw; (try dsimp only at hSw); go_simp; try with_reducible rfl)); try simp only [Act.put, List.setIfInBounds_toArray, List.set_cons_zero, List.set_cons_succ]
      refine wpAnyH_ready (rs := [8]) (by kernel_rfl) (by simp) ?_
      refine AllReadyH.cons rfl (fun K hK => ?_) AllReadyH.nil
      try dsimp only at hHeld
      go_simp
      (go_at_call 113; refine (eqInode_yes _).mono ?_; rintro e w2 ⟨rfl, hbk⟩)
      refine hK.out _ _ ?_ (fun hHeld2 => ?_)
      · try dsimp only
        (go_split_ands; first | exact HALL.out _ (by assumption) | exact HALL.out _ (Below.drew (by assumption)) | exact HALL.out _ (below_step1 (by assumption) (by assumption)))
      clear hK K hHeld
      have hHeld := hHeld2
      clear hHeld2
      clear hbk
      refine wpH_take (i := 9) (v := ?_) rfl (by kernel_rfl) (by kernel_rfl) (by kernel_rfl) (fun _ _ _ h => h) (by rfl) ?_ (by assumption) ?_; rotate_left; (focus (intro w hSw; (try dsimp only at hSw); go_simp; try with_reducible rfl)); try simp only [Act.put, List.setIfInBounds_toArray, List.set_cons_zero, List.set_cons_succ]
      refine wpAnyH_done (by kernel_rfl) ?_ _
      try dsimp only at hHeld
      have HB2 := Lib.hid hHeld.2.2
      clear hHeld
      go_wp2
      go_roundg 0
      case measure => omega
      case rel => exact ⟨1, by omega, by go_num, HB2⟩
    · obtain rfl : k = 1 := by omega
      go_wp2
      go_ret
      exact ⟨rfl, HB.out⟩
set_option maxRecDepth 1000000 in
set_option maxHeartbeats 6000000 in
theorem eqVol_yes (g c h d : Nat) (w : World) (h1 : in5 w g) (h2 : in5 w h) :
    Calls Try.prog 46 #[.agg #[.int .i64 2, .slice (some ⟨g, 0, none⟩) 1 c], .agg #[.int .i64 2, .slice (some ⟨h, 0, none⟩) 1 d]] w fun e w' => e = .returned (.bool true) ∧ Below w.heap.size w w' := by
  have HB := Lib.hid ((box_alloc w (.cells #[.int .i64 2, .slice (some ⟨g, 0, none⟩) 1 c] 62)).alloc (by simp) (.cells #[.int .i64 2, .slice (some ⟨h, 0, none⟩) 1 d] 62))
  have H1 := Lib.hid (h1.below HB.out)
  have H2 := Lib.hid (h2.below HB.out)
  clear h1 h2
  go_enter Try.func46, Try.ntmps46
  go_wp2_with fail
  refine (eqInodeS_yes g c h d _ H1.out H2.out).mono ?_
  rintro e w2 ⟨rfl, hb⟩
  have HB2 := Lib.hid (below_step1 HB.out hb)
  clear hb
  go_wp2
  go_ret
  exact ⟨rfl, HB2.out⟩
set_option maxRecDepth 1000000 in
set_option maxHeartbeats 6000000 in
theorem markInodeS_any (e : TypeId) (B : Nat) (g c : Nat) (w : World) (h : Own e 5 B w (.slice (some ⟨g, 0, none⟩) 1 c) 1 inCells w) :
    Calls Try.prog 85 #[.slice (some ⟨g, 0, none⟩) 1 c, .int .i64 1] w fun e' w' => e' = .returned (.int .i64 5) ∧ Own e 5 B w' (.slice (some ⟨g, 0, none⟩) 1 c) 1 mkCells w' ∧ w.grownBy w' (some g) := by
  have H := Lib.hid h
  clear h
  go_enter Try.func85, Try.ntmps85
  go_wp2
  go_loopg [1, 5] 1 (fun gg q i wr => (gg = 1 ∧ i = .int .i64 0 ∧ q = .int .i64 1 ∧ wr = w) ∨ (gg = 0 ∧ i = .int .i64 1 ∧ q = .int .i64 5 ∧ Hid (Own e 5 B wr (.slice (some ⟨g, 0, none⟩) 1 c) 1 mkCells wr) ∧ Hid (w.grownBy wr (some g))))
  case atStart => exact .inl ⟨rfl, rfl, rfl, rfl⟩
  case round =>
    rcases hrel with ⟨hg1, rfl, rfl, rfl⟩ | ⟨hg0, rfl, rfl, HO, HG⟩
    · obtain ⟨i0, i1, i2, i3, i4⟩ := five_of H.out.rd
      have f0 := H.out.free 0
      have f1 := H.out.free 1
      have f2 := H.out.free 2
      have hgl : g < wr.heap.size := (H.out.blk g rfl).2
      have HGK := Lib.hid hg1
      have HO3 := Lib.hid (((H.out.set 0 (.int .i64 1)).set 1 (.int .i64 2)).set 2 (.int .i64 3)).self
      have HG3 := Lib.hid (grown_trans (grown_trans (scan_set wr g 0 (.int .i64 1)) (scan_set _ g 1 (.int .i64 2)) (fun x hx => .inl hx)) (scan_set _ g 2 (.int .i64 3)) (fun x hx => .inl hx))
      clear hg1
      go_wp2_with fail
      refine (markText_any 4 _ (by omega) (by omega)).mono ?_
      rintro e2 w2 ⟨rfl, hb⟩
      have HO4 := Lib.hid (HO3.out.stay hb)
      have HG4 := Lib.hid (grown_trans HG3.out (grown_of_below (some g) hb) (fun x hx => .inl hx))
      have h3 := HO4.out.cell 3 (by decide)
      have h4 := HO4.out.cell 4 (by decide)
      have f3 := HO4.out.free 3
      have hgl2 : g < w2.heap.size := (HO4.out.blk g rfl).2
      have HO5 := Lib.hid (HO4.out.set 3 (.string (mtF 4))).self
      have HG5 := Lib.hid (grown_trans HG4.out (scan_set _ g 3 (.string (mtF 4))) (fun x hx => .inl hx))
      clear hb HO3 HG3 i0 i1 i2 i3 i4 f0 f1 f2
      go_wp2_with fail
      refine (markEnt0_any _).mono ?_
      rintro e2 w3 ⟨rfl, rfl⟩
      go_wp2
      go_roundg 0
      case measure => have := HGK.out; omega
      case rel => exact .inr ⟨rfl, by go_num, rfl, Lib.hid (by exact HO5.out), HG5⟩
    · go_wp2
      go_ret
      exact ⟨rfl, HO.out, HG.out⟩
set_option maxRecDepth 1000000 in
set_option maxHeartbeats 6000000 in
theorem markVol_any (e : TypeId) (B : Nat) (g c : Nat) (w : World) (h : Own e 5 B w (.slice (some ⟨g, 0, none⟩) 1 c) 1 inCells w) :
    Calls Try.prog 47 #[.agg #[.int .i64 2, .slice (some ⟨g, 0, none⟩) 1 c], .int .i64 1] w fun e' w' => e' = .returned (.int .i64 5) ∧ Own e 5 B w' (.slice (some ⟨g, 0, none⟩) 1 c) 1 mkCells w' ∧ w.grownBy w' (some g) := by
  have H := Lib.hid (h.alloc (.cells #[.int .i64 2, .slice (some ⟨g, 0, none⟩) 1 c] 62)).self
  have HB := Lib.hid (grown_of_below (some g) (box_alloc w (.cells #[.int .i64 2, .slice (some ⟨g, 0, none⟩) 1 c] 62)))
  clear h
  go_enter Try.func47, Try.ntmps47
  go_wp2_with fail
  refine (markInodeS_any e B g c _ H.out).mono ?_
  rintro e2 w2 ⟨rfl, hO, hG⟩
  have HO := Lib.hid hO
  have HG := Lib.hid (grown_trans HB.out hG (fun x hx => .inl hx))
  clear hO hG
  go_wp2
  go_ret
  exact ⟨rfl, HO.out, HG.out⟩
set_option maxRecDepth 1000000 in
set_option maxHeartbeats 6000000 in
theorem heldInodeS_yes (g c : Nat) (w : World) (h : Five w g (.int .i64 1) (.int .i64 2) (.int .i64 3) (.string (mtF 4)) (.slice none 0 0)) :
    Calls Try.prog 86 #[.slice (some ⟨g, 0, none⟩) 1 c, .int .i64 1] w fun e' w' => e' = .returned (.int .i64 5) ∧ Below w.heap.size w w' := by
  have H := Lib.hid h
  clear h
  have hne : ((mtF 4).toList == (mtF 4).toList) = true := by simp
  go_enter Try.func86, Try.ntmps86
  go_wp2
  go_loopg [1, 5] 1 (fun gg q i wr => (gg = 1 ∧ i = .int .i64 0 ∧ q = .int .i64 1 ∧ wr = w) ∨ (gg = 0 ∧ i = .int .i64 1 ∧ q = .int .i64 5 ∧ Hid (Below w.heap.size w wr)))
  case atStart => exact .inl ⟨rfl, rfl, rfl, rfl⟩
  case round =>
    rcases hrel with ⟨hg1, rfl, rfl, rfl⟩ | ⟨hg0, rfl, rfl, HB⟩
    · obtain ⟨i0, i1, i2, i3, i4⟩ := H.out
      have hgl : g < wr.heap.size := World.block_lt_of_cell? wr _ i0
      have HGK := Lib.hid hg1
      have hB0 := Below.refl wr.heap.size wr
      have HALL : Hid (∀ W, Below wr.heap.size wr W → (W.cell? ⟨g, 3, none⟩ = some (.string (mtF 4)) ∧ W.cell? ⟨g, 4, none⟩ = some (.slice none 0 0) ∧ Below wr.heap.size wr W)) := Lib.hid (fun W hW => ⟨box_below i3 hW, box_below i4 hW, hW⟩)
      clear hg1
      go_wp2
      refine wp_region_held_drew (S := (fun W => W.cell? ⟨g, 3, none⟩ = some (.string (mtF 4)) ∧ W.cell? ⟨g, 4, none⟩ = some (.slice none 0 0) ∧ Below wr.heap.size wr W)) (by kernel_rfl) ?_ (fun hHeld => ?_)
      · try dsimp only
        (go_split_ands; first | exact HALL.out _ (by assumption) | exact HALL.out _ (Below.drew (by assumption)) | exact HALL.out _ (below_step1 (by assumption) (by assumption)))
      change wpAnyH _ _ _ _ _ 8 #[false, false, false, false, false, false, false, false] _ _
      clear hB0
      refine wpH_take (i := 0) (v := ?_) rfl (by kernel_rfl) (by kernel_rfl) (by kernel_rfl) (fun _ _ _ h => h) (by rfl) ?_ (by assumption) ?_; rotate_left; (focus (intro w hSw; (try dsimp only at hSw); go_simp; try with_reducible rfl)); try simp only [Act.put, List.setIfInBounds_toArray, List.set_cons_zero, List.set_cons_succ]
      refine wpH_take (i := 1) (v := ?_) rfl (by kernel_rfl) (by kernel_rfl) (by kernel_rfl) (fun _ _ _ h => h) (by rfl) ?_ (by assumption) ?_; rotate_left; (focus (intro w hSw; (try dsimp only at hSw); go_simp; try with_reducible rfl)); try simp only [Act.put, List.setIfInBounds_toArray, List.set_cons_zero, List.set_cons_succ]
      refine wpH_take (i := 2) (v := ?_) rfl (by kernel_rfl) (by kernel_rfl) (by kernel_rfl) (fun _ _ _ h => h) (by rfl) ?_ (by assumption) ?_; rotate_left; (focus (intro w hSw; (try dsimp only at hSw); go_simp; try with_reducible rfl)); try simp only [Act.put, List.setIfInBounds_toArray, List.set_cons_zero, List.set_cons_succ]
      refine wpH_take (i := 3) (v := ?_) rfl (by kernel_rfl) (by kernel_rfl) (by kernel_rfl) (fun _ _ _ h => h) (by rfl) ?_ (by assumption) ?_; rotate_left; (focus (intro w hSw; (try dsimp only at hSw); go_simp; try with_reducible rfl)); try simp only [Act.put, List.setIfInBounds_toArray, List.set_cons_zero, List.set_cons_succ]
      refine wpH_take (i := 4) (v := ?_) rfl (by kernel_rfl) (by kernel_rfl) (by kernel_rfl) (fun _ _ _ h => h) (by rfl) ?_ (by assumption) ?_; rotate_left; (focus (intro w hSw; (try dsimp only at hSw); go_simp; try with_reducible rfl)); try simp only [Act.put, List.setIfInBounds_toArray, List.set_cons_zero, List.set_cons_succ]
      refine wpH_take (i := 5) (v := ?_) rfl (by kernel_rfl) (by kernel_rfl) (by kernel_rfl) (fun _ _ _ h => h) (by rfl) ?_ (by assumption) ?_; rotate_left; (focus (intro w hSw; (try dsimp only at hSw); go_simp; try with_reducible rfl)); try simp only [Act.put, List.setIfInBounds_toArray, List.set_cons_zero, List.set_cons_succ]
      refine wpAnyH_ready (rs := [6]) (by kernel_rfl) (by simp) ?_
      refine AllReadyH.cons rfl (fun K hK => ?_) AllReadyH.nil
      try dsimp only at hHeld
      go_simp
      (go_at_call 83; refine (markText_any 4 _ (by omega) (by omega)).mono ?_; rintro e w2 ⟨rfl, hbk⟩)
      refine hK.out _ _ ?_ (fun hHeld2 => ?_)
      · try dsimp only
        (go_split_ands; first | exact HALL.out _ (by assumption) | exact HALL.out _ (Below.drew (by assumption)) | exact HALL.out _ (below_step1 (by assumption) (by assumption)))
      clear hK K hHeld
      have hHeld := hHeld2
      clear hHeld2
      clear hbk
      refine wpH_take (i := 7) (v := ?_) rfl (by kernel_rfl) (by kernel_rfl) (by kernel_rfl) (fun _ _ _ h => h) (by rfl) ?_ (by assumption) ?_; rotate_left; (focus (intro w hSw; (try dsimp only at hSw); go_simp; try with_reducible rfl)); try simp only [Act.put, List.setIfInBounds_toArray, List.set_cons_zero, List.set_cons_succ]
      refine wpAnyH_done (by kernel_rfl) ?_ _
      try dsimp only at hHeld
      have HB2 := Lib.hid hHeld.2.2
      have j4 := hHeld.2.1
      have hgl2 : g < w2.heap.size := World.block_lt_of_cell? w2 _ j4
      clear hHeld HALL i0 i1 i2 i3 i4
      go_wp2_with fail
      refine (heldEnt0_any _).mono ?_
      rintro e2 w3 ⟨rfl, rfl⟩
      go_wp2
      go_roundg 0
      case measure => have := HGK.out; omega
      case rel => exact .inr ⟨rfl, by go_num, rfl, HB2⟩
    · go_wp2
      go_ret
      exact ⟨rfl, HB.out⟩
set_option maxRecDepth 1000000 in
set_option maxHeartbeats 6000000 in
theorem heldVol_yes (g c : Nat) (w : World) (h : Five w g (.int .i64 1) (.int .i64 2) (.int .i64 3) (.string (mtF 4)) (.slice none 0 0)) :
    Calls Try.prog 48 #[.agg #[.int .i64 2, .slice (some ⟨g, 0, none⟩) 1 c], .int .i64 1] w fun e' w' => e' = .returned (.int .i64 5) ∧ Below w.heap.size w w' := by
  have HB := Lib.hid (box_alloc w (.cells #[.int .i64 2, .slice (some ⟨g, 0, none⟩) 1 c] 62))
  have H := Lib.hid (h.below HB.out)
  clear h
  go_enter Try.func48, Try.ntmps48
  go_wp2_with fail
  refine (heldInodeS_yes g c _ H.out).mono ?_
  rintro e2 w2 ⟨rfl, hb⟩
  have HB2 := Lib.hid (below_step1 HB.out hb)
  clear hb
  go_wp2
  go_ret
  exact ⟨rfl, HB2.out⟩
set_option maxRecDepth 1000000 in
set_option maxHeartbeats 6000000 in
theorem lawNewVol_walk (w : World) : Calls Try.prog 10 #[] w fun e w' => e = .returned (.bool true) ∧ Below w.heap.size w w' := by
  go_enter Try.func10, Try.ntmps10
  go_wp2_with fail
  refine (specNewVol_any _).mono ?_
  rintro e w1 ⟨gw, cw, rfl, hO⟩
  have HW := Lib.hid (five_of hO.rd)
  have HB1 := Lib.hid hO.below
  clear hO
  go_wp2_with fail
  have HBX := Lib.hid (box_alloc w1 (.cells #[.int .i64 2, .slice (some ⟨gw, 0, none⟩) 1 cw] 62))
  have d0 := box0 w1 62 (.int .i64 2) (.slice (some ⟨gw, 0, none⟩) 1 cw)
  have d1 := box1 w1 62 (.int .i64 2) (.slice (some ⟨gw, 0, none⟩) 1 cw)
  refine (implNewVol_any _).mono ?_
  rintro e w2 ⟨g, c, rfl, hO⟩
  replace d0 := box_below d0 hO.below
  replace d1 := box_below d1 hO.below
  have HC := Lib.hid (below_step1 HBX.out hO.below)
  have HG := Lib.hid hO.self
  have HGB : Hid (∀ q, (Value.slice (some ⟨g, 0, none⟩) 1 c).ownBlock = some q → w1.heap.size + 1 ≤ q ∧ q < w2.heap.size) := Lib.hid (fun q hq => by have := hO.blk q hq; simpa using this)
  have hz2 : w1.heap.size < w2.heap.size := World.block_lt_of_cell? w2 _ d0
  clear hO HBX
  have hgr : w1.heap.size + 1 ≤ g := (HGB.out g rfl).1
  have hgr2 : g < w2.heap.size := (HGB.out g rfl).2
  go_wp2_with fail
  have HBX := Lib.hid (box_alloc w2 (.cells #[.int .i64 2, .slice (some ⟨g, 0, none⟩) 1 c] 62))
  have g0 := box0 w2 62 (.int .i64 2) (.slice (some ⟨g, 0, none⟩) 1 c)
  have g1 := box1 w2 62 (.int .i64 2) (.slice (some ⟨g, 0, none⟩) 1 c)
  replace d0 := box_below d0 HBX.out
  replace d1 := box_below d1 HBX.out
  replace HC := Lib.hid (below_step1 HC.out HBX.out)
  replace HG := Lib.hid (HG.out.stay HBX.out)
  refine (eqVol_yes g c gw cw _ (five_of HG.out.rd) (HW.out.below HC.out)).mono ?_
  rintro e w3 ⟨rfl, hb⟩
  replace d0 := box_below d0 hb
  replace d1 := box_below d1 hb
  replace g0 := box_below g0 hb
  replace g1 := box_below g1 hb
  replace HC := Lib.hid (below_step1 HC.out hb)
  replace HG := Lib.hid (HG.out.stay hb)
  have hz3 : w1.heap.size < w3.heap.size := World.block_lt_of_cell? w3 _ d0
  have hz3b : w2.heap.size < w3.heap.size := World.block_lt_of_cell? w3 _ g0
  clear hb HBX
  go_wp2_with fail
  refine (markVol_any _ _ g c _ HG.out).mono ?_
  rintro e w4 ⟨rfl, hO, hg⟩
  replace d0 := cell_grown d0 hg (fun e => by have := Option.some.inj e; omega)
  replace d1 := cell_grown d1 hg (fun e => by have := Option.some.inj e; omega)
  replace g0 := cell_grown g0 hg (fun e => by have := Option.some.inj e; omega)
  replace g1 := cell_grown g1 hg (fun e => by have := Option.some.inj e; omega)
  replace HC := Lib.hid (HC.out.grown hg HC.out.size (fun q hq => by cases hq; omega))
  have HM := Lib.hid (five_of (a := .int .i64 1) (b := .int .i64 2) (c := .int .i64 3) (d := .string (mtF 4)) (e := .slice none 0 0) hO.rd)
  have hz4 : w1.heap.size < w4.heap.size := World.block_lt_of_cell? w4 _ d0
  have hz4b : w2.heap.size < w4.heap.size := World.block_lt_of_cell? w4 _ g0
  clear hO hg HG hz3 hz3b
  go_wp2_with fail
  refine (heldVol_yes g c _ HM.out).mono ?_
  rintro e w5 ⟨rfl, hb⟩
  replace d0 := box_below d0 hb
  replace d1 := box_below d1 hb
  replace g0 := box_below g0 hb
  replace g1 := box_below g1 hb
  replace HC := Lib.hid (below_step1 HC.out hb)
  replace HM := Lib.hid (HM.out.below hb)
  clear hb hz4 hz4b
  go_wp2_with fail
  refine (implNewVol_any _).mono ?_
  rintro e w6 ⟨h, ch, rfl, hO⟩
  have hb := hO.below
  have HH := Lib.hid (five_of hO.rd)
  replace d0 := box_below d0 hb
  replace d1 := box_below d1 hb
  replace g0 := box_below g0 hb
  replace g1 := box_below g1 hb
  replace HC := Lib.hid (below_step1 HC.out hb)
  replace HM := Lib.hid (HM.out.below hb)
  have hz6 : w1.heap.size < w6.heap.size := World.block_lt_of_cell? w6 _ d0
  have hz6b : w2.heap.size < w6.heap.size := World.block_lt_of_cell? w6 _ g0
  clear hb hO
  go_wp2_with fail
  have HBX := Lib.hid (box_alloc w6 (.cells #[.int .i64 2, .slice (some ⟨h, 0, none⟩) 1 ch] 62))
  replace HC := Lib.hid (below_step1 HC.out HBX.out)
  refine (eqVol_yes h ch gw cw _ (HH.out.below HBX.out) (HW.out.below HC.out)).mono ?_
  rintro e w7 ⟨rfl, hb⟩
  replace g0 := box_below (box_below g0 HBX.out) hb
  replace g1 := box_below (box_below g1 HBX.out) hb
  replace HC := Lib.hid (below_step1 HC.out hb)
  replace HM := Lib.hid ((HM.out.below HBX.out).below hb)
  have hz7b : w2.heap.size < w7.heap.size := World.block_lt_of_cell? w7 _ g0
  clear hb HBX HH d0 d1
  go_wp2_with fail
  refine (heldVol_yes g c _ HM.out).mono ?_
  rintro e w8 ⟨rfl, hb⟩
  have HF := Lib.hid (below_step1 HB1.out (below_step1 HC.out hb))
  clear hb
  go_wp2
  go_ret
  exact ⟨rfl, HF.out⟩
end Go.Proofs.Ytbokgbbdjcpgbaa
