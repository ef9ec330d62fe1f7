/- The laws' own helpers on lists of entries: sizes, a copy; are two alike. -/
import Derived.Test.YtlkfabkkjfmnmaaGreatDoorStrs
namespace Go.Proofs.YtlkfabkkjfmnmaaGreatDoor
open Go.RowKit

theorem info_ent : (Tryz.prog.info? 74).map (fun i => (i.zero, i.size, i.bytes)) = some (some (.agg #[.int .i64 0, .int .i64 0, .string ByteArray.empty, .int .i64 0]), 4, 40) := by kernel_rfl
def enV (x : EntL) : Value := .agg #[.int .i64 x.hash, .int .i64 x.index, .string x.name, .int .i64 x.id]
def zEnt : EntL := ⟨0, 0, ByteArray.empty, 0⟩
theorem ens_cells {w : World} {a : Option Addr} {n cap : Nat} {l : List EntL} (h : Rd w a n cap 4 (ens l)) (k : Nat) (hk : k < l.length) :
    ∃ b off, a = some ⟨b, off, none⟩ ∧ b < w.heap.size ∧ w.cell? ⟨b, off + k * 4, none⟩ = some (.int .i64 l[k].hash) ∧ w.cell? ⟨b, off + k * 4 + 1, none⟩ = some (.int .i64 l[k].index) ∧ w.cell? ⟨b, off + k * 4 + 2, none⟩ = some (.string l[k].name) ∧ w.cell? ⟨b, off + k * 4 + 3, none⟩ = some (.int .i64 l[k].id) := by
  have hl : l.length = n := by have := h.len; simp at this; omega
  obtain ⟨b, off, e, hlt, hc⟩ := h.at' (by omega)
  have g : ∀ j (hj : j < 4), w.cell? ⟨b, off + k * 4 + j, none⟩ = some ((en1 l[k])[j]'(by rw [en1_len]; exact hj)) := fun j hj => by
    rw [Nat.add_assoc, hc (k * 4 + j) (by simp; omega), ens_get l k hk j hj]
  exact ⟨b, off, e, hlt, g 0 (by omega), g 1 (by omega), g 2 (by omega), g 3 (by omega)⟩

set_option maxRecDepth 1000000 in
set_option maxHeartbeats 6000000 in
theorem eqEnt_yes (x : EntL) (w : World) : Calls Tryz.prog 117 #[enV x, enV x] w fun e w' => e = .returned (.bool true) ∧ Below w.heap.size w w' := by
  unfold enV
  go_enter Tryz.func117, Tryz.ntmps117
  go_wp2
  go_ret
  exact ⟨rfl, ((Below.refl _ _).alloc (Nat.le_refl _) _).alloc (by simp) _⟩
set_option maxRecDepth 1000000 in
set_option maxHeartbeats 6000000 in
theorem eqEnts_yes (a b : Option Addr) (n m c d : Nat) (l : List EntL) (w : World) (ha : Rd w a n c 4 (ens l)) (hb : Rd w b m d 4 (ens l)) (hn : n ≤ 1073741824) :
    Calls Tryz.prog 90 #[.slice a n c, .slice b m d] w fun e w' => e = .returned (.bool true) ∧ Below w.heap.size w w' := by
  have hl : l.length = n := by have := ha.len; simp at this; omega
  have hl2 : l.length = m := by have := hb.len; simp at this; omega
  subst hl
  subst hl2
  go_enter Tryz.func90, Tryz.ntmps90
  go_wp2
  go_loopg [5] l.length (fun gg i wr => ∃ k : Nat, k + gg = l.length ∧ i = .int .i64 (k : Int) ∧ Hid (Below w.heap.size w wr))
  case atStart => exact ⟨0, by omega, rfl, Lib.hid (Below.refl _ _)⟩
  case round =>
    obtain ⟨k, hk, rfl, hB⟩ := hrel
    by_cases hlt : k < l.length
    · obtain ⟨ba, oa, rfl, hba, ha0, ha1, ha2, ha3⟩ := ens_cells ha k hlt
      obtain ⟨bb, ob, rfl, hbb, hb0, hb1, hb2, hb3⟩ := ens_cells hb k hlt
      have HALL : Hid (∀ W, Below w.heap.size w W → (W.cell? ⟨ba, oa + k * 4, none⟩ = some (.int .i64 l[k].hash) ∧ W.cell? ⟨ba, oa + k * 4 + 1, none⟩ = some (.int .i64 l[k].index) ∧ W.cell? ⟨ba, oa + k * 4 + 2, none⟩ = some (.string l[k].name) ∧ W.cell? ⟨ba, oa + k * 4 + 3, none⟩ = some (.int .i64 l[k].id) ∧ W.cell? ⟨bb, ob + k * 4, none⟩ = some (.int .i64 l[k].hash) ∧ W.cell? ⟨bb, ob + k * 4 + 1, none⟩ = some (.int .i64 l[k].index) ∧ W.cell? ⟨bb, ob + k * 4 + 2, none⟩ = some (.string l[k].name) ∧ W.cell? ⟨bb, ob + k * 4 + 3, none⟩ = some (.int .i64 l[k].id) ∧ Below w.heap.size w W)) :=
        Lib.hid (fun W hW => ⟨(hW.cell (p := ⟨ba, oa + k * 4, none⟩) (by exact hba)).trans ha0, (hW.cell (p := ⟨ba, oa + k * 4 + 1, none⟩) (by exact hba)).trans ha1, (hW.cell (p := ⟨ba, oa + k * 4 + 2, none⟩) (by exact hba)).trans ha2, (hW.cell (p := ⟨ba, oa + k * 4 + 3, none⟩) (by exact hba)).trans ha3, (hW.cell (p := ⟨bb, ob + k * 4, none⟩) (by exact hbb)).trans hb0, (hW.cell (p := ⟨bb, ob + k * 4 + 1, none⟩) (by exact hbb)).trans hb1, (hW.cell (p := ⟨bb, ob + k * 4 + 2, none⟩) (by exact hbb)).trans hb2, (hW.cell (p := ⟨bb, ob + k * 4 + 3, none⟩) (by exact hbb)).trans hb3, hW⟩)
      have HEQ : Hid (∀ W, Calls Tryz.prog 117 #[.agg #[.int .i64 l[k].hash, .int .i64 l[k].index, .string l[k].name, .int .i64 l[k].id], .agg #[.int .i64 l[k].hash, .int .i64 l[k].index, .string l[k].name, .int .i64 l[k].id]] W fun e w' => e = .returned (.bool true) ∧ Below W.heap.size W w') := Lib.hid (fun W => eqEnt_yes l[k] W)
      have hi : (k : Int) < (l.length : Int) := by omega
      have hi0 : (0 : Int) ≤ (k : Int) := by omega
      have hB0 := hB.out
      clear ha hb ha0 ha1 ha2 ha3 hb0 hb1 hb2 hb3
      generalize l[k].hash = x at *
      generalize l[k].index = x2 at *
      generalize l[k].name = y at *
      generalize l[k].id = z at *
      go_wp2
      refine wp_region_held_drew (S := (fun W => W.cell? ⟨ba, oa + k * 4, none⟩ = some (.int .i64 x) ∧ W.cell? ⟨ba, oa + k * 4 + 1, none⟩ = some (.int .i64 x2) ∧ W.cell? ⟨ba, oa + k * 4 + 2, none⟩ = some (.string y) ∧ W.cell? ⟨ba, oa + k * 4 + 3, none⟩ = some (.int .i64 z) ∧ W.cell? ⟨bb, ob + k * 4, none⟩ = some (.int .i64 x) ∧ W.cell? ⟨bb, ob + k * 4 + 1, none⟩ = some (.int .i64 x2) ∧ W.cell? ⟨bb, ob + k * 4 + 2, none⟩ = some (.string y) ∧ W.cell? ⟨bb, ob + k * 4 + 3, none⟩ = some (.int .i64 z) ∧ Below w.heap.size w W)) (by kernel_rfl) ?_ (fun hHeld => ?_)
      · try dsimp only
        (go_split_ands; first | exact HALL.out _ (by assumption) | exact HALL.out _ (Below.drew (by assumption)) | exact HALL.out _ (below_step1 (by assumption) (by assumption)))
      change wpAnyH _ _ _ _ _ 10 #[false, false, false, false, false, false, false, false, false, false] _ _
      clear hB0
      refine wpH_take (i := 0) (v := ?_) rfl (by kernel_rfl) (by kernel_rfl) (by kernel_rfl) (fun _ _ _ h => h) (by rfl) ?_ (by assumption) ?_; rotate_left; (focus (intro w hSw; (try dsimp only at hSw); go_simp; try with_reducible rfl)); try simp only [Act.put, List.setIfInBounds_toArray, List.set_cons_zero, List.set_cons_succ]
      refine wpH_take (i := 1) (v := ?_) rfl (by kernel_rfl) (by kernel_rfl) (by kernel_rfl) (fun _ _ _ h => h) (by rfl) ?_ (by assumption) ?_; rotate_left; (focus (intro w hSw; (try dsimp only at hSw); go_simp; try with_reducible rfl)); try simp only [Act.put, List.setIfInBounds_toArray, List.set_cons_zero, List.set_cons_succ]
      refine wpH_take (i := 2) (v := ?_) rfl (by kernel_rfl) (by kernel_rfl) (by kernel_rfl) (fun _ _ _ h => h) (by rfl) ?_ (by assumption) ?_; rotate_left; (focus (intro w hSw; (try dsimp only at hSw); go_simp; try with_reducible rfl)); try simp only [Act.put, List.setIfInBounds_toArray, List.set_cons_zero, List.set_cons_succ]
      refine wpH_take (i := 3) (v := ?_) rfl (by kernel_rfl) (by kernel_rfl) (by kernel_rfl) (fun _ _ _ h => h) (by rfl) ?_ (by assumption) ?_; rotate_left; (focus (intro w hSw; (try dsimp only at hSw); go_simp; try with_reducible rfl)); try simp only [Act.put, List.setIfInBounds_toArray, List.set_cons_zero, List.set_cons_succ]
      refine wpH_take (i := 4) (v := ?_) rfl (by kernel_rfl) (by kernel_rfl) (by kernel_rfl) (fun _ _ _ h => h) (by rfl) ?_ (by assumption) ?_; rotate_left; (focus (intro w hSw; (try dsimp only at hSw); go_simp; try with_reducible rfl)); try simp only [Act.put, List.setIfInBounds_toArray, List.set_cons_zero, List.set_cons_succ]
      refine wpH_take (i := 5) (v := ?_) rfl (by kernel_rfl) (by kernel_rfl) (by kernel_rfl) (fun _ _ _ h => h) (by rfl) ?_ (by assumption) ?_; rotate_left; (focus (intro w hSw; (try dsimp only at hSw); go_simp; try with_reducible rfl)); try simp only [Act.put, List.setIfInBounds_toArray, List.set_cons_zero, List.set_cons_succ]
      refine wpH_take (i := 6) (v := ?_) rfl (by kernel_rfl) (by kernel_rfl) (by kernel_rfl) (fun _ _ _ h => h) (by rfl) ?_ (by assumption) ?_; rotate_left; (focus (intro w hSw; (try dsimp only at hSw); go_simp; try with_reducible rfl)); try simp only [Act.put, List.setIfInBounds_toArray, List.set_cons_zero, List.set_cons_succ]
      refine wpH_take (i := 7) (v := ?_) rfl (by kernel_rfl) (by kernel_rfl) (by kernel_rfl) (fun _ _ _ h => h) (by rfl) ?_ (by assumption) ?_; rotate_left; (focus (intro w hSw; (try dsimp only at hSw); go_simp; try with_reducible rfl)); try simp only [Act.put, List.setIfInBounds_toArray, List.set_cons_zero, List.set_cons_succ]
      refine wpAnyH_ready (rs := [8]) (by kernel_rfl) (by simp) ?_
      refine AllReadyH.cons rfl (fun K hK => ?_) AllReadyH.nil
      try dsimp only at hHeld
      go_simp
      (go_at_call 117; refine (HEQ.out _).mono ?_; rintro e w2 ⟨rfl, hbk⟩)
      refine hK.out _ _ ?_ (fun hHeld2 => ?_)
      · try dsimp only
        (go_split_ands; first | exact HALL.out _ (by assumption) | exact HALL.out _ (Below.drew (by assumption)) | exact HALL.out _ (below_step1 (by assumption) (by assumption)))
      clear hK K hHeld
      have hHeld := hHeld2
      clear hHeld2
      clear hbk
      refine wpH_take (i := 9) (v := ?_) rfl (by kernel_rfl) (by kernel_rfl) (by kernel_rfl) (fun _ _ _ h => h) (by rfl) ?_ (by assumption) ?_; rotate_left; (focus (intro w hSw; (try dsimp only at hSw); go_simp; try with_reducible rfl)); try simp only [Act.put, List.setIfInBounds_toArray, List.set_cons_zero, List.set_cons_succ]
      refine wpAnyH_done (by kernel_rfl) ?_ _
      try dsimp only at hHeld
      have hB9 := Lib.hid hHeld.2.2.2.2.2.2.2.2
      clear hHeld
      go_wp2
      go_roundg (gk - 1)
      case measure => omega
      case rel => exact ⟨k + 1, by omega, by go_num, hB9⟩
    · go_wp2
      go_ret
      exact ⟨rfl, hB.out⟩
end Go.Proofs.YtlkfabkkjfmnmaaGreatDoor
