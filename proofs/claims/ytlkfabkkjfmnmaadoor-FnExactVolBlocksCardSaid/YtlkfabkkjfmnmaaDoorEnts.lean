/- The laws' own helpers on lists of entries: sizes, a copy; are two alike. -/
import Derived.Test.YtlkfabkkjfmnmaaDoorStrs
namespace Go.Proofs.YtlkfabkkjfmnmaaDoor
open Go.RowKit

theorem info_ent : (Tryd.prog.info? 61).map (fun i => (i.zero, i.size, i.bytes)) = some (some (.agg #[.int .i64 0, .int .i64 0, .string ByteArray.empty, .int .i64 0]), 4, 40) := by kernel_rfl
def enV (x : EntL) : Value := .agg #[.int .i64 x.hash, .int .i64 x.index, .string x.name, .int .i64 x.id]
def zEnt : EntL := ⟨0, 0, ByteArray.empty, 0⟩
theorem ens_cells {w : World} {a : Option Addr} {n cap : Nat} {l : List EntL} (h : Rd w a n cap 4 (ens l)) (k : Nat) (hk : k < l.length) :
    ∃ b off, a = some ⟨b, off, none⟩ ∧ b < w.heap.size ∧ w.cell? ⟨b, off + k * 4, none⟩ = some (.int .i64 l[k].hash) ∧ w.cell? ⟨b, off + k * 4 + 1, none⟩ = some (.int .i64 l[k].index) ∧ w.cell? ⟨b, off + k * 4 + 2, none⟩ = some (.string l[k].name) ∧ w.cell? ⟨b, off + k * 4 + 3, none⟩ = some (.int .i64 l[k].id) := by
  have hl : l.length = n := by have := h.len; simp at this; omega
  obtain ⟨b, off, e, hlt, hc⟩ := h.at' (by omega)
  have g : ∀ j (hj : j < 4), w.cell? ⟨b, off + k * 4 + j, none⟩ = some ((en1 l[k])[j]'(by rw [en1_len]; exact hj)) := fun j hj => by
    rw [Nat.add_assoc, hc (k * 4 + j) (by simp; omega), ens_get l k hk j hj]
  exact ⟨b, off, e, hlt, g 0 (by omega), g 1 (by omega), g 2 (by omega), g 3 (by omega)⟩

set_option maxRecDepth 1000000 in
set_option maxHeartbeats 6000000 in
theorem toEnt_any (x : EntL) (w : World) : Calls Tryd.prog 71 #[enV x] w fun e w' => e = .returned (enV x) ∧ Below w.heap.size w w' := by
  unfold enV
  go_enter Tryd.func71, Tryd.ntmps71
  go_wp2
  go_returns
  exact ⟨rfl, (((Below.refl _ _).alloc (Nat.le_refl _) _).alloc (by simp) _).alloc (by simp; omega) _⟩
theorem set_stepE (l : List EntL) (k : Nat) (h : k < l.length) (z : EntL) : (((((ens (l.take k)) ++ ens (List.replicate (l.length - k) z)).set (k * 4) (.int .i64 l[k].hash)).set (k * 4 + 1) (.int .i64 l[k].index)).set (k * 4 + 2) (.string l[k].name)).set (k * 4 + 3) (.int .i64 l[k].id) = ens (l.take (k + 1)) ++ ens (List.replicate (l.length - (k + 1)) z) := by
  have e : l.length - k = (l.length - (k + 1)) + 1 := by omega
  have hk : (ens (l.take k)).length = k * 4 := by simp; omega
  rw [List.set_append_right _ _ (by omega), List.set_append_right _ _ (by omega), List.set_append_right _ _ (by omega), List.set_append_right _ _ (by omega), e, List.replicate_succ, List.take_succ_eq_append_getElem h, ens_append, hk, Nat.sub_self, show k * 4 + 1 - k * 4 = 1 from by omega, show k * 4 + 2 - k * 4 = 2 from by omega, show k * 4 + 3 - k * 4 = 3 from by omega]
  simp [ens, en1]
set_option maxRecDepth 1000000 in
set_option maxHeartbeats 6000000 in
theorem toEnts_any (a : Option Addr) (n cap : Nat) (l : List EntL) (w : World) (h : Rd w a n cap 4 (ens l)) (hn : n ≤ 1048576) :
    Calls Tryd.prog 55 #[.slice a n cap] w fun e w' => ∃ g c, e = .returned (.slice (some ⟨g, 0, none⟩) n c) ∧ Own 61 4 w.heap.size w (.slice (some ⟨g, 0, none⟩) n c) n (ens l) w' := by
  have hl : l.length = n := by have := h.len; simp at this; omega
  subst hl
  go_enter Tryd.func55, Tryd.ntmps55
  go_wp2_with (at_make; refine wp_makes en1 4 (by omega) en1_len zEnt rfl _ _ 40 rfl 61 (.agg #[.int .i64 0, .int .i64 0, .string ByteArray.empty, .int .i64 0]) 40 Tryd.underlying40 info_ent rfl w.heap.size w (Below.refl _ _) (Nat.le_refl _) _ _ _ _ l.length (by rfl) (by rfl) (by rfl) (by rfl) (by omega) (by unfold maxLen; omega) ?_; intro w1 hO)
  go_loopg [4] l.length (fun gg i wr => ∃ k : Nat, k + gg = l.length ∧ i = .int .i64 (k : Int) ∧ Own 61 4 w.heap.size w (.slice (some ⟨w.heap.size, 0, none⟩) l.length l.length) l.length (ens (l.take k) ++ ens (List.replicate (l.length - k) zEnt)) wr)
  case atStart => exact ⟨0, by omega, rfl, by simpa [ens] using hO⟩
  case round =>
    obtain ⟨k, hk, rfl, hOk⟩ := hrel
    by_cases hlt : k < l.length
    · obtain ⟨b, off, rfl, hbs, hc0, hc1, hc2, hc3⟩ := ens_cells h k hlt
      have hB := hOk.below
      rw [← hB.cell (p := ⟨b, off + k * 4, none⟩) (by exact hbs)] at hc0
      rw [← hB.cell (p := ⟨b, off + k * 4 + 1, none⟩) (by exact hbs)] at hc1
      rw [← hB.cell (p := ⟨b, off + k * 4 + 2, none⟩) (by exact hbs)] at hc2
      rw [← hB.cell (p := ⟨b, off + k * 4 + 3, none⟩) (by exact hbs)] at hc3
      have hkl : (k : Int) < (l.length : Int) := by omega
      clear hO
      go_wp2_with fail
      refine (toEnt_any l[k] _).mono ?_
      rintro e w2 ⟨rfl, hb2⟩
      have hO2 := hOk.kept hb2
      have hf0 := hO2.free (k * 4)
      have hf1 := hO2.free (k * 4 + 1)
      have hf2 := hO2.free (k * 4 + 2)
      have hf3 := hO2.free (k * 4 + 3)
      have hv0 := hO2.cell (k * 4) (by simp; omega)
      have hv1 := hO2.cell (k * 4 + 1) (by simp; omega)
      have hv2 := hO2.cell (k * 4 + 2) (by simp; omega)
      have hv3 := hO2.cell (k * 4 + 3) (by simp; omega)
      have hS := (((hO2.set (k * 4) (.int .i64 l[k].hash)).set (k * 4 + 1) (.int .i64 l[k].index)).set (k * 4 + 2) (.string l[k].name)).set (k * 4 + 3) (.int .i64 l[k].id)
      rw [set_stepE l k hlt] at hS
      generalize (ens (l.take k) ++ ens (List.replicate (l.length - k) zEnt))[k * 4]'(by simp; omega) = u0 at hv0
      generalize (ens (l.take k) ++ ens (List.replicate (l.length - k) zEnt))[k * 4 + 1]'(by simp; omega) = u1 at hv1
      generalize (ens (l.take k) ++ ens (List.replicate (l.length - k) zEnt))[k * 4 + 2]'(by simp; omega) = u2 at hv2
      generalize (ens (l.take k) ++ ens (List.replicate (l.length - k) zEnt))[k * 4 + 3]'(by simp; omega) = u3 at hv3
      have HS := Lib.hid hS
      clear hc0 hc1 hc2 hc3 hOk hB hb2 hO2 hS h
      unfold enV
      go_wp2
      go_roundg (gk - 1)
      case measure => omega
      case rel => exact ⟨k + 1, by omega, by go_num, HS.out⟩
    · have hkl : k = l.length := by omega
      subst hkl
      rw [List.take_length, Nat.sub_self, List.replicate_zero] at hOk
      go_wp2
      go_ret
      exact ⟨_, _, rfl, by simpa [ens] using hOk⟩
set_option maxRecDepth 1000000 in
set_option maxHeartbeats 6000000 in
theorem eqEnt_yes (x : EntL) (w : World) : Calls Tryd.prog 78 #[enV x, enV x] w fun e w' => e = .returned (.bool true) ∧ Below w.heap.size w w' := by
  unfold enV
  go_enter Tryd.func78, Tryd.ntmps78
  go_wp2
  go_ret
  exact ⟨rfl, ((Below.refl _ _).alloc (Nat.le_refl _) _).alloc (by simp) _⟩
set_option maxRecDepth 1000000 in
set_option maxHeartbeats 6000000 in
theorem eqEnts_yes (a b : Option Addr) (n m c d : Nat) (l : List EntL) (w : World) (ha : Rd w a n c 4 (ens l)) (hb : Rd w b m d 4 (ens l)) (hn : n ≤ 1073741824) :
    Calls Tryd.prog 63 #[.slice a n c, .slice b m d] w fun e w' => e = .returned (.bool true) ∧ Below w.heap.size w w' := by
  have hl : l.length = n := by have := ha.len; simp at this; omega
  have hl2 : l.length = m := by have := hb.len; simp at this; omega
  subst hl
  subst hl2
  go_enter Tryd.func63, Tryd.ntmps63
  go_wp2
  go_loopg [5] l.length (fun gg i wr => ∃ k : Nat, k + gg = l.length ∧ i = .int .i64 (k : Int) ∧ Hid (Below w.heap.size w wr))
  case atStart => exact ⟨0, by omega, rfl, Lib.hid (Below.refl _ _)⟩
  case round =>
    obtain ⟨k, hk, rfl, hB⟩ := hrel
    by_cases hlt : k < l.length
    · obtain ⟨ba, oa, rfl, hba, ha0, ha1, ha2, ha3⟩ := ens_cells ha k hlt
      obtain ⟨bb, ob, rfl, hbb, hb0, hb1, hb2, hb3⟩ := ens_cells hb k hlt
      have HALL : Hid (∀ W, Below w.heap.size w W → (W.cell? ⟨ba, oa + k * 4, none⟩ = some (.int .i64 l[k].hash) ∧ W.cell? ⟨ba, oa + k * 4 + 1, none⟩ = some (.int .i64 l[k].index) ∧ W.cell? ⟨ba, oa + k * 4 + 2, none⟩ = some (.string l[k].name) ∧ W.cell? ⟨ba, oa + k * 4 + 3, none⟩ = some (.int .i64 l[k].id) ∧ W.cell? ⟨bb, ob + k * 4, none⟩ = some (.int .i64 l[k].hash) ∧ W.cell? ⟨bb, ob + k * 4 + 1, none⟩ = some (.int .i64 l[k].index) ∧ W.cell? ⟨bb, ob + k * 4 + 2, none⟩ = some (.string l[k].name) ∧ W.cell? ⟨bb, ob + k * 4 + 3, none⟩ = some (.int .i64 l[k].id) ∧ Below w.heap.size w W)) :=
        Lib.hid (fun W hW => ⟨(hW.cell (p := ⟨ba, oa + k * 4, none⟩) (by exact hba)).trans ha0, (hW.cell (p := ⟨ba, oa + k * 4 + 1, none⟩) (by exact hba)).trans ha1, (hW.cell (p := ⟨ba, oa + k * 4 + 2, none⟩) (by exact hba)).trans ha2, (hW.cell (p := ⟨ba, oa + k * 4 + 3, none⟩) (by exact hba)).trans ha3, (hW.cell (p := ⟨bb, ob + k * 4, none⟩) (by exact hbb)).trans hb0, (hW.cell (p := ⟨bb, ob + k * 4 + 1, none⟩) (by exact hbb)).trans hb1, (hW.cell (p := ⟨bb, ob + k * 4 + 2, none⟩) (by exact hbb)).trans hb2, (hW.cell (p := ⟨bb, ob + k * 4 + 3, none⟩) (by exact hbb)).trans hb3, hW⟩)
      have HEQ : Hid (∀ W, Calls Tryd.prog 78 #[.agg #[.int .i64 l[k].hash, .int .i64 l[k].index, .string l[k].name, .int .i64 l[k].id], .agg #[.int .i64 l[k].hash, .int .i64 l[k].index, .string l[k].name, .int .i64 l[k].id]] W fun e w' => e = .returned (.bool true) ∧ Below W.heap.size W w') := Lib.hid (fun W => eqEnt_yes l[k] W)
      have hi : (k : Int) < (l.length : Int) := by omega
      have hi0 : (0 : Int) ≤ (k : Int) := by omega
      have hB0 := hB.out
      clear ha hb ha0 ha1 ha2 ha3 hb0 hb1 hb2 hb3
      generalize l[k].hash = x at *
      generalize l[k].index = x2 at *
      generalize l[k].name = y at *
      generalize l[k].id = z at *
      go_wp2
      refine wp_region_held_drew (S := (fun W => W.cell? ⟨ba, oa + k * 4, none⟩ = some (.int .i64 x) ∧ W.cell? ⟨ba, oa + k * 4 + 1, none⟩ = some (.int .i64 x2) ∧ W.cell? ⟨ba, oa + k * 4 + 2, none⟩ = some (.string y) ∧ W.cell? ⟨ba, oa + k * 4 + 3, none⟩ = some (.int .i64 z) ∧ W.cell? ⟨bb, ob + k * 4, none⟩ = some (.int .i64 x) ∧ W.cell? ⟨bb, ob + k * 4 + 1, none⟩ = some (.int .i64 x2) ∧ W.cell? ⟨bb, ob + k * 4 + 2, none⟩ = some (.string y) ∧ W.cell? ⟨bb, ob + k * 4 + 3, none⟩ = some (.int .i64 z) ∧ Below w.heap.size w W)) (by kernel_rfl) ?_ (fun hHeld => ?_)
      · try dsimp only
        (go_split_ands; first | exact HALL.out _ (by assumption) | exact HALL.out _ (Below.drew (by assumption)) | exact HALL.out _ (below_step1 (by assumption) (by assumption)))
      change wpAnyH _ _ _ _ _ 10 #[false, false, false, false, false, false, false, false, false, false] _ _
      clear hB0
      refine wpH_take (i := 0) (v := ?_) rfl (by kernel_rfl) (by kernel_rfl) (by kernel_rfl) (fun _ _ _ h => h) (by rfl) ?_ (by assumption) ?_; rotate_left; (focus (intro w hSw; (try dsimp only at hSw); go_simp; try with_reducible rfl)); try simp only [Act.put, List.setIfInBounds_toArray, List.set_cons_zero, List.set_cons_succ]
      refine wpH_take (i := 1) (v := ?_) rfl (by kernel_rfl) (by kernel_rfl) (by kernel_rfl) (fun _ _ _ h => h) (by rfl) ?_ (by assumption) ?_; rotate_left; (focus (intro w hSw; (try dsimp only at hSw); go_simp; try with_reducible rfl)); try simp only [Act.put, List.setIfInBounds_toArray, List.set_cons_zero, List.set_cons_succ]
      refine wpH_take (i := 2) (v := ?_) rfl (by kernel_rfl) (by kernel_rfl) (by kernel_rfl) (fun _ _ _ h => h) (by rfl) ?_ (by assumption) ?_; rotate_left; (focus (intro w hSw; (try dsimp only at hSw); go_simp; try with_reducible rfl)); try simp only [Act.put, List.setIfInBounds_toArray, List.set_cons_zero, List.set_cons_succ]
      refine wpH_take (i := 3) (v := ?_) rfl (by kernel_rfl) (by kernel_rfl) (by kernel_rfl) (fun _ _ _ h => h) (by rfl) ?_ (by assumption) ?_; rotate_left; (focus (intro w hSw; (try dsimp only at hSw); go_simp; try with_reducible rfl)); try simp only [Act.put, List.setIfInBounds_toArray, List.set_cons_zero, List.set_cons_succ]
      refine wpH_take (i := 4) (v := ?_) rfl (by kernel_rfl) (by kernel_rfl) (by kernel_rfl) (fun _ _ _ h => h) (by rfl) ?_ (by assumption) ?_; rotate_left; (focus (intro w hSw; (try dsimp only at hSw); go_simp; try with_reducible rfl)); try simp only [Act.put, List.setIfInBounds_toArray, List.set_cons_zero, List.set_cons_succ]
      refine wpH_take (i := 5) (v := ?_) rfl (by kernel_rfl) (by kernel_rfl) (by kernel_rfl) (fun _ _ _ h => h) (by rfl) ?_ (by assumption) ?_; rotate_left; (focus (intro w hSw; (try dsimp only at hSw); go_simp; try with_reducible rfl)); try simp only [Act.put, List.setIfInBounds_toArray, List.set_cons_zero, List.set_cons_succ]
      refine wpH_take (i := 6) (v := ?_) rfl (by kernel_rfl) (by kernel_rfl) (by kernel_rfl) (fun _ _ _ h => h) (by rfl) ?_ (by assumption) ?_; rotate_left; (focus (intro w hSw; (try dsimp only at hSw); go_simp; try with_reducible rfl)); try simp only [Act.put, List.setIfInBounds_toArray, List.set_cons_zero, List.set_cons_succ]
      refine wpH_take (i := 7) (v := ?_) rfl (by kernel_rfl) (by kernel_rfl) (by kernel_rfl) (fun _ _ _ h => h) (by rfl) ?_ (by assumption) ?_; rotate_left; (focus (intro w hSw; (try dsimp only at hSw); go_simp; try with_reducible rfl)); try simp only [Act.put, List.setIfInBounds_toArray, List.set_cons_zero, List.set_cons_succ]
      refine wpAnyH_ready (rs := [8]) (by kernel_rfl) (by simp) ?_
      refine AllReadyH.cons rfl (fun K hK => ?_) AllReadyH.nil
      try dsimp only at hHeld
      go_simp
      (go_at_call 78; refine (HEQ.out _).mono ?_; rintro e w2 ⟨rfl, hbk⟩)
      refine hK.out _ _ ?_ (fun hHeld2 => ?_)
      · try dsimp only
        (go_split_ands; first | exact HALL.out _ (by assumption) | exact HALL.out _ (Below.drew (by assumption)) | exact HALL.out _ (below_step1 (by assumption) (by assumption)))
      clear hK K hHeld
      have hHeld := hHeld2
      clear hHeld2
      clear hbk
      refine wpH_take (i := 9) (v := ?_) rfl (by kernel_rfl) (by kernel_rfl) (by kernel_rfl) (fun _ _ _ h => h) (by rfl) ?_ (by assumption) ?_; rotate_left; (focus (intro w hSw; (try dsimp only at hSw); go_simp; try with_reducible rfl)); try simp only [Act.put, List.setIfInBounds_toArray, List.set_cons_zero, List.set_cons_succ]
      refine wpAnyH_done (by kernel_rfl) ?_ _
      try dsimp only at hHeld
      have hB9 := Lib.hid hHeld.2.2.2.2.2.2.2.2
      clear hHeld
      go_wp2
      go_roundg (gk - 1)
      case measure => omega
      case rel => exact ⟨k + 1, by omega, by go_num, hB9⟩
    · go_wp2
      go_ret
      exact ⟨rfl, hB.out⟩
def SzEs (left : Int) (l : List EntL) (w : World) (e : Ending) (w' : World) : Prop := ∃ x : Int, e = .returned (.int .i64 x) ∧ -1 ≤ x ∧ x ≤ left ∧ (0 ≤ x → (l.length : Int) ≤ left ∧ ∀ s ∈ l, (s.name.size : Int) ≤ left) ∧ Below w.heap.size w w'
set_option maxRecDepth 1000000 in
set_option maxHeartbeats 6000000 in
theorem szEnt_any (x : EntL) (left : Int) (w : World) (hs : x.name.size ≤ maxLen) (h0 : 0 ≤ left) (h1 : left ≤ 1048576) :
    Calls Tryd.prog 66 #[enV x, .int .i64 left] w fun e w' => e = .returned (.int .i64 (if left - (x.name.size : Int) < 0 then -1 else left - (x.name.size : Int))) ∧ Below w.heap.size w w' := by
  unfold maxLen at hs
  unfold enV
  by_cases h : left - (x.name.size : Int) < 0
  · rw [if_pos h]
    go_enter Tryd.func66, Tryd.ntmps66
    go_wp2
    go_ret
    exact ⟨rfl, (Below.refl _ _).alloc (Nat.le_refl _) _⟩
  · rw [if_neg h]
    go_enter Tryd.func66, Tryd.ntmps66
    go_wp2
    go_ret
    exact ⟨rfl, (Below.refl _ _).alloc (Nat.le_refl _) _⟩
set_option maxRecDepth 1000000 in
set_option maxHeartbeats 6000000 in
theorem szEnts_any (a : Option Addr) (n cap : Nat) (l : List EntL) (left : Int) (w : World) (h : Rd w a n cap 4 (ens l)) (hs : ∀ s ∈ l, s.name.size ≤ maxLen) (h0 : 0 ≤ left) (h1 : left ≤ 1048576) :
    Calls Tryd.prog 50 #[.slice a n cap, .int .i64 left] w (SzEs left l w) := by
  have hl : l.length = n := by have := h.len; simp at this; omega
  have hm : n ≤ maxLen := Nat.le_trans h.le h.max
  unfold maxLen at hm
  subst hl
  have HS := Lib.hid hs
  clear hs
  by_cases hlen : left - (l.length : Int) < 0
  · go_enter Tryd.func50, Tryd.ntmps50
    go_wp2
    go_ret
    exact ⟨-1, rfl, by omega, by omega, fun h => by omega, Below.refl _ _⟩
  · go_enter Tryd.func50, Tryd.ntmps50
    go_wp2
    go_loopg [1, 5] l.length (fun gg x i wr => ∃ (j : Nat) (y : Int), j + gg = l.length ∧ i = .int .i64 (j : Int) ∧ x = .int .i64 y ∧ 0 ≤ y ∧ y ≤ left - (l.length : Int) ∧ Hid (∀ s ∈ l.take j, (s.name.size : Int) ≤ left) ∧ Hid (Below w.heap.size w wr))
    case atStart => exact ⟨0, left - (l.length : Int), by omega, rfl, rfl, by omega, by omega, Lib.hid (by simp), Lib.hid (Below.refl _ _)⟩
    case round =>
      obtain ⟨j, y, hj, rfl, rfl, hy0, hy1, HT, hB⟩ := hrel
      by_cases hlt : j < l.length
      · obtain ⟨b, off, rfl, hbs, hc0, hc1, hc2, hc3⟩ := ens_cells h j hlt
        rw [← hB.out.cell (p := ⟨b, off + j * 4, none⟩) (by exact hbs)] at hc0
        rw [← hB.out.cell (p := ⟨b, off + j * 4 + 1, none⟩) (by exact hbs)] at hc1
        rw [← hB.out.cell (p := ⟨b, off + j * 4 + 2, none⟩) (by exact hbs)] at hc2
        rw [← hB.out.cell (p := ⟨b, off + j * 4 + 3, none⟩) (by exact hbs)] at hc3
        have hsz := HS.out l[j] (List.getElem_mem hlt)
        have HN : Hid (∀ s : EntL, (s.name.size : Int) ≤ left → s = l[j] → ∀ s ∈ l.take (j + 1), (s.name.size : Int) ≤ left) := Lib.hid (by
          intro s h3 h2 s' hs'
          rw [List.take_succ_eq_append_getElem hlt] at hs'
          rcases List.mem_append.1 hs' with h5 | h5
          · exact HT.out _ h5
          · rw [List.mem_singleton] at h5; subst h5; rw [← h2]; exact h3)
        obtain ⟨s, hse⟩ : ∃ s, s = l[j] := ⟨_, rfl⟩
        rw [← hse] at hc0 hc1 hc2 hc3 hsz
        have HSE := Lib.hid hse
        have hjl : (j : Int) < (l.length : Int) := by omega
        clear hse h
        have hcon := szEnt_any s y wr hsz hy0 (by omega)
        unfold maxLen at hsz
        by_cases hz : y - (s.name.size : Int) < 0
        · rw [if_pos hz] at hcon
          have HCON := Lib.hid hcon
          clear hcon
          go_wp2_with fail
          refine HCON.out.mono ?_
          rintro e w2 ⟨rfl, hb2⟩
          have HB2 := Lib.hid (below_step1 hB.out hb2)
          clear hb2
          go_wp2
          go_ret
          exact ⟨-1, rfl, by omega, by omega, fun h => by omega, HB2.out⟩
        · rw [if_neg hz] at hcon
          have HCON := Lib.hid hcon
          clear hcon
          go_wp2_with fail
          refine HCON.out.mono ?_
          rintro e w2 ⟨rfl, hb2⟩
          have HB2 := Lib.hid (below_step1 hB.out hb2)
          clear hb2
          go_wp2
          go_roundg (gk - 1)
          case measure => omega
          case rel => exact ⟨j + 1, y - (s.name.size : Int), by omega, by go_num, by go_num, by omega, by omega, Lib.hid (HN.out s (by omega) HSE.out), HB2⟩
      · have hjl : j = l.length := by omega
        subst hjl
        rw [List.take_length] at HT
        go_wp2
        go_ret
        exact ⟨y, rfl, by omega, by omega, fun _ => ⟨by omega, HT.out⟩, hB.out⟩
end Go.Proofs.YtlkfabkkjfmnmaaDoor
