/- NewDev: the program's and the reference's come to one device; its law, walked. -/
import Derived.Test.YtbokgbbdjcpgbaaDev
namespace Go.Proofs.Ytbokgbbdjcpgbaa
open Go.RowKit

def DevPost (ss : List ByteArray) (us : List (Int × ByteArray)) (w : World) (e : Ending) (w' : World) : Prop := ∃ v, e = .returned v ∧ DevOwn w.heap.size w' v ss us ∧ Below w.heap.size w w'
def emptyS : List ByteArray := List.replicate 18 ByteArray.empty
theorem emptyS_cells : List.replicate 18 (Value.string ByteArray.empty) = strs emptyS := by simp [emptyS, strs_eq]

set_option maxRecDepth 1000000 in
set_option maxHeartbeats 6000000 in
theorem implNewDev_any (w : World) : Calls Try.prog 20 #[] w (DevPost emptyS [] w) := by
  go_enter Try.func20, Try.ntmps20
  go_wp2_with (at_make; refine wp_maken rfl _ _ 29 rfl 9 (.string ByteArray.empty) 16 Try.underlying29 info_str rfl (w.heap.size + 1) (w.alloc (.cells #[.slice none 0 0, .slice none 0 0] 32)) (Below.refl _ _) (by simp) _ _ _ _ 18 (by rfl) (by rfl) (by rfl) (by rfl) (by omega) (by unfold maxLen; omega) ?_; intro w1 hO; rw [emptyS_cells] at hO; have hb := hO.below; obtain ⟨hc, hf⟩ := (show (∀ b o, b < w.heap.size + 1 → w1.cell? ⟨b, o, none⟩ = _) ∧ (∀ b o, b < w.heap.size + 1 → w1.frozen? ⟨b, o, none⟩ = _) from ⟨fun b o h => hb.cell (p := ⟨b, o, none⟩) h, fun b o h => hb.frozen (p := ⟨b, o, none⟩) h⟩); have HO := Lib.hid hO; clear hO hb)
  have hsz : (w.alloc (.cells #[.slice none 0 0, .slice none 0 0] 32)).heap.size = w.heap.size + 1 := by simp
  have e10 : w1.cell? ⟨w.heap.size, 0, none⟩ = some (.slice none 0 0) := (hc _ _ (by omega)).trans (by go_simp)
  have e11 : w1.cell? ⟨w.heap.size, 1, none⟩ = some (.slice none 0 0) := (hc _ _ (by omega)).trans (by go_simp)
  have HB : Hid (Below w.heap.size w w1) := Lib.hid (((Below.refl w.heap.size w).alloc (Nat.le_refl _) _).trans (HO.out.below.mono (by omega)))
  have hO1 := (HO.out.setFar w.heap.size 0 (.slice (some ⟨w.heap.size + 1, 0, none⟩) 18 18) (fun k hk => by cases hk; dsimp only; omega)).setFar w.heap.size 1 (.slice none 0 0) (fun k hk => by cases hk; dsimp only; omega)
  rw [hsz] at hO1
  refine bodyPost_ret (v := .agg #[.slice (some ⟨w.heap.size + 1, 0, none⟩) 18 18, .slice none 0 0]) (by simp [results, Try.results20, go_sem, e10, e11]) rfl ?_
  have hB2 := (HB.out.setCell (p := ⟨w.heap.size, 0, none⟩) (Nat.le_refl _) (.slice (some ⟨w.heap.size + 1, 0, none⟩) 18 18)).setCell (p := ⟨w.heap.size, 1, none⟩) (Nat.le_refl _) (.slice none 0 0)
  exact ⟨_, rfl, ⟨⟨_, _, none, 0, rfl, ⟨row_mono1 hO1.row (by omega), Below.refl _ _, hB2.size⟩, ⟨World.ownsRow_nil _ _ _ _, Below.refl _ _, hB2.size⟩, fun k hk => by cases hk⟩⟩, hB2⟩
set_option maxRecDepth 1000000 in
set_option maxHeartbeats 6000000 in
theorem specNewDev_any (w : World) : Calls Try.prog 19 #[] w (DevPost emptyS [] w) := by
  go_enter Try.func19, Try.ntmps19
  go_wp2_with (at_make; refine wp_maken rfl _ _ 29 rfl 9 (.string ByteArray.empty) 16 Try.underlying29 info_str rfl (w.heap.size + 1) (w.alloc (.cells #[.slice none 0 0, .slice none 0 0] 32)) (Below.refl _ _) (by simp) _ _ _ _ 18 (by rfl) (by rfl) (by rfl) (by rfl) (by omega) (by unfold maxLen; omega) ?_; intro w1 hO; rw [emptyS_cells] at hO; have hb := hO.below; obtain ⟨hc, hf⟩ := (show (∀ b o, b < w.heap.size + 1 → w1.cell? ⟨b, o, none⟩ = _) ∧ (∀ b o, b < w.heap.size + 1 → w1.frozen? ⟨b, o, none⟩ = _) from ⟨fun b o h => hb.cell (p := ⟨b, o, none⟩) h, fun b o h => hb.frozen (p := ⟨b, o, none⟩) h⟩); have HO := Lib.hid hO; clear hO hb)
  have hsz : (w.alloc (.cells #[.slice none 0 0, .slice none 0 0] 32)).heap.size = w.heap.size + 1 := by simp
  have e10 : w1.cell? ⟨w.heap.size, 0, none⟩ = some (.slice none 0 0) := (hc _ _ (by omega)).trans (by go_simp)
  have e11 : w1.cell? ⟨w.heap.size, 1, none⟩ = some (.slice none 0 0) := (hc _ _ (by omega)).trans (by go_simp)
  have HB : Hid (Below w.heap.size w w1) := Lib.hid (((Below.refl w.heap.size w).alloc (Nat.le_refl _) _).trans (HO.out.below.mono (by omega)))
  have hO1 := (HO.out.setFar w.heap.size 0 (.slice (some ⟨w.heap.size + 1, 0, none⟩) 18 18) (fun k hk => by cases hk; dsimp only; omega)).setFar w.heap.size 1 (.slice none 0 0) (fun k hk => by cases hk; dsimp only; omega)
  rw [hsz] at hO1
  refine bodyPost_ret (v := .agg #[.slice (some ⟨w.heap.size + 1, 0, none⟩) 18 18, .slice none 0 0]) (by simp [results, Try.results19, go_sem, e10, e11]) rfl ?_
  have hB2 := (HB.out.setCell (p := ⟨w.heap.size, 0, none⟩) (Nat.le_refl _) (.slice (some ⟨w.heap.size + 1, 0, none⟩) 18 18)).setCell (p := ⟨w.heap.size, 1, none⟩) (Nat.le_refl _) (.slice none 0 0)
  exact ⟨_, rfl, ⟨⟨_, _, none, 0, rfl, ⟨row_mono1 hO1.row (by omega), Below.refl _ _, hB2.size⟩, ⟨World.ownsRow_nil _ _ _ _, Below.refl _ _, hB2.size⟩, fun k hk => by cases hk⟩⟩, hB2⟩

theorem box_below {w w' : World} {b j : Nat} {v : Value} (h : w.cell? ⟨b, j, none⟩ = some v) (hb : Below w.heap.size w w') : w'.cell? ⟨b, j, none⟩ = some v :=
  (hb.cell (p := ⟨b, j, none⟩) (World.block_lt_of_cell? w _ h)).trans h
/-- The world behind a local struct of two cells that is laid. -/
theorem box_world (w : World) (e : TypeId) (z0 z1 u0 u1 : Value) : Below w.heap.size w (((w.alloc (.cells #[z0, z1] e)).setCell ⟨w.heap.size, 0, none⟩ u0).setCell ⟨w.heap.size, 1, none⟩ u1) :=
  (((Below.refl _ _).alloc (Nat.le_refl _) _).setCell (Nat.le_refl _) _).setCell (Nat.le_refl _) _

theorem box_alloc (w : World) (o : Obj) : Below w.heap.size w (w.alloc o) := (Below.refl _ _).alloc (Nat.le_refl _) _
theorem box0 (w : World) (e : TypeId) (u0 u1 : Value) : (w.alloc (.cells #[u0, u1] e)).cell? ⟨w.heap.size, 0, none⟩ = some u0 := by go_simp
theorem box1 (w : World) (e : TypeId) (u0 u1 : Value) : (w.alloc (.cells #[u0, u1] e)).cell? ⟨w.heap.size, 1, none⟩ = some u1 := by go_simp
theorem cell_block {w w' : World} {b j : Nat} {v : Value} (h : w.cell? ⟨b, j, none⟩ = some v) (hb : w'.heap[b]? = w.heap[b]?) : w'.cell? ⟨b, j, none⟩ = some v :=
  (World.cell?_of_block (a := ⟨b, j, none⟩) hb).trans h

end Go.Proofs.Ytbokgbbdjcpgbaa
