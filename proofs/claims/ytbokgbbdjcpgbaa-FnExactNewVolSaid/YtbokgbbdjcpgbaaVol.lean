/- A new volume; the text of its inode; its blocks; the format: the program's and the reference's. (Printed by gen_vol.py.) -/
import Derived.Test.YtbokgbbdjcpgbaaTxn
import Derived.Test.YtbokgbbdjcpgbaaDev
import Derived.Test.YtbokgbbdjcpgbaaRdTxn
namespace Go.Proofs.Ytbokgbbdjcpgbaa
open Go.RowKit

def inV : Value := .agg #[.int .i64 1, .int .i64 2, .int .i64 1, .string ByteArray.empty, .slice none 0 0]
def inCells : List Value := [.int .i64 1, .int .i64 2, .int .i64 1, .string ByteArray.empty, .slice none 0 0]
def VolPost (w : World) (e : Ending) (w' : World) : Prop := ∃ (g : Nat) (c : Nat), e = .returned (.agg #[.int .i64 2, .slice (some ⟨g, 0, none⟩) 1 c]) ∧ Own 101 5 w.heap.size w (.slice (some ⟨g, 0, none⟩) 1 c) 1 inCells w'
/-- The inode's text, and the block of the volume itself. -/
def inT : ByteArray := (⟨#[105]⟩ : ByteArray) ++ ⟨(varV 1).toArray⟩ ++ ⟨(varV 2).toArray⟩ ++ ⟨(varV 1).toArray⟩ ++ pieceB ByteArray.empty ++ ⟨(varV 0).toArray⟩
def uT : ByteArray := (⟨#[117]⟩ : ByteArray) ++ ⟨(varV 2).toArray⟩ ++ ⟨(varV 1).toArray⟩
def blF : List ByteArray := [uT, inT] ++ List.replicate 15 ByteArray.empty
theorem blF_len : blF.length = 17 := rfl
theorem blF_step (k : Nat) (h : k < 16) : blF.take (k + 2) = blF.take (k + 1) ++ [if k = 0 then inT else ByteArray.empty] := by
  have hl : k + 1 < blF.length := by rw [blF_len]; omega
  rw [List.take_succ_eq_append_getElem hl]
  congr 2
  cases k with
  | zero => rfl
  | succ k =>
    rw [if_neg (by omega)]
    have e : blF[k + 1 + 1]'hl = (List.replicate 15 ByteArray.empty)[k]'(by simp; omega) := rfl
    rw [e, List.getElem_replicate]
theorem pieceB_zero : (pieceB ByteArray.empty).size ≤ 7 := by
  have h1 := varV_len 0
  have e : (pieceB ByteArray.empty).size = (pieceL ByteArray.empty).length := List.size_toArray
  have e2 : (pieceL ByteArray.empty).length = (varV 0).length := by unfold pieceL; simp
  omega

set_option maxRecDepth 1000000 in
set_option maxHeartbeats 6000000 in
theorem implNewVol_any (w : World) : Calls Try.prog 45 #[] w (VolPost w) := by
  go_enter Try.func45, Try.ntmps45
  go_wp2
  have h := Own.lit (e := 101) (size := 5) (n := 1) (box_alloc w (.cells #[.int .i64 2, .slice (some ⟨w.heap.size + 1, 0, none⟩) 1 1] 62)) (by simp) #[.int .i64 1, .int .i64 2, .int .i64 1, .string ByteArray.empty, .slice none 0 0] rfl (by decide)
  have e : (w.alloc (.cells #[.int .i64 2, .slice (some ⟨w.heap.size + 1, 0, none⟩) 1 1] 62)).heap.size = w.heap.size + 1 := by simp
  rw [e] at h
  have HH := Lib.hid h
  clear h e
  refine bodyPost_ret (v := .agg #[.int .i64 2, .slice (some ⟨w.heap.size + 1, 0, none⟩) 1 1]) (by simp [results, Try.results45, go_sem]) rfl ?_
  exact ⟨w.heap.size + 1, 1, rfl, HH.out⟩
set_option maxRecDepth 1000000 in
set_option maxHeartbeats 6000000 in
theorem implInode_any (w : World) : Calls Try.prog 117 #[.agg #[.int .i64 1, .int .i64 2, .int .i64 1, .string ByteArray.empty, .slice none 0 0]] w fun e w' => e = .returned (.string inT) ∧ Below w.heap.size w w' := by
  have hv0 := varV_len 0
  have hv1 := varV_len 1
  have hv2 := varV_len 2
  have hp := pieceB_zero
  have hsz0 : (ByteArray.empty).size ≤ 1073741824 := by decide
  have HT : Hid (inT = (⟨#[105]⟩ : ByteArray) ++ ⟨(varV 1).toArray⟩ ++ ⟨(varV 2).toArray⟩ ++ ⟨(varV 1).toArray⟩ ++ pieceB ByteArray.empty ++ ⟨(varV 0).toArray⟩) := Lib.hid rfl
  have HBX := Lib.hid (box_alloc w (.cells #[.int .i64 1, .int .i64 2, .int .i64 1, .string ByteArray.empty, .slice none 0 0] 101))
  have c0 : (w.alloc (.cells #[.int .i64 1, .int .i64 2, .int .i64 1, .string ByteArray.empty, .slice none 0 0] 101)).cell? ⟨w.heap.size, 0, none⟩ = some (.int .i64 1) := by go_simp
  have c1 : (w.alloc (.cells #[.int .i64 1, .int .i64 2, .int .i64 1, .string ByteArray.empty, .slice none 0 0] 101)).cell? ⟨w.heap.size, 1, none⟩ = some (.int .i64 2) := by go_simp
  have c2 : (w.alloc (.cells #[.int .i64 1, .int .i64 2, .int .i64 1, .string ByteArray.empty, .slice none 0 0] 101)).cell? ⟨w.heap.size, 2, none⟩ = some (.int .i64 1) := by go_simp
  have c3 : (w.alloc (.cells #[.int .i64 1, .int .i64 2, .int .i64 1, .string ByteArray.empty, .slice none 0 0] 101)).cell? ⟨w.heap.size, 3, none⟩ = some (.string ByteArray.empty) := by go_simp
  have c4 : (w.alloc (.cells #[.int .i64 1, .int .i64 2, .int .i64 1, .string ByteArray.empty, .slice none 0 0] 101)).cell? ⟨w.heap.size, 4, none⟩ = some (.slice none 0 0) := by go_simp
  go_enter Try.func117, Try.ntmps117
  go_wp2
  generalize w.alloc (.cells #[.int .i64 1, .int .i64 2, .int .i64 1, .string ByteArray.empty, .slice none 0 0] 101) = w1 at *
  have HALL : Hid (∀ W, Below w1.heap.size w1 W → (W.cell? ⟨w.heap.size, 0, none⟩ = some (.int .i64 1) ∧ W.cell? ⟨w.heap.size, 1, none⟩ = some (.int .i64 2) ∧ W.cell? ⟨w.heap.size, 2, none⟩ = some (.int .i64 1) ∧ W.cell? ⟨w.heap.size, 3, none⟩ = some (.string ByteArray.empty) ∧ W.cell? ⟨w.heap.size, 4, none⟩ = some (.slice none 0 0) ∧ Below w1.heap.size w1 W)) := Lib.hid (fun W hW => ⟨box_below c0 hW, box_below c1 hW, box_below c2 hW, box_below c3 hW, box_below c4 hW, hW⟩)
  have HB1 := Lib.hid HBX.out
  have hB0 := Below.refl w1.heap.size w1
  clear c0 c1 c2 c3 c4 HBX
  have a1F : (9223372036854775807 < 1 + (varV 1).length) = False := eq_false (by omega)
  have a2F : (9223372036854775807 < 1 + (varV 1).length + (varV 2).length) = False := eq_false (by omega)
  have a3F : (9223372036854775807 < 1 + (varV 1).length + (varV 2).length + (varV 1).length) = False := eq_false (by omega)
  have a4F : (9223372036854775807 < 1 + (varV 1).length + (varV 2).length + (varV 1).length + (pieceB ByteArray.empty).size) = False := eq_false (by omega)
  have a5F : (9223372036854775807 < 1 + (varV 1).length + (varV 2).length + (varV 1).length + (pieceB ByteArray.empty).size + (varV 0).length) = False := eq_false (by omega)
  have hq1 : (⟨#[105]⟩ : ByteArray).size = 1 := rfl
  refine wp_region_held_drew (S := (fun W => W.cell? ⟨w.heap.size, 0, none⟩ = some (.int .i64 1) ∧ W.cell? ⟨w.heap.size, 1, none⟩ = some (.int .i64 2) ∧ W.cell? ⟨w.heap.size, 2, none⟩ = some (.int .i64 1) ∧ W.cell? ⟨w.heap.size, 3, none⟩ = some (.string ByteArray.empty) ∧ W.cell? ⟨w.heap.size, 4, none⟩ = some (.slice none 0 0) ∧ Below w1.heap.size w1 W)) (by kernel_rfl) ?_ (fun hHeld => ?_)
  · try dsimp only
    (go_split_ands; first | exact HALL.out _ (by assumption) | exact HALL.out _ (Below.drew (by assumption)) | exact HALL.out _ (below_step1 (by assumption) (by assumption)))
  change wpAnyH _ _ _ _ _ 22 #[false, false, false, false, false, false, false, false, false, false, false, false, false, false, false, false, false, false, false, false, false, false] _ _
  clear hB0
  refine wpH_take (i := 0) (v := ?_) rfl (by kernel_rfl) (by kernel_rfl) (by kernel_rfl) (fun _ _ _ h => h) (by rfl) ?_ (by assumption) ?_; rotate_left; (focus (intro w hSw; (try dsimp only at hSw); go_simp; try with_reducible rfl)); try simp only [Act.put, List.setIfInBounds_toArray, List.set_cons_zero, List.set_cons_succ]
  refine wpH_take (i := 1) (v := ?_) rfl (by kernel_rfl) (by kernel_rfl) (by kernel_rfl) (fun _ _ _ h => h) (by rfl) ?_ (by assumption) ?_; rotate_left; (focus (intro w hSw; (try dsimp only at hSw); go_simp; try with_reducible rfl)); try simp only [Act.put, List.setIfInBounds_toArray, List.set_cons_zero, List.set_cons_succ]
  refine wpH_take (i := 4) (v := ?_) rfl (by kernel_rfl) (by kernel_rfl) (by kernel_rfl) (fun _ _ _ h => h) (by rfl) ?_ (by assumption) ?_; rotate_left; (focus (intro w hSw; (try dsimp only at hSw); go_simp; try with_reducible rfl)); try simp only [Act.put, List.setIfInBounds_toArray, List.set_cons_zero, List.set_cons_succ]
  refine wpH_take (i := 5) (v := ?_) rfl (by kernel_rfl) (by kernel_rfl) (by kernel_rfl) (fun _ _ _ h => h) (by rfl) ?_ (by assumption) ?_; rotate_left; (focus (intro w hSw; (try dsimp only at hSw); go_simp; try with_reducible rfl)); try simp only [Act.put, List.setIfInBounds_toArray, List.set_cons_zero, List.set_cons_succ]
  refine wpH_take (i := 8) (v := ?_) rfl (by kernel_rfl) (by kernel_rfl) (by kernel_rfl) (fun _ _ _ h => h) (by rfl) ?_ (by assumption) ?_; rotate_left; (focus (intro w hSw; (try dsimp only at hSw); go_simp; try with_reducible rfl)); try simp only [Act.put, List.setIfInBounds_toArray, List.set_cons_zero, List.set_cons_succ]
  refine wpH_take (i := 9) (v := ?_) rfl (by kernel_rfl) (by kernel_rfl) (by kernel_rfl) (fun _ _ _ h => h) (by rfl) ?_ (by assumption) ?_; rotate_left; (focus (intro w hSw; (try dsimp only at hSw); go_simp; try with_reducible rfl)); try simp only [Act.put, List.setIfInBounds_toArray, List.set_cons_zero, List.set_cons_succ]
  refine wpH_take (i := 12) (v := ?_) rfl (by kernel_rfl) (by kernel_rfl) (by kernel_rfl) (fun _ _ _ h => h) (by rfl) ?_ (by assumption) ?_; rotate_left; (focus (intro w hSw; (try dsimp only at hSw); go_simp; try with_reducible rfl)); try simp only [Act.put, List.setIfInBounds_toArray, List.set_cons_zero, List.set_cons_succ]
  refine wpH_take (i := 13) (v := ?_) rfl (by kernel_rfl) (by kernel_rfl) (by kernel_rfl) (fun _ _ _ h => h) (by rfl) ?_ (by assumption) ?_; rotate_left; (focus (intro w hSw; (try dsimp only at hSw); go_simp; try with_reducible rfl)); try simp only [Act.put, List.setIfInBounds_toArray, List.set_cons_zero, List.set_cons_succ]
  refine wpH_take (i := 16) (v := ?_) rfl (by kernel_rfl) (by kernel_rfl) (by kernel_rfl) (fun _ _ _ h => h) (by rfl) ?_ (by assumption) ?_; rotate_left; (focus (intro w hSw; (try dsimp only at hSw); go_simp; try with_reducible rfl)); try simp only [Act.put, List.setIfInBounds_toArray, List.set_cons_zero, List.set_cons_succ]
  refine wpH_take (i := 17) (v := ?_) rfl (by kernel_rfl) (by kernel_rfl) (by kernel_rfl) (fun _ _ _ h => h) (by rfl) ?_ (by assumption) ?_; rotate_left; (focus (intro w hSw; (try dsimp only at hSw); go_simp; try with_reducible rfl)); try simp only [Act.put, List.setIfInBounds_toArray, List.set_cons_zero, List.set_cons_succ]
  refine wpH_take (i := 18) (v := ?_) rfl (by kernel_rfl) (by kernel_rfl) (by kernel_rfl) (fun _ _ _ h => h) (by rfl) ?_ (by assumption) ?_; rotate_left; (focus (intro w hSw; (try dsimp only at hSw); go_simp; try with_reducible rfl)); try simp only [Act.put, List.setIfInBounds_toArray, List.set_cons_zero, List.set_cons_succ]
  refine wpAnyH_ready (rs := [2]) (by kernel_rfl) (by simp) ?_
  refine AllReadyH.cons rfl (fun K hK => ?_) AllReadyH.nil
  try dsimp only at hHeld
  go_simp
  (go_at_call 95; refine (implVar_any _ _).mono ?_; rintro e w2 ⟨rfl, hbk⟩)
  refine hK.out _ _ ?_ (fun hHeld2 => ?_)
  · try dsimp only
    (go_split_ands; first | exact HALL.out _ (by assumption) | exact HALL.out _ (Below.drew (by assumption)) | exact HALL.out _ (below_step1 (by assumption) (by assumption)))
  clear hK K hHeld
  have hHeld := hHeld2
  clear hHeld2
  clear hbk
  refine wpH_take (i := 3) (v := ?_) rfl (by kernel_rfl) (by kernel_rfl) (by kernel_rfl) (fun _ _ _ h => h) (by rfl) ?_ (by assumption) ?_; rotate_left; (focus (intro w hSw; (try dsimp only at hSw); go_simp; try with_reducible rfl)); try simp only [Act.put, List.setIfInBounds_toArray, List.set_cons_zero, List.set_cons_succ]
  refine wpAnyH_ready (rs := [6]) (by kernel_rfl) (by simp) ?_
  refine AllReadyH.cons rfl (fun K hK => ?_) AllReadyH.nil
  try dsimp only at hHeld
  go_simp
  (go_at_call 95; refine (implVar_any _ _).mono ?_; rintro e w3 ⟨rfl, hbk⟩)
  refine hK.out _ _ ?_ (fun hHeld2 => ?_)
  · try dsimp only
    (go_split_ands; first | exact HALL.out _ (by assumption) | exact HALL.out _ (Below.drew (by assumption)) | exact HALL.out _ (below_step1 (by assumption) (by assumption)))
  clear hK K hHeld
  have hHeld := hHeld2
  clear hHeld2
  clear hbk
  refine wpH_take (i := 7) (v := ?_) rfl (by kernel_rfl) (by kernel_rfl) (by kernel_rfl) (fun _ _ _ h => h) (by rfl) ?_ (by assumption) ?_; rotate_left; (focus (intro w hSw; (try dsimp only at hSw); go_simp; try with_reducible rfl)); try simp only [Act.put, List.setIfInBounds_toArray, List.set_cons_zero, List.set_cons_succ]
  refine wpAnyH_ready (rs := [10]) (by kernel_rfl) (by simp) ?_
  refine AllReadyH.cons rfl (fun K hK => ?_) AllReadyH.nil
  try dsimp only at hHeld
  go_simp
  (go_at_call 95; refine (implVar_any _ _).mono ?_; rintro e w4 ⟨rfl, hbk⟩)
  refine hK.out _ _ ?_ (fun hHeld2 => ?_)
  · try dsimp only
    (go_split_ands; first | exact HALL.out _ (by assumption) | exact HALL.out _ (Below.drew (by assumption)) | exact HALL.out _ (below_step1 (by assumption) (by assumption)))
  clear hK K hHeld
  have hHeld := hHeld2
  clear hHeld2
  clear hbk
  refine wpH_take (i := 11) (v := ?_) rfl (by kernel_rfl) (by kernel_rfl) (by kernel_rfl) (fun _ _ _ h => h) (by rfl) ?_ (by assumption) ?_; rotate_left; (focus (intro w hSw; (try dsimp only at hSw); go_simp; try with_reducible rfl)); try simp only [Act.put, List.setIfInBounds_toArray, List.set_cons_zero, List.set_cons_succ]
  refine wpAnyH_ready (rs := [14]) (by kernel_rfl) (by simp) ?_
  refine AllReadyH.cons rfl (fun K hK => ?_) AllReadyH.nil
  try dsimp only at hHeld
  go_simp
  (go_at_call 96; refine (piece_any _ hsz0 _).mono ?_; rintro e w5 ⟨rfl, hbk⟩)
  refine hK.out _ _ ?_ (fun hHeld2 => ?_)
  · try dsimp only
    (go_split_ands; first | exact HALL.out _ (by assumption) | exact HALL.out _ (Below.drew (by assumption)) | exact HALL.out _ (below_step1 (by assumption) (by assumption)))
  clear hK K hHeld
  have hHeld := hHeld2
  clear hHeld2
  clear hbk
  refine wpH_take (i := 15) (v := ?_) rfl (by kernel_rfl) (by kernel_rfl) (by kernel_rfl) (fun _ _ _ h => h) (by rfl) ?_ (by assumption) ?_; rotate_left; (focus (intro w hSw; (try dsimp only at hSw); go_simp; try with_reducible rfl)); try simp only [Act.put, List.setIfInBounds_toArray, List.set_cons_zero, List.set_cons_succ]
  refine wpAnyH_ready (rs := [19]) (by kernel_rfl) (by simp) ?_
  refine AllReadyH.cons rfl (fun K hK => ?_) AllReadyH.nil
  try dsimp only at hHeld
  go_simp
  (go_at_call 95; refine (implVar_any _ _).mono ?_; rintro e w6 ⟨rfl, hbk⟩)
  refine hK.out _ _ ?_ (fun hHeld2 => ?_)
  · try dsimp only
    (go_split_ands; first | exact HALL.out _ (by assumption) | exact HALL.out _ (Below.drew (by assumption)) | exact HALL.out _ (below_step1 (by assumption) (by assumption)))
  clear hK K hHeld
  have hHeld := hHeld2
  clear hHeld2
  clear hbk
  refine wpH_take (i := 20) (v := ?_) rfl (by kernel_rfl) (by kernel_rfl) (by kernel_rfl) (fun _ _ _ h => h) (by rfl) ?_ (by assumption) ?_; rotate_left; (focus (intro w hSw; (try dsimp only at hSw); go_simp; try with_reducible rfl)); try simp only [Act.put, List.setIfInBounds_toArray, List.set_cons_zero, List.set_cons_succ]
  refine wpH_take (i := 21) (v := ?_) rfl (by kernel_rfl) (by kernel_rfl) (by kernel_rfl) (fun _ _ _ h => h) (by rfl) ?_ (by assumption) ?_; rotate_left; (focus (intro w hSw; (try dsimp only at hSw); go_simp; try with_reducible rfl)); try simp only [Act.put, List.setIfInBounds_toArray, List.set_cons_zero, List.set_cons_succ]
  refine wpAnyH_done (by kernel_rfl) ?_ _
  try dsimp only at hHeld
  have HB6 := Lib.hid (below_step1 HB1.out hHeld.2.2.2.2.2)
  have r4 := hHeld.2.2.2.2.1
  clear hHeld HALL
  go_wp2
  go_loopg [3, 5, 30] 0 (fun gg o x5 i wr => i = .int .i64 0 ∧ o = .string inT ∧ wr = w6)
  case atStart => exact ⟨rfl, rfl, rfl⟩
  case round =>
    obtain ⟨rfl, rfl, rfl⟩ := hrel
    go_wp2
    go_ret
    exact ⟨rfl, HB6.out⟩
set_option maxRecDepth 1000000 in
set_option maxHeartbeats 6000000 in
theorem specNewVol_any (w : World) : Calls Try.prog 44 #[] w (VolPost w) := by
  go_enter Try.func44, Try.ntmps44
  go_wp2
  have h := Own.lit (e := 101) (size := 5) (n := 1) (box_alloc w (.cells #[.int .i64 2, .slice (some ⟨w.heap.size + 1, 0, none⟩) 1 1] 62)) (by simp) #[.int .i64 1, .int .i64 2, .int .i64 1, .string ByteArray.empty, .slice none 0 0] rfl (by decide)
  have e : (w.alloc (.cells #[.int .i64 2, .slice (some ⟨w.heap.size + 1, 0, none⟩) 1 1] 62)).heap.size = w.heap.size + 1 := by simp
  rw [e] at h
  have HH := Lib.hid h
  clear h e
  refine bodyPost_ret (v := .agg #[.int .i64 2, .slice (some ⟨w.heap.size + 1, 0, none⟩) 1 1]) (by simp [results, Try.results44, go_sem]) rfl ?_
  exact ⟨w.heap.size + 1, 1, rfl, HH.out⟩
set_option maxRecDepth 1000000 in
set_option maxHeartbeats 6000000 in
theorem specInode_any (w : World) : Calls Try.prog 116 #[.agg #[.int .i64 1, .int .i64 2, .int .i64 1, .string ByteArray.empty, .slice none 0 0]] w fun e w' => e = .returned (.string inT) ∧ Below w.heap.size w w' := by
  have hv0 := varV_len 0
  have hv1 := varV_len 1
  have hv2 := varV_len 2
  have hp := pieceB_zero
  have hsz0 : (ByteArray.empty).size ≤ 1073741824 := by decide
  have HT : Hid (inT = (⟨#[105]⟩ : ByteArray) ++ ⟨(varV 1).toArray⟩ ++ ⟨(varV 2).toArray⟩ ++ ⟨(varV 1).toArray⟩ ++ pieceB ByteArray.empty ++ ⟨(varV 0).toArray⟩) := Lib.hid rfl
  have HBX := Lib.hid (box_alloc w (.cells #[.int .i64 1, .int .i64 2, .int .i64 1, .string ByteArray.empty, .slice none 0 0] 101))
  have c0 : (w.alloc (.cells #[.int .i64 1, .int .i64 2, .int .i64 1, .string ByteArray.empty, .slice none 0 0] 101)).cell? ⟨w.heap.size, 0, none⟩ = some (.int .i64 1) := by go_simp
  have c1 : (w.alloc (.cells #[.int .i64 1, .int .i64 2, .int .i64 1, .string ByteArray.empty, .slice none 0 0] 101)).cell? ⟨w.heap.size, 1, none⟩ = some (.int .i64 2) := by go_simp
  have c2 : (w.alloc (.cells #[.int .i64 1, .int .i64 2, .int .i64 1, .string ByteArray.empty, .slice none 0 0] 101)).cell? ⟨w.heap.size, 2, none⟩ = some (.int .i64 1) := by go_simp
  have c3 : (w.alloc (.cells #[.int .i64 1, .int .i64 2, .int .i64 1, .string ByteArray.empty, .slice none 0 0] 101)).cell? ⟨w.heap.size, 3, none⟩ = some (.string ByteArray.empty) := by go_simp
  have c4 : (w.alloc (.cells #[.int .i64 1, .int .i64 2, .int .i64 1, .string ByteArray.empty, .slice none 0 0] 101)).cell? ⟨w.heap.size, 4, none⟩ = some (.slice none 0 0) := by go_simp
  go_enter Try.func116, Try.ntmps116
  go_wp2
  generalize w.alloc (.cells #[.int .i64 1, .int .i64 2, .int .i64 1, .string ByteArray.empty, .slice none 0 0] 101) = w1 at *
  have HALL : Hid (∀ W, Below w1.heap.size w1 W → (W.cell? ⟨w.heap.size, 0, none⟩ = some (.int .i64 1) ∧ W.cell? ⟨w.heap.size, 1, none⟩ = some (.int .i64 2) ∧ W.cell? ⟨w.heap.size, 2, none⟩ = some (.int .i64 1) ∧ W.cell? ⟨w.heap.size, 3, none⟩ = some (.string ByteArray.empty) ∧ W.cell? ⟨w.heap.size, 4, none⟩ = some (.slice none 0 0) ∧ Below w1.heap.size w1 W)) := Lib.hid (fun W hW => ⟨box_below c0 hW, box_below c1 hW, box_below c2 hW, box_below c3 hW, box_below c4 hW, hW⟩)
  have HB1 := Lib.hid HBX.out
  have hB0 := Below.refl w1.heap.size w1
  clear c0 c1 c2 c3 c4 HBX
  have a1F : (9223372036854775807 < 1 + (varV 1).length) = False := eq_false (by omega)
  have a2F : (9223372036854775807 < 1 + (varV 1).length + (varV 2).length) = False := eq_false (by omega)
  have a3F : (9223372036854775807 < 1 + (varV 1).length + (varV 2).length + (varV 1).length) = False := eq_false (by omega)
  have a4F : (9223372036854775807 < 1 + (varV 1).length + (varV 2).length + (varV 1).length + (pieceB ByteArray.empty).size) = False := eq_false (by omega)
  have a5F : (9223372036854775807 < 1 + (varV 1).length + (varV 2).length + (varV 1).length + (pieceB ByteArray.empty).size + (varV 0).length) = False := eq_false (by omega)
  have hq1 : (⟨#[105]⟩ : ByteArray).size = 1 := rfl
  refine wp_region_held_drew (S := (fun W => W.cell? ⟨w.heap.size, 0, none⟩ = some (.int .i64 1) ∧ W.cell? ⟨w.heap.size, 1, none⟩ = some (.int .i64 2) ∧ W.cell? ⟨w.heap.size, 2, none⟩ = some (.int .i64 1) ∧ W.cell? ⟨w.heap.size, 3, none⟩ = some (.string ByteArray.empty) ∧ W.cell? ⟨w.heap.size, 4, none⟩ = some (.slice none 0 0) ∧ Below w1.heap.size w1 W)) (by kernel_rfl) ?_ (fun hHeld => ?_)
  · try dsimp only
    (go_split_ands; first | exact HALL.out _ (by assumption) | exact HALL.out _ (Below.drew (by assumption)) | exact HALL.out _ (below_step1 (by assumption) (by assumption)))
  change wpAnyH _ _ _ _ _ 22 #[false, false, false, false, false, false, false, false, false, false, false, false, false, false, false, false, false, false, false, false, false, false] _ _
  clear hB0
  refine wpH_take (i := 0) (v := ?_) rfl (by kernel_rfl) (by kernel_rfl) (by kernel_rfl) (fun _ _ _ h => h) (by rfl) ?_ (by assumption) ?_; rotate_left; (focus (intro w hSw; (try dsimp only at hSw); go_simp; try with_reducible rfl)); try simp only [Act.put, List.setIfInBounds_toArray, List.set_cons_zero, List.set_cons_succ]
  refine wpH_take (i := 1) (v := ?_) rfl (by kernel_rfl) (by kernel_rfl) (by kernel_rfl) (fun _ _ _ h => h) (by rfl) ?_ (by assumption) ?_; rotate_left; (focus (intro w hSw; (try dsimp only at hSw); go_simp; try with_reducible rfl)); try simp only [Act.put, List.setIfInBounds_toArray, List.set_cons_zero, List.set_cons_succ]
  refine wpH_take (i := 4) (v := ?_) rfl (by kernel_rfl) (by kernel_rfl) (by kernel_rfl) (fun _ _ _ h => h) (by rfl) ?_ (by assumption) ?_; rotate_left; (focus (intro w hSw; (try dsimp only at hSw); go_simp; try with_reducible rfl)); try simp only [Act.put, List.setIfInBounds_toArray, List.set_cons_zero, List.set_cons_succ]
  refine wpH_take (i := 5) (v := ?_) rfl (by kernel_rfl) (by kernel_rfl) (by kernel_rfl) (fun _ _ _ h => h) (by rfl) ?_ (by assumption) ?_; rotate_left; (focus (intro w hSw; (try dsimp only at hSw); go_simp; try with_reducible rfl)); try simp only [Act.put, List.setIfInBounds_toArray, List.set_cons_zero, List.set_cons_succ]
  refine wpH_take (i := 8) (v := ?_) rfl (by kernel_rfl) (by kernel_rfl) (by kernel_rfl) (fun _ _ _ h => h) (by rfl) ?_ (by assumption) ?_; rotate_left; (focus (intro w hSw; (try dsimp only at hSw); go_simp; try with_reducible rfl)); try simp only [Act.put, List.setIfInBounds_toArray, List.set_cons_zero, List.set_cons_succ]
  refine wpH_take (i := 9) (v := ?_) rfl (by kernel_rfl) (by kernel_rfl) (by kernel_rfl) (fun _ _ _ h => h) (by rfl) ?_ (by assumption) ?_; rotate_left; (focus (intro w hSw; (try dsimp only at hSw); go_simp; try with_reducible rfl)); try simp only [Act.put, List.setIfInBounds_toArray, List.set_cons_zero, List.set_cons_succ]
  refine wpH_take (i := 12) (v := ?_) rfl (by kernel_rfl) (by kernel_rfl) (by kernel_rfl) (fun _ _ _ h => h) (by rfl) ?_ (by assumption) ?_; rotate_left; (focus (intro w hSw; (try dsimp only at hSw); go_simp; try with_reducible rfl)); try simp only [Act.put, List.setIfInBounds_toArray, List.set_cons_zero, List.set_cons_succ]
  refine wpH_take (i := 13) (v := ?_) rfl (by kernel_rfl) (by kernel_rfl) (by kernel_rfl) (fun _ _ _ h => h) (by rfl) ?_ (by assumption) ?_; rotate_left; (focus (intro w hSw; (try dsimp only at hSw); go_simp; try with_reducible rfl)); try simp only [Act.put, List.setIfInBounds_toArray, List.set_cons_zero, List.set_cons_succ]
  refine wpH_take (i := 16) (v := ?_) rfl (by kernel_rfl) (by kernel_rfl) (by kernel_rfl) (fun _ _ _ h => h) (by rfl) ?_ (by assumption) ?_; rotate_left; (focus (intro w hSw; (try dsimp only at hSw); go_simp; try with_reducible rfl)); try simp only [Act.put, List.setIfInBounds_toArray, List.set_cons_zero, List.set_cons_succ]
  refine wpH_take (i := 17) (v := ?_) rfl (by kernel_rfl) (by kernel_rfl) (by kernel_rfl) (fun _ _ _ h => h) (by rfl) ?_ (by assumption) ?_; rotate_left; (focus (intro w hSw; (try dsimp only at hSw); go_simp; try with_reducible rfl)); try simp only [Act.put, List.setIfInBounds_toArray, List.set_cons_zero, List.set_cons_succ]
  refine wpH_take (i := 18) (v := ?_) rfl (by kernel_rfl) (by kernel_rfl) (by kernel_rfl) (fun _ _ _ h => h) (by rfl) ?_ (by assumption) ?_; rotate_left; (focus (intro w hSw; (try dsimp only at hSw); go_simp; try with_reducible rfl)); try simp only [Act.put, List.setIfInBounds_toArray, List.set_cons_zero, List.set_cons_succ]
  refine wpAnyH_ready (rs := [2]) (by kernel_rfl) (by simp) ?_
  refine AllReadyH.cons rfl (fun K hK => ?_) AllReadyH.nil
  try dsimp only at hHeld
  go_simp
  (go_at_call 90; refine (specVar_any _ _).mono ?_; rintro e w2 ⟨rfl, hbk⟩)
  refine hK.out _ _ ?_ (fun hHeld2 => ?_)
  · try dsimp only
    (go_split_ands; first | exact HALL.out _ (by assumption) | exact HALL.out _ (Below.drew (by assumption)) | exact HALL.out _ (below_step1 (by assumption) (by assumption)))
  clear hK K hHeld
  have hHeld := hHeld2
  clear hHeld2
  clear hbk
  refine wpH_take (i := 3) (v := ?_) rfl (by kernel_rfl) (by kernel_rfl) (by kernel_rfl) (fun _ _ _ h => h) (by rfl) ?_ (by assumption) ?_; rotate_left; (focus (intro w hSw; (try dsimp only at hSw); go_simp; try with_reducible rfl)); try simp only [Act.put, List.setIfInBounds_toArray, List.set_cons_zero, List.set_cons_succ]
  refine wpAnyH_ready (rs := [6]) (by kernel_rfl) (by simp) ?_
  refine AllReadyH.cons rfl (fun K hK => ?_) AllReadyH.nil
  try dsimp only at hHeld
  go_simp
  (go_at_call 90; refine (specVar_any _ _).mono ?_; rintro e w3 ⟨rfl, hbk⟩)
  refine hK.out _ _ ?_ (fun hHeld2 => ?_)
  · try dsimp only
    (go_split_ands; first | exact HALL.out _ (by assumption) | exact HALL.out _ (Below.drew (by assumption)) | exact HALL.out _ (below_step1 (by assumption) (by assumption)))
  clear hK K hHeld
  have hHeld := hHeld2
  clear hHeld2
  clear hbk
  refine wpH_take (i := 7) (v := ?_) rfl (by kernel_rfl) (by kernel_rfl) (by kernel_rfl) (fun _ _ _ h => h) (by rfl) ?_ (by assumption) ?_; rotate_left; (focus (intro w hSw; (try dsimp only at hSw); go_simp; try with_reducible rfl)); try simp only [Act.put, List.setIfInBounds_toArray, List.set_cons_zero, List.set_cons_succ]
  refine wpAnyH_ready (rs := [10]) (by kernel_rfl) (by simp) ?_
  refine AllReadyH.cons rfl (fun K hK => ?_) AllReadyH.nil
  try dsimp only at hHeld
  go_simp
  (go_at_call 90; refine (specVar_any _ _).mono ?_; rintro e w4 ⟨rfl, hbk⟩)
  refine hK.out _ _ ?_ (fun hHeld2 => ?_)
  · try dsimp only
    (go_split_ands; first | exact HALL.out _ (by assumption) | exact HALL.out _ (Below.drew (by assumption)) | exact HALL.out _ (below_step1 (by assumption) (by assumption)))
  clear hK K hHeld
  have hHeld := hHeld2
  clear hHeld2
  clear hbk
  refine wpH_take (i := 11) (v := ?_) rfl (by kernel_rfl) (by kernel_rfl) (by kernel_rfl) (fun _ _ _ h => h) (by rfl) ?_ (by assumption) ?_; rotate_left; (focus (intro w hSw; (try dsimp only at hSw); go_simp; try with_reducible rfl)); try simp only [Act.put, List.setIfInBounds_toArray, List.set_cons_zero, List.set_cons_succ]
  refine wpAnyH_ready (rs := [14]) (by kernel_rfl) (by simp) ?_
  refine AllReadyH.cons rfl (fun K hK => ?_) AllReadyH.nil
  try dsimp only at hHeld
  go_simp
  (go_at_call 91; refine (l7Piece_any _ hsz0 _).mono ?_; rintro e w5 ⟨rfl, hbk⟩)
  refine hK.out _ _ ?_ (fun hHeld2 => ?_)
  · try dsimp only
    (go_split_ands; first | exact HALL.out _ (by assumption) | exact HALL.out _ (Below.drew (by assumption)) | exact HALL.out _ (below_step1 (by assumption) (by assumption)))
  clear hK K hHeld
  have hHeld := hHeld2
  clear hHeld2
  clear hbk
  refine wpH_take (i := 15) (v := ?_) rfl (by kernel_rfl) (by kernel_rfl) (by kernel_rfl) (fun _ _ _ h => h) (by rfl) ?_ (by assumption) ?_; rotate_left; (focus (intro w hSw; (try dsimp only at hSw); go_simp; try with_reducible rfl)); try simp only [Act.put, List.setIfInBounds_toArray, List.set_cons_zero, List.set_cons_succ]
  refine wpAnyH_ready (rs := [19]) (by kernel_rfl) (by simp) ?_
  refine AllReadyH.cons rfl (fun K hK => ?_) AllReadyH.nil
  try dsimp only at hHeld
  go_simp
  (go_at_call 90; refine (specVar_any _ _).mono ?_; rintro e w6 ⟨rfl, hbk⟩)
  refine hK.out _ _ ?_ (fun hHeld2 => ?_)
  · try dsimp only
    (go_split_ands; first | exact HALL.out _ (by assumption) | exact HALL.out _ (Below.drew (by assumption)) | exact HALL.out _ (below_step1 (by assumption) (by assumption)))
  clear hK K hHeld
  have hHeld := hHeld2
  clear hHeld2
  clear hbk
  refine wpH_take (i := 20) (v := ?_) rfl (by kernel_rfl) (by kernel_rfl) (by kernel_rfl) (fun _ _ _ h => h) (by rfl) ?_ (by assumption) ?_; rotate_left; (focus (intro w hSw; (try dsimp only at hSw); go_simp; try with_reducible rfl)); try simp only [Act.put, List.setIfInBounds_toArray, List.set_cons_zero, List.set_cons_succ]
  refine wpH_take (i := 21) (v := ?_) rfl (by kernel_rfl) (by kernel_rfl) (by kernel_rfl) (fun _ _ _ h => h) (by rfl) ?_ (by assumption) ?_; rotate_left; (focus (intro w hSw; (try dsimp only at hSw); go_simp; try with_reducible rfl)); try simp only [Act.put, List.setIfInBounds_toArray, List.set_cons_zero, List.set_cons_succ]
  refine wpAnyH_done (by kernel_rfl) ?_ _
  try dsimp only at hHeld
  have HB6 := Lib.hid (below_step1 HB1.out hHeld.2.2.2.2.2)
  have r4 := hHeld.2.2.2.2.1
  clear hHeld HALL
  go_wp2
  go_loopg [3, 4, 5] 0 (fun gg o i x5 wr => i = .int .i64 0 ∧ o = .string inT ∧ wr = w6)
  case atStart => exact ⟨rfl, rfl, rfl⟩
  case round =>
    obtain ⟨rfl, rfl, rfl⟩ := hrel
    go_wp2
    go_ret
    exact ⟨rfl, HB6.out⟩
set_option maxRecDepth 1000000 in
set_option maxHeartbeats 6000000 in
theorem implBlocks_any (g c : Nat) (w : World) (h : Rd w (some ⟨g, 0, none⟩) 1 c 5 inCells) :
    Calls Try.prog 88 #[.agg #[.int .i64 2, .slice (some ⟨g, 0, none⟩) 1 c]] w fun e w' => ∃ (a' : Option Addr) (c' : Nat), e = .returned (.slice a' 17 c') ∧ Own 9 1 w.heap.size w (.slice a' 17 c') 17 (strs blF) w' := by
  have hv1 := varV_len 1
  have hv2 := varV_len 2
  have HBX := Lib.hid (box_alloc w (.cells #[.int .i64 2, .slice (some ⟨g, 0, none⟩) 1 c] 62))
  have c0 := box0 w 62 (.int .i64 2) (.slice (some ⟨g, 0, none⟩) 1 c)
  have c1 := box1 w 62 (.int .i64 2) (.slice (some ⟨g, 0, none⟩) 1 c)
  obtain ⟨b, off, e, hgl, hc⟩ := (h.below HBX.out (Nat.le_refl _)).at' (by omega)
  cases e
  have i0 := hc 0 (by decide)
  have i1 := hc 1 (by decide)
  have i2 := hc 2 (by decide)
  have i3 := hc 3 (by decide)
  have i4 := hc 4 (by decide)
  have hc1 : c ≤ maxLen := h.max
  clear hc h
  go_enter Try.func88, Try.ntmps88
  go_wp2
  have hz1 : w.heap.size < (w.alloc (.cells #[.int .i64 2, .slice (some ⟨g, 0, none⟩) 1 c] 62)).heap.size := by simp
  generalize w.alloc (.cells #[.int .i64 2, .slice (some ⟨g, 0, none⟩) 1 c] 62) = w1 at *
  have HALL : Hid (∀ W, Below w1.heap.size w1 W → (W.cell? ⟨w.heap.size, 0, none⟩ = some (.int .i64 2) ∧ W.cell? ⟨w.heap.size, 1, none⟩ = some (.slice (some ⟨g, 0, none⟩) 1 c) ∧ Below w1.heap.size w1 W)) := Lib.hid (fun W hW => ⟨box_below c0 hW, box_below c1 hW, hW⟩)
  have HIN : Hid (∀ W, Below w1.heap.size w1 W → (W.cell? ⟨g, 0, none⟩ = some (.int .i64 1) ∧ W.cell? ⟨g, 1, none⟩ = some (.int .i64 2) ∧ W.cell? ⟨g, 2, none⟩ = some (.int .i64 1) ∧ W.cell? ⟨g, 3, none⟩ = some (.string ByteArray.empty) ∧ W.cell? ⟨g, 4, none⟩ = some (.slice none 0 0))) := Lib.hid (fun W hW => ⟨box_below i0 hW, box_below i1 hW, box_below i2 hW, box_below i3 hW, box_below i4 hW⟩)
  have HB1 := Lib.hid HBX.out
  have HCC := Lib.hid c1
  have hB0 := Below.refl w1.heap.size w1
  clear c0 c1 i0 i1 i2 i3 i4 HBX
  have a1F : (9223372036854775807 < 1 + (varV 2).length) = False := eq_false (by omega)
  have a2F : (9223372036854775807 < 1 + (varV 2).length + (varV 1).length) = False := eq_false (by omega)
  have hq1 : (⟨#[117]⟩ : ByteArray).size = 1 := rfl
  refine wp_region_held_drew (S := (fun W => W.cell? ⟨w.heap.size, 0, none⟩ = some (.int .i64 2) ∧ W.cell? ⟨w.heap.size, 1, none⟩ = some (.slice (some ⟨g, 0, none⟩) 1 c) ∧ Below w1.heap.size w1 W)) (by kernel_rfl) ?_ (fun hHeld => ?_)
  · try dsimp only
    (go_split_ands; first | exact HALL.out _ (by assumption) | exact HALL.out _ (Below.drew (by assumption)) | exact HALL.out _ (below_step1 (by assumption) (by assumption)) | exact HALL.out _ (below_step1 (by assumption) (box_alloc _ _)))
  change wpAnyH _ _ _ _ _ 11 #[false, false, false, false, false, false, false, false, false, false, false] _ _
  clear hB0
  refine wpH_take (i := 0) (v := ?_) rfl (by kernel_rfl) (by kernel_rfl) (by kernel_rfl) (fun _ _ _ h => h) (by rfl) ?_ (by assumption) ?_; rotate_left; (focus (intro w hSw; (try dsimp only at hSw); go_simp; try with_reducible rfl)); try simp only [Act.put, List.setIfInBounds_toArray, List.set_cons_zero, List.set_cons_succ]
  refine wpH_take (i := 1) (v := ?_) rfl (by kernel_rfl) (by kernel_rfl) (by kernel_rfl) (fun _ _ _ h => h) (by rfl) ?_ (by assumption) ?_; rotate_left; (focus (intro w hSw; (try dsimp only at hSw); go_simp; try with_reducible rfl)); try simp only [Act.put, List.setIfInBounds_toArray, List.set_cons_zero, List.set_cons_succ]
  refine wpH_take (i := 4) (v := ?_) rfl (by kernel_rfl) (by kernel_rfl) (by kernel_rfl) (fun _ _ _ h => h) (by rfl) ?_ (by assumption) ?_; rotate_left; (focus (intro w hSw; (try dsimp only at hSw); go_simp; try with_reducible rfl)); try simp only [Act.put, List.setIfInBounds_toArray, List.set_cons_zero, List.set_cons_succ]
  refine wpH_take (i := 5) (v := ?_) rfl (by kernel_rfl) (by kernel_rfl) (by kernel_rfl) (fun _ _ _ h => h) (by rfl) ?_ (by assumption) ?_; rotate_left; (focus (intro w hSw; (try dsimp only at hSw); go_simp; try with_reducible rfl)); try simp only [Act.put, List.setIfInBounds_toArray, List.set_cons_zero, List.set_cons_succ]
  refine wpH_take (i := 6) (v := ?_) rfl (by kernel_rfl) (by kernel_rfl) (by kernel_rfl) (fun _ _ _ h => h) (by rfl) ?_ (by assumption) ?_; rotate_left; (focus (intro w hSw; (try dsimp only at hSw); go_simp; try with_reducible rfl)); try simp only [Act.put, List.setIfInBounds_toArray, List.set_cons_zero, List.set_cons_succ]
  refine wpAnyH_ready (rs := [2]) (by kernel_rfl) (by simp) ?_
  refine AllReadyH.cons rfl (fun K hK => ?_) AllReadyH.nil
  try dsimp only at hHeld
  go_simp
  (go_at_call 95; refine (implVar_any _ _).mono ?_; rintro e w2 ⟨rfl, hbk⟩)
  refine hK.out _ _ ?_ (fun hHeld2 => ?_)
  · try dsimp only
    (go_split_ands; first | exact HALL.out _ (by assumption) | exact HALL.out _ (Below.drew (by assumption)) | exact HALL.out _ (below_step1 (by assumption) (by assumption)) | exact HALL.out _ (below_step1 (by assumption) (box_alloc _ _)))
  clear hK K hHeld
  have hHeld := hHeld2
  clear hHeld2
  clear hbk
  refine wpH_take (i := 3) (v := ?_) rfl (by kernel_rfl) (by kernel_rfl) (by kernel_rfl) (fun _ _ _ h => h) (by rfl) ?_ (by assumption) ?_; rotate_left; (focus (intro w hSw; (try dsimp only at hSw); go_simp; try with_reducible rfl)); try simp only [Act.put, List.setIfInBounds_toArray, List.set_cons_zero, List.set_cons_succ]
  refine wpAnyH_ready (rs := [7]) (by kernel_rfl) (by simp) ?_
  refine AllReadyH.cons rfl (fun K hK => ?_) AllReadyH.nil
  try dsimp only at hHeld
  go_simp
  (go_at_call 95; refine (implVar_any _ _).mono ?_; rintro e w3 ⟨rfl, hbk⟩)
  refine hK.out _ _ ?_ (fun hHeld2 => ?_)
  · try dsimp only
    (go_split_ands; first | exact HALL.out _ (by assumption) | exact HALL.out _ (Below.drew (by assumption)) | exact HALL.out _ (below_step1 (by assumption) (by assumption)) | exact HALL.out _ (below_step1 (by assumption) (box_alloc _ _)))
  clear hK K hHeld
  have hHeld := hHeld2
  clear hHeld2
  clear hbk
  refine wpH_take (i := 8) (v := ?_) rfl (by kernel_rfl) (by kernel_rfl) (by kernel_rfl) (fun _ _ _ h => h) (by rfl) ?_ (by assumption) ?_; rotate_left; (focus (intro w hSw; (try dsimp only at hSw); go_simp; try with_reducible rfl)); try simp only [Act.put, List.setIfInBounds_toArray, List.set_cons_zero, List.set_cons_succ]
  have HO3 := Lib.hid (Own.lit (e := 9) (size := 1) (n := 1) hHeld.2.2 hHeld.2.2.size #[.string uT] rfl (by decide))
  refine wpAnyH_ready (rs := [9]) (by kernel_rfl) (by simp) ?_
  refine AllReadyH.cons rfl (fun K hK => ?_) AllReadyH.nil
  try dsimp only at hHeld
  go_simp
  skip
  refine hK.out _ _ ?_ (fun hHeld2 => ?_)
  · try dsimp only
    (go_split_ands; first | exact HALL.out _ (by assumption) | exact HALL.out _ (Below.drew (by assumption)) | exact HALL.out _ (below_step1 (by assumption) (by assumption)) | exact HALL.out _ (below_step1 (by assumption) (box_alloc _ _)))
  clear hK K hHeld
  have hHeld := hHeld2
  clear hHeld2
  refine wpH_take (i := 10) (v := ?_) rfl (by kernel_rfl) (by kernel_rfl) (by kernel_rfl) (fun _ _ _ h => h) (by rfl) ?_ (by assumption) ?_; rotate_left; (focus (intro w hSw; (try dsimp only at hSw); go_simp; try with_reducible rfl)); try simp only [Act.put, List.setIfInBounds_toArray, List.set_cons_zero, List.set_cons_succ]
  refine wpAnyH_done (by kernel_rfl) ?_ _
  try dsimp only at hHeld
  clear hHeld HALL a1F a2F hq1 hv1 hv2
  go_wp2
  go_loopg [3, 4, 5, 16] 16 (fun gg o x4 x5 i wr => ∃ (k : Nat) (a' : Option Addr) (c' : Nat), k + gg = 16 ∧ i = .int .i64 (k : Int) ∧ o = .slice a' (k + 1) c' ∧ Hid (Own 9 1 w1.heap.size w1 (.slice a' (k + 1) c') (k + 1) (strs (blF.take (k + 1))) wr))
  case atStart => exact ⟨0, _, _, by omega, rfl, rfl, Lib.hid (by exact HO3.out)⟩
  case round =>
    obtain ⟨k, a', c', hk, rfl, rfl, HO⟩ := hrel
    have v1 := box_below HCC.out HO.out.below
    have hzr : w.heap.size < wr.heap.size := World.block_lt_of_cell? wr _ v1
    by_cases hlt : k < 16
    · have HST := Lib.hid (blF_step k hlt)
      have hi : (k : Int) < 16 := by omega
      rcases Nat.eq_zero_or_pos k with hk0 | hk0
      · subst hk0
        have HS2 : Hid (blF.take 2 = blF.take 1 ++ [inT]) := Lib.hid HST.out
        obtain ⟨i0, i1, i2, i3, i4⟩ := HIN.out wr HO.out.below
        have hgr : g < wr.heap.size := World.block_lt_of_cell? wr _ i0
        clear HST
        go_wp2_with fail
        refine (implInode_any _).mono ?_
        rintro e w5 ⟨rfl, hb⟩
        have HO5 := Lib.hid (HO.out.kept hb)
        clear hb HO i0 i1 i2 i3 i4 v1 hzr hgr
        go_wp2_with (at_builtin; go_loud (refine wp_app1g rfl _ _ 29 rfl 9 (.string ByteArray.empty) 1 16 Try.underlying29 info_str rfl (by decide) _ _ _ _ _ (by rfl) (by exact HO5.out) _ _ (by rfl) (by rfl) (by intro u hu; simp at hu; first | (subst hu; rfl) | (rcases hu with rfl | rfl <;> rfl) | (rcases hu with rfl | rfl | rfl <;> rfl) | (rcases hu with rfl | rfl | rfl | rfl <;> rfl)) (by omega) (by unfold maxLen; omega) ?_); intro a9 c9 w9 hO9 hG9 hN9)
        have HO9 := Lib.hid hO9
        clear hG9 hN9 hO9
        go_roundg (gk - 1)
        case measure => omega
        case rel => exact ⟨1, _, _, by omega, by go_num, rfl, Lib.hid (by rw [HS2.out, strs_append]; exact HO9.out)⟩
      · have HS2 : Hid (blF.take (k + 2) = blF.take (k + 1) ++ [ByteArray.empty]) := Lib.hid (by rw [HST.out, if_neg (by omega)])
        have hk1 : ¬ (k : Int) < 1 := by omega
        clear HST
        go_wp2_with (at_builtin; go_loud (refine wp_app1g rfl _ _ 29 rfl 9 (.string ByteArray.empty) 1 16 Try.underlying29 info_str rfl (by decide) _ _ _ _ _ (by rfl) (by exact HO.out) _ _ (by rfl) (by rfl) (by intro u hu; simp at hu; first | (subst hu; rfl) | (rcases hu with rfl | rfl <;> rfl) | (rcases hu with rfl | rfl | rfl <;> rfl) | (rcases hu with rfl | rfl | rfl | rfl <;> rfl)) (by omega) (by unfold maxLen; omega) ?_); intro a9 c9 w9 hO9 hG9 hN9)
        have HO9 := Lib.hid hO9
        clear hG9 hN9 hO9
        go_roundg (gk - 1)
        case measure => omega
        case rel => exact ⟨k + 1, _, _, by omega, by go_num, rfl, Lib.hid (by rw [HS2.out, strs_append]; exact HO9.out)⟩
    · obtain rfl : k = 16 := by omega
      have HF : Hid (Own 9 1 w1.heap.size w1 (.slice a' 17 c') 17 (strs blF) wr) := Lib.hid (by have h := HO.out; rw [List.take_of_length_le (by decide)] at h; exact h)
      go_wp2
      go_ret
      exact ⟨_, _, rfl, row_mono1 HF.out.row (by omega), HB1.out.trans (HF.out.below.mono (by omega)), Nat.le_trans (by omega) HF.out.below.size⟩
set_option maxRecDepth 1000000 in
set_option maxHeartbeats 6000000 in
theorem implFormat_any (w : World) : Calls Try.prog 50 #[] w fun e w' => ∃ (a' : Option Addr) (c' : Nat), e = .returned (.slice a' 18 c') ∧ Own 9 1 w.heap.size w (.slice a' 18 c') 18 (strs (blF ++ [ByteArray.empty])) w' := by
  go_enter Try.func50, Try.ntmps50
  go_wp2_with fail
  refine (implNewVol_any _).mono ?_
  rintro e w1 ⟨g, c, rfl, hO⟩
  have HR := Lib.hid hO.rd
  have HB1 := Lib.hid hO.below
  clear hO
  go_wp2_with fail
  refine (implBlocks_any g c _ HR.out).mono ?_
  rintro e w2 ⟨a', c', rfl, hO⟩
  have HO : Hid (Own 9 1 w.heap.size w (.slice a' 17 c') 17 (strs blF) w2) := Lib.hid ⟨row_mono1 hO.row HB1.out.size, HB1.out.trans (hO.below.mono HB1.out.size), Nat.le_trans HB1.out.size hO.below.size⟩
  clear hO HR HB1
  go_wp2_with (at_builtin; go_loud (refine wp_app1g rfl _ _ 29 rfl 9 (.string ByteArray.empty) 1 16 Try.underlying29 info_str rfl (by decide) _ _ _ _ _ (by rfl) (by exact HO.out) _ _ (by rfl) (by rfl) (by intro u hu; simp at hu; first | (subst hu; rfl) | (rcases hu with rfl | rfl <;> rfl) | (rcases hu with rfl | rfl | rfl <;> rfl) | (rcases hu with rfl | rfl | rfl | rfl <;> rfl)) (by omega) (by unfold maxLen; omega) ?_); intro a9 c9 w9 hO9 hG9 hN9)
  have HO9 := Lib.hid hO9
  clear hG9 hN9 hO9
  go_ret
  exact ⟨_, _, rfl, by rw [strs_append]; exact HO9.out⟩
set_option maxRecDepth 1000000 in
set_option maxHeartbeats 6000000 in
theorem specBlocks_any (g c : Nat) (w : World) (h : Rd w (some ⟨g, 0, none⟩) 1 c 5 inCells) :
    Calls Try.prog 87 #[.agg #[.int .i64 2, .slice (some ⟨g, 0, none⟩) 1 c]] w fun e w' => ∃ (a' : Option Addr) (c' : Nat), e = .returned (.slice a' 17 c') ∧ Own 9 1 w.heap.size w (.slice a' 17 c') 17 (strs blF) w' := by
  have hv1 := varV_len 1
  have hv2 := varV_len 2
  have HBX := Lib.hid (box_alloc w (.cells #[.int .i64 2, .slice (some ⟨g, 0, none⟩) 1 c] 62))
  have c0 := box0 w 62 (.int .i64 2) (.slice (some ⟨g, 0, none⟩) 1 c)
  have c1 := box1 w 62 (.int .i64 2) (.slice (some ⟨g, 0, none⟩) 1 c)
  obtain ⟨b, off, e, hgl, hc⟩ := (h.below HBX.out (Nat.le_refl _)).at' (by omega)
  cases e
  have i0 := hc 0 (by decide)
  have i1 := hc 1 (by decide)
  have i2 := hc 2 (by decide)
  have i3 := hc 3 (by decide)
  have i4 := hc 4 (by decide)
  have hc1 : c ≤ maxLen := h.max
  clear hc h
  go_enter Try.func87, Try.ntmps87
  go_wp2
  have hz1 : w.heap.size < (w.alloc (.cells #[.int .i64 2, .slice (some ⟨g, 0, none⟩) 1 c] 62)).heap.size := by simp
  generalize w.alloc (.cells #[.int .i64 2, .slice (some ⟨g, 0, none⟩) 1 c] 62) = w1 at *
  have HALL : Hid (∀ W, Below w1.heap.size w1 W → (W.cell? ⟨w.heap.size, 0, none⟩ = some (.int .i64 2) ∧ W.cell? ⟨w.heap.size, 1, none⟩ = some (.slice (some ⟨g, 0, none⟩) 1 c) ∧ Below w1.heap.size w1 W)) := Lib.hid (fun W hW => ⟨box_below c0 hW, box_below c1 hW, hW⟩)
  have HIN : Hid (∀ W, Below w1.heap.size w1 W → (W.cell? ⟨g, 0, none⟩ = some (.int .i64 1) ∧ W.cell? ⟨g, 1, none⟩ = some (.int .i64 2) ∧ W.cell? ⟨g, 2, none⟩ = some (.int .i64 1) ∧ W.cell? ⟨g, 3, none⟩ = some (.string ByteArray.empty) ∧ W.cell? ⟨g, 4, none⟩ = some (.slice none 0 0))) := Lib.hid (fun W hW => ⟨box_below i0 hW, box_below i1 hW, box_below i2 hW, box_below i3 hW, box_below i4 hW⟩)
  have HB1 := Lib.hid HBX.out
  have HCC := Lib.hid c1
  have hB0 := Below.refl w1.heap.size w1
  clear c0 c1 i0 i1 i2 i3 i4 HBX
  have a1F : (9223372036854775807 < 1 + (varV 2).length) = False := eq_false (by omega)
  have a2F : (9223372036854775807 < 1 + (varV 2).length + (varV 1).length) = False := eq_false (by omega)
  have hq1 : (⟨#[117]⟩ : ByteArray).size = 1 := rfl
  refine wp_region_held_drew (S := (fun W => W.cell? ⟨w.heap.size, 0, none⟩ = some (.int .i64 2) ∧ W.cell? ⟨w.heap.size, 1, none⟩ = some (.slice (some ⟨g, 0, none⟩) 1 c) ∧ Below w1.heap.size w1 W)) (by kernel_rfl) ?_ (fun hHeld => ?_)
  · try dsimp only
    (go_split_ands; first | exact HALL.out _ (by assumption) | exact HALL.out _ (Below.drew (by assumption)) | exact HALL.out _ (below_step1 (by assumption) (by assumption)) | exact HALL.out _ (below_step1 (by assumption) (box_alloc _ _)))
  change wpAnyH _ _ _ _ _ 11 #[false, false, false, false, false, false, false, false, false, false, false] _ _
  clear hB0
  refine wpH_take (i := 0) (v := ?_) rfl (by kernel_rfl) (by kernel_rfl) (by kernel_rfl) (fun _ _ _ h => h) (by rfl) ?_ (by assumption) ?_; rotate_left; (focus (intro w hSw; (try dsimp only at hSw); go_simp; try with_reducible rfl)); try simp only [Act.put, List.setIfInBounds_toArray, List.set_cons_zero, List.set_cons_succ]
  refine wpH_take (i := 1) (v := ?_) rfl (by kernel_rfl) (by kernel_rfl) (by kernel_rfl) (fun _ _ _ h => h) (by rfl) ?_ (by assumption) ?_; rotate_left; (focus (intro w hSw; (try dsimp only at hSw); go_simp; try with_reducible rfl)); try simp only [Act.put, List.setIfInBounds_toArray, List.set_cons_zero, List.set_cons_succ]
  refine wpH_take (i := 4) (v := ?_) rfl (by kernel_rfl) (by kernel_rfl) (by kernel_rfl) (fun _ _ _ h => h) (by rfl) ?_ (by assumption) ?_; rotate_left; (focus (intro w hSw; (try dsimp only at hSw); go_simp; try with_reducible rfl)); try simp only [Act.put, List.setIfInBounds_toArray, List.set_cons_zero, List.set_cons_succ]
  refine wpH_take (i := 5) (v := ?_) rfl (by kernel_rfl) (by kernel_rfl) (by kernel_rfl) (fun _ _ _ h => h) (by rfl) ?_ (by assumption) ?_; rotate_left; (focus (intro w hSw; (try dsimp only at hSw); go_simp; try with_reducible rfl)); try simp only [Act.put, List.setIfInBounds_toArray, List.set_cons_zero, List.set_cons_succ]
  refine wpH_take (i := 6) (v := ?_) rfl (by kernel_rfl) (by kernel_rfl) (by kernel_rfl) (fun _ _ _ h => h) (by rfl) ?_ (by assumption) ?_; rotate_left; (focus (intro w hSw; (try dsimp only at hSw); go_simp; try with_reducible rfl)); try simp only [Act.put, List.setIfInBounds_toArray, List.set_cons_zero, List.set_cons_succ]
  refine wpAnyH_ready (rs := [2]) (by kernel_rfl) (by simp) ?_
  refine AllReadyH.cons rfl (fun K hK => ?_) AllReadyH.nil
  try dsimp only at hHeld
  go_simp
  (go_at_call 90; refine (specVar_any _ _).mono ?_; rintro e w2 ⟨rfl, hbk⟩)
  refine hK.out _ _ ?_ (fun hHeld2 => ?_)
  · try dsimp only
    (go_split_ands; first | exact HALL.out _ (by assumption) | exact HALL.out _ (Below.drew (by assumption)) | exact HALL.out _ (below_step1 (by assumption) (by assumption)) | exact HALL.out _ (below_step1 (by assumption) (box_alloc _ _)))
  clear hK K hHeld
  have hHeld := hHeld2
  clear hHeld2
  clear hbk
  refine wpH_take (i := 3) (v := ?_) rfl (by kernel_rfl) (by kernel_rfl) (by kernel_rfl) (fun _ _ _ h => h) (by rfl) ?_ (by assumption) ?_; rotate_left; (focus (intro w hSw; (try dsimp only at hSw); go_simp; try with_reducible rfl)); try simp only [Act.put, List.setIfInBounds_toArray, List.set_cons_zero, List.set_cons_succ]
  refine wpAnyH_ready (rs := [7]) (by kernel_rfl) (by simp) ?_
  refine AllReadyH.cons rfl (fun K hK => ?_) AllReadyH.nil
  try dsimp only at hHeld
  go_simp
  (go_at_call 90; refine (specVar_any _ _).mono ?_; rintro e w3 ⟨rfl, hbk⟩)
  refine hK.out _ _ ?_ (fun hHeld2 => ?_)
  · try dsimp only
    (go_split_ands; first | exact HALL.out _ (by assumption) | exact HALL.out _ (Below.drew (by assumption)) | exact HALL.out _ (below_step1 (by assumption) (by assumption)) | exact HALL.out _ (below_step1 (by assumption) (box_alloc _ _)))
  clear hK K hHeld
  have hHeld := hHeld2
  clear hHeld2
  clear hbk
  refine wpH_take (i := 8) (v := ?_) rfl (by kernel_rfl) (by kernel_rfl) (by kernel_rfl) (fun _ _ _ h => h) (by rfl) ?_ (by assumption) ?_; rotate_left; (focus (intro w hSw; (try dsimp only at hSw); go_simp; try with_reducible rfl)); try simp only [Act.put, List.setIfInBounds_toArray, List.set_cons_zero, List.set_cons_succ]
  have HO3 := Lib.hid (Own.lit (e := 9) (size := 1) (n := 1) hHeld.2.2 hHeld.2.2.size #[.string uT] rfl (by decide))
  refine wpAnyH_ready (rs := [9]) (by kernel_rfl) (by simp) ?_
  refine AllReadyH.cons rfl (fun K hK => ?_) AllReadyH.nil
  try dsimp only at hHeld
  go_simp
  skip
  refine hK.out _ _ ?_ (fun hHeld2 => ?_)
  · try dsimp only
    (go_split_ands; first | exact HALL.out _ (by assumption) | exact HALL.out _ (Below.drew (by assumption)) | exact HALL.out _ (below_step1 (by assumption) (by assumption)) | exact HALL.out _ (below_step1 (by assumption) (box_alloc _ _)))
  clear hK K hHeld
  have hHeld := hHeld2
  clear hHeld2
  refine wpH_take (i := 10) (v := ?_) rfl (by kernel_rfl) (by kernel_rfl) (by kernel_rfl) (fun _ _ _ h => h) (by rfl) ?_ (by assumption) ?_; rotate_left; (focus (intro w hSw; (try dsimp only at hSw); go_simp; try with_reducible rfl)); try simp only [Act.put, List.setIfInBounds_toArray, List.set_cons_zero, List.set_cons_succ]
  refine wpAnyH_done (by kernel_rfl) ?_ _
  try dsimp only at hHeld
  clear hHeld HALL a1F a2F hq1 hv1 hv2
  go_wp2
  go_loopg [3, 4] 16 (fun gg o i wr => ∃ (k : Nat) (a' : Option Addr) (c' : Nat), k + gg = 16 ∧ i = .int .i64 (k : Int) ∧ o = .slice a' (k + 1) c' ∧ Hid (Own 9 1 w1.heap.size w1 (.slice a' (k + 1) c') (k + 1) (strs (blF.take (k + 1))) wr))
  case atStart => exact ⟨0, _, _, by omega, rfl, rfl, Lib.hid (by exact HO3.out)⟩
  case round =>
    obtain ⟨k, a', c', hk, rfl, rfl, HO⟩ := hrel
    have v1 := box_below HCC.out HO.out.below
    have hzr : w.heap.size < wr.heap.size := World.block_lt_of_cell? wr _ v1
    by_cases hlt : k < 16
    · have HST := Lib.hid (blF_step k hlt)
      have hi : (k : Int) < 16 := by omega
      rcases Nat.eq_zero_or_pos k with hk0 | hk0
      · subst hk0
        have HS2 : Hid (blF.take 2 = blF.take 1 ++ [inT]) := Lib.hid HST.out
        obtain ⟨i0, i1, i2, i3, i4⟩ := HIN.out wr HO.out.below
        have hgr : g < wr.heap.size := World.block_lt_of_cell? wr _ i0
        clear HST
        go_wp2_with fail
        refine (specInode_any _).mono ?_
        rintro e w5 ⟨rfl, hb⟩
        have HO5 := Lib.hid (HO.out.kept hb)
        clear hb HO i0 i1 i2 i3 i4 v1 hzr hgr
        go_wp2_with (at_builtin; go_loud (refine wp_app1g rfl _ _ 29 rfl 9 (.string ByteArray.empty) 1 16 Try.underlying29 info_str rfl (by decide) _ _ _ _ _ (by rfl) (by exact HO5.out) _ _ (by rfl) (by rfl) (by intro u hu; simp at hu; first | (subst hu; rfl) | (rcases hu with rfl | rfl <;> rfl) | (rcases hu with rfl | rfl | rfl <;> rfl) | (rcases hu with rfl | rfl | rfl | rfl <;> rfl)) (by omega) (by unfold maxLen; omega) ?_); intro a9 c9 w9 hO9 hG9 hN9)
        have HO9 := Lib.hid hO9
        clear hG9 hN9 hO9
        go_roundg (gk - 1)
        case measure => omega
        case rel => exact ⟨1, _, _, by omega, by go_num, rfl, Lib.hid (by rw [HS2.out, strs_append]; exact HO9.out)⟩
      · have HS2 : Hid (blF.take (k + 2) = blF.take (k + 1) ++ [ByteArray.empty]) := Lib.hid (by rw [HST.out, if_neg (by omega)])
        have hk1 : ¬ (k : Int) < 1 := by omega
        clear HST
        go_wp2_with (at_builtin; go_loud (refine wp_app1g rfl _ _ 29 rfl 9 (.string ByteArray.empty) 1 16 Try.underlying29 info_str rfl (by decide) _ _ _ _ _ (by rfl) (by exact HO.out) _ _ (by rfl) (by rfl) (by intro u hu; simp at hu; first | (subst hu; rfl) | (rcases hu with rfl | rfl <;> rfl) | (rcases hu with rfl | rfl | rfl <;> rfl) | (rcases hu with rfl | rfl | rfl | rfl <;> rfl)) (by omega) (by unfold maxLen; omega) ?_); intro a9 c9 w9 hO9 hG9 hN9)
        have HO9 := Lib.hid hO9
        clear hG9 hN9 hO9
        go_roundg (gk - 1)
        case measure => omega
        case rel => exact ⟨k + 1, _, _, by omega, by go_num, rfl, Lib.hid (by rw [HS2.out, strs_append]; exact HO9.out)⟩
    · obtain rfl : k = 16 := by omega
      have HF : Hid (Own 9 1 w1.heap.size w1 (.slice a' 17 c') 17 (strs blF) wr) := Lib.hid (by have h := HO.out; rw [List.take_of_length_le (by decide)] at h; exact h)
      go_wp2
      go_ret
      exact ⟨_, _, rfl, row_mono1 HF.out.row (by omega), HB1.out.trans (HF.out.below.mono (by omega)), Nat.le_trans (by omega) HF.out.below.size⟩
set_option maxRecDepth 1000000 in
set_option maxHeartbeats 6000000 in
theorem specFormat_any (w : World) : Calls Try.prog 49 #[] w fun e w' => ∃ (a' : Option Addr) (c' : Nat), e = .returned (.slice a' 18 c') ∧ Own 9 1 w.heap.size w (.slice a' 18 c') 18 (strs (blF ++ [ByteArray.empty])) w' := by
  go_enter Try.func49, Try.ntmps49
  go_wp2_with fail
  refine (specNewVol_any _).mono ?_
  rintro e w1 ⟨g, c, rfl, hO⟩
  have HR := Lib.hid hO.rd
  have HB1 := Lib.hid hO.below
  clear hO
  go_wp2_with fail
  refine (specBlocks_any g c _ HR.out).mono ?_
  rintro e w2 ⟨a', c', rfl, hO⟩
  have HO : Hid (Own 9 1 w.heap.size w (.slice a' 17 c') 17 (strs blF) w2) := Lib.hid ⟨row_mono1 hO.row HB1.out.size, HB1.out.trans (hO.below.mono HB1.out.size), Nat.le_trans HB1.out.size hO.below.size⟩
  clear hO HR HB1
  go_wp2_with (at_builtin; go_loud (refine wp_app1g rfl _ _ 29 rfl 9 (.string ByteArray.empty) 1 16 Try.underlying29 info_str rfl (by decide) _ _ _ _ _ (by rfl) (by exact HO.out) _ _ (by rfl) (by rfl) (by intro u hu; simp at hu; first | (subst hu; rfl) | (rcases hu with rfl | rfl <;> rfl) | (rcases hu with rfl | rfl | rfl <;> rfl) | (rcases hu with rfl | rfl | rfl | rfl <;> rfl)) (by omega) (by unfold maxLen; omega) ?_); intro a9 c9 w9 hO9 hG9 hN9)
  have HO9 := Lib.hid hO9
  clear hG9 hN9 hO9
  go_ret
  exact ⟨_, _, rfl, by rw [strs_append]; exact HO9.out⟩
end Go.Proofs.Ytbokgbbdjcpgbaa
