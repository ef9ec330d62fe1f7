/- The text that a record of the journal is shown as, by the program and by the reference. (Printed by gen_txno.py show.) -/
import Derived.Test.YtbokgbbdjcpgbaaTxnO
namespace Go.Proofs.Ytbokgbbdjcpgbaa
open Go.RowKit

/-- What is written of the first k of them. -/
def bodyK (seq : Int) (l : OutL) (k : Nat) : List UInt8 := 116 :: (varV seq ++ (varV l.length ++ (l.take k).flatMap outL))
theorem bodyK_end (seq : Int) (l : OutL) : bodyK seq l l.length = bodyL seq l := by unfold bodyK bodyL; rw [List.take_length]
theorem bodyK_zero (seq : Int) (l : OutL) : (⟨#[116]⟩ : ByteArray) ++ (⟨(varV seq).toArray⟩ : ByteArray) ++ (⟨(varV l.length).toArray⟩ : ByteArray) = ⟨(bodyK seq l 0).toArray⟩ := by
  have e : (⟨#[116]⟩ : ByteArray) = ⟨[116].toArray⟩ := rfl
  rw [e, ba_append, ba_append]
  simp [bodyK]
theorem bodyK_step (seq : Int) (l : OutL) (k : Nat) (h : k < l.length) : (⟨(bodyK seq l k).toArray⟩ : ByteArray) ++ (⟨(varV l[k].1).toArray⟩ : ByteArray) ++ pieceB l[k].2 = ⟨(bodyK seq l (k + 1)).toArray⟩ := by
  unfold pieceB
  rw [ba_append, ba_append]
  unfold bodyK
  rw [List.take_succ_eq_append_getElem h, List.flatMap_append]
  simp [outL, List.append_assoc]
theorem pieceL_len (s : ByteArray) : (pieceL s).length ≤ 7 + s.size := by
  have := varV_len s.size
  unfold pieceL
  rw [List.length_append, data_len]
  omega
theorem outs_len (l : OutL) (h : ∀ x ∈ l, x.2.size ≤ 400) : (l.flatMap outL).length ≤ l.length * 414 := by
  induction l with
  | nil => simp
  | cons x l ih =>
    have h1 := ih fun y hy => h y (List.mem_cons_of_mem _ hy)
    have h2 := h x List.mem_cons_self
    have h3 := pieceL_len x.2
    have h4 := varV_len x.1
    rw [List.flatMap_cons, List.length_append, outL, List.length_append, List.length_cons]
    omega
theorem bodyK_len (seq : Int) (l : OutL) (k : Nat) (hk : k ≤ 17) (h : ∀ x ∈ l, x.2.size ≤ 400) : (bodyK seq l k).length ≤ 7053 := by
  have h1 := outs_len (l.take k) (fun x hx => h x (List.mem_of_mem_take hx))
  have h2 := varV_len seq
  have h3 := varV_len l.length
  have h4 : (l.take k).length ≤ 17 := by rw [List.length_take]; omega
  unfold bodyK
  rw [List.length_cons, List.length_append, List.length_append]
  omega
theorem showL_eq (seq : Int) (l : OutL) (h : txnB seq l = true) : showL seq l = if (bodyL seq l).length + 4 ≤ 4000 then fixedL (crcF (bodyL seq l)) 4 ++ bodyL seq l else [] := by
  unfold showL
  by_cases c : (bodyL seq l).length + 4 ≤ 4000
  · rw [if_pos ⟨h, c⟩, if_pos c]
  · rw [if_neg (fun hh => c hh.2), if_neg c]
theorem showL_no (seq : Int) (l : OutL) (h : txnB seq l = false) : showL seq l = [] := by
  unfold showL
  rw [if_neg (fun hh => by rw [h] at hh; cases hh.1)]
def showB (seq : Int) (l : OutL) : ByteArray := ⟨(showL seq l).toArray⟩
theorem crc_wf (l : List UInt8) : (Lit.int .i64 (crcF l)).wf = true := by
  have := crcF_range l
  simp [Lit.wf, IntKind.min, IntKind.max, IntKind.signed, IntKind.bits]
  omega
theorem ba_len_eq (x : List UInt8) : (⟨x.toArray⟩ : ByteArray).size = x.length := List.size_toArray

set_option maxRecDepth 1000000 in
set_option maxHeartbeats 6000000 in
theorem implShow_any (seq : Int) (a : Option Addr) (c : Nat) (l : OutL) (w : World) (h : Rd w a l.length c 2 (wrs l)) (hn : l.length ≤ 1048576) :
    Calls Try.prog 55 #[txV seq a l.length c] w fun e w' => e = .returned (.string (showB seq l)) ∧ Below w.heap.size w w' := by
  unfold txV
  have HBX := Lib.hid (box_alloc w (.cells #[.int .i64 seq, .slice a l.length c] 72))
  have H := Lib.hid (h.below HBX.out (Nat.le_refl _))
  have c0 := box0 w 72 (.int .i64 seq) (.slice a l.length c)
  have c1 := box1 w 72 (.int .i64 seq) (.slice a l.length c)
  clear h
  go_enter Try.func55, Try.ntmps55
  go_wp2_with fail
  refine (implTxnOk_any seq a c l _ H.out hn).mono ?_
  rintro e w1 ⟨rfl, hb⟩
  replace c0 := box_below c0 hb
  replace c1 := box_below c1 hb
  have HB1 := Lib.hid (below_step1 HBX.out hb)
  have H1 := Lib.hid (H.out.below hb (Nat.le_refl _))
  have hz1 : w.heap.size < w1.heap.size := World.block_lt_of_cell? w1 _ c0
  clear hb H HBX
  by_cases hok : txnB seq l = true
  · obtain ⟨-, ⟨hl0, hl1⟩, hup⟩ := (txnB_iff seq l).1 hok
    have hO := Lib.hid (fun x hx => (upTo_out l hup x hx).2.2)
    have HSH := Lib.hid (showL_eq seq l hok)
    have HE := Lib.hid (bodyK_end seq l)
    have HZ := Lib.hid (bodyK_zero seq l)
    have hvs := varV_len seq
    have hvl := varV_len l.length
    have hs1 : 1 + (varV seq).length ≤ 9223372036854775807 := by omega
    have hs2 : 1 + (varV seq).length + (varV (l.length : Int)).length ≤ 9223372036854775807 := by omega
    have hq1 : (⟨#[116]⟩ : ByteArray).size = 1 := rfl
    rw [hok]
    clear hup hok
    have HALL : Hid (∀ W, Below w1.heap.size w1 W → (W.cell? ⟨w.heap.size, 0, none⟩ = some (.int .i64 seq) ∧ W.cell? ⟨w.heap.size, 1, none⟩ = some (.slice a l.length c) ∧ Below w1.heap.size w1 W)) := Lib.hid (fun W hW => ⟨box_below c0 hW, box_below c1 hW, hW⟩)
    have hB0 := Below.refl w1.heap.size w1
    clear c0 c1
    go_wp2
    have hs1F : (9223372036854775807 < 1 + (varV seq).length) = False := eq_false (by omega)
    have hs2F : (9223372036854775807 < 1 + (varV seq).length + (varV (l.length : Int)).length) = False := eq_false (by omega)
    refine wp_region_held_drew (S := (fun W => W.cell? ⟨w.heap.size, 0, none⟩ = some (.int .i64 seq) ∧ W.cell? ⟨w.heap.size, 1, none⟩ = some (.slice a l.length c) ∧ Below w1.heap.size w1 W)) (by kernel_rfl) ?_ (fun hHeld => ?_)
    · try dsimp only
      (go_split_ands; first | exact HALL.out _ (by assumption) | exact HALL.out _ (Below.drew (by assumption)) | exact HALL.out _ (below_step1 (by assumption) (by assumption)))
    change wpAnyH _ _ _ _ _ 10 #[false, false, false, false, false, false, false, false, false, false] _ _
    clear hB0
    refine wpH_take (i := 0) (v := ?_) rfl (by kernel_rfl) (by kernel_rfl) (by kernel_rfl) (fun _ _ _ h => h) (by rfl) ?_ (by assumption) ?_; rotate_left; (focus (intro w hSw; (try dsimp only at hSw); go_simp; try with_reducible rfl)); try simp only [Act.put, List.setIfInBounds_toArray, List.set_cons_zero, List.set_cons_succ]
    refine wpH_take (i := 1) (v := ?_) rfl (by kernel_rfl) (by kernel_rfl) (by kernel_rfl) (fun _ _ _ h => h) (by rfl) ?_ (by assumption) ?_; rotate_left; (focus (intro w hSw; (try dsimp only at hSw); go_simp; try with_reducible rfl)); try simp only [Act.put, List.setIfInBounds_toArray, List.set_cons_zero, List.set_cons_succ]
    refine wpH_take (i := 4) (v := ?_) rfl (by kernel_rfl) (by kernel_rfl) (by kernel_rfl) (fun _ _ _ h => h) (by rfl) ?_ (by assumption) ?_; rotate_left; (focus (intro w hSw; (try dsimp only at hSw); go_simp; try with_reducible rfl)); try simp only [Act.put, List.setIfInBounds_toArray, List.set_cons_zero, List.set_cons_succ]
    refine wpH_take (i := 5) (v := ?_) rfl (by kernel_rfl) (by kernel_rfl) (by kernel_rfl) (fun _ _ _ h => h) (by rfl) ?_ (by assumption) ?_; rotate_left; (focus (intro w hSw; (try dsimp only at hSw); go_simp; try with_reducible rfl)); try simp only [Act.put, List.setIfInBounds_toArray, List.set_cons_zero, List.set_cons_succ]
    refine wpH_take (i := 6) (v := ?_) rfl (by kernel_rfl) (by kernel_rfl) (by kernel_rfl) (fun _ _ _ h => h) (by rfl) ?_ (by assumption) ?_; rotate_left; (focus (intro w hSw; (try dsimp only at hSw); go_simp; try with_reducible rfl)); try simp only [Act.put, List.setIfInBounds_toArray, List.set_cons_zero, List.set_cons_succ]
    refine wpAnyH_ready (rs := [2]) (by kernel_rfl) (by simp) ?_
    refine AllReadyH.cons rfl (fun K hK => ?_) AllReadyH.nil
    try dsimp only at hHeld
    go_simp
    (go_at_call 95; refine (implVar_any _ _).mono ?_; rintro e w2 ⟨rfl, hbk⟩)
    refine hK.out _ _ ?_ (fun hHeld2 => ?_)
    · try dsimp only
      (go_split_ands; first | exact HALL.out _ (by assumption) | exact HALL.out _ (Below.drew (by assumption)) | exact HALL.out _ (below_step1 (by assumption) (by assumption)))
    clear hK K hHeld
    have hHeld := hHeld2
    clear hHeld2
    clear hbk
    refine wpH_take (i := 3) (v := ?_) rfl (by kernel_rfl) (by kernel_rfl) (by kernel_rfl) (fun _ _ _ h => h) (by rfl) ?_ (by assumption) ?_; rotate_left; (focus (intro w hSw; (try dsimp only at hSw); go_simp; try with_reducible rfl)); try simp only [Act.put, List.setIfInBounds_toArray, List.set_cons_zero, List.set_cons_succ]
    refine wpAnyH_ready (rs := [7]) (by kernel_rfl) (by simp) ?_
    refine AllReadyH.cons rfl (fun K hK => ?_) AllReadyH.nil
    try dsimp only at hHeld
    go_simp
    (go_at_call 95; refine (implVar_any _ _).mono ?_; rintro e w3 ⟨rfl, hbk⟩)
    refine hK.out _ _ ?_ (fun hHeld2 => ?_)
    · try dsimp only
      (go_split_ands; first | exact HALL.out _ (by assumption) | exact HALL.out _ (Below.drew (by assumption)) | exact HALL.out _ (below_step1 (by assumption) (by assumption)))
    clear hK K hHeld
    have hHeld := hHeld2
    clear hHeld2
    clear hbk
    refine wpH_take (i := 8) (v := ?_) rfl (by kernel_rfl) (by kernel_rfl) (by kernel_rfl) (fun _ _ _ h => h) (by rfl) ?_ (by assumption) ?_; rotate_left; (focus (intro w hSw; (try dsimp only at hSw); go_simp; try with_reducible rfl)); try simp only [Act.put, List.setIfInBounds_toArray, List.set_cons_zero, List.set_cons_succ]
    refine wpH_take (i := 9) (v := ?_) rfl (by kernel_rfl) (by kernel_rfl) (by kernel_rfl) (fun _ _ _ h => h) (by rfl) ?_ (by assumption) ?_; rotate_left; (focus (intro w hSw; (try dsimp only at hSw); go_simp; try with_reducible rfl)); try simp only [Act.put, List.setIfInBounds_toArray, List.set_cons_zero, List.set_cons_succ]
    refine wpAnyH_done (by kernel_rfl) ?_ _
    try dsimp only at hHeld
    rw [HZ.out]
    have HB3 := Lib.hid (hHeld.2.2)
    have H3 := Lib.hid (H1.out.below hHeld.2.2 (Nat.le_refl _))
    have q0 := hHeld.1
    have q1 := hHeld.2.1
    have HQ := Lib.hid (And.intro q0 q1)
    clear hHeld HALL HZ hs1F hs2F hs1 hs2 hvs hvl hq1 H1
    go_wp2
    go_loopg [3, 5, 21] l.length (fun gg o x5 i wr => ∃ k : Nat, k + gg = l.length ∧ i = .int .i64 (k : Int) ∧ o = .string ⟨(bodyK seq l k).toArray⟩ ∧ Hid (Below w3.heap.size w3 wr))
    case atStart => exact ⟨0, by omega, rfl, rfl, Lib.hid (Below.refl _ _)⟩
    case round =>
      obtain ⟨k, hk, rfl, rfl, HB⟩ := hrel
      have q1r := box_below HQ.out.2 HB.out
      have hzr : w.heap.size < wr.heap.size := World.block_lt_of_cell? wr _ q1r
      by_cases hlt : k < l.length
      · obtain ⟨b, off, rfl, hbs, hc0, hc1⟩ := wrs_cells (H3.out.below HB.out (Nat.le_refl _)) k hlt
        have HST := Lib.hid (bodyK_step seq l k hlt)
        have hbl := bodyK_len seq l k (by omega) hO.out
        have hx2z := hO.out _ (List.getElem_mem hlt)
        have hi : (k : Int) < (l.length : Int) := by omega
        generalize l[k] = x at *
        obtain ⟨x1, x2⟩ := x
        simp only at hc0 hc1 HST hx2z
        have hv1 := varV_len x1
        have hv2 := pieceL_len x2
        have hv3 : (pieceB x2).size = (pieceL x2).length := ba_len_eq _
        replace hx2z : x2.size ≤ 1073741824 := by omega
        have hv4 : (pieceB x2).size ≤ 1073741832 := by omega
        clear hlt hv3 hv2
        have F0 := box0 wr 53 (.int .i64 x1) (.string x2)
        have F1 := box1 wr 53 (.int .i64 x1) (.string x2)
        have HALL : Hid (∀ W, Below (wr.alloc (.cells #[.int .i64 x1, .string x2] 53)).heap.size (wr.alloc (.cells #[.int .i64 x1, .string x2] 53)) W → (W.cell? ⟨wr.heap.size, 0, none⟩ = some (.int .i64 x1) ∧ W.cell? ⟨wr.heap.size, 1, none⟩ = some (.string x2) ∧ Below wr.heap.size wr W)) := Lib.hid (fun W hW => ⟨box_below F0 hW, box_below F1 hW, below_out hW⟩)
        have HAL2 : Hid (∀ W W', (W.cell? ⟨wr.heap.size, 0, none⟩ = some (.int .i64 x1) ∧ W.cell? ⟨wr.heap.size, 1, none⟩ = some (.string x2) ∧ Below wr.heap.size wr W) → Below W.heap.size W W' → (W'.cell? ⟨wr.heap.size, 0, none⟩ = some (.int .i64 x1) ∧ W'.cell? ⟨wr.heap.size, 1, none⟩ = some (.string x2) ∧ Below wr.heap.size wr W')) := Lib.hid (fun W W' h hb => ⟨box_below h.1 hb, box_below h.2.1 hb, below_step1 h.2.2 hb⟩)
        clear F0 F1
        go_wp2
        have hn1F : (9223372036854775807 < (bodyK seq l k).length + (varV x1).length) = False := eq_false (by omega)
        have hn2F : (9223372036854775807 < (bodyK seq l k).length + (varV x1).length + (pieceB x2).size) = False := eq_false (by omega)
        refine wp_region_held_drew (S := (fun W => W.cell? ⟨wr.heap.size, 0, none⟩ = some (.int .i64 x1) ∧ W.cell? ⟨wr.heap.size, 1, none⟩ = some (.string x2) ∧ Below wr.heap.size wr W)) (by kernel_rfl) ?_ (fun hHeld => ?_)
        · try dsimp only
          (first | exact HALL.out _ (Below.refl _ _).drew | exact HALL.out _ (Below.refl _ _) | exact HAL2.out _ _ (by assumption) (by assumption))
        change wpAnyH _ _ _ _ _ 10 #[false, false, false, false, false, false, false, false, false, false] _ _
        refine wpH_take (i := 0) (v := ?_) rfl (by kernel_rfl) (by kernel_rfl) (by kernel_rfl) (fun _ _ _ h => h) (by rfl) ?_ (by assumption) ?_; rotate_left; (focus (intro w hSw; (try dsimp only at hSw); go_simp; try with_reducible rfl)); try simp only [Act.put, List.setIfInBounds_toArray, List.set_cons_zero, List.set_cons_succ]
        refine wpH_take (i := 1) (v := ?_) rfl (by kernel_rfl) (by kernel_rfl) (by kernel_rfl) (fun _ _ _ h => h) (by rfl) ?_ (by assumption) ?_; rotate_left; (focus (intro w hSw; (try dsimp only at hSw); go_simp; try with_reducible rfl)); try simp only [Act.put, List.setIfInBounds_toArray, List.set_cons_zero, List.set_cons_succ]
        refine wpH_take (i := 2) (v := ?_) rfl (by kernel_rfl) (by kernel_rfl) (by kernel_rfl) (fun _ _ _ h => h) (by rfl) ?_ (by assumption) ?_; rotate_left; (focus (intro w hSw; (try dsimp only at hSw); go_simp; try with_reducible rfl)); try simp only [Act.put, List.setIfInBounds_toArray, List.set_cons_zero, List.set_cons_succ]
        refine wpH_take (i := 5) (v := ?_) rfl (by kernel_rfl) (by kernel_rfl) (by kernel_rfl) (fun _ _ _ h => h) (by rfl) ?_ (by assumption) ?_; rotate_left; (focus (intro w hSw; (try dsimp only at hSw); go_simp; try with_reducible rfl)); try simp only [Act.put, List.setIfInBounds_toArray, List.set_cons_zero, List.set_cons_succ]
        refine wpH_take (i := 6) (v := ?_) rfl (by kernel_rfl) (by kernel_rfl) (by kernel_rfl) (fun _ _ _ h => h) (by rfl) ?_ (by assumption) ?_; rotate_left; (focus (intro w hSw; (try dsimp only at hSw); go_simp; try with_reducible rfl)); try simp only [Act.put, List.setIfInBounds_toArray, List.set_cons_zero, List.set_cons_succ]
        refine wpAnyH_ready (rs := [3]) (by kernel_rfl) (by simp) ?_
        refine AllReadyH.cons rfl (fun K hK => ?_) AllReadyH.nil
        try dsimp only at hHeld
        go_simp
        (go_at_call 95; refine (implVar_any _ _).mono ?_; rintro e w4 ⟨rfl, hbk⟩)
        refine hK.out _ _ ?_ (fun hHeld2 => ?_)
        · try dsimp only
          (first | exact HALL.out _ (Below.refl _ _).drew | exact HALL.out _ (Below.refl _ _) | exact HAL2.out _ _ (by assumption) (by assumption))
        clear hK K hHeld
        have hHeld := hHeld2
        clear hHeld2
        clear hbk
        refine wpH_take (i := 4) (v := ?_) rfl (by kernel_rfl) (by kernel_rfl) (by kernel_rfl) (fun _ _ _ h => h) (by rfl) ?_ (by assumption) ?_; rotate_left; (focus (intro w hSw; (try dsimp only at hSw); go_simp; try with_reducible rfl)); try simp only [Act.put, List.setIfInBounds_toArray, List.set_cons_zero, List.set_cons_succ]
        refine wpAnyH_ready (rs := [7]) (by kernel_rfl) (by simp) ?_
        refine AllReadyH.cons rfl (fun K hK => ?_) AllReadyH.nil
        try dsimp only at hHeld
        go_simp
        (go_at_call 96; refine (piece_any _ hx2z _).mono ?_; rintro e w5 ⟨rfl, hbk⟩)
        refine hK.out _ _ ?_ (fun hHeld2 => ?_)
        · try dsimp only
          (first | exact HALL.out _ (Below.refl _ _).drew | exact HALL.out _ (Below.refl _ _) | exact HAL2.out _ _ (by assumption) (by assumption))
        clear hK K hHeld
        have hHeld := hHeld2
        clear hHeld2
        clear hbk
        refine wpH_take (i := 8) (v := ?_) rfl (by kernel_rfl) (by kernel_rfl) (by kernel_rfl) (fun _ _ _ h => h) (by rfl) ?_ (by assumption) ?_; rotate_left; (focus (intro w hSw; (try dsimp only at hSw); go_simp; try with_reducible rfl)); try simp only [Act.put, List.setIfInBounds_toArray, List.set_cons_zero, List.set_cons_succ]
        refine wpH_take (i := 9) (v := ?_) rfl (by kernel_rfl) (by kernel_rfl) (by kernel_rfl) (fun _ _ _ h => h) (by rfl) ?_ (by assumption) ?_; rotate_left; (focus (intro w hSw; (try dsimp only at hSw); go_simp; try with_reducible rfl)); try simp only [Act.put, List.setIfInBounds_toArray, List.set_cons_zero, List.set_cons_succ]
        refine wpAnyH_done (by kernel_rfl) ?_ _
        try dsimp only at hHeld
        rw [HST.out]
        have HB6 := Lib.hid (below_step1 HB.out hHeld.2.2)
        clear hHeld
        go_wp2
        go_roundg (gk - 1)
        case measure => omega
        case rel => exact ⟨k + 1, by omega, by go_num, rfl, HB6⟩
      · have e : k = l.length := by omega
        have hkl : ¬ (k : Int) < (l.length : Int) := by omega
        have HEK : Hid (bodyK seq l k = bodyL seq l) := Lib.hid (by rw [e]; exact HE.out)
        have hbl := bodyK_len seq l k (by omega) hO.out
        rw [HEK.out] at hbl ⊢
        clear e
        have hcr := Lib.hid (crc_wf (bodyL seq l))
        have hlf := fixed4 (bodyL seq l)
        generalize bodyL seq l = B at *
        by_cases hc : B.length + 4 ≤ 4000
        · have HSH2 : Hid (showB seq l = (⟨(fixedL (crcF B) 4).toArray⟩ : ByteArray) ++ ⟨B.toArray⟩) := Lib.hid (by unfold showB; rw [HSH.out, if_pos hc, ba_append])
          have hc2 : ¬ ((4000 : Int) < (B.length : Int) + 4) := by omega
          have hcz : (⟨B.toArray⟩ : ByteArray).size ≤ 140737488355328 := by rw [ba_len_eq]; omega
          have HCZ := Lib.hid hcz
          clear hcz HSH
          go_wp2_with fail
          refine (implCrc_any _ _ HCZ.out).mono ?_
          rintro e w4 ⟨rfl, rfl⟩
          rw [ba_data]
          go_wp2_with fail
          refine (implFixed_any _ _ hcr.out _).mono ?_
          rintro e w5 ⟨rfl, hb⟩
          have HB5 := Lib.hid (below_step1 (below_step1 (below_step1 HB1.out HB3.out) HB.out) hb)
          clear hb
          have hsum : ¬ (9223372036854775807 < (fixedL (crcF B) 4).length + B.length) := by omega
          go_wp2
          go_ret
          exact ⟨ret_str HSH2.out.symm, HB5.out⟩
        · have HSH2 : Hid (showB seq l = ⟨#[]⟩) := Lib.hid (by unfold showB; rw [HSH.out, if_neg hc])
          have hc2 : (4000 : Int) < (B.length : Int) + 4 := by omega
          clear HSH
          go_wp2
          go_ret
          exact ⟨ret_str HSH2.out.symm, below_step1 (below_step1 HB1.out HB3.out) HB.out⟩
  · have HE := Lib.hid (showL_no seq l (by simpa using hok))
    have hok : txnB seq l = false := by simpa using hok
    rw [hok]
    clear hok
    go_wp2
    go_ret
    exact ⟨ret_str (by unfold showB; rw [HE.out]), HB1.out⟩
set_option maxRecDepth 1000000 in
set_option maxHeartbeats 6000000 in
theorem specShow_any (seq : Int) (a : Option Addr) (c : Nat) (l : OutL) (w : World) (h : Rd w a l.length c 2 (wrs l)) (hn : l.length ≤ 1048576) :
    Calls Try.prog 53 #[txV seq a l.length c] w fun e w' => e = .returned (.string (showB seq l)) ∧ Below w.heap.size w w' := by
  unfold txV
  have HBX := Lib.hid (box_alloc w (.cells #[.int .i64 seq, .slice a l.length c] 72))
  have H := Lib.hid (h.below HBX.out (Nat.le_refl _))
  have c0 := box0 w 72 (.int .i64 seq) (.slice a l.length c)
  have c1 := box1 w 72 (.int .i64 seq) (.slice a l.length c)
  clear h
  go_enter Try.func53, Try.ntmps53
  go_wp2_with fail
  refine (specTxnOk_any seq a c l _ H.out hn).mono ?_
  rintro e w1 ⟨rfl, hb⟩
  replace c0 := box_below c0 hb
  replace c1 := box_below c1 hb
  have HB1 := Lib.hid (below_step1 HBX.out hb)
  have H1 := Lib.hid (H.out.below hb (Nat.le_refl _))
  have hz1 : w.heap.size < w1.heap.size := World.block_lt_of_cell? w1 _ c0
  clear hb H HBX
  by_cases hok : txnB seq l = true
  · obtain ⟨-, ⟨hl0, hl1⟩, hup⟩ := (txnB_iff seq l).1 hok
    have hO := Lib.hid (fun x hx => (upTo_out l hup x hx).2.2)
    have HSH := Lib.hid (showL_eq seq l hok)
    have HE := Lib.hid (bodyK_end seq l)
    have HZ := Lib.hid (bodyK_zero seq l)
    have hvs := varV_len seq
    have hvl := varV_len l.length
    have hs1 : 1 + (varV seq).length ≤ 9223372036854775807 := by omega
    have hs2 : 1 + (varV seq).length + (varV (l.length : Int)).length ≤ 9223372036854775807 := by omega
    have hq1 : (⟨#[116]⟩ : ByteArray).size = 1 := rfl
    rw [hok]
    clear hup hok
    have HALL : Hid (∀ W, Below w1.heap.size w1 W → (W.cell? ⟨w.heap.size, 0, none⟩ = some (.int .i64 seq) ∧ W.cell? ⟨w.heap.size, 1, none⟩ = some (.slice a l.length c) ∧ Below w1.heap.size w1 W)) := Lib.hid (fun W hW => ⟨box_below c0 hW, box_below c1 hW, hW⟩)
    have hB0 := Below.refl w1.heap.size w1
    clear c0 c1
    go_wp2
    have hs1F : (9223372036854775807 < 1 + (varV seq).length) = False := eq_false (by omega)
    have hs2F : (9223372036854775807 < 1 + (varV seq).length + (varV (l.length : Int)).length) = False := eq_false (by omega)
    refine wp_region_held_drew (S := (fun W => W.cell? ⟨w.heap.size, 0, none⟩ = some (.int .i64 seq) ∧ W.cell? ⟨w.heap.size, 1, none⟩ = some (.slice a l.length c) ∧ Below w1.heap.size w1 W)) (by kernel_rfl) ?_ (fun hHeld => ?_)
    · try dsimp only
      (go_split_ands; first | exact HALL.out _ (by assumption) | exact HALL.out _ (Below.drew (by assumption)) | exact HALL.out _ (below_step1 (by assumption) (by assumption)))
    change wpAnyH _ _ _ _ _ 10 #[false, false, false, false, false, false, false, false, false, false] _ _
    clear hB0
    refine wpH_take (i := 0) (v := ?_) rfl (by kernel_rfl) (by kernel_rfl) (by kernel_rfl) (fun _ _ _ h => h) (by rfl) ?_ (by assumption) ?_; rotate_left; (focus (intro w hSw; (try dsimp only at hSw); go_simp; try with_reducible rfl)); try simp only [Act.put, List.setIfInBounds_toArray, List.set_cons_zero, List.set_cons_succ]
    refine wpH_take (i := 1) (v := ?_) rfl (by kernel_rfl) (by kernel_rfl) (by kernel_rfl) (fun _ _ _ h => h) (by rfl) ?_ (by assumption) ?_; rotate_left; (focus (intro w hSw; (try dsimp only at hSw); go_simp; try with_reducible rfl)); try simp only [Act.put, List.setIfInBounds_toArray, List.set_cons_zero, List.set_cons_succ]
    refine wpH_take (i := 4) (v := ?_) rfl (by kernel_rfl) (by kernel_rfl) (by kernel_rfl) (fun _ _ _ h => h) (by rfl) ?_ (by assumption) ?_; rotate_left; (focus (intro w hSw; (try dsimp only at hSw); go_simp; try with_reducible rfl)); try simp only [Act.put, List.setIfInBounds_toArray, List.set_cons_zero, List.set_cons_succ]
    refine wpH_take (i := 5) (v := ?_) rfl (by kernel_rfl) (by kernel_rfl) (by kernel_rfl) (fun _ _ _ h => h) (by rfl) ?_ (by assumption) ?_; rotate_left; (focus (intro w hSw; (try dsimp only at hSw); go_simp; try with_reducible rfl)); try simp only [Act.put, List.setIfInBounds_toArray, List.set_cons_zero, List.set_cons_succ]
    refine wpH_take (i := 6) (v := ?_) rfl (by kernel_rfl) (by kernel_rfl) (by kernel_rfl) (fun _ _ _ h => h) (by rfl) ?_ (by assumption) ?_; rotate_left; (focus (intro w hSw; (try dsimp only at hSw); go_simp; try with_reducible rfl)); try simp only [Act.put, List.setIfInBounds_toArray, List.set_cons_zero, List.set_cons_succ]
    refine wpAnyH_ready (rs := [2]) (by kernel_rfl) (by simp) ?_
    refine AllReadyH.cons rfl (fun K hK => ?_) AllReadyH.nil
    try dsimp only at hHeld
    go_simp
    (go_at_call 90; refine (specVar_any _ _).mono ?_; rintro e w2 ⟨rfl, hbk⟩)
    refine hK.out _ _ ?_ (fun hHeld2 => ?_)
    · try dsimp only
      (go_split_ands; first | exact HALL.out _ (by assumption) | exact HALL.out _ (Below.drew (by assumption)) | exact HALL.out _ (below_step1 (by assumption) (by assumption)))
    clear hK K hHeld
    have hHeld := hHeld2
    clear hHeld2
    clear hbk
    refine wpH_take (i := 3) (v := ?_) rfl (by kernel_rfl) (by kernel_rfl) (by kernel_rfl) (fun _ _ _ h => h) (by rfl) ?_ (by assumption) ?_; rotate_left; (focus (intro w hSw; (try dsimp only at hSw); go_simp; try with_reducible rfl)); try simp only [Act.put, List.setIfInBounds_toArray, List.set_cons_zero, List.set_cons_succ]
    refine wpAnyH_ready (rs := [7]) (by kernel_rfl) (by simp) ?_
    refine AllReadyH.cons rfl (fun K hK => ?_) AllReadyH.nil
    try dsimp only at hHeld
    go_simp
    (go_at_call 90; refine (specVar_any _ _).mono ?_; rintro e w3 ⟨rfl, hbk⟩)
    refine hK.out _ _ ?_ (fun hHeld2 => ?_)
    · try dsimp only
      (go_split_ands; first | exact HALL.out _ (by assumption) | exact HALL.out _ (Below.drew (by assumption)) | exact HALL.out _ (below_step1 (by assumption) (by assumption)))
    clear hK K hHeld
    have hHeld := hHeld2
    clear hHeld2
    clear hbk
    refine wpH_take (i := 8) (v := ?_) rfl (by kernel_rfl) (by kernel_rfl) (by kernel_rfl) (fun _ _ _ h => h) (by rfl) ?_ (by assumption) ?_; rotate_left; (focus (intro w hSw; (try dsimp only at hSw); go_simp; try with_reducible rfl)); try simp only [Act.put, List.setIfInBounds_toArray, List.set_cons_zero, List.set_cons_succ]
    refine wpH_take (i := 9) (v := ?_) rfl (by kernel_rfl) (by kernel_rfl) (by kernel_rfl) (fun _ _ _ h => h) (by rfl) ?_ (by assumption) ?_; rotate_left; (focus (intro w hSw; (try dsimp only at hSw); go_simp; try with_reducible rfl)); try simp only [Act.put, List.setIfInBounds_toArray, List.set_cons_zero, List.set_cons_succ]
    refine wpAnyH_done (by kernel_rfl) ?_ _
    try dsimp only at hHeld
    rw [HZ.out]
    have HB3 := Lib.hid (hHeld.2.2)
    have H3 := Lib.hid (H1.out.below hHeld.2.2 (Nat.le_refl _))
    have q0 := hHeld.1
    have q1 := hHeld.2.1
    have HQ := Lib.hid (And.intro q0 q1)
    clear hHeld HALL HZ hs1F hs2F hs1 hs2 hvs hvl hq1 H1
    go_wp2
    go_loopg [3, 4] l.length (fun gg o i wr => ∃ k : Nat, k + gg = l.length ∧ i = .int .i64 (k : Int) ∧ o = .string ⟨(bodyK seq l k).toArray⟩ ∧ Hid (Below w3.heap.size w3 wr))
    case atStart => exact ⟨0, by omega, rfl, rfl, Lib.hid (Below.refl _ _)⟩
    case round =>
      obtain ⟨k, hk, rfl, rfl, HB⟩ := hrel
      have q1r := box_below HQ.out.2 HB.out
      have hzr : w.heap.size < wr.heap.size := World.block_lt_of_cell? wr _ q1r
      by_cases hlt : k < l.length
      · obtain ⟨b, off, rfl, hbs, hc0, hc1⟩ := wrs_cells (H3.out.below HB.out (Nat.le_refl _)) k hlt
        have HST := Lib.hid (bodyK_step seq l k hlt)
        have hbl := bodyK_len seq l k (by omega) hO.out
        have hx2z := hO.out _ (List.getElem_mem hlt)
        have hi : (k : Int) < (l.length : Int) := by omega
        generalize l[k] = x at *
        obtain ⟨x1, x2⟩ := x
        simp only at hc0 hc1 HST hx2z
        have hv1 := varV_len x1
        have hv2 := pieceL_len x2
        have hv3 : (pieceB x2).size = (pieceL x2).length := ba_len_eq _
        replace hx2z : x2.size ≤ 1073741824 := by omega
        have hv4 : (pieceB x2).size ≤ 1073741832 := by omega
        clear hlt hv3 hv2
        have HAL2 : Hid (∀ W W', (W.cell? ⟨w.heap.size, 1, none⟩ = some (.slice (some ⟨b, off, none⟩) l.length c) ∧ W.cell? ⟨b, off + k * 2, none⟩ = some (.int .i64 x1) ∧ W.cell? ⟨b, off + k * 2 + 1, none⟩ = some (.string x2) ∧ Below wr.heap.size wr W) → Below W.heap.size W W' → (W'.cell? ⟨w.heap.size, 1, none⟩ = some (.slice (some ⟨b, off, none⟩) l.length c) ∧ W'.cell? ⟨b, off + k * 2, none⟩ = some (.int .i64 x1) ∧ W'.cell? ⟨b, off + k * 2 + 1, none⟩ = some (.string x2) ∧ Below wr.heap.size wr W')) := Lib.hid (fun W W' h hb => ⟨box_below h.1 hb, box_below h.2.1 hb, box_below h.2.2.1 hb, below_step1 h.2.2.2 hb⟩)
        have HF := Lib.hid (And.intro q1r (And.intro hc0 (And.intro hc1 (Below.refl wr.heap.size wr))))
        have hi0 : (0 : Int) ≤ (k : Int) := by omega
        clear hc0 hc1
        go_wp2
        have hn1F : (9223372036854775807 < (bodyK seq l k).length + (varV x1).length) = False := eq_false (by omega)
        have hn2F : (9223372036854775807 < (bodyK seq l k).length + (varV x1).length + (pieceB x2).size) = False := eq_false (by omega)
        refine wp_region_held_drew (S := (fun W => W.cell? ⟨w.heap.size, 1, none⟩ = some (.slice (some ⟨b, off, none⟩) l.length c) ∧ W.cell? ⟨b, off + k * 2, none⟩ = some (.int .i64 x1) ∧ W.cell? ⟨b, off + k * 2 + 1, none⟩ = some (.string x2) ∧ Below wr.heap.size wr W)) (by kernel_rfl) ?_ (fun hHeld => ?_)
        · try dsimp only
          (first | exact HF.out | exact ⟨HF.out.1, HF.out.2.1, HF.out.2.2.1, HF.out.2.2.2.drew⟩ | exact HAL2.out _ _ (by assumption) (by assumption))
        change wpAnyH _ _ _ _ _ 18 #[false, false, false, false, false, false, false, false, false, false, false, false, false, false, false, false, false, false] _ _
        refine wpH_take (i := 0) (v := ?_) rfl (by kernel_rfl) (by kernel_rfl) (by kernel_rfl) (fun _ _ _ h => h) (by rfl) ?_ (by assumption) ?_; rotate_left; (focus (intro w hSw; (try dsimp only at hSw); go_simp; try with_reducible rfl)); try simp only [Act.put, List.setIfInBounds_toArray, List.set_cons_zero, List.set_cons_succ]
        refine wpH_take (i := 1) (v := ?_) rfl (by kernel_rfl) (by kernel_rfl) (by kernel_rfl) (fun _ _ _ h => h) (by rfl) ?_ (by assumption) ?_; rotate_left; (focus (intro w hSw; (try dsimp only at hSw); go_simp; try with_reducible rfl)); try simp only [Act.put, List.setIfInBounds_toArray, List.set_cons_zero, List.set_cons_succ]
        refine wpH_take (i := 2) (v := ?_) rfl (by kernel_rfl) (by kernel_rfl) (by kernel_rfl) (fun _ _ _ h => h) (by rfl) ?_ (by assumption) ?_; rotate_left; (focus (intro w hSw; (try dsimp only at hSw); go_simp; try with_reducible rfl)); try simp only [Act.put, List.setIfInBounds_toArray, List.set_cons_zero, List.set_cons_succ]
        refine wpH_take (i := 3) (v := ?_) rfl (by kernel_rfl) (by kernel_rfl) (by kernel_rfl) (fun _ _ _ h => h) (by rfl) ?_ (by assumption) ?_; rotate_left; (focus (intro w hSw; (try dsimp only at hSw); go_simp; try with_reducible rfl)); try simp only [Act.put, List.setIfInBounds_toArray, List.set_cons_zero, List.set_cons_succ]
        refine wpH_take (i := 4) (v := ?_) rfl (by kernel_rfl) (by kernel_rfl) (by kernel_rfl) (fun _ _ _ h => h) (by rfl) ?_ (by assumption) ?_; rotate_left; (focus (intro w hSw; (try dsimp only at hSw); go_simp; try with_reducible rfl)); try simp only [Act.put, List.setIfInBounds_toArray, List.set_cons_zero, List.set_cons_succ]
        refine wpH_take (i := 5) (v := ?_) rfl (by kernel_rfl) (by kernel_rfl) (by kernel_rfl) (fun _ _ _ h => h) (by rfl) ?_ (by assumption) ?_; rotate_left; (focus (intro w hSw; (try dsimp only at hSw); go_simp; try with_reducible rfl)); try simp only [Act.put, List.setIfInBounds_toArray, List.set_cons_zero, List.set_cons_succ]
        refine wpH_take (i := 6) (v := ?_) rfl (by kernel_rfl) (by kernel_rfl) (by kernel_rfl) (fun _ _ _ h => h) (by rfl) ?_ (by assumption) ?_; rotate_left; (focus (intro w hSw; (try dsimp only at hSw); go_simp; try with_reducible rfl)); try simp only [Act.put, List.setIfInBounds_toArray, List.set_cons_zero, List.set_cons_succ]
        refine wpH_take (i := 9) (v := ?_) rfl (by kernel_rfl) (by kernel_rfl) (by kernel_rfl) (fun _ _ _ h => h) (by rfl) ?_ (by assumption) ?_; rotate_left; (focus (intro w hSw; (try dsimp only at hSw); go_simp; try with_reducible rfl)); try simp only [Act.put, List.setIfInBounds_toArray, List.set_cons_zero, List.set_cons_succ]
        refine wpH_take (i := 10) (v := ?_) rfl (by kernel_rfl) (by kernel_rfl) (by kernel_rfl) (fun _ _ _ h => h) (by rfl) ?_ (by assumption) ?_; rotate_left; (focus (intro w hSw; (try dsimp only at hSw); go_simp; try with_reducible rfl)); try simp only [Act.put, List.setIfInBounds_toArray, List.set_cons_zero, List.set_cons_succ]
        refine wpH_take (i := 11) (v := ?_) rfl (by kernel_rfl) (by kernel_rfl) (by kernel_rfl) (fun _ _ _ h => h) (by rfl) ?_ (by assumption) ?_; rotate_left; (focus (intro w hSw; (try dsimp only at hSw); go_simp; try with_reducible rfl)); try simp only [Act.put, List.setIfInBounds_toArray, List.set_cons_zero, List.set_cons_succ]
        refine wpH_take (i := 12) (v := ?_) rfl (by kernel_rfl) (by kernel_rfl) (by kernel_rfl) (fun _ _ _ h => h) (by rfl) ?_ (by assumption) ?_; rotate_left; (focus (intro w hSw; (try dsimp only at hSw); go_simp; try with_reducible rfl)); try simp only [Act.put, List.setIfInBounds_toArray, List.set_cons_zero, List.set_cons_succ]
        refine wpH_take (i := 13) (v := ?_) rfl (by kernel_rfl) (by kernel_rfl) (by kernel_rfl) (fun _ _ _ h => h) (by rfl) ?_ (by assumption) ?_; rotate_left; (focus (intro w hSw; (try dsimp only at hSw); go_simp; try with_reducible rfl)); try simp only [Act.put, List.setIfInBounds_toArray, List.set_cons_zero, List.set_cons_succ]
        refine wpH_take (i := 14) (v := ?_) rfl (by kernel_rfl) (by kernel_rfl) (by kernel_rfl) (fun _ _ _ h => h) (by rfl) ?_ (by assumption) ?_; rotate_left; (focus (intro w hSw; (try dsimp only at hSw); go_simp; try with_reducible rfl)); try simp only [Act.put, List.setIfInBounds_toArray, List.set_cons_zero, List.set_cons_succ]
        refine wpAnyH_ready (rs := [7]) (by kernel_rfl) (by simp) ?_
        refine AllReadyH.cons rfl (fun K hK => ?_) AllReadyH.nil
        try dsimp only at hHeld
        go_simp
        (go_at_call 90; refine (specVar_any _ _).mono ?_; rintro e w4 ⟨rfl, hbk⟩)
        refine hK.out _ _ ?_ (fun hHeld2 => ?_)
        · try dsimp only
          (first | exact HF.out | exact ⟨HF.out.1, HF.out.2.1, HF.out.2.2.1, HF.out.2.2.2.drew⟩ | exact HAL2.out _ _ (by assumption) (by assumption))
        clear hK K hHeld
        have hHeld := hHeld2
        clear hHeld2
        clear hbk
        refine wpH_take (i := 8) (v := ?_) rfl (by kernel_rfl) (by kernel_rfl) (by kernel_rfl) (fun _ _ _ h => h) (by rfl) ?_ (by assumption) ?_; rotate_left; (focus (intro w hSw; (try dsimp only at hSw); go_simp; try with_reducible rfl)); try simp only [Act.put, List.setIfInBounds_toArray, List.set_cons_zero, List.set_cons_succ]
        refine wpAnyH_ready (rs := [15]) (by kernel_rfl) (by simp) ?_
        refine AllReadyH.cons rfl (fun K hK => ?_) AllReadyH.nil
        try dsimp only at hHeld
        go_simp
        (go_at_call 91; refine (l7Piece_any _ hx2z _).mono ?_; rintro e w5 ⟨rfl, hbk⟩)
        refine hK.out _ _ ?_ (fun hHeld2 => ?_)
        · try dsimp only
          (first | exact HF.out | exact ⟨HF.out.1, HF.out.2.1, HF.out.2.2.1, HF.out.2.2.2.drew⟩ | exact HAL2.out _ _ (by assumption) (by assumption))
        clear hK K hHeld
        have hHeld := hHeld2
        clear hHeld2
        clear hbk
        refine wpH_take (i := 16) (v := ?_) rfl (by kernel_rfl) (by kernel_rfl) (by kernel_rfl) (fun _ _ _ h => h) (by rfl) ?_ (by assumption) ?_; rotate_left; (focus (intro w hSw; (try dsimp only at hSw); go_simp; try with_reducible rfl)); try simp only [Act.put, List.setIfInBounds_toArray, List.set_cons_zero, List.set_cons_succ]
        refine wpH_take (i := 17) (v := ?_) rfl (by kernel_rfl) (by kernel_rfl) (by kernel_rfl) (fun _ _ _ h => h) (by rfl) ?_ (by assumption) ?_; rotate_left; (focus (intro w hSw; (try dsimp only at hSw); go_simp; try with_reducible rfl)); try simp only [Act.put, List.setIfInBounds_toArray, List.set_cons_zero, List.set_cons_succ]
        refine wpAnyH_done (by kernel_rfl) ?_ _
        try dsimp only at hHeld
        rw [HST.out]
        have HB6 := Lib.hid (below_step1 HB.out hHeld.2.2.2)
        clear hHeld
        go_wp2
        go_roundg (gk - 1)
        case measure => omega
        case rel => exact ⟨k + 1, by omega, by go_num, rfl, HB6⟩
      · have e : k = l.length := by omega
        have hkl : ¬ (k : Int) < (l.length : Int) := by omega
        have HEK : Hid (bodyK seq l k = bodyL seq l) := Lib.hid (by rw [e]; exact HE.out)
        have hbl := bodyK_len seq l k (by omega) hO.out
        rw [HEK.out] at hbl ⊢
        clear e
        have hcr := Lib.hid (crc_wf (bodyL seq l))
        have hlf := fixed4 (bodyL seq l)
        generalize bodyL seq l = B at *
        have hcz : (⟨B.toArray⟩ : ByteArray).size ≤ 140737488355328 := by rw [ba_len_eq]; omega
        have HCZ := Lib.hid hcz
        clear hcz
        go_wp2_with fail
        refine (specCrc_any _ _ HCZ.out).mono ?_
        rintro e w4 ⟨rfl, rfl⟩
        rw [ba_data]
        go_wp2_with fail
        refine (specFixed_any _ _ hcr.out _).mono ?_
        rintro e w5 ⟨rfl, hb⟩
        have HB5 := Lib.hid (below_step1 (below_step1 (below_step1 HB1.out HB3.out) HB.out) hb)
        clear hb
        have hsum : ¬ (9223372036854775807 < (fixedL (crcF B) 4).length + B.length) := by omega
        by_cases hc : B.length + 4 ≤ 4000
        · have HSH2 : Hid (showB seq l = (⟨(fixedL (crcF B) 4).toArray⟩ : ByteArray) ++ ⟨B.toArray⟩) := Lib.hid (by unfold showB; rw [HSH.out, if_pos hc, ba_append])
          have hc2 : ¬ ((4000 : Int) < ((fixedL (crcF B) 4).length : Int) + (B.length : Int)) := by omega
          clear HSH
          go_wp2
          go_ret
          exact ⟨ret_str HSH2.out.symm, HB5.out⟩
        · have HSH2 : Hid (showB seq l = ⟨#[]⟩) := Lib.hid (by unfold showB; rw [HSH.out, if_neg hc])
          have hc2 : (4000 : Int) < ((fixedL (crcF B) 4).length : Int) + (B.length : Int) := by omega
          clear HSH
          go_wp2
          go_ret
          exact ⟨ret_str HSH2.out.symm, HB5.out⟩
  · have HE := Lib.hid (showL_no seq l (by simpa using hok))
    have hok : txnB seq l = false := by simpa using hok
    rw [hok]
    clear hok
    go_wp2
    go_ret
    exact ⟨ret_str (by unfold showB; rw [HE.out]), HB1.out⟩
end Go.Proofs.Ytbokgbbdjcpgbaa
