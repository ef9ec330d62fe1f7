import Derived.Test.YtlkfabkkjfmnmaaKak
import Derived.Test.YtlkfabkkjfmnmaaKao
import Derived.Test.YtlkfabkkjfmnmaaKbo
import Derived.Deep.DeepCutAuto
namespace Go.Proofs.Ytlkfabkkjfmnmaa
open Go.RowKit
set_option linter.all false
def entApp (o : ByteArray) (e : EntL) : ByteArray := o ++ ⟨(varV e.index).toArray⟩ ++ pieceB e.name ++ ⟨(varV e.id).toArray⟩
def inHead (x : InoL) : ByteArray := (⟨#[105]⟩ : ByteArray) ++ ⟨(varV x.id).toArray⟩ ++ ⟨(varV x.kind).toArray⟩ ++ ⟨(varV x.links).toArray⟩ ++ pieceB x.data ++ ⟨(varV (x.ents.length : Int)).toArray⟩
def inB (x : InoL) : ByteArray := x.ents.foldl entApp (inHead x)
def uB (next : Int) (l : List InoL) : ByteArray := (⟨#[117]⟩ : ByteArray) ++ ⟨(varV next).toArray⟩ ++ ⟨(varV (l.length : Int)).toArray⟩
def blkAt (l : List InoL) (k : Nat) : ByteArray := (l.map inB).getD k ByteArray.empty
def blkF (next : Int) (l : List InoL) : List ByteArray := uB next l :: (List.range 16).map (blkAt l)
theorem blkF_len (next : Int) (l : List InoL) : (blkF next l).length = 17 := by simp [blkF]
theorem blkF_step (next : Int) (l : List InoL) (k : Nat) (h : k < 16) : (blkF next l).take (k + 2) = (blkF next l).take (k + 1) ++ [blkAt l k] := by
 have hl : k + 1 < (blkF next l).length := by rw [blkF_len]; omega
 rw [List.take_succ_eq_append_getElem hl]
 congr 2
 simp [blkF]
theorem blkAt_in (l : List InoL) (k : Nat) (h : k < l.length) : blkAt l k = inB l[k] := by unfold blkAt; rw [List.getD_eq_getElem?_getD, List.getElem?_map, List.getElem?_eq_getElem h]; rfl
theorem blkAt_out (l : List InoL) (k : Nat) (h : l.length ≤ k) : blkAt l k = ByteArray.empty := by unfold blkAt; rw [List.getD_eq_getElem?_getD, List.getElem?_map, List.getElem?_eq_none h]; rfl
theorem pieceB_size (s : ByteArray) : (pieceB s).size ≤ s.size + 7 := by
 have h1 := varV_len s.size
 have e : (pieceB s).size = (pieceL s).length := List.size_toArray
 have e2 : (pieceL s).length = (varV s.size).length + s.size := by unfold pieceL; rw [List.length_append, data_len]
 omega
theorem entFold_step (es : List EntL) (o : ByteArray) (k : Nat) (h : k < es.length) : (es.take (k + 1)).foldl entApp o = entApp ((es.take k).foldl entApp o) es[k] := by
 rw [List.take_succ_eq_append_getElem h, List.foldl_append]; rfl
theorem inHead_size (x : InoL) (h : x.data.size ≤ 1073741824) : (inHead x).size ≤ 2147483648 := by
 unfold inHead
 have h1 := varV_len x.id
 have h2 := varV_len x.kind
 have h4 := varV_len x.links
 have h5 := varV_len (x.ents.length : Int)
 have h3 := pieceB_size x.data
 have h0 : (⟨#[105]⟩ : ByteArray).size = 1 := rfl
 simp only [ByteArray.size_append, ba_size, h0]
 omega
set_option maxRecDepth 1000000 in
set_option maxHeartbeats 6000000 in
theorem specInode_any (x : InoL) (ad : Option Addr) (c : Nat) (w : World) (he : Rd w ad x.ents.length c 4 (ens x.ents)) (hd : x.data.size ≤ 1073741824) (hs : ∀ s ∈ x.ents, s.name.size ≤ 1073741824) (hn : x.ents.length ≤ 1000) :
  Calls Try.prog 16 #[.agg #[.int .i64 x.id, .int .i64 x.kind, .int .i64 x.links, .string x.data, .slice ad x.ents.length c]] w fun e w' => e = .returned (.string (inB x)) ∧ Below w.heap.size w w' := by
 have HT : Hid (inHead x = (⟨#[105]⟩ : ByteArray) ++ ⟨(varV x.id).toArray⟩ ++ ⟨(varV x.kind).toArray⟩ ++ ⟨(varV x.links).toArray⟩ ++ pieceB x.data ++ ⟨(varV (x.ents.length : Int)).toArray⟩) := Lib.hid rfl
 have HIB : Hid (inB x = x.ents.foldl entApp (inHead x)) := Lib.hid rfl
 have hih := inHead_size x hd
 generalize inHead x = hh at *
 generalize inB x = ib at *
 obtain ⟨x0, x1, x2, x3, es⟩ := x
 simp only at he hs hd hn HT HIB
 have hv0 := varV_len x0
 have hv1 := varV_len x1
 have hv2 := varV_len x2
 have hv3 := varV_len (es.length : Int)
 have hp := pieceB_size x3
 have HS := Lib.hid hs
 have HBX := Lib.hid (boxA w (.cells #[.int .i64 x0, .int .i64 x1, .int .i64 x2, .string x3, .slice ad es.length c] 49))
 have HE := Lib.hid (he.below HBX.out (Nat.le_refl _))
 have hme := Nat.le_trans he.le he.max
 unfold maxLen at hme
 obtain ⟨c0, c1, c2, c3, c4⟩ := box5 w 49 (.int .i64 x0) (.int .i64 x1) (.int .i64 x2) (.string x3) (.slice ad es.length c)
 clear he hs
 go_enter Try.func16, Try.ntmps16
 go_upto_region 1 with fail
 have hzw : w.heap.size < (w.alloc (.cells #[.int .i64 x0, .int .i64 x1, .int .i64 x2, .string x3, .slice ad es.length c] 49)).heap.size := by simp
 generalize w.alloc (.cells #[.int .i64 x0, .int .i64 x1, .int .i64 x2, .string x3, .slice ad es.length c] 49) = w1 at *
 have HALL : Hid (∀ W, Below w1.heap.size w1 W → (W.cell? ⟨w.heap.size, 0, none⟩ = some (.int .i64 x0) ∧ W.cell? ⟨w.heap.size, 1, none⟩ = some (.int .i64 x1) ∧ W.cell? ⟨w.heap.size, 2, none⟩ = some (.int .i64 x2) ∧ W.cell? ⟨w.heap.size, 3, none⟩ = some (.string x3) ∧ W.cell? ⟨w.heap.size, 4, none⟩ = some (.slice ad es.length c) ∧ Below w1.heap.size w1 W)) := Lib.hid (fun W hW => ⟨cellK c0 hW, cellK c1 hW, cellK c2 hW, cellK c3 hW, cellK c4 hW, hW⟩)
 have hB0 := Below.refl w1.heap.size w1
 clear c0 c1 c2 c3 c4
 have a1F : (9223372036854775807 < 1 + (varV x0).length) = False := eq_false (by omega)
 have a2F : (9223372036854775807 < 1 + (varV x0).length + (varV x1).length) = False := eq_false (by omega)
 have a3F : (9223372036854775807 < 1 + (varV x0).length + (varV x1).length + (varV x2).length) = False := eq_false (by omega)
 have a4F : (9223372036854775807 < 1 + (varV x0).length + (varV x1).length + (varV x2).length + (pieceB x3).size) = False := eq_false (by omega)
 have a5F : (9223372036854775807 < 1 + (varV x0).length + (varV x1).length + (varV x2).length + (pieceB x3).size + (varV (es.length : Int)).length) = False := eq_false (by omega)
 have hq1 : (⟨#[105]⟩ : ByteArray).size = 1 := rfl
 refine wp_region_held_drew (S := (fun W => W.cell? ⟨w.heap.size, 0, none⟩ = some (.int .i64 x0) ∧ W.cell? ⟨w.heap.size, 1, none⟩ = some (.int .i64 x1) ∧ W.cell? ⟨w.heap.size, 2, none⟩ = some (.int .i64 x2) ∧ W.cell? ⟨w.heap.size, 3, none⟩ = some (.string x3) ∧ W.cell? ⟨w.heap.size, 4, none⟩ = some (.slice ad es.length c) ∧ Below w1.heap.size w1 W)) (by kernel_rfl) ?_ (fun hHeld => ?_)
 ·try dsimp only
  (go_split_ands; first | exact HALL.out _ (by assumption) | exact HALL.out _ (Below.drew (by assumption)) | exact HALL.out _ (below_step1 (by assumption) (by assumption)))
 change wpAnyH _ _ _ _ _ 22 #[false, false, false, false, false, false, false, false, false, false, false, false, false, false, false, false, false, false, false, false, false, false] _ _
 clear hB0
 refine wpH_take (i := 0) (v := ?_) rfl (by kernel_rfl) (by kernel_rfl) (by kernel_rfl) (fun _ _ _ h => h) (by rfl) ?_ (by assumption) ?_; rotate_left; (focus (intro w hSw; (try dsimp only at hSw); go_simp; try with_reducible rfl)); try simp only [Act.put, List.setIfInBounds_toArray, List.set_cons_zero, List.set_cons_succ]
 refine wpH_take (i := 1) (v := ?_) rfl (by kernel_rfl) (by kernel_rfl) (by kernel_rfl) (fun _ _ _ h => h) (by rfl) ?_ (by assumption) ?_; rotate_left; (focus (intro w hSw; (try dsimp only at hSw); go_simp; try with_reducible rfl)); try simp only [Act.put, List.setIfInBounds_toArray, List.set_cons_zero, List.set_cons_succ]
 refine wpH_take (i := 4) (v := ?_) rfl (by kernel_rfl) (by kernel_rfl) (by kernel_rfl) (fun _ _ _ h => h) (by rfl) ?_ (by assumption) ?_; rotate_left; (focus (intro w hSw; (try dsimp only at hSw); go_simp; try with_reducible rfl)); try simp only [Act.put, List.setIfInBounds_toArray, List.set_cons_zero, List.set_cons_succ]
 refine wpH_take (i := 5) (v := ?_) rfl (by kernel_rfl) (by kernel_rfl) (by kernel_rfl) (fun _ _ _ h => h) (by rfl) ?_ (by assumption) ?_; rotate_left; (focus (intro w hSw; (try dsimp only at hSw); go_simp; try with_reducible rfl)); try simp only [Act.put, List.setIfInBounds_toArray, List.set_cons_zero, List.set_cons_succ]
 refine wpH_take (i := 8) (v := ?_) rfl (by kernel_rfl) (by kernel_rfl) (by kernel_rfl) (fun _ _ _ h => h) (by rfl) ?_ (by assumption) ?_; rotate_left; (focus (intro w hSw; (try dsimp only at hSw); go_simp; try with_reducible rfl)); try simp only [Act.put, List.setIfInBounds_toArray, List.set_cons_zero, List.set_cons_succ]
 refine wpH_take (i := 9) (v := ?_) rfl (by kernel_rfl) (by kernel_rfl) (by kernel_rfl) (fun _ _ _ h => h) (by rfl) ?_ (by assumption) ?_; rotate_left; (focus (intro w hSw; (try dsimp only at hSw); go_simp; try with_reducible rfl)); try simp only [Act.put, List.setIfInBounds_toArray, List.set_cons_zero, List.set_cons_succ]
 refine wpH_take (i := 12) (v := ?_) rfl (by kernel_rfl) (by kernel_rfl) (by kernel_rfl) (fun _ _ _ h => h) (by rfl) ?_ (by assumption) ?_; rotate_left; (focus (intro w hSw; (try dsimp only at hSw); go_simp; try with_reducible rfl)); try simp only [Act.put, List.setIfInBounds_toArray, List.set_cons_zero, List.set_cons_succ]
 refine wpH_take (i := 13) (v := ?_) rfl (by kernel_rfl) (by kernel_rfl) (by kernel_rfl) (fun _ _ _ h => h) (by rfl) ?_ (by assumption) ?_; rotate_left; (focus (intro w hSw; (try dsimp only at hSw); go_simp; try with_reducible rfl)); try simp only [Act.put, List.setIfInBounds_toArray, List.set_cons_zero, List.set_cons_succ]
 refine wpH_take (i := 16) (v := ?_) rfl (by kernel_rfl) (by kernel_rfl) (by kernel_rfl) (fun _ _ _ h => h) (by rfl) ?_ (by assumption) ?_; rotate_left; (focus (intro w hSw; (try dsimp only at hSw); go_simp; try with_reducible rfl)); try simp only [Act.put, List.setIfInBounds_toArray, List.set_cons_zero, List.set_cons_succ]
 refine wpH_take (i := 17) (v := ?_) rfl (by kernel_rfl) (by kernel_rfl) (by kernel_rfl) (fun _ _ _ h => h) (by rfl) ?_ (by assumption) ?_; rotate_left; (focus (intro w hSw; (try dsimp only at hSw); go_simp; try with_reducible rfl)); try simp only [Act.put, List.setIfInBounds_toArray, List.set_cons_zero, List.set_cons_succ]
 refine wpH_take (i := 18) (v := ?_) rfl (by kernel_rfl) (by kernel_rfl) (by kernel_rfl) (fun _ _ _ h => h) (by rfl) ?_ (by assumption) ?_; rotate_left; (focus (intro w hSw; (try dsimp only at hSw); go_simp; try with_reducible rfl)); try simp only [Act.put, List.setIfInBounds_toArray, List.set_cons_zero, List.set_cons_succ]
 refine wpAnyH_ready (rs := [2]) (by kernel_rfl) (by simp) ?_
 refine AllReadyH.cons rfl (fun K hK => ?_) AllReadyH.nil
 try dsimp only at hHeld
 go_simp
 (go_at_call 15; refine (specVar_any _ _).mono ?_; rintro e w2 ⟨rfl, hbk⟩)
 refine hK.out _ _ ?_ (fun hHeld2 => ?_)
 ·try dsimp only
  (go_split_ands; first | exact HALL.out _ (by assumption) | exact HALL.out _ (Below.drew (by assumption)) | exact HALL.out _ (below_step1 (by assumption) (by assumption)))
 clear hK K hHeld
 have hHeld := hHeld2
 clear hHeld2
 clear hbk
 refine wpH_take (i := 3) (v := ?_) rfl (by kernel_rfl) (by kernel_rfl) (by kernel_rfl) (fun _ _ _ h => h) (by rfl) ?_ (by assumption) ?_; rotate_left; (focus (intro w hSw; (try dsimp only at hSw); go_simp; try with_reducible rfl)); try simp only [Act.put, List.setIfInBounds_toArray, List.set_cons_zero, List.set_cons_succ]
 refine wpAnyH_ready (rs := [6]) (by kernel_rfl) (by simp) ?_
 refine AllReadyH.cons rfl (fun K hK => ?_) AllReadyH.nil
 try dsimp only at hHeld
 go_simp
 (go_at_call 15; refine (specVar_any _ _).mono ?_; rintro e w3 ⟨rfl, hbk⟩)
 refine hK.out _ _ ?_ (fun hHeld2 => ?_)
 ·try dsimp only
  (go_split_ands; first | exact HALL.out _ (by assumption) | exact HALL.out _ (Below.drew (by assumption)) | exact HALL.out _ (below_step1 (by assumption) (by assumption)))
 clear hK K hHeld
 have hHeld := hHeld2
 clear hHeld2
 clear hbk
 refine wpH_take (i := 7) (v := ?_) rfl (by kernel_rfl) (by kernel_rfl) (by kernel_rfl) (fun _ _ _ h => h) (by rfl) ?_ (by assumption) ?_; rotate_left; (focus (intro w hSw; (try dsimp only at hSw); go_simp; try with_reducible rfl)); try simp only [Act.put, List.setIfInBounds_toArray, List.set_cons_zero, List.set_cons_succ]
 refine wpAnyH_ready (rs := [10]) (by kernel_rfl) (by simp) ?_
 refine AllReadyH.cons rfl (fun K hK => ?_) AllReadyH.nil
 try dsimp only at hHeld
 go_simp
 (go_at_call 15; refine (specVar_any _ _).mono ?_; rintro e w4 ⟨rfl, hbk⟩)
 refine hK.out _ _ ?_ (fun hHeld2 => ?_)
 ·try dsimp only
  (go_split_ands; first | exact HALL.out _ (by assumption) | exact HALL.out _ (Below.drew (by assumption)) | exact HALL.out _ (below_step1 (by assumption) (by assumption)))
 clear hK K hHeld
 have hHeld := hHeld2
 clear hHeld2
 clear hbk
 refine wpH_take (i := 11) (v := ?_) rfl (by kernel_rfl) (by kernel_rfl) (by kernel_rfl) (fun _ _ _ h => h) (by rfl) ?_ (by assumption) ?_; rotate_left; (focus (intro w hSw; (try dsimp only at hSw); go_simp; try with_reducible rfl)); try simp only [Act.put, List.setIfInBounds_toArray, List.set_cons_zero, List.set_cons_succ]
 refine wpAnyH_ready (rs := [14]) (by kernel_rfl) (by simp) ?_
 refine AllReadyH.cons rfl (fun K hK => ?_) AllReadyH.nil
 try dsimp only at hHeld
 go_simp
 (go_at_call 23; refine (l7Piece_any _ hd _).mono ?_; rintro e w5 ⟨rfl, hbk⟩)
 refine hK.out _ _ ?_ (fun hHeld2 => ?_)
 ·try dsimp only
  (go_split_ands; first | exact HALL.out _ (by assumption) | exact HALL.out _ (Below.drew (by assumption)) | exact HALL.out _ (below_step1 (by assumption) (by assumption)))
 clear hK K hHeld
 have hHeld := hHeld2
 clear hHeld2
 clear hbk
 refine wpH_take (i := 15) (v := ?_) rfl (by kernel_rfl) (by kernel_rfl) (by kernel_rfl) (fun _ _ _ h => h) (by rfl) ?_ (by assumption) ?_; rotate_left; (focus (intro w hSw; (try dsimp only at hSw); go_simp; try with_reducible rfl)); try simp only [Act.put, List.setIfInBounds_toArray, List.set_cons_zero, List.set_cons_succ]
 refine wpAnyH_ready (rs := [19]) (by kernel_rfl) (by simp) ?_
 refine AllReadyH.cons rfl (fun K hK => ?_) AllReadyH.nil
 try dsimp only at hHeld
 go_simp
 (go_at_call 15; refine (specVar_any _ _).mono ?_; rintro e w6 ⟨rfl, hbk⟩)
 refine hK.out _ _ ?_ (fun hHeld2 => ?_)
 ·try dsimp only
  (go_split_ands; first | exact HALL.out _ (by assumption) | exact HALL.out _ (Below.drew (by assumption)) | exact HALL.out _ (below_step1 (by assumption) (by assumption)))
 clear hK K hHeld
 have hHeld := hHeld2
 clear hHeld2
 clear hbk
 refine wpH_take (i := 20) (v := ?_) rfl (by kernel_rfl) (by kernel_rfl) (by kernel_rfl) (fun _ _ _ h => h) (by rfl) ?_ (by assumption) ?_; rotate_left; (focus (intro w hSw; (try dsimp only at hSw); go_simp; try with_reducible rfl)); try simp only [Act.put, List.setIfInBounds_toArray, List.set_cons_zero, List.set_cons_succ]
 refine wpH_take (i := 21) (v := ?_) rfl (by kernel_rfl) (by kernel_rfl) (by kernel_rfl) (fun _ _ _ h => h) (by rfl) ?_ (by assumption) ?_; rotate_left; (focus (intro w hSw; (try dsimp only at hSw); go_simp; try with_reducible rfl)); try simp only [Act.put, List.setIfInBounds_toArray, List.set_cons_zero, List.set_cons_succ]
 refine wpAnyH_done (by kernel_rfl) ?_ _
 try dsimp only at hHeld
 have HB6 := Lib.hid hHeld.2.2.2.2.2
 have c4 := hHeld.2.2.2.2.1
 have hz6 : w.heap.size < w6.heap.size := World.block_lt_of_cell? w6 _ c4
 have HALX := Lib.hid (fun W hW => (HALL.out W hW).2.2.2.2.1)
 clear hHeld HALL a1F a2F a3F a4F a5F hq1 hv0 hv1 hv2 hv3 hp
 rw [← HT.out]
 go_wp2
 go_loopg [3, 4] es.length (fun gg o i wr => ∃ (k : Nat) (ob : ByteArray), k + gg = es.length ∧ i = .int .i64 (k : Int) ∧ o = .string ob ∧ Hid (ob = (es.take k).foldl entApp hh) ∧ ob.size ≤ 2147483648 + k * 2147483648 ∧ Hid (Below w1.heap.size w1 wr))
 case atStart => exact ⟨0, hh, by omega, rfl, rfl, Lib.hid rfl, by omega, HB6⟩
 case round => as_aux_lemma =>
  obtain ⟨k, ob, hk, rfl, rfl, HO, hos, HBR⟩ := hrel
  clear c4 hz6
  have c4 := HALX.out wr HBR.out
  have hzr : w.heap.size < wr.heap.size := World.block_lt_of_cell? wr _ c4
  by_cases hlt : k < es.length
  ·obtain ⟨b, off, rfl, hbs, e0, e1, e2, e3⟩ := ens_cells (HE.out.below HBR.out (Nat.le_refl _)) k hlt
   have hsz := HS.out es[k] (List.getElem_mem hlt)
   have HST : Hid ((es.take (k + 1)).foldl entApp hh = ob ++ ⟨(varV es[k].index).toArray⟩ ++ pieceB es[k].name ++ ⟨(varV es[k].id).toArray⟩) := Lib.hid (by rw [entFold_step es hh k hlt, HO.out]; rfl)
   have hi : (k : Int) < (es.length : Int) := by omega
   have hi0 : (0 : Int) ≤ (k : Int) := by omega
   generalize es[k].hash = y0 at *
   generalize es[k].index = y1 at *
   generalize es[k].name = y2 at *
   generalize es[k].id = y3 at *
   clear hlt
   obtain ⟨b0, b1, b2, b3⟩ := box4 wr 63 (.int .i64 y0) (.int .i64 y1) (.string y2) (.int .i64 y3)
   have HBX2 := Lib.hid (below_step1 HBR.out (boxA wr (.cells #[.int .i64 y0, .int .i64 y1, .string y2, .int .i64 y3] 63)))
   go_upto_region 6 with fail
   have hzx : wr.heap.size < (wr.alloc (.cells #[.int .i64 y0, .int .i64 y1, .string y2, .int .i64 y3] 63)).heap.size := by simp
   generalize wr.alloc (.cells #[.int .i64 y0, .int .i64 y1, .string y2, .int .i64 y3] 63) = wx at *
   have HALE : Hid (∀ W, Below wx.heap.size wx W → (W.cell? ⟨wr.heap.size, 0, none⟩ = some (.int .i64 y0) ∧ W.cell? ⟨wr.heap.size, 1, none⟩ = some (.int .i64 y1) ∧ W.cell? ⟨wr.heap.size, 2, none⟩ = some (.string y2) ∧ W.cell? ⟨wr.heap.size, 3, none⟩ = some (.int .i64 y3) ∧ Below wx.heap.size wx W)) := Lib.hid (fun W hW => ⟨cellK b0 hW, cellK b1 hW, cellK b2 hW, cellK b3 hW, hW⟩)
   have hB0 := Below.refl wx.heap.size wx
   have hv1 := varV_len y1
   have hv3 := varV_len y3
   have hp := pieceB_size y2
   have a1F : (9223372036854775807 < ob.size + (varV y1).length) = False := eq_false (by omega)
   have a2F : (9223372036854775807 < ob.size + (varV y1).length + (pieceB y2).size) = False := eq_false (by omega)
   have a3F : (9223372036854775807 < ob.size + (varV y1).length + (pieceB y2).size + (varV y3).length) = False := eq_false (by omega)
   clear b0 b1 b2 b3 e0 e1 e2 e3 c4
   refine wp_region_held_drew (S := (fun W => W.cell? ⟨wr.heap.size, 0, none⟩ = some (.int .i64 y0) ∧ W.cell? ⟨wr.heap.size, 1, none⟩ = some (.int .i64 y1) ∧ W.cell? ⟨wr.heap.size, 2, none⟩ = some (.string y2) ∧ W.cell? ⟨wr.heap.size, 3, none⟩ = some (.int .i64 y3) ∧ Below wx.heap.size wx W)) (by kernel_rfl) ?_ (fun hHeld => ?_)
   ·try dsimp only
    (go_split_ands; first | exact HALE.out _ (by assumption) | exact HALE.out _ (Below.drew (by assumption)) | exact HALE.out _ (below_step1 (by assumption) (by assumption)))
   change wpAnyH _ _ _ _ _ 14 #[false, false, false, false, false, false, false, false, false, false, false, false, false, false] _ _
   clear hB0
   refine wpH_take (i := 0) (v := ?_) rfl (by kernel_rfl) (by kernel_rfl) (by kernel_rfl) (fun _ _ _ h => h) (by rfl) ?_ (by assumption) ?_; rotate_left; (focus (intro w hSw; (try dsimp only at hSw); go_simp; try with_reducible rfl)); try simp only [Act.put, List.setIfInBounds_toArray, List.set_cons_zero, List.set_cons_succ]
   refine wpH_take (i := 1) (v := ?_) rfl (by kernel_rfl) (by kernel_rfl) (by kernel_rfl) (fun _ _ _ h => h) (by rfl) ?_ (by assumption) ?_; rotate_left; (focus (intro w hSw; (try dsimp only at hSw); go_simp; try with_reducible rfl)); try simp only [Act.put, List.setIfInBounds_toArray, List.set_cons_zero, List.set_cons_succ]
   refine wpH_take (i := 2) (v := ?_) rfl (by kernel_rfl) (by kernel_rfl) (by kernel_rfl) (fun _ _ _ h => h) (by rfl) ?_ (by assumption) ?_; rotate_left; (focus (intro w hSw; (try dsimp only at hSw); go_simp; try with_reducible rfl)); try simp only [Act.put, List.setIfInBounds_toArray, List.set_cons_zero, List.set_cons_succ]
   refine wpH_take (i := 5) (v := ?_) rfl (by kernel_rfl) (by kernel_rfl) (by kernel_rfl) (fun _ _ _ h => h) (by rfl) ?_ (by assumption) ?_; rotate_left; (focus (intro w hSw; (try dsimp only at hSw); go_simp; try with_reducible rfl)); try simp only [Act.put, List.setIfInBounds_toArray, List.set_cons_zero, List.set_cons_succ]
   refine wpH_take (i := 6) (v := ?_) rfl (by kernel_rfl) (by kernel_rfl) (by kernel_rfl) (fun _ _ _ h => h) (by rfl) ?_ (by assumption) ?_; rotate_left; (focus (intro w hSw; (try dsimp only at hSw); go_simp; try with_reducible rfl)); try simp only [Act.put, List.setIfInBounds_toArray, List.set_cons_zero, List.set_cons_succ]
   refine wpH_take (i := 9) (v := ?_) rfl (by kernel_rfl) (by kernel_rfl) (by kernel_rfl) (fun _ _ _ h => h) (by rfl) ?_ (by assumption) ?_; rotate_left; (focus (intro w hSw; (try dsimp only at hSw); go_simp; try with_reducible rfl)); try simp only [Act.put, List.setIfInBounds_toArray, List.set_cons_zero, List.set_cons_succ]
   refine wpH_take (i := 10) (v := ?_) rfl (by kernel_rfl) (by kernel_rfl) (by kernel_rfl) (fun _ _ _ h => h) (by rfl) ?_ (by assumption) ?_; rotate_left; (focus (intro w hSw; (try dsimp only at hSw); go_simp; try with_reducible rfl)); try simp only [Act.put, List.setIfInBounds_toArray, List.set_cons_zero, List.set_cons_succ]
   refine wpAnyH_ready (rs := [3]) (by kernel_rfl) (by simp) ?_
   refine AllReadyH.cons rfl (fun K hK => ?_) AllReadyH.nil
   try dsimp only at hHeld
   go_simp
   (go_at_call 15; refine (specVar_any _ _).mono ?_; rintro e w7 ⟨rfl, hbk⟩)
   refine hK.out _ _ ?_ (fun hHeld2 => ?_)
   ·try dsimp only
    (go_split_ands; first | exact HALE.out _ (by assumption) | exact HALE.out _ (Below.drew (by assumption)) | exact HALE.out _ (below_step1 (by assumption) (by assumption)))
   clear hK K hHeld
   have hHeld := hHeld2
   clear hHeld2
   clear hbk
   refine wpH_take (i := 4) (v := ?_) rfl (by kernel_rfl) (by kernel_rfl) (by kernel_rfl) (fun _ _ _ h => h) (by rfl) ?_ (by assumption) ?_; rotate_left; (focus (intro w hSw; (try dsimp only at hSw); go_simp; try with_reducible rfl)); try simp only [Act.put, List.setIfInBounds_toArray, List.set_cons_zero, List.set_cons_succ]
   refine wpAnyH_ready (rs := [7]) (by kernel_rfl) (by simp) ?_
   refine AllReadyH.cons rfl (fun K hK => ?_) AllReadyH.nil
   try dsimp only at hHeld
   go_simp
   (go_at_call 23; refine (l7Piece_any _ hsz _).mono ?_; rintro e w8 ⟨rfl, hbk⟩)
   refine hK.out _ _ ?_ (fun hHeld2 => ?_)
   ·try dsimp only
    (go_split_ands; first | exact HALE.out _ (by assumption) | exact HALE.out _ (Below.drew (by assumption)) | exact HALE.out _ (below_step1 (by assumption) (by assumption)))
   clear hK K hHeld
   have hHeld := hHeld2
   clear hHeld2
   clear hbk
   refine wpH_take (i := 8) (v := ?_) rfl (by kernel_rfl) (by kernel_rfl) (by kernel_rfl) (fun _ _ _ h => h) (by rfl) ?_ (by assumption) ?_; rotate_left; (focus (intro w hSw; (try dsimp only at hSw); go_simp; try with_reducible rfl)); try simp only [Act.put, List.setIfInBounds_toArray, List.set_cons_zero, List.set_cons_succ]
   refine wpAnyH_ready (rs := [11]) (by kernel_rfl) (by simp) ?_
   refine AllReadyH.cons rfl (fun K hK => ?_) AllReadyH.nil
   try dsimp only at hHeld
   go_simp
   (go_at_call 15; refine (specVar_any _ _).mono ?_; rintro e w9 ⟨rfl, hbk⟩)
   refine hK.out _ _ ?_ (fun hHeld2 => ?_)
   ·try dsimp only
    (go_split_ands; first | exact HALE.out _ (by assumption) | exact HALE.out _ (Below.drew (by assumption)) | exact HALE.out _ (below_step1 (by assumption) (by assumption)))
   clear hK K hHeld
   have hHeld := hHeld2
   clear hHeld2
   clear hbk
   refine wpH_take (i := 12) (v := ?_) rfl (by kernel_rfl) (by kernel_rfl) (by kernel_rfl) (fun _ _ _ h => h) (by rfl) ?_ (by assumption) ?_; rotate_left; (focus (intro w hSw; (try dsimp only at hSw); go_simp; try with_reducible rfl)); try simp only [Act.put, List.setIfInBounds_toArray, List.set_cons_zero, List.set_cons_succ]
   refine wpH_take (i := 13) (v := ?_) rfl (by kernel_rfl) (by kernel_rfl) (by kernel_rfl) (fun _ _ _ h => h) (by rfl) ?_ (by assumption) ?_; rotate_left; (focus (intro w hSw; (try dsimp only at hSw); go_simp; try with_reducible rfl)); try simp only [Act.put, List.setIfInBounds_toArray, List.set_cons_zero, List.set_cons_succ]
   refine wpAnyH_done (by kernel_rfl) ?_ _
   try dsimp only at hHeld
   have HB9 := Lib.hid (below_step1 HBX2.out hHeld.2.2.2.2)
   have hsN : (ob ++ ⟨(varV y1).toArray⟩ ++ pieceB y2 ++ ⟨(varV y3).toArray⟩).size ≤ 2147483648 + (k + 1) * 2147483648 := by
    simp only [ByteArray.size_append, ba_size]
    omega
   clear hHeld HALE a1F a2F a3F
   generalize ob ++ ⟨(varV y1).toArray⟩ ++ pieceB y2 ++ ⟨(varV y3).toArray⟩ = ob2 at *
   have HST2 : Hid (ob2 = (es.take (k + 1)).foldl entApp hh) := Lib.hid HST.out.symm
   go_wp2
   go_roundg (gk - 1)
   case measure => omega
   case rel => exact ⟨k + 1, ob2, by omega, by go_num, rfl, HST2, hsN, HB9⟩
  ·obtain rfl : k = es.length := by omega
   have HF : Hid (ob = ib) := Lib.hid (by rw [HO.out, HIB.out, List.take_length])
   have HBF := Lib.hid (below_step1 HBX.out HBR.out)
   go_wp2
   go_ret
   exact ⟨ret_str HF.out, HBF.out⟩
set_option maxRecDepth 1000000 in
set_option maxHeartbeats 6000000 in
theorem specBlocks_any (next : Int) (a : Option Addr) (n cap : Nat) (l : List InoL) (w : World) (hr : VolRd w a n cap l) (hd : ∀ x ∈ l, x.data.size ≤ 1073741824) (hs : ∀ x ∈ l, ∀ s ∈ x.ents, s.name.size ≤ 1073741824) (hn : ∀ x ∈ l, x.ents.length ≤ 1000) :
  Calls Try.prog 9 #[.agg #[.int .i64 next, .slice a n cap]] w fun e w' => ∃ (a' : Option Addr) (c' : Nat), e = .returned (.slice a' 17 c') ∧ Own 9 1 w.heap.size w (.slice a' 17 c') 17 (strs (blkF next l)) w' := by
 have hl : l.length = n := hr.len
 subst hl
 have hm := hr.room
 have hv1 := varV_len next
 have hv2 := varV_len (l.length : Int)
 have HU : Hid (uB next l = (⟨#[117]⟩ : ByteArray) ++ ⟨(varV next).toArray⟩ ++ ⟨(varV (l.length : Int)).toArray⟩) := Lib.hid rfl
 have HDS := Lib.hid (And.intro hd (And.intro hs hn))
 have HBX := Lib.hid (boxA w (.cells #[.int .i64 next, .slice a l.length cap] 37))
 have H := Lib.hid (hr.step HBX.out)
 obtain ⟨c0, c1⟩ := box2 w 37 (.int .i64 next) (.slice a l.length cap)
 clear hr hd hs hn
 go_enter Try.func9, Try.ntmps9
 go_upto_region 1 with fail
 have hz1 : w.heap.size < (w.alloc (.cells #[.int .i64 next, .slice a l.length cap] 37)).heap.size := by simp
 generalize w.alloc (.cells #[.int .i64 next, .slice a l.length cap] 37) = w1 at *
 have HALL : Hid (∀ W, Below w1.heap.size w1 W → (W.cell? ⟨w.heap.size, 0, none⟩ = some (.int .i64 next) ∧ W.cell? ⟨w.heap.size, 1, none⟩ = some (.slice a l.length cap) ∧ Below w1.heap.size w1 W)) := Lib.hid (fun W hW => ⟨cellK c0 hW, cellK c1 hW, hW⟩)
 have hB0 := Below.refl w1.heap.size w1
 clear c0 c1
 have a1F : (9223372036854775807 < 1 + (varV next).length) = False := eq_false (by omega)
 have a2F : (9223372036854775807 < 1 + (varV next).length + (varV (l.length : Int)).length) = False := eq_false (by omega)
 have hq1 : (⟨#[117]⟩ : ByteArray).size = 1 := rfl
 refine wp_region_held_drew (S := (fun W => W.cell? ⟨w.heap.size, 0, none⟩ = some (.int .i64 next) ∧ W.cell? ⟨w.heap.size, 1, none⟩ = some (.slice a l.length cap) ∧ Below w1.heap.size w1 W)) (by kernel_rfl) ?_ (fun hHeld => ?_)
 ·try dsimp only
  (go_split_ands; first | exact HALL.out _ (by assumption) | exact HALL.out _ (Below.drew (by assumption)) | exact HALL.out _ (below_step1 (by assumption) (by assumption)) | exact HALL.out _ (below_step1 (by assumption) (boxA _ _)))
 change wpAnyH _ _ _ _ _ 11 #[false, false, false, false, false, false, false, false, false, false, false] _ _
 clear hB0
 refine wpH_take (i := 0) (v := ?_) rfl (by kernel_rfl) (by kernel_rfl) (by kernel_rfl) (fun _ _ _ h => h) (by rfl) ?_ (by assumption) ?_; rotate_left; (focus (intro w hSw; (try dsimp only at hSw); go_simp; try with_reducible rfl)); try simp only [Act.put, List.setIfInBounds_toArray, List.set_cons_zero, List.set_cons_succ]
 refine wpH_take (i := 1) (v := ?_) rfl (by kernel_rfl) (by kernel_rfl) (by kernel_rfl) (fun _ _ _ h => h) (by rfl) ?_ (by assumption) ?_; rotate_left; (focus (intro w hSw; (try dsimp only at hSw); go_simp; try with_reducible rfl)); try simp only [Act.put, List.setIfInBounds_toArray, List.set_cons_zero, List.set_cons_succ]
 refine wpH_take (i := 4) (v := ?_) rfl (by kernel_rfl) (by kernel_rfl) (by kernel_rfl) (fun _ _ _ h => h) (by rfl) ?_ (by assumption) ?_; rotate_left; (focus (intro w hSw; (try dsimp only at hSw); go_simp; try with_reducible rfl)); try simp only [Act.put, List.setIfInBounds_toArray, List.set_cons_zero, List.set_cons_succ]
 refine wpH_take (i := 5) (v := ?_) rfl (by kernel_rfl) (by kernel_rfl) (by kernel_rfl) (fun _ _ _ h => h) (by rfl) ?_ (by assumption) ?_; rotate_left; (focus (intro w hSw; (try dsimp only at hSw); go_simp; try with_reducible rfl)); try simp only [Act.put, List.setIfInBounds_toArray, List.set_cons_zero, List.set_cons_succ]
 refine wpH_take (i := 6) (v := ?_) rfl (by kernel_rfl) (by kernel_rfl) (by kernel_rfl) (fun _ _ _ h => h) (by rfl) ?_ (by assumption) ?_; rotate_left; (focus (intro w hSw; (try dsimp only at hSw); go_simp; try with_reducible rfl)); try simp only [Act.put, List.setIfInBounds_toArray, List.set_cons_zero, List.set_cons_succ]
 refine wpAnyH_ready (rs := [2]) (by kernel_rfl) (by simp) ?_
 refine AllReadyH.cons rfl (fun K hK => ?_) AllReadyH.nil
 try dsimp only at hHeld
 go_simp
 (go_at_call 15; refine (specVar_any _ _).mono ?_; rintro e w2 ⟨rfl, hbk⟩)
 refine hK.out _ _ ?_ (fun hHeld2 => ?_)
 ·try dsimp only
  (go_split_ands; first | exact HALL.out _ (by assumption) | exact HALL.out _ (Below.drew (by assumption)) | exact HALL.out _ (below_step1 (by assumption) (by assumption)) | exact HALL.out _ (below_step1 (by assumption) (boxA _ _)))
 clear hK K hHeld
 have hHeld := hHeld2
 clear hHeld2
 clear hbk
 refine wpH_take (i := 3) (v := ?_) rfl (by kernel_rfl) (by kernel_rfl) (by kernel_rfl) (fun _ _ _ h => h) (by rfl) ?_ (by assumption) ?_; rotate_left; (focus (intro w hSw; (try dsimp only at hSw); go_simp; try with_reducible rfl)); try simp only [Act.put, List.setIfInBounds_toArray, List.set_cons_zero, List.set_cons_succ]
 refine wpAnyH_ready (rs := [7]) (by kernel_rfl) (by simp) ?_
 refine AllReadyH.cons rfl (fun K hK => ?_) AllReadyH.nil
 try dsimp only at hHeld
 go_simp
 (go_at_call 15; refine (specVar_any _ _).mono ?_; rintro e w3 ⟨rfl, hbk⟩)
 refine hK.out _ _ ?_ (fun hHeld2 => ?_)
 ·try dsimp only
  (go_split_ands; first | exact HALL.out _ (by assumption) | exact HALL.out _ (Below.drew (by assumption)) | exact HALL.out _ (below_step1 (by assumption) (by assumption)) | exact HALL.out _ (below_step1 (by assumption) (boxA _ _)))
 clear hK K hHeld
 have hHeld := hHeld2
 clear hHeld2
 clear hbk
 refine wpH_take (i := 8) (v := ?_) rfl (by kernel_rfl) (by kernel_rfl) (by kernel_rfl) (fun _ _ _ h => h) (by rfl) ?_ (by assumption) ?_; rotate_left; (focus (intro w hSw; (try dsimp only at hSw); go_simp; try with_reducible rfl)); try simp only [Act.put, List.setIfInBounds_toArray, List.set_cons_zero, List.set_cons_succ]
 rw [← HU.out]
 have HO3 := Lib.hid (Own.lit (e := 9) (size := 1) (n := 1) hHeld.2.2 hHeld.2.2.size #[.string (uB next l)] rfl (by decide))
 refine wpAnyH_ready (rs := [9]) (by kernel_rfl) (by simp) ?_
 refine AllReadyH.cons rfl (fun K hK => ?_) AllReadyH.nil
 try dsimp only at hHeld
 go_simp
 skip
 refine hK.out _ _ ?_ (fun hHeld2 => ?_)
 ·try dsimp only
  (go_split_ands; first | exact HALL.out _ (by assumption) | exact HALL.out _ (Below.drew (by assumption)) | exact HALL.out _ (below_step1 (by assumption) (by assumption)) | exact HALL.out _ (below_step1 (by assumption) (boxA _ _)))
 clear hK K hHeld
 have hHeld := hHeld2
 clear hHeld2
 refine wpH_take (i := 10) (v := ?_) rfl (by kernel_rfl) (by kernel_rfl) (by kernel_rfl) (fun _ _ _ h => h) (by rfl) ?_ (by assumption) ?_; rotate_left; (focus (intro w hSw; (try dsimp only at hSw); go_simp; try with_reducible rfl)); try simp only [Act.put, List.setIfInBounds_toArray, List.set_cons_zero, List.set_cons_succ]
 refine wpAnyH_done (by kernel_rfl) ?_ _
 try dsimp only at hHeld
 have HALX := Lib.hid (fun W hW => (HALL.out W hW).2.1)
 clear hHeld HALL a1F a2F hq1 hv1 hv2
 go_wp2
 go_loopg [3, 4] 16 (fun gg o i wr => ∃ (k : Nat) (a' : Option Addr) (c' : Nat), k + gg = 16 ∧ i = .int .i64 (k : Int) ∧ o = .slice a' (k + 1) c' ∧ Hid (Own 9 1 w1.heap.size w1 (.slice a' (k + 1) c') (k + 1) (strs ((blkF next l).take (k + 1))) wr))
 case atStart => exact ⟨0, _, _, by omega, rfl, rfl, Lib.hid (by exact HO3.out)⟩
 case round => as_aux_lemma =>
  obtain ⟨k, a', c', hk, rfl, rfl, HO⟩ := hrel
  clear HO3
  have v1 := HALX.out _ HO.out.below
  have hzr : w.heap.size < wr.heap.size := World.block_lt_of_cell? wr _ v1
  by_cases hlt : k < 16
  ·have HST := Lib.hid (blkF_step next l k hlt)
   have hi : (k : Int) < 16 := by omega
   by_cases hkl : k < l.length
   ·have HS2 : Hid ((blkF next l).take (k + 2) = (blkF next l).take (k + 1) ++ [inB l[k]]) := Lib.hid (by rw [HST.out, blkAt_in l k hkl])
    obtain ⟨b, off, ad, c, rfl, hbs, d0, d1, d2, d3, d4, hrd⟩ := vol_cells (H.out.step HO.out.below) k hkl
    have hki : (k : Int) < (l.length : Int) := by omega
    have hk0 : (0 : Int) ≤ (k : Int) := by omega
    have HIC : Hid (∀ W, Below wr.heap.size wr W → Calls Try.prog 16 #[.agg #[.int .i64 l[k].id, .int .i64 l[k].kind, .int .i64 l[k].links, .string l[k].data, .slice ad l[k].ents.length c]] W fun e w' => e = .returned (.string (inB l[k])) ∧ Below W.heap.size W w') := Lib.hid (fun W hW => specInode_any l[k] ad c W (hrd.below hW (Nat.le_refl _)) (HDS.out.1 _ (List.getElem_mem hkl)) (HDS.out.2.1 _ (List.getElem_mem hkl)) (HDS.out.2.2 _ (List.getElem_mem hkl)))
    clear hrd
    generalize inB l[k] = tx at *
    generalize l[k].id = x0 at *
    generalize l[k].kind = x1 at *
    generalize l[k].links = x2 at *
    generalize l[k].data = x3 at *
    generalize l[k].ents.length = x4 at *
    clear HST
    go_wp2_with fail
    refine (HIC.out _ (Below.refl _ _)).mono ?_
    rintro e w5 ⟨rfl, hb⟩
    have HO5 := Lib.hid (HO.out.kept hb)
    clear hb HO d0 d1 d2 d3 d4 v1 hzr hbs
    go_wp2_with (at_builtin; go_loud (refine wp_app1g rfl _ _ 24 rfl 9 (.string ByteArray.empty) 1 16 Try.underlying24 info_str rfl (by decide) _ _ _ _ _ (by rfl) (by exact HO5.out) _ _ (by rfl) (by rfl) (by intro u hu; simp at hu; first | (subst hu; rfl) | (rcases hu with rfl | rfl <;> rfl) | (rcases hu with rfl | rfl | rfl <;> rfl) | (rcases hu with rfl | rfl | rfl | rfl <;> rfl)) (by omega) (by unfold maxLen; omega) ?_); intro a9 c9 w9 hO9 hG9 hN9)
    have HO9 := Lib.hid hO9
    clear hG9 hN9 hO9
    go_roundg (gk - 1)
    case measure => omega
    case rel => exact ⟨k + 1, _, _, by omega, by go_num, rfl, Lib.hid (by rw [HS2.out, strs_append]; exact HO9.out)⟩
   ·have HS2 : Hid ((blkF next l).take (k + 2) = (blkF next l).take (k + 1) ++ [ByteArray.empty]) := Lib.hid (by rw [HST.out, blkAt_out l k (by omega)])
    have hk1 : ¬ (k : Int) < (l.length : Int) := by omega
    clear HST
    go_wp2_with (at_builtin; go_loud (refine wp_app1g rfl _ _ 24 rfl 9 (.string ByteArray.empty) 1 16 Try.underlying24 info_str rfl (by decide) _ _ _ _ _ (by rfl) (by exact HO.out) _ _ (by rfl) (by rfl) (by intro u hu; simp at hu; first | (subst hu; rfl) | (rcases hu with rfl | rfl <;> rfl) | (rcases hu with rfl | rfl | rfl <;> rfl) | (rcases hu with rfl | rfl | rfl | rfl <;> rfl)) (by omega) (by unfold maxLen; omega) ?_); intro a9 c9 w9 hO9 hG9 hN9)
    have HO9 := Lib.hid hO9
    clear hG9 hN9 hO9
    go_roundg (gk - 1)
    case measure => omega
    case rel => exact ⟨k + 1, _, _, by omega, by go_num, rfl, Lib.hid (by rw [HS2.out, strs_append]; exact HO9.out)⟩
  ·obtain rfl : k = 16 := by omega
   have HF : Hid (Own 9 1 w1.heap.size w1 (.slice a' 17 c') 17 (strs (blkF next l)) wr) := Lib.hid (by have h := HO.out; rw [List.take_of_length_le (by rw [blkF_len]; omega)] at h; exact h)
   go_wp2
   go_ret
   exact ⟨_, _, rfl, own_down HF.out (Nat.le_of_lt hz1) HBX.out (Nat.le_of_lt hz1)⟩
end Go.Proofs.Ytlkfabkkjfmnmaa
