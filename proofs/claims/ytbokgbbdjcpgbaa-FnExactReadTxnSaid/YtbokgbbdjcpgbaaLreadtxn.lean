/- The law of ReadTxn, walked. -/
import Derived.Test.YtbokgbbdjcpgbaaRdTxnS
namespace Go.Proofs.Ytbokgbbdjcpgbaa
open Go.RowKit

theorem TxnOwn.size {B : Nat} {w : World} {v : Value} {seq : Int} {l : OutL} (h : TxnOwn B w v seq l) : B ≤ w.heap.size := by
  obtain ⟨a, c, e, h1⟩ := h.ex
  exact h1.base
theorem readX_len (s : List UInt8) : (readX s).2.1.length ≤ 17 := by
  unfold readX
  cases e : readT s with
  | none => simp
  | some x =>
    obtain ⟨h1, h2⟩ := (readT_iff s x).1 e
    have hb : txnB x.1 x.2 = true := by
      by_cases c : txnB x.1 x.2 = true
      · exact c
      · exfalso
        have := showL_no x.1 x.2 (by simpa using c)
        rw [h2] at this
        exact h1 this
    exact ((txnB_iff _ _).1 hb).2.1.2
set_option maxRecDepth 1000000 in
set_option maxHeartbeats 6000000 in
theorem lawReadTxn_walk (s : ByteArray) (hm : s.size ≤ maxLen) (w : World) : Calls Try.prog 13 #[.string s] w fun e w' => e = .returned (.bool true) ∧ Below w.heap.size w w' := by
  unfold maxLen at hm
  by_cases hs : (1048576 : Int) < (s.size : Int)
  · go_enter Try.func13, Try.ntmps13
    go_wp2
    go_ret
    exact ⟨rfl, Below.refl _ _⟩
  · have hs2 : s.size ≤ 1048576 := by omega
    have HI := Lib.hid (fun W => implReadTxn_any s W hs2)
    have HS := Lib.hid (fun W => specReadTxn_any s W hs2)
    have hl17 := readX_len s.data.toList
    unfold ReadPost at HI HS
    obtain ⟨⟨seq, L, ok⟩, hx⟩ : ∃ x, readX s.data.toList = x := ⟨_, rfl⟩
    rw [hx] at HI HS hl17
    simp only at HI HS hl17
    clear hx
    have hl1 : L.length ≤ 1048576 := by omega
    go_enter Try.func13, Try.ntmps13
    go_wp2_with fail
    refine (HS.out _).mono ?_
    rintro e w1 ⟨v0, rfl, hO, hb⟩
    have HB1 := Lib.hid hb
    obtain ⟨p1, q1, rfl, -⟩ := hO.ex
    have HW := Lib.hid hO.rd
    clear hO hb
    unfold txV at HW ⊢
    go_wp2_with fail
    have HBX := Lib.hid (box_alloc w1 (.cells #[.int .i64 seq, .slice p1 L.length q1] 72))
    have d0 := box0 w1 72 (.int .i64 seq) (.slice p1 L.length q1)
    have d1 := box1 w1 72 (.int .i64 seq) (.slice p1 L.length q1)
    refine (HI.out _).mono ?_
    rintro e w2 ⟨v1, rfl, hO, hb⟩
    obtain ⟨g, cg, rfl, hOw⟩ := hO.ex
    replace d0 := box_below d0 hb
    replace d1 := box_below d1 hb
    have HWo := Lib.hid (HW.out)
    have HC1 := Lib.hid (below_step1 HBX.out hb)
    replace HW := Lib.hid (HW.out.below HC1.out (Nat.le_refl _))
    have HG := Lib.hid hOw
    have HGB : Hid (∀ q, (Value.slice g L.length cg).ownBlock = some q → w1.heap.size + 1 ≤ q ∧ q < w2.heap.size) := Lib.hid (fun q hq => by have := hOw.blk q hq; simpa using this)
    have hz2 : w1.heap.size < w2.heap.size := World.block_lt_of_cell? w2 _ d0
    clear hb hO hOw HBX
    unfold txV
    go_wp2_with fail
    have HBX := Lib.hid (box_alloc w2 (.cells #[.int .i64 seq, .slice g L.length cg] 72))
    have g0 := box0 w2 72 (.int .i64 seq) (.slice g L.length cg)
    have g1 := box1 w2 72 (.int .i64 seq) (.slice g L.length cg)
    replace d0 := box_below d0 HBX.out
    replace d1 := box_below d1 HBX.out
    replace HC1 := Lib.hid (below_step1 HC1.out HBX.out)
    replace HW := Lib.hid (HWo.out.below HC1.out (Nat.le_refl _))
    replace HG := Lib.hid (HG.out.stay HBX.out)
    refine (eqTxn_yes _ _ seq L _ ⟨g, cg, rfl, HG.out.rd⟩ HW.out (by omega)).mono ?_
    rintro e w3 ⟨rfl, hb⟩
    replace d0 := box_below d0 hb
    replace d1 := box_below d1 hb
    replace g0 := box_below g0 hb
    replace g1 := box_below g1 hb
    replace HC1 := Lib.hid (below_step1 HC1.out hb)
    replace HW := Lib.hid (HWo.out.below HC1.out (Nat.le_refl _))
    replace HG := Lib.hid (HG.out.stay hb)
    have hz3 : w1.heap.size < w3.heap.size := World.block_lt_of_cell? w3 _ d0
    have hz3b : w2.heap.size < w3.heap.size := World.block_lt_of_cell? w3 _ g0
    clear hb HBX
    have hne : (ok != ok) = false := by simp
    go_wp2_with fail
    refine (markTxn_any _ seq g cg L 1 _ HG.out hl1 (by omega) (by omega)).mono ?_
    rintro e w4 ⟨rfl, hO, hbm, hfar⟩
    replace d0 := cell_block d0 (hfar _ hz3 (fun e => by have := HGB.out _ e; omega))
    replace d1 := cell_block d1 (hfar _ hz3 (fun e => by have := HGB.out _ e; omega))
    replace g0 := cell_block g0 (hfar _ hz3b (fun e => by have := HGB.out _ e; omega))
    replace g1 := cell_block g1 (hfar _ hz3b (fun e => by have := HGB.out _ e; omega))
    replace HG := Lib.hid hO
    replace HC1 := Lib.hid (HC1.out.trans (hbm.mono (by simp)))
    replace HW := Lib.hid (HWo.out.below HC1.out (Nat.le_refl _))
    have hz4 : w1.heap.size < w4.heap.size := World.block_lt_of_cell? w4 _ d0
    have hz4b : w2.heap.size < w4.heap.size := World.block_lt_of_cell? w4 _ g0
    clear hO hbm hfar hz3 hz3b
    go_wp2_with fail
    refine (heldTxn_yes seq g L.length cg 1 _ HG.out.rd hl1 (by omega) (by omega)).mono ?_
    rintro e w5 ⟨rfl, hb⟩
    replace d0 := box_below d0 hb
    replace d1 := box_below d1 hb
    replace g0 := box_below g0 hb
    replace g1 := box_below g1 hb
    replace HC1 := Lib.hid (below_step1 HC1.out hb)
    replace HW := Lib.hid (HWo.out.below HC1.out (Nat.le_refl _))
    replace HG := Lib.hid (HG.out.stay hb)
    clear hb hz4 hz4b
    have hneg : ¬ ((1 + 2 * L.length : Nat) : Int) < 0 := by omega
    go_wp2_with fail
    refine (HI.out _).mono ?_
    rintro e w6 ⟨v2, rfl, hO, hb⟩
    obtain ⟨h, ch, rfl, -⟩ := hO.ex
    replace d0 := box_below d0 hb
    replace d1 := box_below d1 hb
    replace g0 := box_below g0 hb
    replace g1 := box_below g1 hb
    replace HC1 := Lib.hid (below_step1 HC1.out hb)
    replace HG := Lib.hid (HG.out.stay hb)
    have HH := Lib.hid hO.rd
    have hz6 : w1.heap.size < w6.heap.size := World.block_lt_of_cell? w6 _ d0
    have hz6b : w2.heap.size < w6.heap.size := World.block_lt_of_cell? w6 _ g0
    clear hb hO
    unfold txV at HH ⊢
    go_wp2_with fail
    have HBX := Lib.hid (box_alloc w6 (.cells #[.int .i64 seq, .slice h L.length ch] 72))
    replace HC1 := Lib.hid (below_step1 HC1.out HBX.out)
    replace HW := Lib.hid (HWo.out.below HC1.out (Nat.le_refl _))
    refine (eqTxn_yes _ _ seq L _ (HH.out.below HBX.out (Nat.le_refl _)) HW.out (by omega)).mono ?_
    rintro e w7 ⟨rfl, hb⟩
    replace g0 := box_below (box_below g0 HBX.out) hb
    replace g1 := box_below (box_below g1 HBX.out) hb
    replace HC1 := Lib.hid (below_step1 HC1.out hb)
    replace HG := Lib.hid ((HG.out.stay HBX.out).stay hb)
    have hz7b : w2.heap.size < w7.heap.size := World.block_lt_of_cell? w7 _ g0
    clear hb HBX HH HW d0 d1
    go_wp2_with fail
    refine (heldTxn_yes seq g L.length cg 1 _ HG.out.rd hl1 (by omega) (by omega)).mono ?_
    rintro e w8 ⟨rfl, hb⟩
    have HF := Lib.hid (below_step1 HB1.out (below_step1 HC1.out hb))
    clear hb
    go_wp2
    go_ret
    exact ⟨rfl, HF.out⟩
end Go.Proofs.Ytbokgbbdjcpgbaa
