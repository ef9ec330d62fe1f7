/- The reference's Put, of a right device and one write. -/
import Derived.Test.YtbokgbbdjcpgbaaLput
import Derived.Test.YtbokgbbdjcpgbaaRdTxn
import Derived.Test.YtbokgbbdjcpgbaaDevOk
import Derived.Test.YtbokgbbdjcpgbaaStep
namespace Go.Proofs.Ytbokgbbdjcpgbaa
open Go.RowKit

theorem devOk_add {ss : List ByteArray} {us : List (Int × ByteArray)} {x : Int × ByteArray} (h : devOkB ss us = true) (hx : wrOk x = true) (hl : us.length ≤ 39) : devOkB ss (us ++ [x]) = true := by
  unfold devOkB at h ⊢
  simp only [Bool.and_eq_true, decide_eq_true_eq, List.all_append, List.length_append] at h ⊢
  refine ⟨⟨⟨h.1.1.1, by simp; omega⟩, h.1.2⟩, h.2, ?_⟩
  simp [hx]
theorem devOk_two {ss : List ByteArray} {us : List (Int × ByteArray)} (h : devOkB ss us = true) : ss.length = 18 ∧ us.length ≤ 40 := by
  unfold devOkB at h
  simp only [Bool.and_eq_true, decide_eq_true_eq] at h
  exact ⟨h.1.1.1, h.1.1.2⟩
def PutPost (ss : List ByteArray) (w : World) (e : Ending) (w' : World) : Prop := ∃ (v : Value) (ok : Bool) (us : List (Int × ByteArray)), e = .returned (.tuple #[v, .bool ok]) ∧ DevOwn w.heap.size w' v ss us ∧ devOkB ss us = true ∧ Below w.heap.size w w'
theorem Two.set00 {w : World} {b : Nat} {u v : Value} (h : Two w b u v) (x : Value) : Two (w.setCell ⟨b, 0, none⟩ x) b x v := by
  have hl := h.lt
  obtain ⟨⟨h0, h1⟩, f0, f1⟩ := h
  exact ⟨⟨by go_simp, by go_simp⟩, ⟨by go_simp, by go_simp⟩⟩
/-- Put under way: its own copy in box D, the result's box. -/
structure PutS (w : World) (p : Option Addr) (e : Nat) (q : Option Addr) (f : Nat) (ss : List ByteArray) (us : List (Int × ByteArray)) (W : World) : Prop where
  be : Below w.heap.size w W
  op : Own 9 1 (w.heap.size + 2) W (.slice p ss.length e) ss.length (strs ss) W
  oq : Own 53 2 (w.heap.size + 2) W (.slice q us.length f) us.length (wrs us) W
  td : Two W w.heap.size (.slice p ss.length e) (.slice q us.length f)
  tr : Two W (w.heap.size + 1) (.slice none 0 0) (.slice none 0 0)
theorem PutS.low {w : World} {p : Option Addr} {e : Nat} {q : Option Addr} {f : Nat} {ss : List ByteArray} {us : List (Int × ByteArray)} {W W' : World} (h : PutS w p e q f ss us W) (hb : Below W.heap.size W W') : PutS w p e q f ss us W' :=
  ⟨below_step1 h.be hb, h.op.stay hb, h.oq.stay hb, h.td.grown (grown_of_below none hb) (fun e => by cases e), h.tr.grown (grown_of_below none hb) (fun e => by cases e)⟩
theorem PutS.ret {w : World} {p : Option Addr} {e : Nat} {q : Option Addr} {f : Nat} {ss : List ByteArray} {us : List (Int × ByteArray)} {W : World} (h : PutS w p e q f ss us W) (hok : devOkB ss us = true) (ok : Bool) :
    PutPost ss w (.returned (.tuple #[.agg #[.slice p ss.length e, .slice q us.length f], .bool ok])) ((W.setCell ⟨w.heap.size + 1, 0, none⟩ (.slice p ss.length e)).setCell ⟨w.heap.size + 1, 1, none⟩ (.slice q us.length f)) := by
  have hbp := h.op.blk
  have hbq := h.oq.blk
  have hp := (h.op.setFar (w.heap.size + 1) 0 (.slice p ss.length e) (fun k hk => by have := (hbp k hk).1; omega)).setFar (w.heap.size + 1) 1 (.slice q us.length f) (fun k hk => by have := (hbp k hk).1; omega)
  have hq := (h.oq.setFar (w.heap.size + 1) 0 (.slice p ss.length e) (fun k hk => by have := (hbq k hk).1; omega)).setFar (w.heap.size + 1) 1 (.slice q us.length f) (fun k hk => by have := (hbq k hk).1; omega)
  have hp2 : Own 9 1 w.heap.size _ (.slice p ss.length e) ss.length (strs ss) _ := ⟨row_mono1 hp.row (by omega), Below.refl _ _, Nat.le_trans (by omega) hp.base⟩
  have hq2 : Own 53 2 w.heap.size _ (.slice q us.length f) us.length (wrs us) _ := ⟨row_mono1 hq.row (by omega), Below.refl _ _, Nat.le_trans (by omega) hq.base⟩
  exact ⟨_, ok, us, rfl, ⟨p, e, q, f, rfl, hp2, hq2, own_apart hp2 hq2 (by decide)⟩, hok, (h.be.setCell (p := ⟨w.heap.size + 1, 0, none⟩) (by dsimp only; omega) _).setCell (p := ⟨w.heap.size + 1, 1, none⟩) (by dsimp only; omega) _⟩
set_option maxRecDepth 1000000 in
set_option maxHeartbeats 6000000 in
theorem specPut_any (a b : Option Addr) (c d : Nat) (ss : List ByteArray) (us : List (Int × ByteArray)) (x : Int × ByteArray) (lb : Nat) (w : World) (h1 : Rd w a ss.length c 1 (strs ss)) (h2 : Rd w b us.length d 2 (wrs us)) (hl : Rd w (some ⟨lb, 0, none⟩) 1 1 2 (wrs [x])) (hok : devOkB ss us = true) :
    Calls Try.prog 111 #[dvV a ss.length c b us.length d, .slice (some ⟨lb, 0, none⟩) 1 1] w (PutPost ss w) := by
  obtain ⟨hs18, hu40⟩ := devOk_two hok
  have HB0 := Lib.hid ((box_alloc w (.cells #[.slice a ss.length c, .slice b us.length d] 32)).alloc (by simp) (.cells #[.slice none 0 0, .slice none 0 0] 32))
  have HD0 := Lib.hid ((two_new w 32 (.slice a ss.length c) (.slice b us.length d)).alloc (.cells #[.slice none 0 0, .slice none 0 0] 32))
  have hr0 := two_new (w.alloc (.cells #[.slice a ss.length c, .slice b us.length d] 32)) 32 (.slice none 0 0) (.slice none 0 0)
  have e0 : (w.alloc (.cells #[.slice a ss.length c, .slice b us.length d] 32)).heap.size = w.heap.size + 1 := by simp
  rw [e0] at hr0
  have HR0 := Lib.hid hr0
  have H1 := Lib.hid h1
  have H2 := Lib.hid h2
  have HL := Lib.hid hl
  have HOK := Lib.hid hok
  have HS18 := Lib.hid hs18
  have hss : ss.length ≤ 1048576 := by omega
  have hlx := hl.at' (by omega)
  obtain ⟨lb2, lo2, he, hlt, hlc⟩ := hlx
  simp only [Option.some.injEq, Addr.mk.injEq, and_true] at he
  obtain ⟨rfl, rfl⟩ := he
  have hx0 := hlc 0 (by simp)
  have hx1 := hlc 1 (by simp)
  have g0 : (wrs [x])[0]'(by simp) = .int .i64 x.1 := wrs_get0 [x] 0 (by simp)
  have g1 : (wrs [x])[1]'(by simp) = .string x.2 := wrs_get1 [x] 0 (by simp)
  rw [g0] at hx0
  rw [g1] at hx1
  have HLX := Lib.hid (And.intro hx0 hx1)
  have HLT := Lib.hid hlt
  clear h1 h2 hl hr0 e0 hs18 hlc hx0 hx1 g0 g1 hok hlt
  unfold dvV
  go_enter Try.func111, Try.ntmps111
  go_wp2_with fail
  refine (specDevOk_any _ ss us _ ⟨a, c, b, d, rfl, H1.out.below HB0.out (Nat.le_refl _), H2.out.below HB0.out (Nat.le_refl _)⟩).mono ?_
  rintro e w1 ⟨rfl, hb⟩
  rw [HOK.out]
  have HB1 := Lib.hid (below_step1 HB0.out hb)
  have HD1 := Lib.hid (HD0.out.grown (grown_of_below none hb) (fun e => by cases e))
  have HR1 := Lib.hid (HR0.out.grown (grown_of_below none hb) (fun e => by cases e))
  have hd0 := HD1.out.1.1
  have hd1 := HD1.out.1.2
  have hdl := HD1.out.lt
  clear hb HB0 HD0 HR0
  go_wp2_with fail
  refine (l8Copy_any _ ss us _ ⟨a, c, b, d, rfl, H1.out.below HB1.out (Nat.le_refl _), H2.out.below HB1.out (Nat.le_refl _)⟩ hss (by omega)).mono ?_
  rintro e w2 ⟨v2, rfl, hO, hb⟩
  have HB2 := Lib.hid (below_step1 HB1.out hb)
  have HD2 := Lib.hid (HD1.out.grown (grown_of_below none hb) (fun e => by cases e))
  have HR2 := Lib.hid (HR1.out.grown (grown_of_below none hb) (fun e => by cases e))
  have hsz : w.heap.size + 1 < w1.heap.size := HR1.out.lt
  obtain ⟨p, e2, q, f2, rfl, hP, hQ, -⟩ := hO.ex
  have hbp := hP.blk
  have hbq := hQ.blk
  have HPS : Hid (PutS w p e2 q f2 ss us ((w2.setCell ⟨w.heap.size, 0, none⟩ (.slice p ss.length e2)).setCell ⟨w.heap.size, 1, none⟩ (.slice q us.length f2))) := Lib.hid (by
    have npD : ∀ k, (Value.slice p ss.length e2).ownBlock = some k → w.heap.size + 1 < k := fun k hk => by have := (hbp k hk).1; omega
    have nqD : ∀ k, (Value.slice q us.length f2).ownBlock = some k → w.heap.size + 1 < k := fun k hk => by have := (hbq k hk).1; omega
    have hp := (hP.setFar w.heap.size 0 (.slice p ss.length e2) (fun k hk => by have := npD k hk; omega)).setFar w.heap.size 1 (.slice q us.length f2) (fun k hk => by have := npD k hk; omega)
    have hq := (hQ.setFar w.heap.size 0 (.slice p ss.length e2) (fun k hk => by have := nqD k hk; omega)).setFar w.heap.size 1 (.slice q us.length f2) (fun k hk => by have := nqD k hk; omega)
    exact ⟨(HB2.out.setCell (p := ⟨w.heap.size, 0, none⟩) (Nat.le_refl _) _).setCell (p := ⟨w.heap.size, 1, none⟩) (Nat.le_refl _) _, ⟨row_mono1 hp.row (by omega), Below.refl _ _, Nat.le_trans (by omega) hp.base⟩, ⟨row_mono1 hq.row (by omega), Below.refl _ _, Nat.le_trans (by omega) hq.base⟩,
      (HD2.out.set00 _).set1 _, (HR2.out.far (by omega)).far (by omega)⟩)
  have hdl2 := HD2.out.lt
  have hdf0 := HD2.out.2.1
  have hdf1 := HD2.out.2.2
  have hc0 := HD2.out.1.1
  have hc1 := HD2.out.1.2
  clear hO hb hP hQ hbp hbq HB1 HD1 HR1 HB2 HD2 HR2 hd0 hd1 hdl hsz H1 H2
  unfold dvV
  go_upto_region 4 with (fail)
  refine wp_gens (fun W => PutS w p e2 q f2 ss us W) (by exact HPS.out) ?_
  intro W3 hX
  have HX3 := Lib.hid hX
  clear hX HPS hdl2 hdf0 hdf1 hc0 hc1
  have hx0 := HX3.out.td.1.1
  have hx1 := HX3.out.td.1.2
  have hxl := HX3.out.td.lt
  have hkw : IntKind.i64.wrap (40 - (us.length : Int)) = 40 - (us.length : Int) := IntWalk.i64_in _ ⟨by omega, by omega⟩
  by_cases hfull : us.length = 40
  · have hgt : (40 : Int) - (us.length : Int) < 1 := by omega
    have hr0 := HX3.out.tr.1.1
    have hr1 := HX3.out.tr.1.2
    have hrf0 := HX3.out.tr.2.1
    have hrf1 := HX3.out.tr.2.2
    have hrl := HX3.out.tr.lt
    have HF := Lib.hid hfull
    clear hfull
    go_wp2
    refine bodyPost_ret (v := .tuple #[.agg #[.slice p ss.length e2, .slice q us.length f2], .bool false]) (by simp [results, Try.results111, go_sem, hr0, hr1, hrl]) rfl ?_
    exact HX3.out.ret HOK.out false
  · have hgt : ¬ (40 : Int) - (us.length : Int) < 1 := by omega
    have hu39 : us.length ≤ 39 := by omega
    clear hfull
    go_wp2
    go_loopg [6] 1 (fun gg i wr => ∃ k : Nat, k + gg = 1 ∧ i = .int .i64 (k : Int) ∧ Hid (PutS w p e2 q f2 ss us wr) ∧ Hid (k = 1 → wrOk x = true))
    case atStart => exact ⟨0, by omega, rfl, HX3, Lib.hid (fun h => by omega)⟩
    case round =>
      obtain ⟨k, hk, rfl, HX, HW⟩ := hrel
      clear hx0 hx1 hxl
      have hl0 := (box_below (w' := wr) HLX.out.1 HX.out.be)
      have hl1 := (box_below (w' := wr) HLX.out.2 HX.out.be)
      by_cases hlt : k < 1
      · have hk0 : k = 0 := by omega
        subst hk0
        go_wp2_with fail
        refine (l8WriteOk_any x _).mono ?_
        rintro e w5 ⟨rfl, hb⟩
        have HX5 := Lib.hid (HX.out.low hb)
        have hdl5 := HX5.out.td.lt
        clear hb HX hl0 hl1
        cases hwx : wrOk x with
        | true =>
          have HWX := Lib.hid hwx
          clear hwx
          go_wp2
          go_roundg (gk - 1)
          case measure => omega
          case rel => exact ⟨1, by omega, by go_num, HX5, Lib.hid (fun _ => HWX.out)⟩
        | false =>
          clear hwx
          have hx0 := HX5.out.td.1.1
          have hx1 := HX5.out.td.1.2
          have hr0 := HX5.out.tr.1.1
          have hr1 := HX5.out.tr.1.2
          have hrf0 := HX5.out.tr.2.1
          have hrf1 := HX5.out.tr.2.2
          have hrl := HX5.out.tr.lt
          go_wp2
          refine bodyPost_ret (v := .tuple #[.agg #[.slice p ss.length e2, .slice q us.length f2], .bool false]) (by simp [results, Try.results111, go_sem, hr0, hr1, hrl]) rfl ?_
          exact HX5.out.ret HOK.out false
      · have hk1 : k = 1 := by omega
        subst hk1
        have HOK2 := Lib.hid (devOk_add HOK.out (HW.out rfl) hu39)
        have hx1 := HX.out.td.1.2
        have hxl := HX.out.td.lt
        have hHB := HX.out.oq.blk
        have HBQ := Lib.hid hHB
        clear hHB hl0 hl1
        go_wp2_with (at_builtin; go_loud (refine wp_appn rfl _ _ 30 rfl 53 (.agg #[.int .i64 0, .string ByteArray.empty]) 2 24 Try.underlying30 info_wr rfl (by decide) _ _ _ _ _ (by rfl) (by exact HX.out.oq) _ 1 1 _ (by rfl) (by exact HL.out.below HX.out.be (Nat.le_refl _)) (wrs_one _) (by omega) (by unfold maxLen; omega) ?_); intro a9 c9 w9 hO9 hG9 hN9; have HD9 := Lib.hid (HX.out.td.grown hG9 (fun e => by have := (HBQ.out _ e).1; omega)); have y1 := HD9.out.1.2; have y0 := HD9.out.1.1; have v1 := HD9.out.2.2; have HR9 := Lib.hid (HX.out.tr.grown hG9 (fun e => by have := (HBQ.out _ e).1; omega)); have HO9 := Lib.hid hO9; have HG9 := Lib.hid hG9; have hzT := HD9.out.lt; have hr0 := HR9.out.1.1; have hr1 := HR9.out.1.2; have hrf0 := HR9.out.2.1; have hrf1 := HR9.out.2.2; have hrl := HR9.out.lt; clear hG9 hN9 hO9)
        have HX9 : Hid (PutS w p e2 a9 c9 ss (us ++ [x]) (w9.setCell ⟨w.heap.size, 1, none⟩ (.slice a9 (us.length + 1) c9))) := Lib.hid (by
          have hop := HX.out.op.otherLow HG9.out (fun k hk e => own_apart HX.out.op HX.out.oq (by decide) k e hk)
          have hoq : Own 53 2 (w.heap.size + 2) w9 (.slice a9 (us.length + 1) c9) (us.length + 1) (wrs (us ++ [x])) w9 := by
            rw [wrs_append]
            exact ⟨HO9.out.row, Below.refl _ _, Nat.le_trans HX.out.oq.base HG9.out.size⟩
          have hbp := hop.blk
          have hbq := hoq.blk
          have hbe : Below w.heap.size w w9 := HX.out.be.grown HG9.out HX.out.be.size (fun k hk => by have := (HBQ.out k hk).1; omega)
          have hoq2 := hoq.setFar w.heap.size 1 (.slice a9 (us.length + 1) c9) (fun k hk => by have := (hbq k hk).1; omega)
          have e9 : (us ++ [x]).length = us.length + 1 := by simp
          refine ⟨hbe.setCell (p := ⟨w.heap.size, 1, none⟩) (Nat.le_refl _) _, hop.setFar w.heap.size 1 _ (fun k hk => by have := (hbp k hk).1; omega), ?_, ?_, HR9.out.far (by omega)⟩
          · rw [e9]; exact hoq2
          · rw [e9]; exact HD9.out.set1 _)
        refine bodyPost_ret (v := .tuple #[.agg #[.slice p ss.length e2, .slice a9 (us.length + 1) c9], .bool true]) (by simp [results, Try.results111, go_sem, hr0, hr1, hrl]) rfl ?_
        have h := HX9.out.ret HOK2.out true
        have e9 : (us ++ [x]).length = us.length + 1 := by simp
        rw [e9] at h
        exact h
end Go.Proofs.Ytbokgbbdjcpgbaa
