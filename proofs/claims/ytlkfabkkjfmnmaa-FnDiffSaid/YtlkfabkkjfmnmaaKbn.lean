import Derived.Test.YtlkfabkkjfmnmaaKaa
import Derived.Test.YtlkfabkkjfmnmaaKab
import Derived.Test.YtlkfabkkjfmnmaaKam
import Derived.Test.YtlkfabkkjfmnmaaKbk
import Derived.Test.YtlkfabkkjfmnmaaKbm
import Derived.Deep.CutRange
namespace Go.Proofs.Ytlkfabkkjfmnmaa
open Go.RowKit
set_option linter.all false
def nvIno : InoP := ⟨⟨1, 2, 1, ⟨#[]⟩, []⟩, none, 0⟩
set_option maxRecDepth 1000000 in
set_option maxHeartbeats 6000000 in
theorem newVolD_any (w : World) : Calls Try.prog 17 #[] w fun e w' => ∃ (g : Nat) (c : Nat), e = .returned (.agg #[.int .i64 2, .slice (some ⟨g, 0, none⟩) 1 c]) ∧ VolOwn w.heap.size w (some ⟨g, 0, none⟩) c [nvIno] w' := by
 go_enter Try.func17, Try.ntmps17
 go_wp2
 have h := Own.lit (e := 49) (size := 5) (n := 1) (boxA w (.cells #[.int .i64 2, .slice (some ⟨w.heap.size + 1, 0, none⟩) 1 1] 37)) (by simp) #[.int .i64 1, .int .i64 2, .int .i64 1, .string ⟨#[]⟩, .slice none 0 0] rfl (by decide)
 have e : (w.alloc (.cells #[.int .i64 2, .slice (some ⟨w.heap.size + 1, 0, none⟩) 1 1] 37)).heap.size = w.heap.size + 1 := by simp
 rw [e] at h
 have HH := Lib.hid h
 clear h e
 refine bodyPost_ret (v := .agg #[.int .i64 2, .slice (some ⟨w.heap.size + 1, 0, none⟩) 1 1]) (by simp [results, Try.results17, go_sem]) rfl ?_
 refine ⟨w.heap.size + 1, 1, rfl, HH.out, fun y hy => ?_, List.pairwise_singleton ..⟩
 rw [List.mem_singleton] at hy
 subst hy
 exact own_none HH.out.below HH.out.base
def DrewVol (a : Option Addr) (n cap : Nat) (bs : List Int) (g : Nat) (w : World) (e : Ending) (w' : World) : Prop :=
 ∃ (next : Int) (va : Option Addr) (vc : Nat) (m : List InoP) (cs : CS), e = .returned (.agg #[.int .i64 next, .slice va m.length vc]) ∧ Inv d0 next (xs m) ∧ VolOwn w.heap.size w' va vc m w' ∧ CurAt a n cap bs g cs w' ∧ w.grownBy w' (some g)
theorem ret_l6Vol {Post : Ending → World → Prop} {a : Act} {wf : World} {R : Nat} {u0 : Int} {u1 : Value} (hc : Cs wf R [.int .i64 u0, u1]) (h2 : a.tmps[4]?.getD undef = .pointer (some ⟨R, 0, none⟩)) (hd : a.defers = [])
  (hp : Post (.returned (.agg #[.int .i64 u0, u1])) wf) : bodyPost Try.prog Try.f10 Post Exit.ret a wf := by
 obtain ⟨⟨r0, r1⟩, -⟩ := hc.two
 exact bodyPost_ret (v := .agg #[.int .i64 u0, u1]) (by simp [results, Try.results10, go_sem, h2, r0, r1]) hd hp
set_option maxRecDepth 1000000 in
set_option maxHeartbeats 6000000 in
theorem l6Vol_any (a : Option Addr) (n cap : Nat) (bs : List Int) (g : Nat) (s : CS) (most : Int) (w : World) (hC : CurAt a n cap bs g s w) (hm0 : 1 ≤ most) (hm : most ≤ 900) :
  Calls Try.prog 10 #[.pointer (some ⟨g, 0, none⟩), .int .i64 most] w (DrewVol a n cap bs g w) := by
 have hgl := hC.lt
 have HC0 := Lib.hid (hC.alloc (.cells #[.int .i64 0, .slice none 0 0] 37))
 have HR0 := Lib.hid (cs_new w 37 #[.int .i64 0, .slice none 0 0])
 have HG0 := Lib.hid (World.grownBy_alloc w (.cells #[.int .i64 0, .slice none 0 0] 37) (some g))
 have hz1 : w.heap.size < (w.alloc (.cells #[.int .i64 0, .slice none 0 0] 37)).heap.size := by simp
 clear hC
 go_enter Try.func10, Try.ntmps10
 go_wp2_with fail
 generalize w.alloc (.cells #[.int .i64 0, .slice none 0 0] 37) = w1 at *
 refine (newVolD_any _).mono ?_
 rintro e w2 ⟨g1, c1, rfl, hv⟩
 obtain ⟨vb, hvb⟩ : ∃ vb, vb = w2.heap.size := ⟨_, rfl⟩
 have hb2 := hv.below
 have hz2 : w.heap.size < w2.heap.size := Nat.lt_of_lt_of_le hz1 hb2.size
 have HV0 : Hid (VolOwn w.heap.size (w2.alloc (.cells #[.int .i64 2, .slice (some ⟨g1, 0, none⟩) 1 c1] 37)) (some ⟨g1, 0, none⟩) c1 [nvIno] (w2.alloc (.cells #[.int .i64 2, .slice (some ⟨g1, 0, none⟩) 1 c1] 37))) := Lib.hid (volOwn_row (hv.alloc _) (by omega) (Below.refl _ _) (by simp; omega))
 have HNE0 : Hid (∀ q, VolBl (some ⟨g1, 0, none⟩) c1 [nvIno] q → q ≠ vb ∧ q ≠ w.heap.size) := Lib.hid (fun q hq => by have := hv.bl q hq; omega)
 have HX0 : Hid (Cs (w2.alloc (.cells #[.int .i64 2, .slice (some ⟨g1, 0, none⟩) 1 c1] 37)) vb [.int .i64 2, .slice (some ⟨g1, 0, none⟩) 1 c1]) := Lib.hid (by rw [hvb]; exact cs_new w2 37 #[.int .i64 2, .slice (some ⟨g1, 0, none⟩) 1 c1])
 have HRB0 := Lib.hid ((HR0.out.below hb2).alloc (.cells #[.int .i64 2, .slice (some ⟨g1, 0, none⟩) 1 c1] 37))
 have HC1 := Lib.hid ((HC0.out.kept hb2).alloc (.cells #[.int .i64 2, .slice (some ⟨g1, 0, none⟩) 1 c1] 37))
 have HG1 := Lib.hid ((HG0.out.trans (grown_of_below (some g) hb2)).trans (World.grownBy_alloc w2 (.cells #[.int .i64 2, .slice (some ⟨g1, 0, none⟩) 1 c1] 37) (some g)))
 clear hv hb2 HC0 HR0 HG0
 go_wp2_with fail
 rw [← hvb]
 generalize w2.alloc (.cells #[.int .i64 2, .slice (some ⟨g1, 0, none⟩) 1 c1] 37) = w3 at *
 have hvw : w.heap.size < vb := by omega
 clear hvb hz1 hz2
 refine (l1Below_any a n cap bs g _ most _ HC1.out (by omega)).mono ?_
 rintro e w4 ⟨rfl, hC1, hG2⟩
 have hr2 := belowF_range bs most s (by omega)
 have HC2 := Lib.hid hC1
 have HG2 := Lib.hid (HG1.out.trans hG2)
 have HX2 := Lib.hid (HX0.out.grown hG2 (by simp; omega))
 have HRB2 := Lib.hid (HRB0.out.grown hG2 (by simp; omega))
 have HV2 := Lib.hid (HV0.out.low hG2 (fun q hq e => by have := (HV0.out.bl q hq).1; have := Option.some.inj e; omega))
 clear hC1 hG2 HC1 HG1 HX0 HRB0 HV0
 simp only at HC2 ⊢
 generalize (belowF bs most s).2 = s2 at *
 generalize (belowF bs most s).1 = k2 at *
 obtain ⟨hk0, hk1⟩ := hr2
 obtain ⟨K, rfl⟩ := Int.eq_ofNat_of_zero_le hk0
 clear hk0
 go_wp2
 go_loopg [6] K (fun gg i wr => ∃ (next : Int) (va : Option Addr) (vc : Nat) (m : List InoP) (cs : CS), i = .int .i64 (gg : Nat) ∧ gg ≤ K ∧ Hid (Inv d0 next (xs m)) ∧ Hid (VolOwn w.heap.size wr va vc m wr) ∧ Hid (Cs wr vb [.int .i64 next, .slice va m.length vc]) ∧ Hid (Cs wr w.heap.size [.int .i64 0, .slice none 0 0]) ∧ Hid (CurAt a n cap bs g cs wr) ∧ Hid (w.grownBy wr (some g)) ∧ Hid (∀ q, VolBl va vc m q → q ≠ vb ∧ q ≠ w.heap.size))
 case atStart => exact ⟨2, some ⟨g1, 0, none⟩, c1, [nvIno], s2, rfl, Nat.le_refl _, Lib.hid inv_new, HV2, HX2, HRB2, HC2, HG2, HNE0⟩
 case round =>
  clear HV2 HX2 HRB2 HC2 HG2 HNE0
  obtain ⟨next, va, vc, m, cs, rfl, hgk, HI, HV, HVB, HRB, HC, HG, HNE⟩ := hrel
  have hwr := HG.out.size
  cases gk with
  | zero =>
   obtain ⟨⟨v0, v1⟩, -⟩ := HVB.out.two
   have hsm := inv_small HI.out
   go_wp2_with fail
   refine (l6Copy_any next va vc m _ HV.out.p (by have := hsm.1; omega) (fun y hy => by have := (hsm.2 y hy).1; omega)).mono ?_
   rintro e w5 ⟨a9, c9, m9, rfl, hl9, hx9, hv9⟩
   have HRB5 := Lib.hid (HRB.out.below hv9.below)
   have HLT := HRB.out.lt
   have HRF := Lib.hid ((HRB5.out.set 0 (.int .i64 next)).set 1 (.slice a9 m.length c9))
   have HVF := Lib.hid (volOwn_row (W1 := ((w5.setCell ⟨w.heap.size, 0, none⟩ (.int .i64 next)).setCell ⟨w.heap.size, 1, none⟩ (.slice a9 m.length c9))) (B' := w.heap.size) (hv9.res2l w.heap.size (fun q hq => by have := (hv9.bl q hq).1; omega) (.int .i64 next) (.slice a9 m.length c9)) (by omega) (Below.refl _ _) (by have := hv9.below.size; simp [World.setCell]; omega))
   have HCF := Lib.hid (((HC.out.kept hv9.below).grown (setCell_grown2 _ w.heap.size 0 (.int .i64 next)) (fun q hq => by cases hq; omega)).grown (setCell_grown2 _ w.heap.size 1 (.slice a9 m.length c9)) (fun q hq => by cases hq; omega))
   have HGF := Lib.hid (grown_res2 (HG.out.trans (grown_of_below (some g) hv9.below)) w.heap.size (Nat.le_refl _) (.int .i64 next) (.slice a9 m.length c9))
   have HIF : Hid (Inv d0 next (xs m9)) := Lib.hid (by rw [hx9]; exact HI.out)
   have HLF := Lib.hid hl9
   clear hv9 hx9 hl9 hsm v0 v1
   obtain ⟨⟨r0, r1⟩, fr0, fr1⟩ := HRB5.out.two
   go_wp2
   exact ret_l6Vol HRF.out (by rfl) (by rfl) ⟨next, a9, c9, m9, cs, by rw [HLF.out], HIF.out, HVF.out, HCF.out, HGF.out⟩
  | succ gq =>
   have hgq : (0 : Int) < ((gq + 1 : Nat) : Int) := by omega
   go_upto_region 5 with fail
   have HVd := Lib.hid ((HV.out.drew).self)
   have HVBd := Lib.hid HVB.out.drew
   have HRBd := Lib.hid HRB.out.drew
   have HCd := Lib.hid HC.out.drew
   have HGd := Lib.hid (grown_drew HG.out)
   have hvl := HVB.out.lt
   clear HV HVB HRB HC HG
   obtain ⟨⟨v0, v1⟩, -⟩ := HVBd.out.two
   refine wp_region_held_drew (S := (fun _ => True)) (by kernel_rfl) ?_ (fun hHeld => ?_)
   ·try dsimp only
    all_goals trivial
   change wpAnyH _ _ _ _ _ 9 #[false, false, false, false, false, false, false, false, false] _ _
   refine wpH_take (i := 1) (v := ?_) rfl (by kernel_rfl) (by kernel_rfl) (by kernel_rfl) (fun _ _ _ h => h) (by rfl) ?_ (by assumption) ?_; rotate_left; (focus (intro w hSw; (try dsimp only at hSw); go_simp; try with_reducible rfl)); try simp only [Act.put, List.setIfInBounds_toArray, List.set_cons_zero, List.set_cons_succ]
   refine wpAnyH_ready (rs := [0, 2]) (by kernel_rfl) (by simp) ?_
   refine AllReadyH.cons rfl (fun K hK => ?_) (AllReadyH.cons rfl (fun K hK => ?_) AllReadyH.nil)
   ·try dsimp only at hHeld
    go_simp
    refine hK.out _ _ trivial (fun hHeld2 => ?_)
    clear hK K hHeld
    have hHeld := hHeld2
    clear hHeld2
    refine wpAnyH_ready (rs := [2]) (by kernel_rfl) (by simp) ?_
    refine AllReadyH.cons rfl (fun K hK => ?_) AllReadyH.nil
    try dsimp only at hHeld
    go_simp
    skip
    refine hK.out _ _ ?_ (fun hHeld2 => ?_)
    ·try dsimp only
     all_goals trivial
    clear hK K hHeld
    have hHeld := hHeld2
    clear hHeld2
    refine wpAnyH_ready (rs := [3]) (by kernel_rfl) (by simp) ?_
    refine AllReadyH.cons rfl (fun K hK => ?_) AllReadyH.nil
    try dsimp only at hHeld
    go_simp
    (go_at_call 19; refine (l6Call_any a n cap bs g cs w.heap.size _ next va vc m _ HCd.out HVd.out hgl HI.out).mono ?_; rintro e w2 ⟨kd, dir, nm, tt, sa, dt, cs2, rfl, hz1, hz2, hz3, hC2, hG2⟩)
    refine hK.out _ _ ?_ (fun hHeld2 => ?_)
    ·try dsimp only
     all_goals trivial
    clear hK K hHeld
    have hHeld := hHeld2
    clear hHeld2
    have HV2 := Lib.hid (HVd.out.low hG2 (fun q hq e => by have := (HVd.out.bl q hq).1; have := Option.some.inj e; omega))
    have HVB2 := Lib.hid (HVBd.out.grown hG2 (by simp; omega))
    have HRB2 := Lib.hid (HRBd.out.grown hG2 (by simp; omega))
    have HC2 := Lib.hid hC2
    have HG2 := Lib.hid (HGd.out.trans hG2)
    clear hC2 hG2 v0 v1
    obtain ⟨⟨v0, v1⟩, fv0, fv1⟩ := HVB2.out.two
    refine wpAnyH_ready (rs := [4]) (by kernel_rfl) (by simp) ?_
    refine AllReadyH.cons rfl (fun K hK => ?_) AllReadyH.nil
    try dsimp only at hHeld
    go_simp
    (go_at_call 18; refine (l6Do_any w.heap.size next va vc m kd dir nm tt sa dt _ HV2.out HI.out (by unfold maxLen; omega) (by unfold maxLen; omega) (by unfold maxLen; omega)).mono ?_; rintro e w3 ⟨nx, a9, c9, m9, u0, u1, u2, u3, rfl, hI9, hV9, hB9, hQ9⟩)
    refine hK.out _ _ ?_ (fun hHeld2 => ?_)
    ·try dsimp only
     all_goals trivial
    clear hK K hHeld
    have hHeld := hHeld2
    clear hHeld2
    have HVB3 := Lib.hid (HVB2.out.below hB9)
    have HRB3 := Lib.hid (HRB2.out.below hB9)
    have HC3 := Lib.hid (HC2.out.kept hB9)
    have HG3 := Lib.hid (HG2.out.trans (grown_of_below (some g) hB9))
    have HNE3 : Hid (∀ q, VolBl a9 c9 m9 q → q ≠ vb ∧ q ≠ w.heap.size) := Lib.hid (fun q hq => by
     rcases hQ9 q hq with h | h
     ·exact HNE.out q h
     ·have := HVB2.out.lt; have := HRB2.out.lt; omega)
    have HI9 := Lib.hid hI9
    have HV9 := Lib.hid hV9
    clear hI9 hV9 hB9 hQ9 v0 v1 fv0 fv1 HV2 HVB2 HRB2 HC2 HG2
    obtain ⟨⟨v0, v1⟩, fv0, fv1⟩ := HVB3.out.two
    refine wpH_take (i := 5) (v := ?_) rfl (by kernel_rfl) (by kernel_rfl) (by kernel_rfl) (fun _ _ _ h => h) (by rfl) ?_ (by assumption) ?_; rotate_left; (focus (intro w hSw; (try dsimp only at hSw); go_simp; try with_reducible rfl)); try simp only [Act.put, List.setIfInBounds_toArray, List.set_cons_zero, List.set_cons_succ]
    refine wpH_take (i := 6) (v := ?_) rfl (by kernel_rfl) (by kernel_rfl) (by kernel_rfl) (fun _ _ _ h => h) (by rfl) ?_ (by assumption) ?_; rotate_left; (focus (intro w hSw; (try dsimp only at hSw); go_simp; try with_reducible rfl)); try simp only [Act.put, List.setIfInBounds_toArray, List.set_cons_zero, List.set_cons_succ]
    refine wpH_take (i := 7) (v := ?_) rfl (by kernel_rfl) (by kernel_rfl) (by kernel_rfl) (fun _ _ _ h => h) (by rfl) ?_ (by assumption) ?_; rotate_left; (focus (intro w hSw; (try dsimp only at hSw); go_simp; try with_reducible rfl)); try simp only [Act.put, List.setIfInBounds_toArray, List.set_cons_zero, List.set_cons_succ]
    refine wpAnyH_ready (rs := [8]) (by kernel_rfl) (by simp) ?_
    refine AllReadyH.cons rfl (fun K hK => ?_) AllReadyH.nil
    try dsimp only at hHeld
    go_simp
    skip
    refine hK.out _ _ ?_ (fun hHeld2 => ?_)
    ·try dsimp only
     all_goals trivial
    clear hK K hHeld
    have hHeld := hHeld2
    clear hHeld2
    refine wpAnyH_done (by kernel_rfl) ?_ _
    try dsimp only at hHeld
    clear hHeld
    go_wp2
    go_roundg gq
    case measure => omega
    case rel => exact ⟨nx, a9, c9, m9, cs2, by go_num, by omega, HI9, Lib.hid (volOwn_row (B' := w.heap.size) (W1 := (w3.setCell ⟨vb, 0, none⟩ (.int .i64 nx)).setCell ⟨vb, 1, none⟩ (.slice a9 m9.length c9)) (HV9.out.res2l vb (fun q hq => (HNE3.out q hq).1) (.int .i64 nx) (.slice a9 m9.length c9)) (Nat.le_refl _) (Below.refl _ _) (HV9.out.res2l vb (fun q hq => (HNE3.out q hq).1) (.int .i64 nx) (.slice a9 m9.length c9)).top.base), Lib.hid ((HVB3.out.set 0 _).set 1 _), Lib.hid ((HRB3.out.far (g := vb) (j := 0) (u := .int .i64 nx) (by omega)).far (g := vb) (j := 1) (u := .slice a9 m9.length c9) (by omega)), Lib.hid ((HC3.out.grown (setCell_grown2 _ vb 0 _) (fun q hq => by cases hq; omega)).grown (setCell_grown2 _ vb 1 _) (fun q hq => by cases hq; omega)), Lib.hid (grown_res2 HG3.out vb (by omega) _ _), HNE3⟩
   ·try dsimp only at hHeld
    go_simp
    refine hK.out _ _ trivial (fun hHeld2 => ?_)
    clear hK K hHeld
    have hHeld := hHeld2
    clear hHeld2
    refine wpAnyH_ready (rs := [0, 3]) (by kernel_rfl) (by simp) ?_
    refine AllReadyH.cons rfl (fun K hK => ?_) (AllReadyH.cons rfl (fun K hK => ?_) AllReadyH.nil)
    ·try dsimp only at hHeld
     go_simp
     refine hK.out _ _ trivial (fun hHeld2 => ?_)
     clear hK K hHeld
     have hHeld := hHeld2
     clear hHeld2
     refine wpAnyH_ready (rs := [3]) (by kernel_rfl) (by simp) ?_
     refine AllReadyH.cons rfl (fun K hK => ?_) AllReadyH.nil
     try dsimp only at hHeld
     go_simp
     (go_at_call 19; refine (l6Call_any a n cap bs g cs w.heap.size _ next va vc m _ HCd.out HVd.out hgl HI.out).mono ?_; rintro e w2 ⟨kd, dir, nm, tt, sa, dt, cs2, rfl, hz1, hz2, hz3, hC2, hG2⟩)
     refine hK.out _ _ ?_ (fun hHeld2 => ?_)
     ·try dsimp only
      all_goals trivial
     clear hK K hHeld
     have hHeld := hHeld2
     clear hHeld2
     have HV2 := Lib.hid (HVd.out.low hG2 (fun q hq e => by have := (HVd.out.bl q hq).1; have := Option.some.inj e; omega))
     have HVB2 := Lib.hid (HVBd.out.grown hG2 (by simp; omega))
     have HRB2 := Lib.hid (HRBd.out.grown hG2 (by simp; omega))
     have HC2 := Lib.hid hC2
     have HG2 := Lib.hid (HGd.out.trans hG2)
     clear hC2 hG2 v0 v1
     obtain ⟨⟨v0, v1⟩, fv0, fv1⟩ := HVB2.out.two
     refine wpAnyH_ready (rs := [4]) (by kernel_rfl) (by simp) ?_
     refine AllReadyH.cons rfl (fun K hK => ?_) AllReadyH.nil
     try dsimp only at hHeld
     go_simp
     (go_at_call 18; refine (l6Do_any w.heap.size next va vc m kd dir nm tt sa dt _ HV2.out HI.out (by unfold maxLen; omega) (by unfold maxLen; omega) (by unfold maxLen; omega)).mono ?_; rintro e w3 ⟨nx, a9, c9, m9, u0, u1, u2, u3, rfl, hI9, hV9, hB9, hQ9⟩)
     refine hK.out _ _ ?_ (fun hHeld2 => ?_)
     ·try dsimp only
      all_goals trivial
     clear hK K hHeld
     have hHeld := hHeld2
     clear hHeld2
     have HVB3 := Lib.hid (HVB2.out.below hB9)
     have HRB3 := Lib.hid (HRB2.out.below hB9)
     have HC3 := Lib.hid (HC2.out.kept hB9)
     have HG3 := Lib.hid (HG2.out.trans (grown_of_below (some g) hB9))
     have HNE3 : Hid (∀ q, VolBl a9 c9 m9 q → q ≠ vb ∧ q ≠ w.heap.size) := Lib.hid (fun q hq => by
      rcases hQ9 q hq with h | h
      ·exact HNE.out q h
      ·have := HVB2.out.lt; have := HRB2.out.lt; omega)
     have HI9 := Lib.hid hI9
     have HV9 := Lib.hid hV9
     clear hI9 hV9 hB9 hQ9 v0 v1 fv0 fv1 HV2 HVB2 HRB2 HC2 HG2
     obtain ⟨⟨v0, v1⟩, fv0, fv1⟩ := HVB3.out.two
     refine wpH_take (i := 5) (v := ?_) rfl (by kernel_rfl) (by kernel_rfl) (by kernel_rfl) (fun _ _ _ h => h) (by rfl) ?_ (by assumption) ?_; rotate_left; (focus (intro w hSw; (try dsimp only at hSw); go_simp; try with_reducible rfl)); try simp only [Act.put, List.setIfInBounds_toArray, List.set_cons_zero, List.set_cons_succ]
     refine wpH_take (i := 6) (v := ?_) rfl (by kernel_rfl) (by kernel_rfl) (by kernel_rfl) (fun _ _ _ h => h) (by rfl) ?_ (by assumption) ?_; rotate_left; (focus (intro w hSw; (try dsimp only at hSw); go_simp; try with_reducible rfl)); try simp only [Act.put, List.setIfInBounds_toArray, List.set_cons_zero, List.set_cons_succ]
     refine wpH_take (i := 7) (v := ?_) rfl (by kernel_rfl) (by kernel_rfl) (by kernel_rfl) (fun _ _ _ h => h) (by rfl) ?_ (by assumption) ?_; rotate_left; (focus (intro w hSw; (try dsimp only at hSw); go_simp; try with_reducible rfl)); try simp only [Act.put, List.setIfInBounds_toArray, List.set_cons_zero, List.set_cons_succ]
     refine wpAnyH_ready (rs := [8]) (by kernel_rfl) (by simp) ?_
     refine AllReadyH.cons rfl (fun K hK => ?_) AllReadyH.nil
     try dsimp only at hHeld
     go_simp
     skip
     refine hK.out _ _ ?_ (fun hHeld2 => ?_)
     ·try dsimp only
      all_goals trivial
     clear hK K hHeld
     have hHeld := hHeld2
     clear hHeld2
     refine wpAnyH_done (by kernel_rfl) ?_ _
     try dsimp only at hHeld
     clear hHeld
     go_wp2
     go_roundg gq
     case measure => omega
     case rel => exact ⟨nx, a9, c9, m9, cs2, by go_num, by omega, HI9, Lib.hid (volOwn_row (B' := w.heap.size) (W1 := (w3.setCell ⟨vb, 0, none⟩ (.int .i64 nx)).setCell ⟨vb, 1, none⟩ (.slice a9 m9.length c9)) (HV9.out.res2l vb (fun q hq => (HNE3.out q hq).1) (.int .i64 nx) (.slice a9 m9.length c9)) (Nat.le_refl _) (Below.refl _ _) (HV9.out.res2l vb (fun q hq => (HNE3.out q hq).1) (.int .i64 nx) (.slice a9 m9.length c9)).top.base), Lib.hid ((HVB3.out.set 0 _).set 1 _), Lib.hid ((HRB3.out.far (g := vb) (j := 0) (u := .int .i64 nx) (by omega)).far (g := vb) (j := 1) (u := .slice a9 m9.length c9) (by omega)), Lib.hid ((HC3.out.grown (setCell_grown2 _ vb 0 _) (fun q hq => by cases hq; omega)).grown (setCell_grown2 _ vb 1 _) (fun q hq => by cases hq; omega)), Lib.hid (grown_res2 HG3.out vb (by omega) _ _), HNE3⟩
    ·try dsimp only at hHeld
     go_simp
     (go_at_call 19; refine (l6Call_any a n cap bs g cs w.heap.size _ next va vc m _ HCd.out HVd.out hgl HI.out).mono ?_; rintro e w2 ⟨kd, dir, nm, tt, sa, dt, cs2, rfl, hz1, hz2, hz3, hC2, hG2⟩)
     refine hK.out _ _ trivial (fun hHeld2 => ?_)
     clear hK K hHeld
     have hHeld := hHeld2
     clear hHeld2
     have HV2 := Lib.hid (HVd.out.low hG2 (fun q hq e => by have := (HVd.out.bl q hq).1; have := Option.some.inj e; omega))
     have HVB2 := Lib.hid (HVBd.out.grown hG2 (by simp; omega))
     have HRB2 := Lib.hid (HRBd.out.grown hG2 (by simp; omega))
     have HC2 := Lib.hid hC2
     have HG2 := Lib.hid (HGd.out.trans hG2)
     clear hC2 hG2 v0 v1
     obtain ⟨⟨v0, v1⟩, fv0, fv1⟩ := HVB2.out.two
     refine wpAnyH_ready (rs := [0]) (by kernel_rfl) (by simp) ?_
     refine AllReadyH.cons rfl (fun K hK => ?_) AllReadyH.nil
     try dsimp only at hHeld
     go_simp
     skip
     refine hK.out _ _ ?_ (fun hHeld2 => ?_)
     ·try dsimp only
      all_goals trivial
     clear hK K hHeld
     have hHeld := hHeld2
     clear hHeld2
     refine wpAnyH_ready (rs := [4]) (by kernel_rfl) (by simp) ?_
     refine AllReadyH.cons rfl (fun K hK => ?_) AllReadyH.nil
     try dsimp only at hHeld
     go_simp
     (go_at_call 18; refine (l6Do_any w.heap.size next va vc m kd dir nm tt sa dt _ HV2.out HI.out (by unfold maxLen; omega) (by unfold maxLen; omega) (by unfold maxLen; omega)).mono ?_; rintro e w3 ⟨nx, a9, c9, m9, u0, u1, u2, u3, rfl, hI9, hV9, hB9, hQ9⟩)
     refine hK.out _ _ ?_ (fun hHeld2 => ?_)
     ·try dsimp only
      all_goals trivial
     clear hK K hHeld
     have hHeld := hHeld2
     clear hHeld2
     have HVB3 := Lib.hid (HVB2.out.below hB9)
     have HRB3 := Lib.hid (HRB2.out.below hB9)
     have HC3 := Lib.hid (HC2.out.kept hB9)
     have HG3 := Lib.hid (HG2.out.trans (grown_of_below (some g) hB9))
     have HNE3 : Hid (∀ q, VolBl a9 c9 m9 q → q ≠ vb ∧ q ≠ w.heap.size) := Lib.hid (fun q hq => by
      rcases hQ9 q hq with h | h
      ·exact HNE.out q h
      ·have := HVB2.out.lt; have := HRB2.out.lt; omega)
     have HI9 := Lib.hid hI9
     have HV9 := Lib.hid hV9
     clear hI9 hV9 hB9 hQ9 v0 v1 fv0 fv1 HV2 HVB2 HRB2 HC2 HG2
     obtain ⟨⟨v0, v1⟩, fv0, fv1⟩ := HVB3.out.two
     refine wpH_take (i := 5) (v := ?_) rfl (by kernel_rfl) (by kernel_rfl) (by kernel_rfl) (fun _ _ _ h => h) (by rfl) ?_ (by assumption) ?_; rotate_left; (focus (intro w hSw; (try dsimp only at hSw); go_simp; try with_reducible rfl)); try simp only [Act.put, List.setIfInBounds_toArray, List.set_cons_zero, List.set_cons_succ]
     refine wpH_take (i := 6) (v := ?_) rfl (by kernel_rfl) (by kernel_rfl) (by kernel_rfl) (fun _ _ _ h => h) (by rfl) ?_ (by assumption) ?_; rotate_left; (focus (intro w hSw; (try dsimp only at hSw); go_simp; try with_reducible rfl)); try simp only [Act.put, List.setIfInBounds_toArray, List.set_cons_zero, List.set_cons_succ]
     refine wpH_take (i := 7) (v := ?_) rfl (by kernel_rfl) (by kernel_rfl) (by kernel_rfl) (fun _ _ _ h => h) (by rfl) ?_ (by assumption) ?_; rotate_left; (focus (intro w hSw; (try dsimp only at hSw); go_simp; try with_reducible rfl)); try simp only [Act.put, List.setIfInBounds_toArray, List.set_cons_zero, List.set_cons_succ]
     refine wpAnyH_ready (rs := [8]) (by kernel_rfl) (by simp) ?_
     refine AllReadyH.cons rfl (fun K hK => ?_) AllReadyH.nil
     try dsimp only at hHeld
     go_simp
     skip
     refine hK.out _ _ ?_ (fun hHeld2 => ?_)
     ·try dsimp only
      all_goals trivial
     clear hK K hHeld
     have hHeld := hHeld2
     clear hHeld2
     refine wpAnyH_done (by kernel_rfl) ?_ _
     try dsimp only at hHeld
     clear hHeld
     go_wp2
     go_roundg gq
     case measure => omega
     case rel => exact ⟨nx, a9, c9, m9, cs2, by go_num, by omega, HI9, Lib.hid (volOwn_row (B' := w.heap.size) (W1 := (w3.setCell ⟨vb, 0, none⟩ (.int .i64 nx)).setCell ⟨vb, 1, none⟩ (.slice a9 m9.length c9)) (HV9.out.res2l vb (fun q hq => (HNE3.out q hq).1) (.int .i64 nx) (.slice a9 m9.length c9)) (Nat.le_refl _) (Below.refl _ _) (HV9.out.res2l vb (fun q hq => (HNE3.out q hq).1) (.int .i64 nx) (.slice a9 m9.length c9)).top.base), Lib.hid ((HVB3.out.set 0 _).set 1 _), Lib.hid ((HRB3.out.far (g := vb) (j := 0) (u := .int .i64 nx) (by omega)).far (g := vb) (j := 1) (u := .slice a9 m9.length c9) (by omega)), Lib.hid ((HC3.out.grown (setCell_grown2 _ vb 0 _) (fun q hq => by cases hq; omega)).grown (setCell_grown2 _ vb 1 _) (fun q hq => by cases hq; omega)), Lib.hid (grown_res2 HG3.out vb (by omega) _ _), HNE3⟩


def digits : Array UInt8 := #[48, 49, 50, 51, 52, 53, 54, 55, 56, 57, 97, 98, 99, 100, 101, 102]
def hexV (b : Int) : Int := if 48 ≤ b ∧ b ≤ 57 then b - 48 else if 97 ≤ b ∧ b ≤ 102 then b - 87 else -1
def hb2 (a b : UInt8) : UInt8 := UInt8.ofNat (hexV a.toNat * 16 + hexV b.toNat).toNat


end Go.Proofs.Ytlkfabkkjfmnmaa
