import Derived.Test.YtlkfabkkjfmnmaaKba
import Derived.Deep.CutRange
namespace Go.Proofs.Ytlkfabkkjfmnmaa
open Go.RowKit
set_option linter.all false
set_option maxRecDepth 1000000 in
set_option maxHeartbeats 6000000 in
theorem l6RenCD_any (B : Nat) (next : Int) (a : Option Addr) (cap : Nat) (m : List InoP) (kd dir : Int) (nm : ByteArray) (tt : Int) (sa dt : ByteArray) (k1 : Nat) (Y1 : InoL) (ya1 : Option Addr) (yc1 : Nat) (k2 : Nat) (Y2 : InoL) (ya2 : Option Addr) (yc2 : Nat) (kx : Nat) (X : InoL) (xa : Option Addr) (xc : Nat) (j : Nat) (hj : j < Y1.ents.length) (w : World) (h : VolOwn B w a cap m w) (hi : Inv d0 next (xs m))
  (hy1 : m[k1]? = some ⟨Y1, ya1, yc1⟩) (hat1 : atF (xs m) dir = (k1 : Int)) (hy2 : m[k2]? = some ⟨Y2, ya2, yc2⟩) (hat2 : atF (xs m) tt = (k2 : Int)) (hkd2 : Y2.kind = 2) (hyx : m[kx]? = some ⟨X, xa, xc⟩) (hatx : atF (xs m) X.id = (kx : Int)) (hxid : X.id = Y1.ents[j].id) (hj1 : (Y1.ents.take j).any (fun x => alikeB x.name nm) = false) (hj2 : alikeB Y1.ents[j].name nm = true) (hnb1 : nameB nm = true) (hnb2 : nameB sa = true) (hxk : X.kind = 2) (hno : Y2.ents.any (fun x => alikeB x.name sa) = false) :
  Calls Try.prog 42 #[.agg #[.int .i64 next, .slice a m.length cap], .agg #[.int .i64 kd, .int .i64 dir, .string nm, .int .i64 tt, .string sa, .string dt], .agg #[.int .i64 X.id, .int .i64 X.kind, .int .i64 X.links, .string X.data, .slice xa X.ents.length xc]] w (VolAns B (VolBl a cap m) w) := by
 have hsm := inv_small hi
 have hBw := h.top.base
 have hm := volP_room h.p
 have hns1 : nm.size ≤ 24 := nameB_size nm hnb1
 have hns2 : sa.size ≤ 24 := nameB_size sa hnb2
 have hmem1 := List.mem_of_getElem? hy1
 have hmem2 := List.mem_of_getElem? hy2
 have hye1 := hsm.2 _ hmem1
 have hye2 := hsm.2 _ hmem2
 try dsimp only at hye1 hye2
 have hkl2 : k2 < m.length := (List.getElem?_eq_some_iff.1 hy2).1
 have hkxl : kx < m.length := (List.getElem?_eq_some_iff.1 hyx).1
 obtain ⟨bv, ov, rfl, hbvw, -, -, -, -, -, -⟩ := volP_cells h.p hy2
 have HP := Lib.hid h.p
 have HI := Lib.hid hi
 have HY1 := Lib.hid (And.intro hy1 hat1)
 have HY2 := Lib.hid (And.intro hy2 hat2)
 have HX0 := Lib.hid (And.intro hyx hatx)
 have HKD2 := Lib.hid hkd2
 have HXK := Lib.hid hxk
 have HIDX := Lib.hid hxid
 have HNB2 := Lib.hid hnb2
 have HXG := Lib.hid (inv_kind hi hyx)
 have hxr := hi.rng X (List.mem_map_of_mem (List.mem_of_getElem? hyx))
 have hnhi := hi.hi
 have hx1 : X.id ≠ 1 := by rw [hxid]; exact ((inv_kind hi hy1).ents _ (List.getElem_mem hj)).no1
 have hnl1 := hj
 have HBX := Lib.hid (br_new w next (some ⟨bv, ov, none⟩) m.length cap kd dir nm tt sa dt X.id X.kind X.links X.data (.slice xa X.ents.length xc))
 have HSAME : Hid (∀ W, Br w next (some ⟨bv, ov, none⟩) m.length cap kd dir nm tt sa dt X.id X.kind X.links X.data (.slice xa X.ents.length xc) W → ∀ (v0 v1 : Int) (v2 v3 : ByteArray), VolAns B (VolBl (some ⟨bv, ov, none⟩) cap m) w (.returned (.tuple #[.agg #[.int .i64 next, .slice (some ⟨bv, ov, none⟩) m.length cap], .agg #[.int .i64 v0, .int .i64 v1, .string v2, .string v3]])) _) := Lib.hid (fun W hb v0 v1 v2 v3 => hb.same h hi v0 v1 v2 v3)
 have HEN2 : Hid (∀ W, Below w.heap.size w W → Calls Try.prog 37 #[.agg #[.int .i64 next, .slice (some ⟨bv, ov, none⟩) m.length cap], .int .i64 tt] W fun e w' => e = .returned (.slice ya2 Y2.ents.length yc2) ∧ Below W.heap.size W w') := Lib.hid (fun W hW => l6Ents_any next (some ⟨bv, ov, none⟩) m.length cap m tt k2 ⟨Y2, ya2, yc2⟩ W (HP.out.step hW) hy2 hat2)
 have HYR2 : Hid (∀ W, Below w.heap.size w W → Rd W ya2 Y2.ents.length yc2 4 (ens Y2.ents)) := Lib.hid (fun W hW => ((HP.out.step hW).2 _ hmem2))
 have HATT : Hid (∀ W, Below w.heap.size w W → Calls Try.prog 25 #[.agg #[.int .i64 next, .slice (some ⟨bv, ov, none⟩) m.length cap], .int .i64 tt] W fun e w' => e = .returned (.int .i64 (k2 : Int)) ∧ Below W.heap.size W w') := Lib.hid (fun W hW => by rw [← hat2]; exact l6At_any next (some ⟨bv, ov, none⟩) m.length cap (xs m) tt W (HP.out.step hW).rd)
 have HSZ1 : Hid (∀ e ∈ Y1.ents, e.name.size ≤ 1073741824) := Lib.hid hye1.2
 have HSZ2 : Hid (∀ e ∈ Y2.ents, e.name.size ≤ 1073741824) := Lib.hid hye2.2
 have h121 : Y1.ents.length ≤ 12 := hye1.1
 have h122 : Y2.ents.length ≤ 12 := hye2.1
 have h16 := hsm.1
 have HCP : Hid (∀ W, Below w.heap.size w W → Calls Try.prog 20 #[.agg #[.int .i64 next, .slice (some ⟨bv, ov, none⟩) m.length cap]] W (CopyPost next m W)) := Lib.hid (fun W hW => l6Copy_any next (some ⟨bv, ov, none⟩) cap m W (HP.out.step hW) (by omega) (fun z hz => by have := (hsm.2 z hz).1; omega))
 have HBW : Hid (∀ W, Below w.heap.size w W → Calls Try.prog 51 #[.agg #[.int .i64 next, .slice (some ⟨bv, ov, none⟩) m.length cap], .int .i64 X.id] W fun e w' => ∃ g c inn, e = .returned (.slice (some ⟨g, 0, none⟩) m.length c) ∧ inn.length = m.length ∧ Rd w' (some ⟨g, 0, none⟩) m.length c 1 (bls inn) ∧ Below W.heap.size W w') := Lib.hid (fun W hW => (l6Below_any next (some ⟨bv, ov, none⟩) m.length cap (xs m) X.id W (HP.out.step hW).rd (by rw [hatx]; omega) (by omega)).mono (fun e w' ⟨g, c, inn, h1, h2, _, h3, h4⟩ => ⟨g, c, inn, h1, by rw [h2, xs_len], h3, h4⟩))
 have HL5 : Hid (∀ r, AtP Y2.ents (fun x => alikeB x.name sa) r → r = -1) := Lib.hid (fun r hr => atP_none hno hr)
 have HNO := Lib.hid hno
 have HJ := Lib.hid (And.intro hj1 hj2)
 clear h hi hy1 hat1 hy2 hat2 hyx hatx hj1 hj2 hnb1 hnb2 hye1 hye2 hsm hmem1 hmem2 hkd2 hxk hxid hno
 go_enter Try.func42, Try.ntmps42
 go_upto_region 1 with fail
 generalize (((((w.alloc (.cells #[.int .i64 next, .slice (some ⟨bv, ov, none⟩) m.length cap] 37)).alloc (.cells #[.int .i64 kd, .int .i64 dir, .string nm, .int .i64 tt, .string sa, .string dt] 56)).alloc (.cells #[.int .i64 X.id, .int .i64 X.kind, .int .i64 X.links, .string X.data, .slice xa X.ents.length xc] 49)).alloc (.cells #[.int .i64 0, .slice none 0 0] 37)).alloc (.cells #[.int .i64 0, .int .i64 0, .string ⟨#[]⟩, .string ⟨#[]⟩] 52)) = w1 at *
 obtain ⟨⟨v0, v1⟩, fv0, fv1⟩ := HBX.out.v.two
 obtain ⟨c0, c1, c2, c3, c4, c5⟩ := HBX.out.c.six
 obtain ⟨⟨x0, x1, x2, x3, x4⟩, fx0, fx1, fx2, fx3, fx4⟩ := HBX.out.x.five
 obtain ⟨⟨r0, r1⟩, fr0, fr1⟩ := HBX.out.r.two
 obtain ⟨⟨s0, s1, s2, s3⟩, fs0, fs1, fs2, fs3⟩ := HBX.out.s.four
 have hxk2 : (X.kind == 2) = true := by simp [HXK.out]
 have hxk3 : X.kind = 2 := HXK.out
 go_wp2_with fail
 refine (HATT.out _ HBX.out.b).mono ?_
 rintro e w2 ⟨rfl, hb⟩
 have HBX2 := Lib.hid (HBX.out.below hb)
 clear hb HBX
 clear v0 v1 fv0 fv1 c0 c1 c2 c3 c4 c5 x0 x1 x2 x3 x4 fx0 fx1 fx2 fx3 fx4 r0 r1 fr0 fr1 s0 s1 s2 s3 fs0 fs1 fs2 fs3
 obtain ⟨⟨v0, v1⟩, fv0, fv1⟩ := HBX2.out.v.two
 obtain ⟨c0, c1, c2, c3, c4, c5⟩ := HBX2.out.c.six
 obtain ⟨⟨x0, x1, x2, x3, x4⟩, fx0, fx1, fx2, fx3, fx4⟩ := HBX2.out.x.five
 obtain ⟨⟨r0, r1⟩, fr0, fr1⟩ := HBX2.out.r.two
 obtain ⟨⟨s0, s1, s2, s3⟩, fs0, fs1, fs2, fs3⟩ := HBX2.out.s.four
 have htl : (k2 : Int) < (m.length : Int) := by omega
 have htl0 : (0 : Int) ≤ (k2 : Int) := by omega
 by_cases htx : tt = X.id
 ·have htx2 : (tt == X.id) = true := by simp [htx]
  go_wp2
  exact ret_l6Ren (HBX2.out.out _ _ _ _ _ _).1 (by rfl) (by rfl) (by rfl) (HSAME.out _ HBX2.out _ _ _ _)
 have htx2 : (tt == X.id) = false := by simp [htx]
 go_wp2_with fail
 refine (HBW.out _ HBX2.out.b).mono ?_
 rintro e w3 ⟨gb, cb, inn, rfl, hil, hrb, hb⟩
 have HBX3 := Lib.hid (HBX2.out.below hb)
 clear hb HBX2
 clear v0 v1 fv0 fv1 c0 c1 c2 c3 c4 c5 x0 x1 x2 x3 x4 fx0 fx1 fx2 fx3 fx4 r0 r1 fr0 fr1 s0 s1 s2 s3 fs0 fs1 fs2 fs3
 obtain ⟨⟨v0, v1⟩, fv0, fv1⟩ := HBX3.out.v.two
 obtain ⟨c0, c1, c2, c3, c4, c5⟩ := HBX3.out.c.six
 obtain ⟨⟨x0, x1, x2, x3, x4⟩, fx0, fx1, fx2, fx3, fx4⟩ := HBX3.out.x.five
 obtain ⟨⟨r0, r1⟩, fr0, fr1⟩ := HBX3.out.r.two
 obtain ⟨⟨s0, s1, s2, s3⟩, fs0, fs1, fs2, fs3⟩ := HBX3.out.s.four
 obtain ⟨b5, o5, e5, hb5, hcb⟩ := hrb.at' (by omega)
 cases e5
 obtain ⟨bb, hck⟩ : ∃ bb : Bool, w3.cell? ⟨gb, k2, none⟩ = some (.bool bb) := by
  have hck := hcb k2 (by simp; omega)
  have hbk : (bls inn)[k2]'(by simp; omega) = .bool (inn[k2]'(by omega)) := by simp [bls]
  rw [hbk, Nat.zero_add] at hck
  exact ⟨_, hck⟩
 clear hcb hrb hil
 cases bb with
 | true =>
  go_wp2
  exact ret_l6Ren (HBX3.out.out _ _ _ _ _ _).1 (by rfl) (by rfl) (by rfl) (HSAME.out _ HBX3.out _ _ _ _)
 | false =>
  go_upto_region 5 with fail
  clear v0 v1 fv0 fv1 c0 c1 c2 c3 c4 c5 x0 x1 x2 x3 x4 fx0 fx1 fx2 fx3 fx4 r0 r1 fr0 fr1 s0 s1 s2 s3 fs0 fs1 fs2 fs3
  clear hck
  go_cut [9] from 22 to 51 (fun r wx => r = .int .i64 (-1) ∧ Hid (Below w3.heap.size w3 wx))
  case first =>
   have HALL : Hid (∀ V, Below w3.heap.size w3 V → (V.cell? ⟨w.heap.size, 0, none⟩ = some (.int .i64 next) ∧ V.cell? ⟨w.heap.size, 1, none⟩ = some (.slice (some ⟨bv, ov, none⟩) m.length cap) ∧ V.cell? ⟨w.heap.size + 1, 3, none⟩ = some (.int .i64 tt) ∧ V.cell? ⟨w.heap.size + 1, 4, none⟩ = some (.string sa) ∧ Below w3.heap.size w3 V)) := Lib.hid (fun V hV => ⟨(HBX3.out.below hV).v.two.1.1, (HBX3.out.below hV).v.two.1.2, (HBX3.out.below hV).c.six.2.2.2.1, (HBX3.out.below hV).c.six.2.2.2.2.1, hV⟩)
   refine wp_region_held_drew (S := (fun V => V.cell? ⟨w.heap.size, 0, none⟩ = some (.int .i64 next) ∧ V.cell? ⟨w.heap.size, 1, none⟩ = some (.slice (some ⟨bv, ov, none⟩) m.length cap) ∧ V.cell? ⟨w.heap.size + 1, 3, none⟩ = some (.int .i64 tt) ∧ V.cell? ⟨w.heap.size + 1, 4, none⟩ = some (.string sa) ∧ Below w3.heap.size w3 V)) (by kernel_rfl) ?_ (fun hHeld => ?_)
   ·try dsimp only
    exact HALL.out _ (Below.refl _ _).drew
   change wpAnyH _ _ _ _ _ 8 #[false, false, false, false, false, false, false, false] _ _
   refine wpH_take (i := 0) (v := ?_) rfl (by kernel_rfl) (by kernel_rfl) (by kernel_rfl) (fun _ _ _ h => h) (by rfl) ?_ (by assumption) ?_; rotate_left; (focus (intro w hSw; (try dsimp only at hSw); go_simp; try with_reducible rfl)); try simp only [Act.put, List.setIfInBounds_toArray, List.set_cons_zero, List.set_cons_succ]
   refine wpH_take (i := 1) (v := ?_) rfl (by kernel_rfl) (by kernel_rfl) (by kernel_rfl) (fun _ _ _ h => h) (by rfl) ?_ (by assumption) ?_; rotate_left; (focus (intro w hSw; (try dsimp only at hSw); go_simp; try with_reducible rfl)); try simp only [Act.put, List.setIfInBounds_toArray, List.set_cons_zero, List.set_cons_succ]
   refine wpH_take (i := 2) (v := ?_) rfl (by kernel_rfl) (by kernel_rfl) (by kernel_rfl) (fun _ _ _ h => h) (by rfl) ?_ (by assumption) ?_; rotate_left; (focus (intro w hSw; (try dsimp only at hSw); go_simp; try with_reducible rfl)); try simp only [Act.put, List.setIfInBounds_toArray, List.set_cons_zero, List.set_cons_succ]
   refine wpH_take (i := 4) (v := ?_) rfl (by kernel_rfl) (by kernel_rfl) (by kernel_rfl) (fun _ _ _ h => h) (by rfl) ?_ (by assumption) ?_; rotate_left; (focus (intro w hSw; (try dsimp only at hSw); go_simp; try with_reducible rfl)); try simp only [Act.put, List.setIfInBounds_toArray, List.set_cons_zero, List.set_cons_succ]
   refine wpH_take (i := 5) (v := ?_) rfl (by kernel_rfl) (by kernel_rfl) (by kernel_rfl) (fun _ _ _ h => h) (by rfl) ?_ (by assumption) ?_; rotate_left; (focus (intro w hSw; (try dsimp only at hSw); go_simp; try with_reducible rfl)); try simp only [Act.put, List.setIfInBounds_toArray, List.set_cons_zero, List.set_cons_succ]
   refine wpAnyH_ready (rs := [3]) (by kernel_rfl) (by simp) ?_
   refine AllReadyH.cons rfl (fun K hK => ?_) AllReadyH.nil
   try dsimp only at hHeld
   go_simp
   (go_at_call 37; refine (HEN2.out _ (below_step1 HBX3.out.b (Below.refl _ _).drew)).mono ?_; rintro e w4 ⟨rfl, hbk⟩)
   refine hK.out _ _ ?_ (fun hHeld2 => ?_)
   ·try dsimp only
    exact HALL.out _ (below_step1 (Below.refl _ _).drew hbk)
   clear hK K hHeld
   have hHeld := hHeld2
   clear hHeld2
   have HB4 := Lib.hid (below_step1 (Below.refl _ _).drew hbk)
   clear hbk
   refine wpAnyH_ready (rs := [6]) (by kernel_rfl) (by simp) ?_
   refine AllReadyH.cons rfl (fun K hK => ?_) AllReadyH.nil
   try dsimp only at hHeld
   go_simp
   (go_at_call 36; refine (l5At_any ya2 _ yc2 Y2.ents sa _ (HYR2.out _ (below_step1 HBX3.out.b HB4.out)) HSZ2.out (by omega)).mono ?_; rintro e w5 ⟨r, rfl, hE, hbk⟩)
   refine hK.out _ _ ?_ (fun hHeld2 => ?_)
   ·try dsimp only
    exact HALL.out _ (below_step1 HB4.out hbk)
   clear hK K hHeld
   have hHeld := hHeld2
   clear hHeld2
   have HB5 := Lib.hid (below_step1 HB4.out hbk)
   have hr := HL5.out r hE
   subst hr
   clear hbk hE
   refine wpH_take (i := 7) (v := ?_) rfl (by kernel_rfl) (by kernel_rfl) (by kernel_rfl) (fun _ _ _ h => h) (by rfl) ?_ (by assumption) ?_; rotate_left; (focus (intro w hSw; (try dsimp only at hSw); go_simp; try with_reducible rfl)); try simp only [Act.put, List.setIfInBounds_toArray, List.set_cons_zero, List.set_cons_succ]
   refine wpAnyH_done (by kernel_rfl) ?_ _
   try dsimp only at hHeld
   clear hHeld HALL
   go_wp2_with fail
   go_meet
   exact ⟨rfl, HB5⟩
  case rest =>
  obtain ⟨rfl, HB5⟩ := hcut
  obtain ⟨w6, hw6⟩ : ∃ x : World, x = wc := ⟨_, rfl⟩
  subst hw6
  have HBX6 := Lib.hid (HBX3.out.below HB5.out)
  clear HB5 HBX3
  obtain ⟨⟨v0, v1⟩, fv0, fv1⟩ := HBX6.out.v.two
  obtain ⟨c0, c1, c2, c3, c4, c5⟩ := HBX6.out.c.six
  obtain ⟨⟨x0, x1, x2, x3, x4⟩, fx0, fx1, fx2, fx3, fx4⟩ := HBX6.out.x.five
  obtain ⟨⟨r0, r1⟩, fr0, fr1⟩ := HBX6.out.r.two
  obtain ⟨⟨s0, s1, s2, s3⟩, fs0, fs1, fs2, fs3⟩ := HBX6.out.s.four
  have hz6b := HBX6.out.size
  go_wp2_with fail
  refine (HCP.out _ HBX6.out.b).mono ?_
  rintro e w7 ⟨a', c', m', rfl, hml', hxs', hv⟩
  obtain ⟨g, hg⟩ : ∃ g, a' = some ⟨g, 0, none⟩ := by
   obtain ⟨g, cp, e, _⟩ := hv.top.shape1 (by omega)
   exact ⟨g, by cases e; rfl⟩
  subst hg
  have hg6 : w6.heap.size ≤ g ∧ g < w7.heap.size := hv.top.blk g rfl
  have hb7 := hv.below
  clear v0 v1 fv0 fv1 c0 c1 c2 c3 c4 c5 x0 x1 x2 x3 x4 fx0 fx1 fx2 fx3 fx4 r0 r1 fr0 fr1 s0 s1 s2 s3 fs0 fs1 fs2 fs3
  have HYS := Lib.hid (cs_new w7 37 #[.int .i64 next, .slice (some ⟨g, 0, none⟩) m.length c'])
  have HBS := Lib.hid ((HBX6.out.below hb7).below (boxA w7 (.cells #[.int .i64 next, .slice (some ⟨g, 0, none⟩) m.length c'] 37)))
  have HVS := Lib.hid (hv.alloc (.cells #[.int .i64 next, .slice (some ⟨g, 0, none⟩) m.length c'] 37))
  have HBL := Lib.hid (fun q hq => hv.bl q hq)
  have HML := Lib.hid hml'
  have HXX := Lib.hid hxs'
  have hz7 : w6.heap.size ≤ w7.heap.size := hb7.size
  have hzS : w7.heap.size < (w7.alloc (.cells #[.int .i64 next, .slice (some ⟨g, 0, none⟩) m.length c'] 37)).heap.size := by simp
  have HINV' : Hid (Inv d0 next (xs m')) := Lib.hid (by rw [hxs']; exact HI.out)
  have HAT' : Hid (∀ i, atF (xs m') i = atF (xs m) i) := Lib.hid (fun i => by rw [hxs'])
  obtain ⟨za1, zc1, hz1'⟩ := get_same hxs' HY1.out.1
  obtain ⟨za2, zc2, hz2'⟩ := get_same hxs' HY2.out.1
  try dsimp only at hz1' hz2'
  have HZ1 := Lib.hid hz1'
  have HZ2 := Lib.hid hz2'
  clear hv hb7 hml' hxs' hz1' hz2'
  go_upto_region 7 with fail
  generalize w7.alloc (.cells #[.int .i64 next, .slice (some ⟨g, 0, none⟩) m.length c'] 37) = wS at *
  go_cut [68] from 52 to 67 (fun r wx => r = .bool false ∧ Hid (Below wS.heap.size wS wx))
  case first =>
   have hneg : ¬ (0 : Int) ≤ -1 := by omega
   have HALL : Hid (∀ V, Below wS.heap.size wS V → (V.cell? ⟨w.heap.size, 0, none⟩ = some (.int .i64 next) ∧ V.cell? ⟨w.heap.size, 1, none⟩ = some (.slice (some ⟨bv, ov, none⟩) m.length cap) ∧ Below wS.heap.size wS V)) := Lib.hid (fun V hV => ⟨(HBS.out.below hV).v.two.1.1, (HBS.out.below hV).v.two.1.2, hV⟩)
   refine wp_region_held_drew (S := (fun V => V.cell? ⟨w.heap.size, 0, none⟩ = some (.int .i64 next) ∧ V.cell? ⟨w.heap.size, 1, none⟩ = some (.slice (some ⟨bv, ov, none⟩) m.length cap) ∧ Below wS.heap.size wS V)) (by kernel_rfl) ?_ (fun hHeld => ?_)
   ·try dsimp only
    exact HALL.out _ (Below.refl _ _).drew
   change wpAnyH _ _ _ _ _ 15 #[false, false, false, false, false, false, false, false, false, false, false, false, false, false, false] _ _
   refine wpH_take (i := 0) (v := ?_) rfl (by kernel_rfl) (by kernel_rfl) (by kernel_rfl) (fun _ _ _ h => h) (by rfl) ?_ (by assumption) ?_; rotate_left; (focus (intro w hSw; (try dsimp only at hSw); go_simp; try with_reducible rfl)); try simp only [Act.put, List.setIfInBounds_toArray, List.set_cons_zero, List.set_cons_succ]
   refine wpH_take (i := 1) (v := ?_) rfl (by kernel_rfl) (by kernel_rfl) (by kernel_rfl) (fun _ _ _ h => h) (by rfl) ?_ (by assumption) ?_; rotate_left; (focus (intro w hSw; (try dsimp only at hSw); go_simp; try with_reducible rfl)); try simp only [Act.put, List.setIfInBounds_toArray, List.set_cons_zero, List.set_cons_succ]
   refine wpH_take (i := 2) (v := ?_) rfl (by kernel_rfl) (by kernel_rfl) (by kernel_rfl) (fun _ _ _ h => h) (by rfl) ?_ (by assumption) ?_; rotate_left; (focus (intro w hSw; (try dsimp only at hSw); go_simp; try with_reducible rfl)); try simp only [Act.put, List.setIfInBounds_toArray, List.set_cons_zero, List.set_cons_succ]
   refine wpH_off (i := 3) rfl (by kernel_rfl) (by kernel_rfl) (by kernel_rfl) (fun _ _ _ h => h) (by rfl) (by assumption) ?_; try simp only [Act.put, List.setIfInBounds_toArray, List.set_cons_zero, List.set_cons_succ]
   refine wpH_off (i := 4) rfl (by kernel_rfl) (by kernel_rfl) (by kernel_rfl) (fun _ _ _ h => h) (by rfl) (by assumption) ?_; try simp only [Act.put, List.setIfInBounds_toArray, List.set_cons_zero, List.set_cons_succ]
   refine wpH_off (i := 5) rfl (by kernel_rfl) (by kernel_rfl) (by kernel_rfl) (fun _ _ _ h => h) (by rfl) (by assumption) ?_; try simp only [Act.put, List.setIfInBounds_toArray, List.set_cons_zero, List.set_cons_succ]
   refine wpH_off (i := 6) rfl (by kernel_rfl) (by kernel_rfl) (by kernel_rfl) (fun _ _ _ h => h) (by rfl) (by assumption) ?_; try simp only [Act.put, List.setIfInBounds_toArray, List.set_cons_zero, List.set_cons_succ]
   refine wpH_off (i := 7) rfl (by kernel_rfl) (by kernel_rfl) (by kernel_rfl) (fun _ _ _ h => h) (by rfl) (by assumption) ?_; try simp only [Act.put, List.setIfInBounds_toArray, List.set_cons_zero, List.set_cons_succ]
   refine wpH_off (i := 8) rfl (by kernel_rfl) (by kernel_rfl) (by kernel_rfl) (fun _ _ _ h => h) (by rfl) (by assumption) ?_; try simp only [Act.put, List.setIfInBounds_toArray, List.set_cons_zero, List.set_cons_succ]
   refine wpH_off (i := 9) rfl (by kernel_rfl) (by kernel_rfl) (by kernel_rfl) (fun _ _ _ h => h) (by rfl) (by assumption) ?_; try simp only [Act.put, List.setIfInBounds_toArray, List.set_cons_zero, List.set_cons_succ]
   refine wpH_off (i := 10) rfl (by kernel_rfl) (by kernel_rfl) (by kernel_rfl) (fun _ _ _ h => h) (by rfl) (by assumption) ?_; try simp only [Act.put, List.setIfInBounds_toArray, List.set_cons_zero, List.set_cons_succ]
   refine wpH_off (i := 11) rfl (by kernel_rfl) (by kernel_rfl) (by kernel_rfl) (fun _ _ _ h => h) (by rfl) (by assumption) ?_; try simp only [Act.put, List.setIfInBounds_toArray, List.set_cons_zero, List.set_cons_succ]
   refine wpH_off (i := 12) rfl (by kernel_rfl) (by kernel_rfl) (by kernel_rfl) (fun _ _ _ h => h) (by rfl) (by assumption) ?_; try simp only [Act.put, List.setIfInBounds_toArray, List.set_cons_zero, List.set_cons_succ]
   refine wpH_off (i := 13) rfl (by kernel_rfl) (by kernel_rfl) (by kernel_rfl) (fun _ _ _ h => h) (by rfl) (by assumption) ?_; try simp only [Act.put, List.setIfInBounds_toArray, List.set_cons_zero, List.set_cons_succ]
   refine wpH_take (i := 14) (v := ?_) rfl (by kernel_rfl) (by kernel_rfl) (by kernel_rfl) (fun _ _ _ h => h) (by rfl) ?_ (by assumption) ?_; rotate_left; (focus (intro w hSw; (try dsimp only at hSw); go_simp; try with_reducible rfl)); try simp only [Act.put, List.setIfInBounds_toArray, List.set_cons_zero, List.set_cons_succ]
   refine wpAnyH_done (by kernel_rfl) ?_ _
   try dsimp only at hHeld
   have HBQ := Lib.hid hHeld.2.2
   clear hHeld HALL
   go_wp2_with fail
   go_meet
   exact ⟨rfl, HBQ⟩
  case rest =>
  obtain ⟨rfl, HBQ⟩ := hcut
  obtain ⟨wT, hwT⟩ : ∃ x : World, x = wc := ⟨_, rfl⟩
  subst hwT
  have HY8 := Lib.hid (HYS.out.below HBQ.out)
  have HB8 := Lib.hid (HBS.out.below HBQ.out)
  have HV8 := Lib.hid (HVS.out.kept HBQ.out)
  clear HBQ HYS HBS HVS
  have HN8 : Hid (∀ q, VolBl (some ⟨g, 0, none⟩) c' m' q → q ≠ w7.heap.size) := Lib.hid (fun q hq => by have := (HBL.out q hq).2; omega)
  obtain ⟨⟨v0, v1⟩, fv0, fv1⟩ := HB8.out.v.two
  obtain ⟨c0, c1, c2, c3, c4, c5⟩ := HB8.out.c.six
  obtain ⟨⟨x0, x1, x2, x3, x4⟩, fx0, fx1, fx2, fx3, fx4⟩ := HB8.out.x.five
  obtain ⟨⟨r0, r1⟩, fr0, fr1⟩ := HB8.out.r.two
  obtain ⟨⟨s0, s1, s2, s3⟩, fs0, fs1, fs2, fs3⟩ := HB8.out.s.four
  obtain ⟨⟨y0, y1⟩, fy0, fy1⟩ := HY8.out.two
  have hneg : (-1 : Int) < 0 := by omega
  have HDP : Hid (∀ a c W, Rd W a Y1.ents.length c 4 (ens Y1.ents) → Calls Try.prog 40 #[.slice a Y1.ents.length c, .string nm] W (DropX Y1.ents j W)) := Lib.hid (fun a c W hr => l5DropX_any a c Y1.ents nm j hj W hr HSZ1.out (by omega) (by omega) HJ.out.1 HJ.out.2)
  by_cases hdt : dir = tt
  ·have hdt2 : (dir != tt) = false := by simp [hdt]
   have HDT := Lib.hid hdt
   clear hdt
   have HLT : Hid (k1 ≠ k2 → Y2.ents.length < 12) := Lib.hid (fun hne => absurd ((same_place HI.out HY1.out.2 HY2.out.2).2 HDT.out) hne)
   go_upto_region 15 with fail
   clear v0 v1 fv0 fv1 c0 c1 c2 c3 c4 c5 x0 x1 x2 x3 x4 fx0 fx1 fx2 fx3 fx4 r0 r1 fr0 fr1 s0 s1 s2 s3 fs0 fs1 fs2 fs3 y0 y1 fy0 fy1
   have HENy : Hid (∀ V, Below wT.heap.size wT V → Calls Try.prog 37 #[.agg #[.int .i64 next, .slice (some ⟨g, 0, none⟩) m.length c'], .int .i64 dir] V fun e w' => e = .returned (.slice za1 Y1.ents.length zc1) ∧ Below V.heap.size V w') := Lib.hid (fun V hV => by
    have h := l6Ents_any next (some ⟨g, 0, none⟩) m'.length c' m' dir k1 ⟨Y1, za1, zc1⟩ V (HV8.out.kept hV).p HZ1.out (by rw [HAT'.out]; exact HY1.out.2)
    rw [HML.out] at h
    exact h)
   have HYRy : Hid (∀ V, Below wT.heap.size wT V → Rd V za1 Y1.ents.length zc1 4 (ens Y1.ents)) := Lib.hid (fun V hV => (HV8.out.kept hV).p.2 _ (List.mem_of_getElem? HZ1.out))
   have HALL : Hid (∀ V, Below wT.heap.size wT V → (V.cell? ⟨w7.heap.size, 0, none⟩ = some (.int .i64 next) ∧ V.cell? ⟨w7.heap.size, 1, none⟩ = some (.slice (some ⟨g, 0, none⟩) m.length c') ∧ V.cell? ⟨w.heap.size + 1, 1, none⟩ = some (.int .i64 dir) ∧ V.cell? ⟨w.heap.size + 1, 2, none⟩ = some (.string nm) ∧ Below wT.heap.size wT V)) := Lib.hid (fun V hV => ⟨(HY8.out.below hV).two.1.1, (HY8.out.below hV).two.1.2, (HB8.out.below hV).c.six.2.1, (HB8.out.below hV).c.six.2.2.1, hV⟩)
   refine wp_region_held_drew (S := (fun V => V.cell? ⟨w7.heap.size, 0, none⟩ = some (.int .i64 next) ∧ V.cell? ⟨w7.heap.size, 1, none⟩ = some (.slice (some ⟨g, 0, none⟩) m.length c') ∧ V.cell? ⟨w.heap.size + 1, 1, none⟩ = some (.int .i64 dir) ∧ V.cell? ⟨w.heap.size + 1, 2, none⟩ = some (.string nm) ∧ Below wT.heap.size wT V)) (by kernel_rfl) ?_ (fun hHeld => ?_)
   ·try dsimp only
    exact HALL.out _ (Below.refl _ _).drew
   change wpAnyH _ _ _ _ _ 12 #[false, false, false, false, false, false, false, false, false, false, false, false] _ _
   refine wpH_take (i := 0) (v := ?_) rfl (by kernel_rfl) (by kernel_rfl) (by kernel_rfl) (fun _ _ _ h => h) (by rfl) ?_ (by assumption) ?_; rotate_left; (focus (intro w hSw; (try dsimp only at hSw); go_simp; try with_reducible rfl)); try simp only [Act.put, List.setIfInBounds_toArray, List.set_cons_zero, List.set_cons_succ]
   refine wpH_take (i := 1) (v := ?_) rfl (by kernel_rfl) (by kernel_rfl) (by kernel_rfl) (fun _ _ _ h => h) (by rfl) ?_ (by assumption) ?_; rotate_left; (focus (intro w hSw; (try dsimp only at hSw); go_simp; try with_reducible rfl)); try simp only [Act.put, List.setIfInBounds_toArray, List.set_cons_zero, List.set_cons_succ]
   refine wpH_take (i := 2) (v := ?_) rfl (by kernel_rfl) (by kernel_rfl) (by kernel_rfl) (fun _ _ _ h => h) (by rfl) ?_ (by assumption) ?_; rotate_left; (focus (intro w hSw; (try dsimp only at hSw); go_simp; try with_reducible rfl)); try simp only [Act.put, List.setIfInBounds_toArray, List.set_cons_zero, List.set_cons_succ]
   refine wpH_take (i := 4) (v := ?_) rfl (by kernel_rfl) (by kernel_rfl) (by kernel_rfl) (fun _ _ _ h => h) (by rfl) ?_ (by assumption) ?_; rotate_left; (focus (intro w hSw; (try dsimp only at hSw); go_simp; try with_reducible rfl)); try simp only [Act.put, List.setIfInBounds_toArray, List.set_cons_zero, List.set_cons_succ]
   refine wpH_take (i := 5) (v := ?_) rfl (by kernel_rfl) (by kernel_rfl) (by kernel_rfl) (fun _ _ _ h => h) (by rfl) ?_ (by assumption) ?_; rotate_left; (focus (intro w hSw; (try dsimp only at hSw); go_simp; try with_reducible rfl)); try simp only [Act.put, List.setIfInBounds_toArray, List.set_cons_zero, List.set_cons_succ]
   refine wpAnyH_ready (rs := [3]) (by kernel_rfl) (by simp) ?_
   refine AllReadyH.cons rfl (fun K hK => ?_) AllReadyH.nil
   try dsimp only at hHeld
   go_simp
   (go_at_call 37; refine (HENy.out _ (Below.refl _ _).drew).mono ?_; rintro e w10 ⟨rfl, hbk⟩)
   refine hK.out _ _ ?_ (fun hHeld2 => ?_)
   ·try dsimp only
    exact HALL.out _ (below_step1 (Below.refl _ _).drew hbk)
   clear hK K hHeld
   have hHeld := hHeld2
   clear hHeld2
   have HB10 := Lib.hid (below_step1 (Below.refl _ _).drew hbk)
   clear hbk
   refine wpAnyH_ready (rs := [6]) (by kernel_rfl) (by simp) ?_
   refine AllReadyH.cons rfl (fun K hK => ?_) AllReadyH.nil
   try dsimp only at hHeld
   go_simp
   (go_at_call 40; refine (HDP.out za1 zc1 _ (HYRy.out _ HB10.out)).mono ?_; rintro e w11 ⟨gd, cd, rfl, hOE⟩)
   refine hK.out _ _ ?_ (fun hHeld2 => ?_)
   ·try dsimp only
    exact HALL.out _ (below_step1 HB10.out hOE.below)
   clear hK K hHeld
   have hHeld := hHeld2
   clear hHeld2
   have HOE := Lib.hid (own_down hOE (show w6.heap.size ≤ _ from Nat.le_trans HV8.out.top.base HB10.out.size) (HV8.out.below.trans (HB10.out.mono HV8.out.top.base)) (Nat.le_trans HV8.out.top.base HB10.out.size))
   have HAP : Hid (Apart1 m' k1 (.slice gd (Y1.ents.eraseIdx j).length cd)) := Lib.hid (apart1_new (HV8.out.kept HB10.out) k1 (fun q hq => (hOE.blk q hq).1))
   have HNE : Hid (∀ q', (InoP.blk ⟨{ Y1 with ents := Y1.ents.eraseIdx j }, gd, cd⟩) = some q' → q' ≠ w7.heap.size) := Lib.hid (fun q' hq' => by have h1 := (hOE.blk q' hq').1; have h2 := HB10.out.size; have h3 := HY8.out.lt; omega)
   have HB11 := Lib.hid (below_step1 HB10.out hOE.below)
   clear hOE
   refine wpH_take (i := 7) (v := ?_) rfl (by kernel_rfl) (by kernel_rfl) (by kernel_rfl) (fun _ _ _ h => h) (by rfl) ?_ (by assumption) ?_; rotate_left; (focus (intro w hSw; (try dsimp only at hSw); go_simp; try with_reducible rfl)); try simp only [Act.put, List.setIfInBounds_toArray, List.set_cons_zero, List.set_cons_succ]
   refine wpH_take (i := 8) (v := ?_) rfl (by kernel_rfl) (by kernel_rfl) (by kernel_rfl) (fun _ _ _ h => h) (by rfl) ?_ (by assumption) ?_; rotate_left; (focus (intro w hSw; (try dsimp only at hSw); go_simp; try with_reducible rfl)); try simp only [Act.put, List.setIfInBounds_toArray, List.set_cons_zero, List.set_cons_succ]
   refine wpH_take (i := 9) (v := ?_) rfl (by kernel_rfl) (by kernel_rfl) (by kernel_rfl) (fun _ _ _ h => h) (by rfl) ?_ (by assumption) ?_; rotate_left; (focus (intro w hSw; (try dsimp only at hSw); go_simp; try with_reducible rfl)); try simp only [Act.put, List.setIfInBounds_toArray, List.set_cons_zero, List.set_cons_succ]
   refine wpH_take (i := 10) (v := ?_) rfl (by kernel_rfl) (by kernel_rfl) (by kernel_rfl) (fun _ _ _ h => h) (by rfl) ?_ (by assumption) ?_; rotate_left; (focus (intro w hSw; (try dsimp only at hSw); go_simp; try with_reducible rfl)); try simp only [Act.put, List.setIfInBounds_toArray, List.set_cons_zero, List.set_cons_succ]
   refine wpH_take (i := 11) (v := ?_) rfl (by kernel_rfl) (by kernel_rfl) (by kernel_rfl) (fun _ _ _ h => h) (by rfl) ?_ (by assumption) ?_; rotate_left; (focus (intro w hSw; (try dsimp only at hSw); go_simp; try with_reducible rfl)); try simp only [Act.put, List.setIfInBounds_toArray, List.set_cons_zero, List.set_cons_succ]
   refine wpAnyH_done (by kernel_rfl) ?_ _
   try dsimp only at hHeld
   clear hHeld HALL HENy HYRy HB10
   have HYq := Lib.hid (HY8.out.below HB11.out)
   have HBq9 := Lib.hid (HB8.out.below HB11.out)
   have HVq := Lib.hid (HV8.out.kept HB11.out)
   clear HB11 HY8 HB8 HV8
   obtain ⟨⟨v0, v1⟩, fv0, fv1⟩ := HBq9.out.v.two
   obtain ⟨c0, c1, c2, c3, c4, c5⟩ := HBq9.out.c.six
   obtain ⟨⟨x0, x1, x2, x3, x4⟩, fx0, fx1, fx2, fx3, fx4⟩ := HBq9.out.x.five
   obtain ⟨⟨r0, r1⟩, fr0, fr1⟩ := HBq9.out.r.two
   obtain ⟨⟨s0, s1, s2, s3⟩, fs0, fs1, fs2, fs3⟩ := HBq9.out.s.four
   obtain ⟨⟨y0, y1⟩, fy0, fy1⟩ := HYq.out.two
   go_wp2_with fail
   have hcon := l6With_any w6.heap.size w6 next g c' m' dir k1 ⟨Y1, za1, zc1⟩ gd cd (Y1.ents.eraseIdx j) _ HVq.out HZ1.out (by rw [HAT'.out]; exact HY1.out.2) HOE.out HAP.out
   rw [HML.out] at hcon
   refine hcon.mono ?_
   clear hcon
   rintro e wv30 ⟨rfl, hvw, hgr⟩
   have HBw := Lib.hid (HBq9.out.grown hgr (fun q hq => by cases hq; omega))
   have HYw := Lib.hid (HYq.out.grown hgr (by simp; omega))
   have HN30 : Hid (∀ qq, VolBl (some ⟨g, 0, none⟩) c' (m'.set k1 ⟨{ Y1 with ents := Y1.ents.eraseIdx j }, gd, cd⟩) qq → qq ≠ w7.heap.size) := Lib.hid (fun qq hqq => by
    rcases volBl_set hqq with hqq | hqq
    ·exact HN8.out qq hqq
    ·exact HNE.out qq hqq)
   have HB30 := Lib.hid ((HBw.out.far (w7.heap.size) 0 (.int .i64 next) (by omega)).far (w7.heap.size) 1 (.slice (some ⟨g, 0, none⟩) m.length c') (by omega))
   have HY30 := Lib.hid ((HYw.out.set 0 (.int .i64 next)).set 1 (.slice (some ⟨g, 0, none⟩) m.length c'))
   have HV30 := Lib.hid (hvw.res2 (w7.heap.size) (by omega) HN30.out (.int .i64 next) (.slice (some ⟨g, 0, none⟩) m.length c'))
   have HL30 : Hid ((m'.set k1 ⟨{ Y1 with ents := Y1.ents.eraseIdx j }, gd, cd⟩).length = m.length) := Lib.hid (by rw [List.length_set]; exact HML.out)
   clear v0 v1 fv0 fv1 c0 c1 c2 c3 c4 c5 x0 x1 x2 x3 x4 fx0 fx1 fx2 fx3 fx4 r0 r1 fr0 fr1 s0 s1 s2 s3 fs0 fs1 fs2 fs3 y0 y1 fy0 fy1
   obtain ⟨⟨v0, v1⟩, fv0, fv1⟩ := HBw.out.v.two
   obtain ⟨c0, c1, c2, c3, c4, c5⟩ := HBw.out.c.six
   obtain ⟨⟨x0, x1, x2, x3, x4⟩, fx0, fx1, fx2, fx3, fx4⟩ := HBw.out.x.five
   obtain ⟨⟨r0, r1⟩, fr0, fr1⟩ := HBw.out.r.two
   obtain ⟨⟨s0, s1, s2, s3⟩, fs0, fs1, fs2, fs3⟩ := HBw.out.s.four
   obtain ⟨⟨y0, y1⟩, fy0, fy1⟩ := HYw.out.two
   clear hvw hgr HBw HYw HNE
   go_upto_region 17 with fail
   clear v0 v1 fv0 fv1 c0 c1 c2 c3 c4 c5 x0 x1 x2 x3 x4 fx0 fx1 fx2 fx3 fx4 r0 r1 fr0 fr1 s0 s1 s2 s3 fs0 fs1 fs2 fs3 y0 y1 fy0 fy1
   generalize ((wv30.setCell ⟨w7.heap.size, 0, none⟩ (.int .i64 next)).setCell ⟨w7.heap.size, 1, none⟩ (.slice (some ⟨g, 0, none⟩) m.length c')) = wW30 at *
   obtain ⟨Z, zb, zcb, hgz, hzk, hzno, hzl, hzm⟩ := ren_drop HZ1.out HZ2.out j hj gd cd (fun x => alikeB x.name sa) HNO.out h122 HLT.out
   have HGZ := Lib.hid hgz
   have HZK : Hid (Z.kind = 2) := Lib.hid (hzk.trans HKD2.out)
   have HZNO := Lib.hid hzno
   have HZSZ : Hid (∀ e ∈ Z.ents, e.name.size ≤ 1073741824) := Lib.hid (fun e he => HSZ2.out e (hzm e he))
   have HIV := Lib.hid (p_drop HINV'.out HZ1.out j hj gd cd)
   have HTT : Hid (atF (xs (m'.set k1 ⟨{ Y1 with ents := Y1.ents.eraseIdx j }, gd, cd⟩)) tt = (k2 : Int)) := Lib.hid ((at_set HZ1.out (z := ⟨{ Y1 with ents := Y1.ents.eraseIdx j }, gd, cd⟩) rfl _).trans (by rw [HAT'.out]; exact HY2.out.2))
   obtain ⟨ux, ucx, hx'⟩ := get_same HXX.out HX0.out.1
   try dsimp only at hx'
   have HMI : Hid (X.id ∈ idsF (xs (m'.set k1 ⟨{ Y1 with ents := Y1.ents.eraseIdx j }, gd, cd⟩))) := Lib.hid (by rw [idsF_xset HZ1.out (z := ⟨{ Y1 with ents := Y1.ents.eraseIdx j }, gd, cd⟩) rfl]; exact mem_ids hx')
   clear hgz hzk hzno hzm hx'
   generalize hmD : (m'.set k1 ⟨{ Y1 with ents := Y1.ents.eraseIdx j }, gd, cd⟩) = mD at *
   clear hmD
   have HENy : Hid (∀ V, Below wW30.heap.size wW30 V → Calls Try.prog 37 #[.agg #[.int .i64 next, .slice (some ⟨g, 0, none⟩) m.length c'], .int .i64 tt] V fun e w' => e = .returned (.slice zb Z.ents.length zcb) ∧ Below V.heap.size V w') := Lib.hid (fun V hV => by
    have h := l6Ents_any next (some ⟨g, 0, none⟩) mD.length c' mD tt k2 ⟨Z, zb, zcb⟩ V (HV30.out.kept hV).p HGZ.out HTT.out
    rw [HL30.out] at h
    exact h)
   have HYRy : Hid (∀ V, Below wW30.heap.size wW30 V → Rd V zb Z.ents.length zcb 4 (ens Z.ents)) := Lib.hid (fun V hV => (HV30.out.kept hV).p.2 _ (List.mem_of_getElem? HGZ.out))
   have HALL : Hid (∀ V, Below wW30.heap.size wW30 V → (V.cell? ⟨w7.heap.size, 0, none⟩ = some (.int .i64 next) ∧ V.cell? ⟨w7.heap.size, 1, none⟩ = some (.slice (some ⟨g, 0, none⟩) m.length c') ∧ V.cell? ⟨w.heap.size + 1, 3, none⟩ = some (.int .i64 tt) ∧ V.cell? ⟨w.heap.size + 1, 4, none⟩ = some (.string sa) ∧ V.cell? ⟨w.heap.size + 2, 0, none⟩ = some (.int .i64 X.id) ∧ Below wW30.heap.size wW30 V)) := Lib.hid (fun V hV => ⟨(HY30.out.below hV).two.1.1, (HY30.out.below hV).two.1.2, (HB30.out.below hV).c.six.2.2.2.1, (HB30.out.below hV).c.six.2.2.2.2.1, (HB30.out.below hV).x.five.1.1, hV⟩)
   refine wp_region_held_drew (S := (fun V => V.cell? ⟨w7.heap.size, 0, none⟩ = some (.int .i64 next) ∧ V.cell? ⟨w7.heap.size, 1, none⟩ = some (.slice (some ⟨g, 0, none⟩) m.length c') ∧ V.cell? ⟨w.heap.size + 1, 3, none⟩ = some (.int .i64 tt) ∧ V.cell? ⟨w.heap.size + 1, 4, none⟩ = some (.string sa) ∧ V.cell? ⟨w.heap.size + 2, 0, none⟩ = some (.int .i64 X.id) ∧ Below wW30.heap.size wW30 V)) (by kernel_rfl) ?_ (fun hHeld => ?_)
   ·try dsimp only
    exact HALL.out _ (Below.refl _ _).drew
   change wpAnyH _ _ _ _ _ 14 #[false, false, false, false, false, false, false, false, false, false, false, false, false, false] _ _
   refine wpH_take (i := 0) (v := ?_) rfl (by kernel_rfl) (by kernel_rfl) (by kernel_rfl) (fun _ _ _ h => h) (by rfl) ?_ (by assumption) ?_; rotate_left; (focus (intro w hSw; (try dsimp only at hSw); go_simp; try with_reducible rfl)); try simp only [Act.put, List.setIfInBounds_toArray, List.set_cons_zero, List.set_cons_succ]
   refine wpH_take (i := 1) (v := ?_) rfl (by kernel_rfl) (by kernel_rfl) (by kernel_rfl) (fun _ _ _ h => h) (by rfl) ?_ (by assumption) ?_; rotate_left; (focus (intro w hSw; (try dsimp only at hSw); go_simp; try with_reducible rfl)); try simp only [Act.put, List.setIfInBounds_toArray, List.set_cons_zero, List.set_cons_succ]
   refine wpH_take (i := 2) (v := ?_) rfl (by kernel_rfl) (by kernel_rfl) (by kernel_rfl) (fun _ _ _ h => h) (by rfl) ?_ (by assumption) ?_; rotate_left; (focus (intro w hSw; (try dsimp only at hSw); go_simp; try with_reducible rfl)); try simp only [Act.put, List.setIfInBounds_toArray, List.set_cons_zero, List.set_cons_succ]
   refine wpH_take (i := 4) (v := ?_) rfl (by kernel_rfl) (by kernel_rfl) (by kernel_rfl) (fun _ _ _ h => h) (by rfl) ?_ (by assumption) ?_; rotate_left; (focus (intro w hSw; (try dsimp only at hSw); go_simp; try with_reducible rfl)); try simp only [Act.put, List.setIfInBounds_toArray, List.set_cons_zero, List.set_cons_succ]
   refine wpH_take (i := 5) (v := ?_) rfl (by kernel_rfl) (by kernel_rfl) (by kernel_rfl) (fun _ _ _ h => h) (by rfl) ?_ (by assumption) ?_; rotate_left; (focus (intro w hSw; (try dsimp only at hSw); go_simp; try with_reducible rfl)); try simp only [Act.put, List.setIfInBounds_toArray, List.set_cons_zero, List.set_cons_succ]
   refine wpH_take (i := 6) (v := ?_) rfl (by kernel_rfl) (by kernel_rfl) (by kernel_rfl) (fun _ _ _ h => h) (by rfl) ?_ (by assumption) ?_; rotate_left; (focus (intro w hSw; (try dsimp only at hSw); go_simp; try with_reducible rfl)); try simp only [Act.put, List.setIfInBounds_toArray, List.set_cons_zero, List.set_cons_succ]
   refine wpH_take (i := 7) (v := ?_) rfl (by kernel_rfl) (by kernel_rfl) (by kernel_rfl) (fun _ _ _ h => h) (by rfl) ?_ (by assumption) ?_; rotate_left; (focus (intro w hSw; (try dsimp only at hSw); go_simp; try with_reducible rfl)); try simp only [Act.put, List.setIfInBounds_toArray, List.set_cons_zero, List.set_cons_succ]
   refine wpAnyH_ready (rs := [3]) (by kernel_rfl) (by simp) ?_
   refine AllReadyH.cons rfl (fun K hK => ?_) AllReadyH.nil
   try dsimp only at hHeld
   go_simp
   (go_at_call 37; refine (HENy.out _ (Below.refl _ _).drew).mono ?_; rintro e w10 ⟨rfl, hbk⟩)
   refine hK.out _ _ ?_ (fun hHeld2 => ?_)
   ·try dsimp only
    exact HALL.out _ (below_step1 (Below.refl _ _).drew hbk)
   clear hK K hHeld
   have hHeld := hHeld2
   clear hHeld2
   have HB10 := Lib.hid (below_step1 (Below.refl _ _).drew hbk)
   clear hbk
   refine wpAnyH_ready (rs := [8]) (by kernel_rfl) (by simp) ?_
   refine AllReadyH.cons rfl (fun K hK => ?_) AllReadyH.nil
   try dsimp only at hHeld
   go_simp
   (go_at_call 38; refine (l5AddX_any zb zcb Z.ents sa X.id _ (HYRy.out _ HB10.out) HZSZ.out (by omega) (by omega) (by omega) HNB2.out HZNO.out hzl).mono ?_; rintro e w12 ⟨out, h0, k0, ge, ce, rfl, hperm, hOE⟩)
   refine hK.out _ _ ?_ (fun hHeld2 => ?_)
   ·try dsimp only
    exact HALL.out _ (below_step1 HB10.out hOE.below)
   clear hK K hHeld
   have hHeld := hHeld2
   clear hHeld2
   have HOE2 := Lib.hid (own_down hOE (show w6.heap.size ≤ _ from Nat.le_trans HV30.out.top.base HB10.out.size) (HV30.out.below.trans (HB10.out.mono HV30.out.top.base)) (Nat.le_trans HV30.out.top.base HB10.out.size))
   have HAP2 : Hid (Apart1 mD k2 (.slice ge out.length ce)) := Lib.hid (apart1_new (HV30.out.kept HB10.out) k2 (fun q hq => (hOE.blk q hq).1))
   have HB11 := Lib.hid (below_step1 HB10.out hOE.below)
   have HPM := Lib.hid hperm
   clear hOE hperm
   refine wpH_take (i := 9) (v := ?_) rfl (by kernel_rfl) (by kernel_rfl) (by kernel_rfl) (fun _ _ _ h => h) (by rfl) ?_ (by assumption) ?_; rotate_left; (focus (intro w hSw; (try dsimp only at hSw); go_simp; try with_reducible rfl)); try simp only [Act.put, List.setIfInBounds_toArray, List.set_cons_zero, List.set_cons_succ]
   refine wpH_take (i := 10) (v := ?_) rfl (by kernel_rfl) (by kernel_rfl) (by kernel_rfl) (fun _ _ _ h => h) (by rfl) ?_ (by assumption) ?_; rotate_left; (focus (intro w hSw; (try dsimp only at hSw); go_simp; try with_reducible rfl)); try simp only [Act.put, List.setIfInBounds_toArray, List.set_cons_zero, List.set_cons_succ]
   refine wpH_take (i := 11) (v := ?_) rfl (by kernel_rfl) (by kernel_rfl) (by kernel_rfl) (fun _ _ _ h => h) (by rfl) ?_ (by assumption) ?_; rotate_left; (focus (intro w hSw; (try dsimp only at hSw); go_simp; try with_reducible rfl)); try simp only [Act.put, List.setIfInBounds_toArray, List.set_cons_zero, List.set_cons_succ]
   refine wpH_take (i := 12) (v := ?_) rfl (by kernel_rfl) (by kernel_rfl) (by kernel_rfl) (fun _ _ _ h => h) (by rfl) ?_ (by assumption) ?_; rotate_left; (focus (intro w hSw; (try dsimp only at hSw); go_simp; try with_reducible rfl)); try simp only [Act.put, List.setIfInBounds_toArray, List.set_cons_zero, List.set_cons_succ]
   refine wpH_take (i := 13) (v := ?_) rfl (by kernel_rfl) (by kernel_rfl) (by kernel_rfl) (fun _ _ _ h => h) (by rfl) ?_ (by assumption) ?_; rotate_left; (focus (intro w hSw; (try dsimp only at hSw); go_simp; try with_reducible rfl)); try simp only [Act.put, List.setIfInBounds_toArray, List.set_cons_zero, List.set_cons_succ]
   refine wpAnyH_done (by kernel_rfl) ?_ _
   try dsimp only at hHeld
   clear hHeld HALL HENy HYRy HB10
   have HYr := Lib.hid (HY30.out.below HB11.out)
   have HBr := Lib.hid (HB30.out.below HB11.out)
   have HVr := Lib.hid (HV30.out.kept HB11.out)
   clear HB11 HY30 HB30 HV30
   obtain ⟨⟨v0, v1⟩, fv0, fv1⟩ := HBr.out.v.two
   obtain ⟨c0, c1, c2, c3, c4, c5⟩ := HBr.out.c.six
   obtain ⟨⟨x0, x1, x2, x3, x4⟩, fx0, fx1, fx2, fx3, fx4⟩ := HBr.out.x.five
   obtain ⟨⟨r0, r1⟩, fr0, fr1⟩ := HBr.out.r.two
   obtain ⟨⟨s0, s1, s2, s3⟩, fs0, fs1, fs2, fs3⟩ := HBr.out.s.four
   obtain ⟨⟨y0, y1⟩, fy0, fy1⟩ := HYr.out.two
   go_wp2_with fail
   have hcon := l6With_any w6.heap.size w6 next g c' mD tt k2 ⟨Z, zb, zcb⟩ ge ce out _ HVr.out HGZ.out HTT.out HOE2.out HAP2.out
   rw [HL30.out] at hcon
   refine hcon.mono ?_
   clear hcon
   rintro e w15 ⟨rfl, hvw, hgr⟩
   have HBT := Lib.hid (HBr.out.grown hgr (fun q hq => by cases hq; omega))
   have HVT := Lib.hid hvw
   clear hvw hgr
   clear v0 v1 fv0 fv1 c0 c1 c2 c3 c4 c5 x0 x1 x2 x3 x4 fx0 fx1 fx2 fx3 fx4 r0 r1 fr0 fr1 s0 s1 s2 s3 fs0 fs1 fs2 fs3 y0 y1 fy0 fy1
   obtain ⟨⟨v0, v1⟩, fv0, fv1⟩ := HBT.out.v.two
   obtain ⟨c0, c1, c2, c3, c4, c5⟩ := HBT.out.c.six
   obtain ⟨⟨x0, x1, x2, x3, x4⟩, fx0, fx1, fx2, fx3, fx4⟩ := HBT.out.x.five
   obtain ⟨⟨r0, r1⟩, fr0, fr1⟩ := HBT.out.r.two
   obtain ⟨⟨s0, s1, s2, s3⟩, fs0, fs1, fs2, fs3⟩ := HBT.out.s.four
   have HLF : Hid ((mD.set k2 ⟨{ Z with ents := out }, ge, ce⟩).length = m.length) := Lib.hid (by rw [List.length_set]; exact HL30.out)
   have HIF : Hid (Inv d0 next (xs (mD.set k2 ⟨{ Z with ents := out }, ge, ce⟩))) := Lib.hid ((p_add HIV.out HGZ.out HZK.out out ⟨h0, k0, sa, X.id⟩ HPM.out hzl (by show sa.size ≤ 1073741824; omega) hx1 HMI.out ge ce).congr (fun i _ _ => by show (0 : Int) = 0 + d1 Y1.ents[j].id i - d1 X.id i; rw [HIDX.out]; omega))
   have hfin := Br.new hz6b HBT.out hBw HVT.out HIF.out 0 0 ⟨#[]⟩ ⟨#[]⟩ (Q := VolBl (some ⟨bv, ov, none⟩) cap m)
   rw [HLF.out] at hfin
   have HFIN := Lib.hid hfin
   clear hfin
   go_wp2
   exact ret_l6Ren (HBT.out.out _ _ _ _ _ _).1 (by rfl) (by rfl) (by rfl) HFIN.out
  have hdt2 : (dir != tt) = true := by simp [hdt]
  go_wp2_with fail
  refine (HEN2.out _ HB8.out.b).mono ?_
  rintro e w9 ⟨rfl, hb⟩
  have HY9 := Lib.hid (HY8.out.below hb)
  have HB9 := Lib.hid (HB8.out.below hb)
  have HV9 := Lib.hid (HV8.out.kept hb)
  clear hb HY8 HB8 HV8
  clear v0 v1 fv0 fv1 c0 c1 c2 c3 c4 c5 x0 x1 x2 x3 x4 fx0 fx1 fx2 fx3 fx4 r0 r1 fr0 fr1 s0 s1 s2 s3 fs0 fs1 fs2 fs3 y0 y1 fy0 fy1
  obtain ⟨⟨v0, v1⟩, fv0, fv1⟩ := HB9.out.v.two
  obtain ⟨c0, c1, c2, c3, c4, c5⟩ := HB9.out.c.six
  obtain ⟨⟨x0, x1, x2, x3, x4⟩, fx0, fx1, fx2, fx3, fx4⟩ := HB9.out.x.five
  obtain ⟨⟨r0, r1⟩, fr0, fr1⟩ := HB9.out.r.two
  obtain ⟨⟨s0, s1, s2, s3⟩, fs0, fs1, fs2, fs3⟩ := HB9.out.s.four
  obtain ⟨⟨y0, y1⟩, fy0, fy1⟩ := HY9.out.two
  by_cases hf : (12 : Int) ≤ (Y2.ents.length : Int)
  ·go_wp2
   exact ret_l6Ren (HB9.out.out _ _ _ _ _ _).1 (by rfl) (by rfl) (by rfl) (HSAME.out _ HB9.out _ _ _ _)
  have HLT : Hid (k1 ≠ k2 → Y2.ents.length < 12) := Lib.hid (fun _ => by omega)
  go_upto_region 15 with fail
  clear v0 v1 fv0 fv1 c0 c1 c2 c3 c4 c5 x0 x1 x2 x3 x4 fx0 fx1 fx2 fx3 fx4 r0 r1 fr0 fr1 s0 s1 s2 s3 fs0 fs1 fs2 fs3 y0 y1 fy0 fy1
  have HENy : Hid (∀ V, Below w9.heap.size w9 V → Calls Try.prog 37 #[.agg #[.int .i64 next, .slice (some ⟨g, 0, none⟩) m.length c'], .int .i64 dir] V fun e w' => e = .returned (.slice za1 Y1.ents.length zc1) ∧ Below V.heap.size V w') := Lib.hid (fun V hV => by
   have h := l6Ents_any next (some ⟨g, 0, none⟩) m'.length c' m' dir k1 ⟨Y1, za1, zc1⟩ V (HV9.out.kept hV).p HZ1.out (by rw [HAT'.out]; exact HY1.out.2)
   rw [HML.out] at h
   exact h)
  have HYRy : Hid (∀ V, Below w9.heap.size w9 V → Rd V za1 Y1.ents.length zc1 4 (ens Y1.ents)) := Lib.hid (fun V hV => (HV9.out.kept hV).p.2 _ (List.mem_of_getElem? HZ1.out))
  have HALL : Hid (∀ V, Below w9.heap.size w9 V → (V.cell? ⟨w7.heap.size, 0, none⟩ = some (.int .i64 next) ∧ V.cell? ⟨w7.heap.size, 1, none⟩ = some (.slice (some ⟨g, 0, none⟩) m.length c') ∧ V.cell? ⟨w.heap.size + 1, 1, none⟩ = some (.int .i64 dir) ∧ V.cell? ⟨w.heap.size + 1, 2, none⟩ = some (.string nm) ∧ Below w9.heap.size w9 V)) := Lib.hid (fun V hV => ⟨(HY9.out.below hV).two.1.1, (HY9.out.below hV).two.1.2, (HB9.out.below hV).c.six.2.1, (HB9.out.below hV).c.six.2.2.1, hV⟩)
  refine wp_region_held_drew (S := (fun V => V.cell? ⟨w7.heap.size, 0, none⟩ = some (.int .i64 next) ∧ V.cell? ⟨w7.heap.size, 1, none⟩ = some (.slice (some ⟨g, 0, none⟩) m.length c') ∧ V.cell? ⟨w.heap.size + 1, 1, none⟩ = some (.int .i64 dir) ∧ V.cell? ⟨w.heap.size + 1, 2, none⟩ = some (.string nm) ∧ Below w9.heap.size w9 V)) (by kernel_rfl) ?_ (fun hHeld => ?_)
  ·try dsimp only
   exact HALL.out _ (Below.refl _ _).drew
  change wpAnyH _ _ _ _ _ 12 #[false, false, false, false, false, false, false, false, false, false, false, false] _ _
  refine wpH_take (i := 0) (v := ?_) rfl (by kernel_rfl) (by kernel_rfl) (by kernel_rfl) (fun _ _ _ h => h) (by rfl) ?_ (by assumption) ?_; rotate_left; (focus (intro w hSw; (try dsimp only at hSw); go_simp; try with_reducible rfl)); try simp only [Act.put, List.setIfInBounds_toArray, List.set_cons_zero, List.set_cons_succ]
  refine wpH_take (i := 1) (v := ?_) rfl (by kernel_rfl) (by kernel_rfl) (by kernel_rfl) (fun _ _ _ h => h) (by rfl) ?_ (by assumption) ?_; rotate_left; (focus (intro w hSw; (try dsimp only at hSw); go_simp; try with_reducible rfl)); try simp only [Act.put, List.setIfInBounds_toArray, List.set_cons_zero, List.set_cons_succ]
  refine wpH_take (i := 2) (v := ?_) rfl (by kernel_rfl) (by kernel_rfl) (by kernel_rfl) (fun _ _ _ h => h) (by rfl) ?_ (by assumption) ?_; rotate_left; (focus (intro w hSw; (try dsimp only at hSw); go_simp; try with_reducible rfl)); try simp only [Act.put, List.setIfInBounds_toArray, List.set_cons_zero, List.set_cons_succ]
  refine wpH_take (i := 4) (v := ?_) rfl (by kernel_rfl) (by kernel_rfl) (by kernel_rfl) (fun _ _ _ h => h) (by rfl) ?_ (by assumption) ?_; rotate_left; (focus (intro w hSw; (try dsimp only at hSw); go_simp; try with_reducible rfl)); try simp only [Act.put, List.setIfInBounds_toArray, List.set_cons_zero, List.set_cons_succ]
  refine wpH_take (i := 5) (v := ?_) rfl (by kernel_rfl) (by kernel_rfl) (by kernel_rfl) (fun _ _ _ h => h) (by rfl) ?_ (by assumption) ?_; rotate_left; (focus (intro w hSw; (try dsimp only at hSw); go_simp; try with_reducible rfl)); try simp only [Act.put, List.setIfInBounds_toArray, List.set_cons_zero, List.set_cons_succ]
  refine wpAnyH_ready (rs := [3]) (by kernel_rfl) (by simp) ?_
  refine AllReadyH.cons rfl (fun K hK => ?_) AllReadyH.nil
  try dsimp only at hHeld
  go_simp
  (go_at_call 37; refine (HENy.out _ (Below.refl _ _).drew).mono ?_; rintro e w10 ⟨rfl, hbk⟩)
  refine hK.out _ _ ?_ (fun hHeld2 => ?_)
  ·try dsimp only
   exact HALL.out _ (below_step1 (Below.refl _ _).drew hbk)
  clear hK K hHeld
  have hHeld := hHeld2
  clear hHeld2
  have HB10 := Lib.hid (below_step1 (Below.refl _ _).drew hbk)
  clear hbk
  refine wpAnyH_ready (rs := [6]) (by kernel_rfl) (by simp) ?_
  refine AllReadyH.cons rfl (fun K hK => ?_) AllReadyH.nil
  try dsimp only at hHeld
  go_simp
  (go_at_call 40; refine (HDP.out za1 zc1 _ (HYRy.out _ HB10.out)).mono ?_; rintro e w11 ⟨gd, cd, rfl, hOE⟩)
  refine hK.out _ _ ?_ (fun hHeld2 => ?_)
  ·try dsimp only
   exact HALL.out _ (below_step1 HB10.out hOE.below)
  clear hK K hHeld
  have hHeld := hHeld2
  clear hHeld2
  have HOE := Lib.hid (own_down hOE (show w6.heap.size ≤ _ from Nat.le_trans HV9.out.top.base HB10.out.size) (HV9.out.below.trans (HB10.out.mono HV9.out.top.base)) (Nat.le_trans HV9.out.top.base HB10.out.size))
  have HAP : Hid (Apart1 m' k1 (.slice gd (Y1.ents.eraseIdx j).length cd)) := Lib.hid (apart1_new (HV9.out.kept HB10.out) k1 (fun q hq => (hOE.blk q hq).1))
  have HNE : Hid (∀ q', (InoP.blk ⟨{ Y1 with ents := Y1.ents.eraseIdx j }, gd, cd⟩) = some q' → q' ≠ w7.heap.size) := Lib.hid (fun q' hq' => by have h1 := (hOE.blk q' hq').1; have h2 := HB10.out.size; have h3 := HY9.out.lt; omega)
  have HB11 := Lib.hid (below_step1 HB10.out hOE.below)
  clear hOE
  refine wpH_take (i := 7) (v := ?_) rfl (by kernel_rfl) (by kernel_rfl) (by kernel_rfl) (fun _ _ _ h => h) (by rfl) ?_ (by assumption) ?_; rotate_left; (focus (intro w hSw; (try dsimp only at hSw); go_simp; try with_reducible rfl)); try simp only [Act.put, List.setIfInBounds_toArray, List.set_cons_zero, List.set_cons_succ]
  refine wpH_take (i := 8) (v := ?_) rfl (by kernel_rfl) (by kernel_rfl) (by kernel_rfl) (fun _ _ _ h => h) (by rfl) ?_ (by assumption) ?_; rotate_left; (focus (intro w hSw; (try dsimp only at hSw); go_simp; try with_reducible rfl)); try simp only [Act.put, List.setIfInBounds_toArray, List.set_cons_zero, List.set_cons_succ]
  refine wpH_take (i := 9) (v := ?_) rfl (by kernel_rfl) (by kernel_rfl) (by kernel_rfl) (fun _ _ _ h => h) (by rfl) ?_ (by assumption) ?_; rotate_left; (focus (intro w hSw; (try dsimp only at hSw); go_simp; try with_reducible rfl)); try simp only [Act.put, List.setIfInBounds_toArray, List.set_cons_zero, List.set_cons_succ]
  refine wpH_take (i := 10) (v := ?_) rfl (by kernel_rfl) (by kernel_rfl) (by kernel_rfl) (fun _ _ _ h => h) (by rfl) ?_ (by assumption) ?_; rotate_left; (focus (intro w hSw; (try dsimp only at hSw); go_simp; try with_reducible rfl)); try simp only [Act.put, List.setIfInBounds_toArray, List.set_cons_zero, List.set_cons_succ]
  refine wpH_take (i := 11) (v := ?_) rfl (by kernel_rfl) (by kernel_rfl) (by kernel_rfl) (fun _ _ _ h => h) (by rfl) ?_ (by assumption) ?_; rotate_left; (focus (intro w hSw; (try dsimp only at hSw); go_simp; try with_reducible rfl)); try simp only [Act.put, List.setIfInBounds_toArray, List.set_cons_zero, List.set_cons_succ]
  refine wpAnyH_done (by kernel_rfl) ?_ _
  try dsimp only at hHeld
  clear hHeld HALL HENy HYRy HB10
  have HYq := Lib.hid (HY9.out.below HB11.out)
  have HBq9 := Lib.hid (HB9.out.below HB11.out)
  have HVq := Lib.hid (HV9.out.kept HB11.out)
  clear HB11 HY9 HB9 HV9
  obtain ⟨⟨v0, v1⟩, fv0, fv1⟩ := HBq9.out.v.two
  obtain ⟨c0, c1, c2, c3, c4, c5⟩ := HBq9.out.c.six
  obtain ⟨⟨x0, x1, x2, x3, x4⟩, fx0, fx1, fx2, fx3, fx4⟩ := HBq9.out.x.five
  obtain ⟨⟨r0, r1⟩, fr0, fr1⟩ := HBq9.out.r.two
  obtain ⟨⟨s0, s1, s2, s3⟩, fs0, fs1, fs2, fs3⟩ := HBq9.out.s.four
  obtain ⟨⟨y0, y1⟩, fy0, fy1⟩ := HYq.out.two
  go_wp2_with fail
  have hcon := l6With_any w6.heap.size w6 next g c' m' dir k1 ⟨Y1, za1, zc1⟩ gd cd (Y1.ents.eraseIdx j) _ HVq.out HZ1.out (by rw [HAT'.out]; exact HY1.out.2) HOE.out HAP.out
  rw [HML.out] at hcon
  refine hcon.mono ?_
  clear hcon
  rintro e wv30 ⟨rfl, hvw, hgr⟩
  have HBw := Lib.hid (HBq9.out.grown hgr (fun q hq => by cases hq; omega))
  have HYw := Lib.hid (HYq.out.grown hgr (by simp; omega))
  have HN30 : Hid (∀ qq, VolBl (some ⟨g, 0, none⟩) c' (m'.set k1 ⟨{ Y1 with ents := Y1.ents.eraseIdx j }, gd, cd⟩) qq → qq ≠ w7.heap.size) := Lib.hid (fun qq hqq => by
   rcases volBl_set hqq with hqq | hqq
   ·exact HN8.out qq hqq
   ·exact HNE.out qq hqq)
  have HB30 := Lib.hid ((HBw.out.far (w7.heap.size) 0 (.int .i64 next) (by omega)).far (w7.heap.size) 1 (.slice (some ⟨g, 0, none⟩) m.length c') (by omega))
  have HY30 := Lib.hid ((HYw.out.set 0 (.int .i64 next)).set 1 (.slice (some ⟨g, 0, none⟩) m.length c'))
  have HV30 := Lib.hid (hvw.res2 (w7.heap.size) (by omega) HN30.out (.int .i64 next) (.slice (some ⟨g, 0, none⟩) m.length c'))
  have HL30 : Hid ((m'.set k1 ⟨{ Y1 with ents := Y1.ents.eraseIdx j }, gd, cd⟩).length = m.length) := Lib.hid (by rw [List.length_set]; exact HML.out)
  clear v0 v1 fv0 fv1 c0 c1 c2 c3 c4 c5 x0 x1 x2 x3 x4 fx0 fx1 fx2 fx3 fx4 r0 r1 fr0 fr1 s0 s1 s2 s3 fs0 fs1 fs2 fs3 y0 y1 fy0 fy1
  obtain ⟨⟨v0, v1⟩, fv0, fv1⟩ := HBw.out.v.two
  obtain ⟨c0, c1, c2, c3, c4, c5⟩ := HBw.out.c.six
  obtain ⟨⟨x0, x1, x2, x3, x4⟩, fx0, fx1, fx2, fx3, fx4⟩ := HBw.out.x.five
  obtain ⟨⟨r0, r1⟩, fr0, fr1⟩ := HBw.out.r.two
  obtain ⟨⟨s0, s1, s2, s3⟩, fs0, fs1, fs2, fs3⟩ := HBw.out.s.four
  obtain ⟨⟨y0, y1⟩, fy0, fy1⟩ := HYw.out.two
  clear hvw hgr HBw HYw HNE
  go_upto_region 17 with fail
  clear v0 v1 fv0 fv1 c0 c1 c2 c3 c4 c5 x0 x1 x2 x3 x4 fx0 fx1 fx2 fx3 fx4 r0 r1 fr0 fr1 s0 s1 s2 s3 fs0 fs1 fs2 fs3 y0 y1 fy0 fy1
  generalize ((wv30.setCell ⟨w7.heap.size, 0, none⟩ (.int .i64 next)).setCell ⟨w7.heap.size, 1, none⟩ (.slice (some ⟨g, 0, none⟩) m.length c')) = wW30 at *
  obtain ⟨Z, zb, zcb, hgz, hzk, hzno, hzl, hzm⟩ := ren_drop HZ1.out HZ2.out j hj gd cd (fun x => alikeB x.name sa) HNO.out h122 HLT.out
  have HGZ := Lib.hid hgz
  have HZK : Hid (Z.kind = 2) := Lib.hid (hzk.trans HKD2.out)
  have HZNO := Lib.hid hzno
  have HZSZ : Hid (∀ e ∈ Z.ents, e.name.size ≤ 1073741824) := Lib.hid (fun e he => HSZ2.out e (hzm e he))
  have HIV := Lib.hid (p_drop HINV'.out HZ1.out j hj gd cd)
  have HTT : Hid (atF (xs (m'.set k1 ⟨{ Y1 with ents := Y1.ents.eraseIdx j }, gd, cd⟩)) tt = (k2 : Int)) := Lib.hid ((at_set HZ1.out (z := ⟨{ Y1 with ents := Y1.ents.eraseIdx j }, gd, cd⟩) rfl _).trans (by rw [HAT'.out]; exact HY2.out.2))
  obtain ⟨ux, ucx, hx'⟩ := get_same HXX.out HX0.out.1
  try dsimp only at hx'
  have HMI : Hid (X.id ∈ idsF (xs (m'.set k1 ⟨{ Y1 with ents := Y1.ents.eraseIdx j }, gd, cd⟩))) := Lib.hid (by rw [idsF_xset HZ1.out (z := ⟨{ Y1 with ents := Y1.ents.eraseIdx j }, gd, cd⟩) rfl]; exact mem_ids hx')
  clear hgz hzk hzno hzm hx'
  generalize hmD : (m'.set k1 ⟨{ Y1 with ents := Y1.ents.eraseIdx j }, gd, cd⟩) = mD at *
  clear hmD
  have HENy : Hid (∀ V, Below wW30.heap.size wW30 V → Calls Try.prog 37 #[.agg #[.int .i64 next, .slice (some ⟨g, 0, none⟩) m.length c'], .int .i64 tt] V fun e w' => e = .returned (.slice zb Z.ents.length zcb) ∧ Below V.heap.size V w') := Lib.hid (fun V hV => by
   have h := l6Ents_any next (some ⟨g, 0, none⟩) mD.length c' mD tt k2 ⟨Z, zb, zcb⟩ V (HV30.out.kept hV).p HGZ.out HTT.out
   rw [HL30.out] at h
   exact h)
  have HYRy : Hid (∀ V, Below wW30.heap.size wW30 V → Rd V zb Z.ents.length zcb 4 (ens Z.ents)) := Lib.hid (fun V hV => (HV30.out.kept hV).p.2 _ (List.mem_of_getElem? HGZ.out))
  have HALL : Hid (∀ V, Below wW30.heap.size wW30 V → (V.cell? ⟨w7.heap.size, 0, none⟩ = some (.int .i64 next) ∧ V.cell? ⟨w7.heap.size, 1, none⟩ = some (.slice (some ⟨g, 0, none⟩) m.length c') ∧ V.cell? ⟨w.heap.size + 1, 3, none⟩ = some (.int .i64 tt) ∧ V.cell? ⟨w.heap.size + 1, 4, none⟩ = some (.string sa) ∧ V.cell? ⟨w.heap.size + 2, 0, none⟩ = some (.int .i64 X.id) ∧ Below wW30.heap.size wW30 V)) := Lib.hid (fun V hV => ⟨(HY30.out.below hV).two.1.1, (HY30.out.below hV).two.1.2, (HB30.out.below hV).c.six.2.2.2.1, (HB30.out.below hV).c.six.2.2.2.2.1, (HB30.out.below hV).x.five.1.1, hV⟩)
  refine wp_region_held_drew (S := (fun V => V.cell? ⟨w7.heap.size, 0, none⟩ = some (.int .i64 next) ∧ V.cell? ⟨w7.heap.size, 1, none⟩ = some (.slice (some ⟨g, 0, none⟩) m.length c') ∧ V.cell? ⟨w.heap.size + 1, 3, none⟩ = some (.int .i64 tt) ∧ V.cell? ⟨w.heap.size + 1, 4, none⟩ = some (.string sa) ∧ V.cell? ⟨w.heap.size + 2, 0, none⟩ = some (.int .i64 X.id) ∧ Below wW30.heap.size wW30 V)) (by kernel_rfl) ?_ (fun hHeld => ?_)
  ·try dsimp only
   exact HALL.out _ (Below.refl _ _).drew
  change wpAnyH _ _ _ _ _ 14 #[false, false, false, false, false, false, false, false, false, false, false, false, false, false] _ _
  refine wpH_take (i := 0) (v := ?_) rfl (by kernel_rfl) (by kernel_rfl) (by kernel_rfl) (fun _ _ _ h => h) (by rfl) ?_ (by assumption) ?_; rotate_left; (focus (intro w hSw; (try dsimp only at hSw); go_simp; try with_reducible rfl)); try simp only [Act.put, List.setIfInBounds_toArray, List.set_cons_zero, List.set_cons_succ]
  refine wpH_take (i := 1) (v := ?_) rfl (by kernel_rfl) (by kernel_rfl) (by kernel_rfl) (fun _ _ _ h => h) (by rfl) ?_ (by assumption) ?_; rotate_left; (focus (intro w hSw; (try dsimp only at hSw); go_simp; try with_reducible rfl)); try simp only [Act.put, List.setIfInBounds_toArray, List.set_cons_zero, List.set_cons_succ]
  refine wpH_take (i := 2) (v := ?_) rfl (by kernel_rfl) (by kernel_rfl) (by kernel_rfl) (fun _ _ _ h => h) (by rfl) ?_ (by assumption) ?_; rotate_left; (focus (intro w hSw; (try dsimp only at hSw); go_simp; try with_reducible rfl)); try simp only [Act.put, List.setIfInBounds_toArray, List.set_cons_zero, List.set_cons_succ]
  refine wpH_take (i := 4) (v := ?_) rfl (by kernel_rfl) (by kernel_rfl) (by kernel_rfl) (fun _ _ _ h => h) (by rfl) ?_ (by assumption) ?_; rotate_left; (focus (intro w hSw; (try dsimp only at hSw); go_simp; try with_reducible rfl)); try simp only [Act.put, List.setIfInBounds_toArray, List.set_cons_zero, List.set_cons_succ]
  refine wpH_take (i := 5) (v := ?_) rfl (by kernel_rfl) (by kernel_rfl) (by kernel_rfl) (fun _ _ _ h => h) (by rfl) ?_ (by assumption) ?_; rotate_left; (focus (intro w hSw; (try dsimp only at hSw); go_simp; try with_reducible rfl)); try simp only [Act.put, List.setIfInBounds_toArray, List.set_cons_zero, List.set_cons_succ]
  refine wpH_take (i := 6) (v := ?_) rfl (by kernel_rfl) (by kernel_rfl) (by kernel_rfl) (fun _ _ _ h => h) (by rfl) ?_ (by assumption) ?_; rotate_left; (focus (intro w hSw; (try dsimp only at hSw); go_simp; try with_reducible rfl)); try simp only [Act.put, List.setIfInBounds_toArray, List.set_cons_zero, List.set_cons_succ]
  refine wpH_take (i := 7) (v := ?_) rfl (by kernel_rfl) (by kernel_rfl) (by kernel_rfl) (fun _ _ _ h => h) (by rfl) ?_ (by assumption) ?_; rotate_left; (focus (intro w hSw; (try dsimp only at hSw); go_simp; try with_reducible rfl)); try simp only [Act.put, List.setIfInBounds_toArray, List.set_cons_zero, List.set_cons_succ]
  refine wpAnyH_ready (rs := [3]) (by kernel_rfl) (by simp) ?_
  refine AllReadyH.cons rfl (fun K hK => ?_) AllReadyH.nil
  try dsimp only at hHeld
  go_simp
  (go_at_call 37; refine (HENy.out _ (Below.refl _ _).drew).mono ?_; rintro e w10 ⟨rfl, hbk⟩)
  refine hK.out _ _ ?_ (fun hHeld2 => ?_)
  ·try dsimp only
   exact HALL.out _ (below_step1 (Below.refl _ _).drew hbk)
  clear hK K hHeld
  have hHeld := hHeld2
  clear hHeld2
  have HB10 := Lib.hid (below_step1 (Below.refl _ _).drew hbk)
  clear hbk
  refine wpAnyH_ready (rs := [8]) (by kernel_rfl) (by simp) ?_
  refine AllReadyH.cons rfl (fun K hK => ?_) AllReadyH.nil
  try dsimp only at hHeld
  go_simp
  (go_at_call 38; refine (l5AddX_any zb zcb Z.ents sa X.id _ (HYRy.out _ HB10.out) HZSZ.out (by omega) (by omega) (by omega) HNB2.out HZNO.out hzl).mono ?_; rintro e w12 ⟨out, h0, k0, ge, ce, rfl, hperm, hOE⟩)
  refine hK.out _ _ ?_ (fun hHeld2 => ?_)
  ·try dsimp only
   exact HALL.out _ (below_step1 HB10.out hOE.below)
  clear hK K hHeld
  have hHeld := hHeld2
  clear hHeld2
  have HOE2 := Lib.hid (own_down hOE (show w6.heap.size ≤ _ from Nat.le_trans HV30.out.top.base HB10.out.size) (HV30.out.below.trans (HB10.out.mono HV30.out.top.base)) (Nat.le_trans HV30.out.top.base HB10.out.size))
  have HAP2 : Hid (Apart1 mD k2 (.slice ge out.length ce)) := Lib.hid (apart1_new (HV30.out.kept HB10.out) k2 (fun q hq => (hOE.blk q hq).1))
  have HB11 := Lib.hid (below_step1 HB10.out hOE.below)
  have HPM := Lib.hid hperm
  clear hOE hperm
  refine wpH_take (i := 9) (v := ?_) rfl (by kernel_rfl) (by kernel_rfl) (by kernel_rfl) (fun _ _ _ h => h) (by rfl) ?_ (by assumption) ?_; rotate_left; (focus (intro w hSw; (try dsimp only at hSw); go_simp; try with_reducible rfl)); try simp only [Act.put, List.setIfInBounds_toArray, List.set_cons_zero, List.set_cons_succ]
  refine wpH_take (i := 10) (v := ?_) rfl (by kernel_rfl) (by kernel_rfl) (by kernel_rfl) (fun _ _ _ h => h) (by rfl) ?_ (by assumption) ?_; rotate_left; (focus (intro w hSw; (try dsimp only at hSw); go_simp; try with_reducible rfl)); try simp only [Act.put, List.setIfInBounds_toArray, List.set_cons_zero, List.set_cons_succ]
  refine wpH_take (i := 11) (v := ?_) rfl (by kernel_rfl) (by kernel_rfl) (by kernel_rfl) (fun _ _ _ h => h) (by rfl) ?_ (by assumption) ?_; rotate_left; (focus (intro w hSw; (try dsimp only at hSw); go_simp; try with_reducible rfl)); try simp only [Act.put, List.setIfInBounds_toArray, List.set_cons_zero, List.set_cons_succ]
  refine wpH_take (i := 12) (v := ?_) rfl (by kernel_rfl) (by kernel_rfl) (by kernel_rfl) (fun _ _ _ h => h) (by rfl) ?_ (by assumption) ?_; rotate_left; (focus (intro w hSw; (try dsimp only at hSw); go_simp; try with_reducible rfl)); try simp only [Act.put, List.setIfInBounds_toArray, List.set_cons_zero, List.set_cons_succ]
  refine wpH_take (i := 13) (v := ?_) rfl (by kernel_rfl) (by kernel_rfl) (by kernel_rfl) (fun _ _ _ h => h) (by rfl) ?_ (by assumption) ?_; rotate_left; (focus (intro w hSw; (try dsimp only at hSw); go_simp; try with_reducible rfl)); try simp only [Act.put, List.setIfInBounds_toArray, List.set_cons_zero, List.set_cons_succ]
  refine wpAnyH_done (by kernel_rfl) ?_ _
  try dsimp only at hHeld
  clear hHeld HALL HENy HYRy HB10
  have HYr := Lib.hid (HY30.out.below HB11.out)
  have HBr := Lib.hid (HB30.out.below HB11.out)
  have HVr := Lib.hid (HV30.out.kept HB11.out)
  clear HB11 HY30 HB30 HV30
  obtain ⟨⟨v0, v1⟩, fv0, fv1⟩ := HBr.out.v.two
  obtain ⟨c0, c1, c2, c3, c4, c5⟩ := HBr.out.c.six
  obtain ⟨⟨x0, x1, x2, x3, x4⟩, fx0, fx1, fx2, fx3, fx4⟩ := HBr.out.x.five
  obtain ⟨⟨r0, r1⟩, fr0, fr1⟩ := HBr.out.r.two
  obtain ⟨⟨s0, s1, s2, s3⟩, fs0, fs1, fs2, fs3⟩ := HBr.out.s.four
  obtain ⟨⟨y0, y1⟩, fy0, fy1⟩ := HYr.out.two
  go_wp2_with fail
  have hcon := l6With_any w6.heap.size w6 next g c' mD tt k2 ⟨Z, zb, zcb⟩ ge ce out _ HVr.out HGZ.out HTT.out HOE2.out HAP2.out
  rw [HL30.out] at hcon
  refine hcon.mono ?_
  clear hcon
  rintro e w15 ⟨rfl, hvw, hgr⟩
  have HBT := Lib.hid (HBr.out.grown hgr (fun q hq => by cases hq; omega))
  have HVT := Lib.hid hvw
  clear hvw hgr
  clear v0 v1 fv0 fv1 c0 c1 c2 c3 c4 c5 x0 x1 x2 x3 x4 fx0 fx1 fx2 fx3 fx4 r0 r1 fr0 fr1 s0 s1 s2 s3 fs0 fs1 fs2 fs3 y0 y1 fy0 fy1
  obtain ⟨⟨v0, v1⟩, fv0, fv1⟩ := HBT.out.v.two
  obtain ⟨c0, c1, c2, c3, c4, c5⟩ := HBT.out.c.six
  obtain ⟨⟨x0, x1, x2, x3, x4⟩, fx0, fx1, fx2, fx3, fx4⟩ := HBT.out.x.five
  obtain ⟨⟨r0, r1⟩, fr0, fr1⟩ := HBT.out.r.two
  obtain ⟨⟨s0, s1, s2, s3⟩, fs0, fs1, fs2, fs3⟩ := HBT.out.s.four
  have HLF : Hid ((mD.set k2 ⟨{ Z with ents := out }, ge, ce⟩).length = m.length) := Lib.hid (by rw [List.length_set]; exact HL30.out)
  have HIF : Hid (Inv d0 next (xs (mD.set k2 ⟨{ Z with ents := out }, ge, ce⟩))) := Lib.hid ((p_add HIV.out HGZ.out HZK.out out ⟨h0, k0, sa, X.id⟩ HPM.out hzl (by show sa.size ≤ 1073741824; omega) hx1 HMI.out ge ce).congr (fun i _ _ => by show (0 : Int) = 0 + d1 Y1.ents[j].id i - d1 X.id i; rw [HIDX.out]; omega))
  have hfin := Br.new hz6b HBT.out hBw HVT.out HIF.out 0 0 ⟨#[]⟩ ⟨#[]⟩ (Q := VolBl (some ⟨bv, ov, none⟩) cap m)
  rw [HLF.out] at hfin
  have HFIN := Lib.hid hfin
  clear hfin
  go_wp2
  exact ret_l6Ren (HBT.out.out _ _ _ _ _ _).1 (by rfl) (by rfl) (by rfl) HFIN.out
end Go.Proofs.Ytlkfabkkjfmnmaa
