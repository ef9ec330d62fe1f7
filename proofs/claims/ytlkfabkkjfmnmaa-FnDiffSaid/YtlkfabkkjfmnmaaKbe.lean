import Derived.Test.YtlkfabkkjfmnmaaKba
import Derived.Deep.CutRange
namespace Go.Proofs.Ytlkfabkkjfmnmaa
open Go.RowKit
set_option linter.all false
set_option maxRecDepth 1000000 in
set_option maxHeartbeats 6000000 in
theorem l6RenBF_any (B : Nat) (next : Int) (a : Option Addr) (cap : Nat) (m : List InoP) (kd dir : Int) (nm : ByteArray) (tt : Int) (sa dt : ByteArray) (k1 : Nat) (Y1 : InoL) (ya1 : Option Addr) (yc1 : Nat) (k2 : Nat) (Y2 : InoL) (ya2 : Option Addr) (yc2 : Nat) (kx : Nat) (X : InoL) (xa : Option Addr) (xc : Nat) (j : Nat) (hj : j < Y1.ents.length) (w : World) (h : VolOwn B w a cap m w) (hi : Inv d0 next (xs m))
  (hy1 : m[k1]? = some ⟨Y1, ya1, yc1⟩) (hat1 : atF (xs m) dir = (k1 : Int)) (hy2 : m[k2]? = some ⟨Y2, ya2, yc2⟩) (hat2 : atF (xs m) tt = (k2 : Int)) (hkd2 : Y2.kind = 2) (hyx : m[kx]? = some ⟨X, xa, xc⟩) (hatx : atF (xs m) X.id = (kx : Int)) (hxid : X.id = Y1.ents[j].id) (hj1 : (Y1.ents.take j).any (fun x => alikeB x.name nm) = false) (hj2 : alikeB Y1.ents[j].name nm = true) (hnb1 : nameB nm = true) (hnb2 : nameB sa = true) (hxk : X.kind ≠ 2) (q : Nat) (hq : q < Y2.ents.length) (hq1 : (Y2.ents.take q).any (fun x => alikeB x.name sa) = false) (hq2 : alikeB Y2.ents[q].name sa = true) (hqid : Y2.ents[q].id = X.id) :
  Calls Try.prog 42 #[.agg #[.int .i64 next, .slice a m.length cap], .agg #[.int .i64 kd, .int .i64 dir, .string nm, .int .i64 tt, .string sa, .string dt], .agg #[.int .i64 X.id, .int .i64 X.kind, .int .i64 X.links, .string X.data, .slice xa X.ents.length xc]] w (VolAns B (VolBl a cap m) w) := by
 have hsm := inv_small hi
 have hBw := h.top.base
 have hm := volP_room h.p
 have hns1 : nm.size ≤ 24 := nameB_size nm hnb1
 have hns2 : sa.size ≤ 24 := nameB_size sa hnb2
 have hmem1 := List.mem_of_getElem? hy1
 have hmem2 := List.mem_of_getElem? hy2
 have hye1 := hsm.2 _ hmem1
 have hye2 := hsm.2 _ hmem2
 try dsimp only at hye1 hye2
 have hkl2 : k2 < m.length := (List.getElem?_eq_some_iff.1 hy2).1
 have hkxl : kx < m.length := (List.getElem?_eq_some_iff.1 hyx).1
 obtain ⟨bv, ov, rfl, hbvw, -, -, -, -, -, -⟩ := volP_cells h.p hy2
 have HP := Lib.hid h.p
 have HI := Lib.hid hi
 have HY1 := Lib.hid (And.intro hy1 hat1)
 have HY2 := Lib.hid (And.intro hy2 hat2)
 have HX0 := Lib.hid (And.intro hyx hatx)
 have HKD2 := Lib.hid hkd2
 have HXK := Lib.hid hxk
 have HIDX := Lib.hid hxid
 have HNB2 := Lib.hid hnb2
 have HXG := Lib.hid (inv_kind hi hyx)
 have hxr := hi.rng X (List.mem_map_of_mem (List.mem_of_getElem? hyx))
 have hnhi := hi.hi
 have hx1 : X.id ≠ 1 := by rw [hxid]; exact ((inv_kind hi hy1).ents _ (List.getElem_mem hj)).no1
 have hnl1 := hj
 have HBX := Lib.hid (br_new w next (some ⟨bv, ov, none⟩) m.length cap kd dir nm tt sa dt X.id X.kind X.links X.data (.slice xa X.ents.length xc))
 have HSAME : Hid (∀ W, Br w next (some ⟨bv, ov, none⟩) m.length cap kd dir nm tt sa dt X.id X.kind X.links X.data (.slice xa X.ents.length xc) W → ∀ (v0 v1 : Int) (v2 v3 : ByteArray), VolAns B (VolBl (some ⟨bv, ov, none⟩) cap m) w (.returned (.tuple #[.agg #[.int .i64 next, .slice (some ⟨bv, ov, none⟩) m.length cap], .agg #[.int .i64 v0, .int .i64 v1, .string v2, .string v3]])) _) := Lib.hid (fun W hb v0 v1 v2 v3 => hb.same h hi v0 v1 v2 v3)
 have HEN2 : Hid (∀ W, Below w.heap.size w W → Calls Try.prog 37 #[.agg #[.int .i64 next, .slice (some ⟨bv, ov, none⟩) m.length cap], .int .i64 tt] W fun e w' => e = .returned (.slice ya2 Y2.ents.length yc2) ∧ Below W.heap.size W w') := Lib.hid (fun W hW => l6Ents_any next (some ⟨bv, ov, none⟩) m.length cap m tt k2 ⟨Y2, ya2, yc2⟩ W (HP.out.step hW) hy2 hat2)
 have HYR2 : Hid (∀ W, Below w.heap.size w W → Rd W ya2 Y2.ents.length yc2 4 (ens Y2.ents)) := Lib.hid (fun W hW => ((HP.out.step hW).2 _ hmem2))
 have HATT : Hid (∀ W, Below w.heap.size w W → Calls Try.prog 25 #[.agg #[.int .i64 next, .slice (some ⟨bv, ov, none⟩) m.length cap], .int .i64 tt] W fun e w' => e = .returned (.int .i64 (k2 : Int)) ∧ Below W.heap.size W w') := Lib.hid (fun W hW => by rw [← hat2]; exact l6At_any next (some ⟨bv, ov, none⟩) m.length cap (xs m) tt W (HP.out.step hW).rd)
 have HSZ1 : Hid (∀ e ∈ Y1.ents, e.name.size ≤ 1073741824) := Lib.hid hye1.2
 have HSZ2 : Hid (∀ e ∈ Y2.ents, e.name.size ≤ 1073741824) := Lib.hid hye2.2
 have h121 : Y1.ents.length ≤ 12 := hye1.1
 have h122 : Y2.ents.length ≤ 12 := hye2.1
 have h16 := hsm.1
 have HCP : Hid (∀ W, Below w.heap.size w W → Calls Try.prog 20 #[.agg #[.int .i64 next, .slice (some ⟨bv, ov, none⟩) m.length cap]] W (CopyPost next m W)) := Lib.hid (fun W hW => l6Copy_any next (some ⟨bv, ov, none⟩) cap m W (HP.out.step hW) (by omega) (fun z hz => by have := (hsm.2 z hz).1; omega))
 have HBW : Hid (∀ W, Below w.heap.size w W → Calls Try.prog 51 #[.agg #[.int .i64 next, .slice (some ⟨bv, ov, none⟩) m.length cap], .int .i64 X.id] W fun e w' => ∃ g c inn, e = .returned (.slice (some ⟨g, 0, none⟩) m.length c) ∧ inn.length = m.length ∧ Rd w' (some ⟨g, 0, none⟩) m.length c 1 (bls inn) ∧ Below W.heap.size W w') := Lib.hid (fun W hW => (l6Below_any next (some ⟨bv, ov, none⟩) m.length cap (xs m) X.id W (HP.out.step hW).rd (by rw [hatx]; omega) (by omega)).mono (fun e w' ⟨g, c, inn, h1, h2, _, h3, h4⟩ => ⟨g, c, inn, h1, by rw [h2, xs_len], h3, h4⟩))
 have HL5 : Hid (∀ r, AtP Y2.ents (fun x => alikeB x.name sa) r → r = (q : Int)) := Lib.hid (fun r hr => atP_uniq hq hq1 hq2 hr)
 have HQ := Lib.hid (And.intro hq1 hq2)
 have HQID := Lib.hid hqid
 have hqi : (q : Int) < (Y2.ents.length : Int) := by omega
 have hqi0 : (0 : Int) ≤ (q : Int) := by omega
 have HRP : Hid (∀ (V W0 : World) (Bq : Nat) (za : Option Addr) (zc : Nat), Own 63 4 Bq W0 (.slice za Y2.ents.length zc) Y2.ents.length (ens Y2.ents) V → Calls Try.prog 52 #[.slice za Y2.ents.length zc, .string sa, .int .i64 X.id] V (RespX Y2.ents q sa X.id Bq W0 za zc V)) := Lib.hid (fun V W0 Bq za zc ho => l5RespX_any Bq W0 za zc Y2.ents sa X.id q hq V ho hye2.2 (by omega) (by omega) (by omega) hq1 hq2)
 have HJ := Lib.hid (And.intro hj1 hj2)
 clear h hi hy1 hat1 hy2 hat2 hyx hatx hj1 hj2 hnb1 hnb2 hye1 hye2 hsm hmem1 hmem2 hkd2 hxk hxid hq1 hq2 hqid
 go_enter Try.func42, Try.ntmps42
 go_upto_region 1 with fail
 generalize (((((w.alloc (.cells #[.int .i64 next, .slice (some ⟨bv, ov, none⟩) m.length cap] 37)).alloc (.cells #[.int .i64 kd, .int .i64 dir, .string nm, .int .i64 tt, .string sa, .string dt] 56)).alloc (.cells #[.int .i64 X.id, .int .i64 X.kind, .int .i64 X.links, .string X.data, .slice xa X.ents.length xc] 49)).alloc (.cells #[.int .i64 0, .slice none 0 0] 37)).alloc (.cells #[.int .i64 0, .int .i64 0, .string ⟨#[]⟩, .string ⟨#[]⟩] 52)) = w1 at *
 obtain ⟨⟨v0, v1⟩, fv0, fv1⟩ := HBX.out.v.two
 obtain ⟨c0, c1, c2, c3, c4, c5⟩ := HBX.out.c.six
 obtain ⟨⟨x0, x1, x2, x3, x4⟩, fx0, fx1, fx2, fx3, fx4⟩ := HBX.out.x.five
 obtain ⟨⟨r0, r1⟩, fr0, fr1⟩ := HBX.out.r.two
 obtain ⟨⟨s0, s1, s2, s3⟩, fs0, fs1, fs2, fs3⟩ := HBX.out.s.four
 have hxk2 : (X.kind == 2) = false := by simp [HXK.out]
 have hxk3 : ¬ X.kind = 2 := HXK.out
 go_upto_region 5 with fail
 clear v0 v1 fv0 fv1 c0 c1 c2 c3 c4 c5 x0 x1 x2 x3 x4 fx0 fx1 fx2 fx3 fx4 r0 r1 fr0 fr1 s0 s1 s2 s3 fs0 fs1 fs2 fs3
 go_cut [9] from 22 to 51 (fun r wx => r = .int .i64 (q : Int) ∧ Hid (Below w1.heap.size w1 wx))
 case first =>
  have HALL : Hid (∀ V, Below w1.heap.size w1 V → (V.cell? ⟨w.heap.size, 0, none⟩ = some (.int .i64 next) ∧ V.cell? ⟨w.heap.size, 1, none⟩ = some (.slice (some ⟨bv, ov, none⟩) m.length cap) ∧ V.cell? ⟨w.heap.size + 1, 3, none⟩ = some (.int .i64 tt) ∧ V.cell? ⟨w.heap.size + 1, 4, none⟩ = some (.string sa) ∧ Below w1.heap.size w1 V)) := Lib.hid (fun V hV => ⟨(HBX.out.below hV).v.two.1.1, (HBX.out.below hV).v.two.1.2, (HBX.out.below hV).c.six.2.2.2.1, (HBX.out.below hV).c.six.2.2.2.2.1, hV⟩)
  refine wp_region_held_drew (S := (fun V => V.cell? ⟨w.heap.size, 0, none⟩ = some (.int .i64 next) ∧ V.cell? ⟨w.heap.size, 1, none⟩ = some (.slice (some ⟨bv, ov, none⟩) m.length cap) ∧ V.cell? ⟨w.heap.size + 1, 3, none⟩ = some (.int .i64 tt) ∧ V.cell? ⟨w.heap.size + 1, 4, none⟩ = some (.string sa) ∧ Below w1.heap.size w1 V)) (by kernel_rfl) ?_ (fun hHeld => ?_)
  ·try dsimp only
   exact HALL.out _ (Below.refl _ _).drew
  change wpAnyH _ _ _ _ _ 8 #[false, false, false, false, false, false, false, false] _ _
  refine wpH_take (i := 0) (v := ?_) rfl (by kernel_rfl) (by kernel_rfl) (by kernel_rfl) (fun _ _ _ h => h) (by rfl) ?_ (by assumption) ?_; rotate_left; (focus (intro w hSw; (try dsimp only at hSw); go_simp; try with_reducible rfl)); try simp only [Act.put, List.setIfInBounds_toArray, List.set_cons_zero, List.set_cons_succ]
  refine wpH_take (i := 1) (v := ?_) rfl (by kernel_rfl) (by kernel_rfl) (by kernel_rfl) (fun _ _ _ h => h) (by rfl) ?_ (by assumption) ?_; rotate_left; (focus (intro w hSw; (try dsimp only at hSw); go_simp; try with_reducible rfl)); try simp only [Act.put, List.setIfInBounds_toArray, List.set_cons_zero, List.set_cons_succ]
  refine wpH_take (i := 2) (v := ?_) rfl (by kernel_rfl) (by kernel_rfl) (by kernel_rfl) (fun _ _ _ h => h) (by rfl) ?_ (by assumption) ?_; rotate_left; (focus (intro w hSw; (try dsimp only at hSw); go_simp; try with_reducible rfl)); try simp only [Act.put, List.setIfInBounds_toArray, List.set_cons_zero, List.set_cons_succ]
  refine wpH_take (i := 4) (v := ?_) rfl (by kernel_rfl) (by kernel_rfl) (by kernel_rfl) (fun _ _ _ h => h) (by rfl) ?_ (by assumption) ?_; rotate_left; (focus (intro w hSw; (try dsimp only at hSw); go_simp; try with_reducible rfl)); try simp only [Act.put, List.setIfInBounds_toArray, List.set_cons_zero, List.set_cons_succ]
  refine wpH_take (i := 5) (v := ?_) rfl (by kernel_rfl) (by kernel_rfl) (by kernel_rfl) (fun _ _ _ h => h) (by rfl) ?_ (by assumption) ?_; rotate_left; (focus (intro w hSw; (try dsimp only at hSw); go_simp; try with_reducible rfl)); try simp only [Act.put, List.setIfInBounds_toArray, List.set_cons_zero, List.set_cons_succ]
  refine wpAnyH_ready (rs := [3]) (by kernel_rfl) (by simp) ?_
  refine AllReadyH.cons rfl (fun K hK => ?_) AllReadyH.nil
  try dsimp only at hHeld
  go_simp
  (go_at_call 37; refine (HEN2.out _ (below_step1 HBX.out.b (Below.refl _ _).drew)).mono ?_; rintro e w4 ⟨rfl, hbk⟩)
  refine hK.out _ _ ?_ (fun hHeld2 => ?_)
  ·try dsimp only
   exact HALL.out _ (below_step1 (Below.refl _ _).drew hbk)
  clear hK K hHeld
  have hHeld := hHeld2
  clear hHeld2
  have HB4 := Lib.hid (below_step1 (Below.refl _ _).drew hbk)
  clear hbk
  refine wpAnyH_ready (rs := [6]) (by kernel_rfl) (by simp) ?_
  refine AllReadyH.cons rfl (fun K hK => ?_) AllReadyH.nil
  try dsimp only at hHeld
  go_simp
  (go_at_call 36; refine (l5At_any ya2 _ yc2 Y2.ents sa _ (HYR2.out _ (below_step1 HBX.out.b HB4.out)) HSZ2.out (by omega)).mono ?_; rintro e w5 ⟨r, rfl, hE, hbk⟩)
  refine hK.out _ _ ?_ (fun hHeld2 => ?_)
  ·try dsimp only
   exact HALL.out _ (below_step1 HB4.out hbk)
  clear hK K hHeld
  have hHeld := hHeld2
  clear hHeld2
  have HB5 := Lib.hid (below_step1 HB4.out hbk)
  have hr := HL5.out r hE
  subst hr
  clear hbk hE
  refine wpH_take (i := 7) (v := ?_) rfl (by kernel_rfl) (by kernel_rfl) (by kernel_rfl) (fun _ _ _ h => h) (by rfl) ?_ (by assumption) ?_; rotate_left; (focus (intro w hSw; (try dsimp only at hSw); go_simp; try with_reducible rfl)); try simp only [Act.put, List.setIfInBounds_toArray, List.set_cons_zero, List.set_cons_succ]
  refine wpAnyH_done (by kernel_rfl) ?_ _
  try dsimp only at hHeld
  clear hHeld HALL
  go_wp2_with fail
  go_meet
  exact ⟨rfl, HB5⟩
 case rest =>
 obtain ⟨rfl, HB5⟩ := hcut
 obtain ⟨w6, hw6⟩ : ∃ x : World, x = wc := ⟨_, rfl⟩
 subst hw6
 have HBX6 := Lib.hid (HBX.out.below HB5.out)
 clear HB5 HBX
 obtain ⟨⟨v0, v1⟩, fv0, fv1⟩ := HBX6.out.v.two
 obtain ⟨c0, c1, c2, c3, c4, c5⟩ := HBX6.out.c.six
 obtain ⟨⟨x0, x1, x2, x3, x4⟩, fx0, fx1, fx2, fx3, fx4⟩ := HBX6.out.x.five
 obtain ⟨⟨r0, r1⟩, fr0, fr1⟩ := HBX6.out.r.two
 obtain ⟨⟨s0, s1, s2, s3⟩, fs0, fs1, fs2, fs3⟩ := HBX6.out.s.four
 have hz6b := HBX6.out.size
 go_wp2_with fail
 refine (HCP.out _ HBX6.out.b).mono ?_
 rintro e w7 ⟨a', c', m', rfl, hml', hxs', hv⟩
 obtain ⟨g, hg⟩ : ∃ g, a' = some ⟨g, 0, none⟩ := by
  obtain ⟨g, cp, e, _⟩ := hv.top.shape1 (by omega)
  exact ⟨g, by cases e; rfl⟩
 subst hg
 have hg6 : w6.heap.size ≤ g ∧ g < w7.heap.size := hv.top.blk g rfl
 have hb7 := hv.below
 clear v0 v1 fv0 fv1 c0 c1 c2 c3 c4 c5 x0 x1 x2 x3 x4 fx0 fx1 fx2 fx3 fx4 r0 r1 fr0 fr1 s0 s1 s2 s3 fs0 fs1 fs2 fs3
 have HYS := Lib.hid (cs_new w7 37 #[.int .i64 next, .slice (some ⟨g, 0, none⟩) m.length c'])
 have HBS := Lib.hid ((HBX6.out.below hb7).below (boxA w7 (.cells #[.int .i64 next, .slice (some ⟨g, 0, none⟩) m.length c'] 37)))
 have HVS := Lib.hid (hv.alloc (.cells #[.int .i64 next, .slice (some ⟨g, 0, none⟩) m.length c'] 37))
 have HBL := Lib.hid (fun q hq => hv.bl q hq)
 have HML := Lib.hid hml'
 have HXX := Lib.hid hxs'
 have hz7 : w6.heap.size ≤ w7.heap.size := hb7.size
 have hzS : w7.heap.size < (w7.alloc (.cells #[.int .i64 next, .slice (some ⟨g, 0, none⟩) m.length c'] 37)).heap.size := by simp
 have HINV' : Hid (Inv d0 next (xs m')) := Lib.hid (by rw [hxs']; exact HI.out)
 have HAT' : Hid (∀ i, atF (xs m') i = atF (xs m) i) := Lib.hid (fun i => by rw [hxs'])
 obtain ⟨za1, zc1, hz1'⟩ := get_same hxs' HY1.out.1
 obtain ⟨za2, zc2, hz2'⟩ := get_same hxs' HY2.out.1
 try dsimp only at hz1' hz2'
 have HZ1 := Lib.hid hz1'
 have HZ2 := Lib.hid hz2'
 clear hv hb7 hml' hxs' hz1' hz2'
 go_upto_region 7 with fail
 generalize w7.alloc (.cells #[.int .i64 next, .slice (some ⟨g, 0, none⟩) m.length c'] 37) = wS at *
 go_cut [68] from 52 to 67 (fun r wx => r = .bool true ∧ Hid (Below wS.heap.size wS wx))
 case first =>
  obtain ⟨b8, o8, hya8, hb8, -, -, -, d8⟩ := ens_cells (HYR2.out _ HBS.out.b) q hq
  subst hya8
  have hidq : ((Y2.ents[q].id) == X.id) = true := by simp [HQID.out]
  generalize Y2.ents[q].id = iq at *
  have HALL : Hid (∀ V, Below wS.heap.size wS V → (V.cell? ⟨w.heap.size, 0, none⟩ = some (.int .i64 next) ∧ V.cell? ⟨w.heap.size, 1, none⟩ = some (.slice (some ⟨bv, ov, none⟩) m.length cap) ∧ V.cell? ⟨w.heap.size + 1, 3, none⟩ = some (.int .i64 tt) ∧ V.cell? ⟨w.heap.size + 2, 0, none⟩ = some (.int .i64 X.id) ∧ V.cell? ⟨b8, o8 + q * 4 + 3, none⟩ = some (.int .i64 iq) ∧ Below wS.heap.size wS V)) := Lib.hid (fun V hV => ⟨(HBS.out.below hV).v.two.1.1, (HBS.out.below hV).v.two.1.2, (HBS.out.below hV).c.six.2.2.2.1, (HBS.out.below hV).x.five.1.1, cellK d8 hV, hV⟩)
  refine wp_region_held_drew (S := (fun V => V.cell? ⟨w.heap.size, 0, none⟩ = some (.int .i64 next) ∧ V.cell? ⟨w.heap.size, 1, none⟩ = some (.slice (some ⟨bv, ov, none⟩) m.length cap) ∧ V.cell? ⟨w.heap.size + 1, 3, none⟩ = some (.int .i64 tt) ∧ V.cell? ⟨w.heap.size + 2, 0, none⟩ = some (.int .i64 X.id) ∧ V.cell? ⟨b8, o8 + q * 4 + 3, none⟩ = some (.int .i64 iq) ∧ Below wS.heap.size wS V)) (by kernel_rfl) ?_ (fun hHeld => ?_)
  ·try dsimp only
   exact HALL.out _ (Below.refl _ _).drew
  change wpAnyH _ _ _ _ _ 15 #[false, false, false, false, false, false, false, false, false, false, false, false, false, false, false] _ _
  refine wpH_take (i := 0) (v := ?_) rfl (by kernel_rfl) (by kernel_rfl) (by kernel_rfl) (fun _ _ _ h => h) (by rfl) ?_ (by assumption) ?_; rotate_left; (focus (intro w hSw; (try dsimp only at hSw); go_simp; try with_reducible rfl)); try simp only [Act.put, List.setIfInBounds_toArray, List.set_cons_zero, List.set_cons_succ]
  refine wpH_take (i := 1) (v := ?_) rfl (by kernel_rfl) (by kernel_rfl) (by kernel_rfl) (fun _ _ _ h => h) (by rfl) ?_ (by assumption) ?_; rotate_left; (focus (intro w hSw; (try dsimp only at hSw); go_simp; try with_reducible rfl)); try simp only [Act.put, List.setIfInBounds_toArray, List.set_cons_zero, List.set_cons_succ]
  refine wpH_take (i := 2) (v := ?_) rfl (by kernel_rfl) (by kernel_rfl) (by kernel_rfl) (fun _ _ _ h => h) (by rfl) ?_ (by assumption) ?_; rotate_left; (focus (intro w hSw; (try dsimp only at hSw); go_simp; try with_reducible rfl)); try simp only [Act.put, List.setIfInBounds_toArray, List.set_cons_zero, List.set_cons_succ]
  refine wpH_take (i := 3) (v := ?_) rfl (by kernel_rfl) (by kernel_rfl) (by kernel_rfl) (fun _ _ _ h => h) (by rfl) ?_ (by assumption) ?_; rotate_left; (focus (intro w hSw; (try dsimp only at hSw); go_simp; try with_reducible rfl)); try simp only [Act.put, List.setIfInBounds_toArray, List.set_cons_zero, List.set_cons_succ]
  refine wpH_take (i := 4) (v := ?_) rfl (by kernel_rfl) (by kernel_rfl) (by kernel_rfl) (fun _ _ _ h => h) (by rfl) ?_ (by assumption) ?_; rotate_left; (focus (intro w hSw; (try dsimp only at hSw); go_simp; try with_reducible rfl)); try simp only [Act.put, List.setIfInBounds_toArray, List.set_cons_zero, List.set_cons_succ]
  refine wpH_take (i := 5) (v := ?_) rfl (by kernel_rfl) (by kernel_rfl) (by kernel_rfl) (fun _ _ _ h => h) (by rfl) ?_ (by assumption) ?_; rotate_left; (focus (intro w hSw; (try dsimp only at hSw); go_simp; try with_reducible rfl)); try simp only [Act.put, List.setIfInBounds_toArray, List.set_cons_zero, List.set_cons_succ]
  refine wpH_take (i := 7) (v := ?_) rfl (by kernel_rfl) (by kernel_rfl) (by kernel_rfl) (fun _ _ _ h => h) (by rfl) ?_ (by assumption) ?_; rotate_left; (focus (intro w hSw; (try dsimp only at hSw); go_simp; try with_reducible rfl)); try simp only [Act.put, List.setIfInBounds_toArray, List.set_cons_zero, List.set_cons_succ]
  refine wpH_take (i := 11) (v := ?_) rfl (by kernel_rfl) (by kernel_rfl) (by kernel_rfl) (fun _ _ _ h => h) (by rfl) ?_ (by assumption) ?_; rotate_left; (focus (intro w hSw; (try dsimp only at hSw); go_simp; try with_reducible rfl)); try simp only [Act.put, List.setIfInBounds_toArray, List.set_cons_zero, List.set_cons_succ]
  refine wpH_take (i := 12) (v := ?_) rfl (by kernel_rfl) (by kernel_rfl) (by kernel_rfl) (fun _ _ _ h => h) (by rfl) ?_ (by assumption) ?_; rotate_left; (focus (intro w hSw; (try dsimp only at hSw); go_simp; try with_reducible rfl)); try simp only [Act.put, List.setIfInBounds_toArray, List.set_cons_zero, List.set_cons_succ]
  refine wpAnyH_ready (rs := [6]) (by kernel_rfl) (by simp) ?_
  refine AllReadyH.cons rfl (fun K hK => ?_) AllReadyH.nil
  try dsimp only at hHeld
  go_simp
  (go_at_call 37; refine (HEN2.out _ (below_step1 HBS.out.b (Below.refl _ _).drew)).mono ?_; rintro e w8 ⟨rfl, hbk⟩)
  refine hK.out _ _ ?_ (fun hHeld2 => ?_)
  ·try dsimp only
   exact HALL.out _ (below_step1 (Below.refl _ _).drew hbk)
  clear hK K hHeld
  have hHeld := hHeld2
  clear hHeld2
  have HBQ := Lib.hid (below_step1 (Below.refl _ _).drew hbk)
  clear hbk
  refine wpH_take (i := 8) (v := ?_) rfl (by kernel_rfl) (by kernel_rfl) (by kernel_rfl) (fun _ _ _ h => h) (by rfl) ?_ (by assumption) ?_; rotate_left; (focus (intro w hSw; (try dsimp only at hSw); go_simp; try with_reducible rfl)); try simp only [Act.put, List.setIfInBounds_toArray, List.set_cons_zero, List.set_cons_succ]
  refine wpH_take (i := 9) (v := ?_) rfl (by kernel_rfl) (by kernel_rfl) (by kernel_rfl) (fun _ _ _ h => h) (by rfl) ?_ (by assumption) ?_; rotate_left; (focus (intro w hSw; (try dsimp only at hSw); go_simp; try with_reducible rfl)); try simp only [Act.put, List.setIfInBounds_toArray, List.set_cons_zero, List.set_cons_succ]
  refine wpH_take (i := 10) (v := ?_) rfl (by kernel_rfl) (by kernel_rfl) (by kernel_rfl) (fun _ _ _ h => h) (by rfl) ?_ (by assumption) ?_; rotate_left; (focus (intro w hSw; (try dsimp only at hSw); go_simp; try with_reducible rfl)); try simp only [Act.put, List.setIfInBounds_toArray, List.set_cons_zero, List.set_cons_succ]
  refine wpH_take (i := 13) (v := ?_) rfl (by kernel_rfl) (by kernel_rfl) (by kernel_rfl) (fun _ _ _ h => h) (by rfl) ?_ (by assumption) ?_; rotate_left; (focus (intro w hSw; (try dsimp only at hSw); go_simp; try with_reducible rfl)); try simp only [Act.put, List.setIfInBounds_toArray, List.set_cons_zero, List.set_cons_succ]
  refine wpH_take (i := 14) (v := ?_) rfl (by kernel_rfl) (by kernel_rfl) (by kernel_rfl) (fun _ _ _ h => h) (by rfl) ?_ (by assumption) ?_; rotate_left; (focus (intro w hSw; (try dsimp only at hSw); go_simp; try with_reducible rfl)); try simp only [Act.put, List.setIfInBounds_toArray, List.set_cons_zero, List.set_cons_succ]
  refine wpAnyH_done (by kernel_rfl) ?_ _
  try dsimp only at hHeld
  clear hHeld HALL
  go_wp2_with fail
  go_meet
  exact ⟨rfl, HBQ⟩
 case rest =>
 obtain ⟨rfl, HBQ⟩ := hcut
 obtain ⟨wT, hwT⟩ : ∃ x : World, x = wc := ⟨_, rfl⟩
 subst hwT
 have HY8 := Lib.hid (HYS.out.below HBQ.out)
 have HB8 := Lib.hid (HBS.out.below HBQ.out)
 have HV8 := Lib.hid (HVS.out.kept HBQ.out)
 clear HBQ HYS HBS HVS
 have HN8 : Hid (∀ q, VolBl (some ⟨g, 0, none⟩) c' m' q → q ≠ w7.heap.size) := Lib.hid (fun q hq => by have := (HBL.out q hq).2; omega)
 obtain ⟨⟨v0, v1⟩, fv0, fv1⟩ := HB8.out.v.two
 obtain ⟨c0, c1, c2, c3, c4, c5⟩ := HB8.out.c.six
 obtain ⟨⟨x0, x1, x2, x3, x4⟩, fx0, fx1, fx2, fx3, fx4⟩ := HB8.out.x.five
 obtain ⟨⟨r0, r1⟩, fr0, fr1⟩ := HB8.out.r.two
 obtain ⟨⟨s0, s1, s2, s3⟩, fs0, fs1, fs2, fs3⟩ := HB8.out.s.four
 obtain ⟨⟨y0, y1⟩, fy0, fy1⟩ := HY8.out.two
 by_cases hdt : dir = tt
 rotate_left
 ·have hdt2 : (dir == tt) = false := by simp [hdt]
  have hfin := Br.new hz6b HB8.out hBw HV8.out HINV'.out 0 0 ⟨#[]⟩ ⟨#[]⟩ (Q := VolBl (some ⟨bv, ov, none⟩) cap m)
  rw [HML.out] at hfin
  have HFIN := Lib.hid hfin
  clear hfin
  go_wp2
  exact ret_l6Ren (HB8.out.out _ _ _ _ _ _).1 (by rfl) (by rfl) (by rfl) HFIN.out
 have hdt2 : (dir == tt) = true := by simp [hdt]
 clear hdt
 have HAL : Hid (∀ W, Calls Try.prog 47 #[.string nm, .string sa] W fun e w' => e = .returned (.bool (alikeB nm sa)) ∧ Below W.heap.size W w') := Lib.hid (fun W => specAlike_any nm sa W (by omega) (by omega))
 generalize alikeB nm sa = al at *
 go_wp2_with fail
 refine (HAL.out _).mono ?_
 rintro e w9 ⟨rfl, hb⟩
 have HY9 := Lib.hid (HY8.out.below hb)
 have HB9 := Lib.hid (HB8.out.below hb)
 have HV9 := Lib.hid (HV8.out.kept hb)
 clear hb HY8 HB8 HV8
 clear v0 v1 fv0 fv1 c0 c1 c2 c3 c4 c5 x0 x1 x2 x3 x4 fx0 fx1 fx2 fx3 fx4 r0 r1 fr0 fr1 s0 s1 s2 s3 fs0 fs1 fs2 fs3 y0 y1 fy0 fy1
 obtain ⟨⟨v0, v1⟩, fv0, fv1⟩ := HB9.out.v.two
 obtain ⟨c0, c1, c2, c3, c4, c5⟩ := HB9.out.c.six
 obtain ⟨⟨x0, x1, x2, x3, x4⟩, fx0, fx1, fx2, fx3, fx4⟩ := HB9.out.x.five
 obtain ⟨⟨r0, r1⟩, fr0, fr1⟩ := HB9.out.r.two
 obtain ⟨⟨s0, s1, s2, s3⟩, fs0, fs1, fs2, fs3⟩ := HB9.out.s.four
 obtain ⟨⟨y0, y1⟩, fy0, fy1⟩ := HY9.out.two
 cases al with
 | false =>
  have hfin := Br.new hz6b HB9.out hBw HV9.out HINV'.out 0 0 ⟨#[]⟩ ⟨#[]⟩ (Q := VolBl (some ⟨bv, ov, none⟩) cap m)
  rw [HML.out] at hfin
  have HFIN := Lib.hid hfin
  clear hfin
  go_wp2
  exact ret_l6Ren (HB9.out.out _ _ _ _ _ _).1 (by rfl) (by rfl) (by rfl) HFIN.out
 | true =>
  go_upto_region 9 with fail
  clear v0 v1 fv0 fv1 c0 c1 c2 c3 c4 c5 x0 x1 x2 x3 x4 fx0 fx1 fx2 fx3 fx4 r0 r1 fr0 fr1 s0 s1 s2 s3 fs0 fs1 fs2 fs3 y0 y1 fy0 fy1
  obtain ⟨ux, ucx, hx'⟩ := get_same HXX.out HX0.out.1
  try dsimp only at hx'
  have HX' := Lib.hid hx'
  clear hx'
  have HENy : Hid (∀ V, Below w9.heap.size w9 V → Calls Try.prog 37 #[.agg #[.int .i64 next, .slice (some ⟨g, 0, none⟩) m.length c'], .int .i64 tt] V fun e w' => e = .returned (.slice za2 Y2.ents.length zc2) ∧ Below V.heap.size V w') := Lib.hid (fun V hV => by
   have h := l6Ents_any next (some ⟨g, 0, none⟩) m'.length c' m' tt k2 ⟨Y2, za2, zc2⟩ V (HV9.out.kept hV).p HZ2.out (by rw [HAT'.out]; exact HY2.out.2)
   rw [HML.out] at h
   exact h)
  have HBq : Hid (∀ q, (Value.slice za2 Y2.ents.length zc2).ownBlock = some q → w6.heap.size ≤ q ∧ q ≠ w7.heap.size) := Lib.hid (fun q hq => ⟨((HV9.out.sub _ (List.mem_of_getElem? HZ2.out)).blk q hq).1, HN8.out q (.inr ⟨_, List.mem_of_getElem? HZ2.out, hq⟩)⟩)
  have HALL : Hid (∀ V, Below w9.heap.size w9 V → (V.cell? ⟨w7.heap.size, 0, none⟩ = some (.int .i64 next) ∧ V.cell? ⟨w7.heap.size, 1, none⟩ = some (.slice (some ⟨g, 0, none⟩) m.length c') ∧ V.cell? ⟨w.heap.size + 1, 3, none⟩ = some (.int .i64 tt) ∧ V.cell? ⟨w.heap.size + 1, 4, none⟩ = some (.string sa) ∧ V.cell? ⟨w.heap.size + 2, 0, none⟩ = some (.int .i64 X.id))) := Lib.hid (fun V hV => ⟨(HY9.out.below hV).two.1.1, (HY9.out.below hV).two.1.2, (HB9.out.below hV).c.six.2.2.2.1, (HB9.out.below hV).c.six.2.2.2.2.1, (HB9.out.below hV).x.five.1.1⟩)
  refine wp_region_held_drew (S := (fun V => V.cell? ⟨w7.heap.size, 0, none⟩ = some (.int .i64 next) ∧ V.cell? ⟨w7.heap.size, 1, none⟩ = some (.slice (some ⟨g, 0, none⟩) m.length c') ∧ V.cell? ⟨w.heap.size + 1, 3, none⟩ = some (.int .i64 tt) ∧ V.cell? ⟨w.heap.size + 1, 4, none⟩ = some (.string sa) ∧ V.cell? ⟨w.heap.size + 2, 0, none⟩ = some (.int .i64 X.id))) (by kernel_rfl) ?_ (fun hHeld => ?_)
  ·try dsimp only
   exact HALL.out _ (Below.refl _ _).drew
  change wpAnyH _ _ _ _ _ 14 #[false, false, false, false, false, false, false, false, false, false, false, false, false, false] _ _
  refine wpH_take (i := 0) (v := ?_) rfl (by kernel_rfl) (by kernel_rfl) (by kernel_rfl) (fun _ _ _ h => h) (by rfl) ?_ (by assumption) ?_; rotate_left; (focus (intro w hSw; (try dsimp only at hSw); go_simp; try with_reducible rfl)); try simp only [Act.put, List.setIfInBounds_toArray, List.set_cons_zero, List.set_cons_succ]
  refine wpH_take (i := 1) (v := ?_) rfl (by kernel_rfl) (by kernel_rfl) (by kernel_rfl) (fun _ _ _ h => h) (by rfl) ?_ (by assumption) ?_; rotate_left; (focus (intro w hSw; (try dsimp only at hSw); go_simp; try with_reducible rfl)); try simp only [Act.put, List.setIfInBounds_toArray, List.set_cons_zero, List.set_cons_succ]
  refine wpH_take (i := 2) (v := ?_) rfl (by kernel_rfl) (by kernel_rfl) (by kernel_rfl) (fun _ _ _ h => h) (by rfl) ?_ (by assumption) ?_; rotate_left; (focus (intro w hSw; (try dsimp only at hSw); go_simp; try with_reducible rfl)); try simp only [Act.put, List.setIfInBounds_toArray, List.set_cons_zero, List.set_cons_succ]
  refine wpH_take (i := 4) (v := ?_) rfl (by kernel_rfl) (by kernel_rfl) (by kernel_rfl) (fun _ _ _ h => h) (by rfl) ?_ (by assumption) ?_; rotate_left; (focus (intro w hSw; (try dsimp only at hSw); go_simp; try with_reducible rfl)); try simp only [Act.put, List.setIfInBounds_toArray, List.set_cons_zero, List.set_cons_succ]
  refine wpH_take (i := 5) (v := ?_) rfl (by kernel_rfl) (by kernel_rfl) (by kernel_rfl) (fun _ _ _ h => h) (by rfl) ?_ (by assumption) ?_; rotate_left; (focus (intro w hSw; (try dsimp only at hSw); go_simp; try with_reducible rfl)); try simp only [Act.put, List.setIfInBounds_toArray, List.set_cons_zero, List.set_cons_succ]
  refine wpH_take (i := 6) (v := ?_) rfl (by kernel_rfl) (by kernel_rfl) (by kernel_rfl) (fun _ _ _ h => h) (by rfl) ?_ (by assumption) ?_; rotate_left; (focus (intro w hSw; (try dsimp only at hSw); go_simp; try with_reducible rfl)); try simp only [Act.put, List.setIfInBounds_toArray, List.set_cons_zero, List.set_cons_succ]
  refine wpH_take (i := 7) (v := ?_) rfl (by kernel_rfl) (by kernel_rfl) (by kernel_rfl) (fun _ _ _ h => h) (by rfl) ?_ (by assumption) ?_; rotate_left; (focus (intro w hSw; (try dsimp only at hSw); go_simp; try with_reducible rfl)); try simp only [Act.put, List.setIfInBounds_toArray, List.set_cons_zero, List.set_cons_succ]
  refine wpAnyH_ready (rs := [3]) (by kernel_rfl) (by simp) ?_
  refine AllReadyH.cons rfl (fun K hK => ?_) AllReadyH.nil
  try dsimp only at hHeld
  go_simp
  (go_at_call 37; refine (HENy.out _ (Below.refl _ _).drew).mono ?_; rintro e w10 ⟨rfl, hbk⟩)
  refine hK.out _ _ ?_ (fun hHeld2 => ?_)
  ·try dsimp only
   exact HALL.out _ (below_step1 (Below.refl _ _).drew hbk)
  clear hK K hHeld
  have hHeld := hHeld2
  clear hHeld2
  have HB10 := Lib.hid (below_step1 (Below.refl _ _).drew hbk)
  clear hbk
  have hv10 := HV9.out.kept HB10.out
  refine wpAnyH_ready (rs := [8]) (by kernel_rfl) (by simp) ?_
  refine AllReadyH.cons rfl (fun K hK => ?_) AllReadyH.nil
  try dsimp only at hHeld
  go_simp
  (go_at_call 52; refine (HRP.out _ w6 w6.heap.size za2 zc2 (hv10.sub _ (List.mem_of_getElem? HZ2.out))).mono ?_; rintro e w11 ⟨rfl, hOE, hgr⟩)
  refine hK.out _ _ ?_ (fun hHeld2 => ?_)
  ·try dsimp only
   exact ⟨cellq_grown hHeld.1 hgr (fun e => by have := HBq.out _ e; omega), cellq_grown hHeld.2.1 hgr (fun e => by have := HBq.out _ e; omega), cellq_grown hHeld.2.2.1 hgr (fun e => by have := HBq.out _ e; omega), cellq_grown hHeld.2.2.2.1 hgr (fun e => by have := HBq.out _ e; omega), cellq_grown hHeld.2.2.2.2 hgr (fun e => by have := HBq.out _ e; omega)⟩
  clear hK K hHeld
  have hHeld := hHeld2
  clear hHeld2
  have HV11 := Lib.hid (hv10.turn HZ2.out (Y2.ents.set q ⟨(Y2.ents.getD q zEnt).hash, (Y2.ents.getD q zEnt).index, sa, X.id⟩) (by rw [List.length_set]) hOE hgr)
  have HB11 := Lib.hid ((HB9.out.below HB10.out).grown hgr (fun q hq => by have := (HBq.out q hq).1; omega))
  have HY11 := Lib.hid ((HY9.out.below HB10.out).grown hgr (fun e => by have := (HBq.out _ e).2; omega))
  clear hgr hOE hv10 HB10
  refine wpH_take (i := 9) (v := ?_) rfl (by kernel_rfl) (by kernel_rfl) (by kernel_rfl) (fun _ _ _ h => h) (by rfl) ?_ (by assumption) ?_; rotate_left; (focus (intro w hSw; (try dsimp only at hSw); go_simp; try with_reducible rfl)); try simp only [Act.put, List.setIfInBounds_toArray, List.set_cons_zero, List.set_cons_succ]
  refine wpH_take (i := 10) (v := ?_) rfl (by kernel_rfl) (by kernel_rfl) (by kernel_rfl) (fun _ _ _ h => h) (by rfl) ?_ (by assumption) ?_; rotate_left; (focus (intro w hSw; (try dsimp only at hSw); go_simp; try with_reducible rfl)); try simp only [Act.put, List.setIfInBounds_toArray, List.set_cons_zero, List.set_cons_succ]
  refine wpH_take (i := 11) (v := ?_) rfl (by kernel_rfl) (by kernel_rfl) (by kernel_rfl) (fun _ _ _ h => h) (by rfl) ?_ (by assumption) ?_; rotate_left; (focus (intro w hSw; (try dsimp only at hSw); go_simp; try with_reducible rfl)); try simp only [Act.put, List.setIfInBounds_toArray, List.set_cons_zero, List.set_cons_succ]
  refine wpH_take (i := 12) (v := ?_) rfl (by kernel_rfl) (by kernel_rfl) (by kernel_rfl) (fun _ _ _ h => h) (by rfl) ?_ (by assumption) ?_; rotate_left; (focus (intro w hSw; (try dsimp only at hSw); go_simp; try with_reducible rfl)); try simp only [Act.put, List.setIfInBounds_toArray, List.set_cons_zero, List.set_cons_succ]
  refine wpH_take (i := 13) (v := ?_) rfl (by kernel_rfl) (by kernel_rfl) (by kernel_rfl) (fun _ _ _ h => h) (by rfl) ?_ (by assumption) ?_; rotate_left; (focus (intro w hSw; (try dsimp only at hSw); go_simp; try with_reducible rfl)); try simp only [Act.put, List.setIfInBounds_toArray, List.set_cons_zero, List.set_cons_succ]
  refine wpAnyH_done (by kernel_rfl) ?_ _
  try dsimp only at hHeld
  clear hHeld HALL HENy
  have HG11 : Hid ((m'.set k2 ⟨{ Y2 with ents := Y2.ents.set q ⟨(Y2.ents.getD q zEnt).hash, (Y2.ents.getD q zEnt).index, sa, X.id⟩ }, za2, zc2⟩)[k2]? = some ⟨{ Y2 with ents := Y2.ents.set q ⟨(Y2.ents.getD q zEnt).hash, (Y2.ents.getD q zEnt).index, sa, X.id⟩ }, za2, zc2⟩) := Lib.hid (get_set_eq HZ2.out)
  have HT11 : Hid (atF (xs (m'.set k2 ⟨{ Y2 with ents := Y2.ents.set q ⟨(Y2.ents.getD q zEnt).hash, (Y2.ents.getD q zEnt).index, sa, X.id⟩ }, za2, zc2⟩)) tt = (k2 : Int)) := Lib.hid ((at_set HZ2.out (z := ⟨{ Y2 with ents := Y2.ents.set q ⟨(Y2.ents.getD q zEnt).hash, (Y2.ents.getD q zEnt).index, sa, X.id⟩ }, za2, zc2⟩) rfl _).trans (by rw [HAT'.out]; exact HY2.out.2))
  have HL11 : Hid ((m'.set k2 ⟨{ Y2 with ents := Y2.ents.set q ⟨(Y2.ents.getD q zEnt).hash, (Y2.ents.getD q zEnt).index, sa, X.id⟩ }, za2, zc2⟩).length = m.length) := Lib.hid (by rw [List.length_set]; exact HML.out)
  have HN11 : Hid (∀ q', VolBl (some ⟨g, 0, none⟩) c' (m'.set k2 ⟨{ Y2 with ents := Y2.ents.set q ⟨(Y2.ents.getD q zEnt).hash, (Y2.ents.getD q zEnt).index, sa, X.id⟩ }, za2, zc2⟩) q' → q' ≠ w7.heap.size) := Lib.hid (fun q' hq' => by
   rcases volBl_set hq' with hq' | hq'
   ·exact HN8.out q' hq'
   ·unfold InoP.blk at hq'; dsimp only at hq'; rw [List.length_set] at hq'; exact (HBq.out q' hq').2)
  have HES : Hid (Own 63 4 w6.heap.size w6 (.slice za2 (Y2.ents.set q ⟨(Y2.ents.getD q zEnt).hash, (Y2.ents.getD q zEnt).index, sa, X.id⟩).length zc2) (Y2.ents.set q ⟨(Y2.ents.getD q zEnt).hash, (Y2.ents.getD q zEnt).index, sa, X.id⟩).length (ens (Y2.ents.set q ⟨(Y2.ents.getD q zEnt).hash, (Y2.ents.getD q zEnt).index, sa, X.id⟩)) w11) := Lib.hid (HV11.out.sub _ (List.mem_of_getElem? HG11.out))
  have HAP11 := Lib.hid (apart1_same HV11.out k2 HG11.out)
  have HNE : Hid (∀ q', (InoP.blk ⟨{ Y2 with ents := Y2.ents.set q ⟨(Y2.ents.getD q zEnt).hash, (Y2.ents.getD q zEnt).index, sa, X.id⟩ }, za2, zc2⟩) = some q' → q' ≠ w7.heap.size) := Lib.hid (fun q' hq' => HN11.out q' (.inr ⟨_, List.mem_of_getElem? HG11.out, hq'⟩))
  obtain ⟨⟨v0, v1⟩, fv0, fv1⟩ := HB11.out.v.two
  obtain ⟨c0, c1, c2, c3, c4, c5⟩ := HB11.out.c.six
  obtain ⟨⟨x0, x1, x2, x3, x4⟩, fx0, fx1, fx2, fx3, fx4⟩ := HB11.out.x.five
  obtain ⟨⟨r0, r1⟩, fr0, fr1⟩ := HB11.out.r.two
  obtain ⟨⟨s0, s1, s2, s3⟩, fs0, fs1, fs2, fs3⟩ := HB11.out.s.four
  obtain ⟨⟨y0, y1⟩, fy0, fy1⟩ := HY11.out.two
  go_wp2_with fail
  have hcon := l6With_any w6.heap.size w6 next g c' (m'.set k2 ⟨{ Y2 with ents := Y2.ents.set q ⟨(Y2.ents.getD q zEnt).hash, (Y2.ents.getD q zEnt).index, sa, X.id⟩ }, za2, zc2⟩) tt k2 ⟨{ Y2 with ents := Y2.ents.set q ⟨(Y2.ents.getD q zEnt).hash, (Y2.ents.getD q zEnt).index, sa, X.id⟩ }, za2, zc2⟩ za2 zc2 (Y2.ents.set q ⟨(Y2.ents.getD q zEnt).hash, (Y2.ents.getD q zEnt).index, sa, X.id⟩) _ HV11.out HG11.out HT11.out HES.out HAP11.out
  rw [HL11.out, List.length_set] at hcon
  refine hcon.mono ?_
  clear hcon
  rintro e wv20 ⟨rfl, hvw, hgr⟩
  have HBw := Lib.hid (HB11.out.grown hgr (fun q hq => by cases hq; omega))
  have HYw := Lib.hid (HY11.out.grown hgr (by simp; omega))
  have HN20 : Hid (∀ qq, VolBl (some ⟨g, 0, none⟩) c' ((m'.set k2 ⟨{ Y2 with ents := Y2.ents.set q ⟨(Y2.ents.getD q zEnt).hash, (Y2.ents.getD q zEnt).index, sa, X.id⟩ }, za2, zc2⟩).set k2 ⟨{ { Y2 with ents := Y2.ents.set q ⟨(Y2.ents.getD q zEnt).hash, (Y2.ents.getD q zEnt).index, sa, X.id⟩ } with ents := Y2.ents.set q ⟨(Y2.ents.getD q zEnt).hash, (Y2.ents.getD q zEnt).index, sa, X.id⟩ }, za2, zc2⟩) qq → qq ≠ w7.heap.size) := Lib.hid (fun qq hqq => by
   rcases volBl_set hqq with hqq | hqq
   ·exact HN11.out qq hqq
   ·exact HNE.out qq hqq)
  have HB20 := Lib.hid ((HBw.out.far (w7.heap.size) 0 (.int .i64 next) (by omega)).far (w7.heap.size) 1 (.slice (some ⟨g, 0, none⟩) m.length c') (by omega))
  have HY20 := Lib.hid ((HYw.out.set 0 (.int .i64 next)).set 1 (.slice (some ⟨g, 0, none⟩) m.length c'))
  have HV20 := Lib.hid (hvw.res2 (w7.heap.size) (by omega) HN20.out (.int .i64 next) (.slice (some ⟨g, 0, none⟩) m.length c'))
  have HL20 : Hid (((m'.set k2 ⟨{ Y2 with ents := Y2.ents.set q ⟨(Y2.ents.getD q zEnt).hash, (Y2.ents.getD q zEnt).index, sa, X.id⟩ }, za2, zc2⟩).set k2 ⟨{ { Y2 with ents := Y2.ents.set q ⟨(Y2.ents.getD q zEnt).hash, (Y2.ents.getD q zEnt).index, sa, X.id⟩ } with ents := Y2.ents.set q ⟨(Y2.ents.getD q zEnt).hash, (Y2.ents.getD q zEnt).index, sa, X.id⟩ }, za2, zc2⟩).length = m.length) := Lib.hid (by rw [List.length_set]; exact HL11.out)
  clear v0 v1 fv0 fv1 c0 c1 c2 c3 c4 c5 x0 x1 x2 x3 x4 fx0 fx1 fx2 fx3 fx4 r0 r1 fr0 fr1 s0 s1 s2 s3 fs0 fs1 fs2 fs3 y0 y1 fy0 fy1
  obtain ⟨⟨v0, v1⟩, fv0, fv1⟩ := HBw.out.v.two
  obtain ⟨c0, c1, c2, c3, c4, c5⟩ := HBw.out.c.six
  obtain ⟨⟨x0, x1, x2, x3, x4⟩, fx0, fx1, fx2, fx3, fx4⟩ := HBw.out.x.five
  obtain ⟨⟨r0, r1⟩, fr0, fr1⟩ := HBw.out.r.two
  obtain ⟨⟨s0, s1, s2, s3⟩, fs0, fs1, fs2, fs3⟩ := HBw.out.s.four
  obtain ⟨⟨y0, y1⟩, fy0, fy1⟩ := HYw.out.two
  clear hvw hgr HBw HYw HNE
  go_upto_region 11 with fail
  clear v0 v1 fv0 fv1 c0 c1 c2 c3 c4 c5 x0 x1 x2 x3 x4 fx0 fx1 fx2 fx3 fx4 r0 r1 fr0 fr1 s0 s1 s2 s3 fs0 fs1 fs2 fs3 y0 y1 fy0 fy1
  generalize ((wv20.setCell ⟨w7.heap.size, 0, none⟩ (.int .i64 next)).setCell ⟨w7.heap.size, 1, none⟩ (.slice (some ⟨g, 0, none⟩) m.length c')) = wW20 at *
  obtain ⟨⟨v0, v1⟩, fv0, fv1⟩ := HB20.out.v.two
  obtain ⟨c0, c1, c2, c3, c4, c5⟩ := HB20.out.c.six
  obtain ⟨⟨x0, x1, x2, x3, x4⟩, fx0, fx1, fx2, fx3, fx4⟩ := HB20.out.x.five
  obtain ⟨⟨r0, r1⟩, fr0, fr1⟩ := HB20.out.r.two
  obtain ⟨⟨s0, s1, s2, s3⟩, fs0, fs1, fs2, fs3⟩ := HB20.out.s.four
  obtain ⟨⟨y0, y1⟩, fy0, fy1⟩ := HY20.out.two
  have hfin := Br.new hz6b HB20.out hBw HV20.out ((by have := p_resp HINV'.out HZ2.out q hq ⟨(Y2.ents.getD q zEnt).hash, (Y2.ents.getD q zEnt).index, sa, X.id⟩ (by show sa.size ≤ 1073741824; omega) hx1 (mem_ids HX'.out) za2 zc2; rw [List.set_set]; exact this.congr (fun i _ _ => by show (0 : Int) = 0 + d1 Y2.ents[q].id i - d1 X.id i; rw [HQID.out]; omega))) 0 0 ⟨#[]⟩ ⟨#[]⟩ (Q := VolBl (some ⟨bv, ov, none⟩) cap m)
  rw [HL20.out] at hfin
  have HFIN := Lib.hid hfin
  clear hfin
  go_wp2
  exact ret_l6Ren (HB20.out.out _ _ _ _ _ _).1 (by rfl) (by rfl) (by rfl) HFIN.out
end Go.Proofs.Ytlkfabkkjfmnmaa
