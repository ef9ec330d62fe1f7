import Derived.Test.YtlkfabkkjfmnmaaKat
import Derived.Deep.CutRange
namespace Go.Proofs.Ytlkfabkkjfmnmaa
open Go.RowKit
set_option linter.all false
set_option maxRecDepth 1000000 in
set_option maxHeartbeats 6000000 in
theorem l6On5_any (B : Nat) (next : Int) (a : Option Addr) (cap : Nat) (m : List InoP) (dir : Int) (nm : ByteArray) (tt : Int) (sa dt : ByteArray) (k : Nat) (Y : InoL) (ya : Option Addr) (yc : Nat) (w : World) (h : VolOwn B w a cap m w) (hi : Inv d0 next (xs m)) (hy : m[k]? = some ⟨Y, ya, yc⟩) (hat : atF (xs m) dir = (k : Int)) (hkd : Y.kind = 2) (hnb : nameB nm = true) (k2 : Nat) (Y2 : InoL) (ya2 : Option Addr) (yc2 : Nat) (hy2 : m[k2]? = some ⟨Y2, ya2, yc2⟩) (hat2 : atF (xs m) tt = (k2 : Int)) (hkd2 : Y2.kind = 2) (hnb2 : nameB sa = true) :
  Calls Try.prog 29 #[.agg #[.int .i64 next, .slice a m.length cap], .agg #[.int .i64 5, .int .i64 dir, .string nm, .int .i64 tt, .string sa, .string dt]] w (VolAns B (VolBl a cap m) w) := by
 have hsm := inv_small hi
 have hBw := h.top.base
 have hm := volP_room h.p
 have hns : nm.size ≤ 24 := nameB_size nm hnb
 have hmem := List.mem_of_getElem? hy
 have hye := hsm.2 _ hmem
 try dsimp only at hye
 have hkl : k < m.length := (List.getElem?_eq_some_iff.1 hy).1
 obtain ⟨bv, ov, rfl, hbvw, -, -, -, -, -, -⟩ := volP_cells h.p hy
 have HP := Lib.hid h.p
 have HOW := Lib.hid h
 have HI := Lib.hid hi
 have HY0 := Lib.hid (And.intro hy hat)
 have HBX := Lib.hid (bx_new w next (some ⟨bv, ov, none⟩) m.length cap 5 dir nm tt sa dt)
 have HSAME : Hid (∀ W, Bx w next (some ⟨bv, ov, none⟩) m.length cap 5 dir nm tt sa dt W → ∀ (v0 v1 : Int) (v2 v3 : ByteArray), VolAns B (VolBl (some ⟨bv, ov, none⟩) cap m) w (.returned (.tuple #[.agg #[.int .i64 next, .slice (some ⟨bv, ov, none⟩) m.length cap], .agg #[.int .i64 v0, .int .i64 v1, .string v2, .string v3]])) _) := Lib.hid (fun W hb v0 v1 v2 v3 => hb.same h hi v0 v1 v2 v3)
 have HEN : Hid (∀ W, Below w.heap.size w W → Calls Try.prog 37 #[.agg #[.int .i64 next, .slice (some ⟨bv, ov, none⟩) m.length cap], .int .i64 dir] W fun e w' => e = .returned (.slice ya Y.ents.length yc) ∧ Below W.heap.size W w') := Lib.hid (fun W hW => l6Ents_any next (some ⟨bv, ov, none⟩) m.length cap m dir k ⟨Y, ya, yc⟩ W (HP.out.step hW) hy hat)
 have HYR : Hid (∀ W, Below w.heap.size w W → Rd W ya Y.ents.length yc 4 (ens Y.ents)) := Lib.hid (fun W hW => ((HP.out.step hW).2 _ hmem))
 have HSZ : Hid (∀ e ∈ Y.ents, e.name.size ≤ 1073741824) := Lib.hid hye.2
 have h12 : Y.ents.length ≤ 12 := hye.1
 have h16 := hsm.1
 have HCP : Hid (∀ W, Below w.heap.size w W → Calls Try.prog 20 #[.agg #[.int .i64 next, .slice (some ⟨bv, ov, none⟩) m.length cap]] W (CopyPost next m W)) := Lib.hid (fun W hW => l6Copy_any next (some ⟨bv, ov, none⟩) cap m W (HP.out.step hW) (by omega) (fun z hz => by have := (hsm.2 z hz).1; omega))
 have hns2 : sa.size ≤ 24 := nameB_size sa hnb2
 have hmem2 := List.mem_of_getElem? hy2
 have hye2 := hsm.2 _ hmem2
 try dsimp only at hye2
 have HY2 := Lib.hid (And.intro hy2 hat2)
 have HNB2 := Lib.hid hnb2
 have HKD2 := Lib.hid hkd2
 have HEN2 : Hid (∀ W, Below w.heap.size w W → Calls Try.prog 37 #[.agg #[.int .i64 next, .slice (some ⟨bv, ov, none⟩) m.length cap], .int .i64 tt] W fun e w' => e = .returned (.slice ya2 Y2.ents.length yc2) ∧ Below W.heap.size W w') := Lib.hid (fun W hW => l6Ents_any next (some ⟨bv, ov, none⟩) m.length cap m tt k2 ⟨Y2, ya2, yc2⟩ W (HP.out.step hW) hy2 hat2)
 have HYR2 : Hid (∀ W, Below w.heap.size w W → Rd W ya2 Y2.ents.length yc2 4 (ens Y2.ents)) := Lib.hid (fun W hW => ((HP.out.step hW).2 _ hmem2))
 have HSZ2 : Hid (∀ e ∈ Y2.ents, e.name.size ≤ 1073741824) := Lib.hid hye2.2
 have h122 : Y2.ents.length ≤ 12 := hye2.1
 clear hy2 hat2 hkd2 hnb2 hye2 hmem2
 clear h hi hy hat hnb hye hsm hmem hkd
 go_enter Try.func29, Try.ntmps29
 go_wp2
 generalize (((w.alloc (.cells #[.int .i64 next, .slice (some ⟨bv, ov, none⟩) m.length cap] 37)).alloc (.cells #[.int .i64 5, .int .i64 dir, .string nm, .int .i64 tt, .string sa, .string dt] 56)).alloc (.cells #[.int .i64 0, .slice none 0 0] 37)).alloc (.cells #[.int .i64 0, .int .i64 0, .string ⟨#[]⟩, .string ⟨#[]⟩] 52) = w1 at *
 have HALL : Hid (∀ W, Below w1.heap.size w1 W → (W.cell? ⟨w.heap.size, 0, none⟩ = some (.int .i64 next) ∧ W.cell? ⟨w.heap.size, 1, none⟩ = some (.slice (some ⟨bv, ov, none⟩) m.length cap) ∧ W.cell? ⟨w.heap.size + 1, 1, none⟩ = some (.int .i64 dir) ∧ W.cell? ⟨w.heap.size + 1, 2, none⟩ = some (.string nm) ∧ Below w1.heap.size w1 W)) := Lib.hid (fun W hW => ⟨(HBX.out.below hW).v.two.1.1, (HBX.out.below hW).v.two.1.2, (HBX.out.below hW).c.six.2.1, (HBX.out.below hW).c.six.2.2.1, hW⟩)
 have hB0 := Below.refl w1.heap.size w1
 refine wp_region_held_drew (S := (fun W => W.cell? ⟨w.heap.size, 0, none⟩ = some (.int .i64 next) ∧ W.cell? ⟨w.heap.size, 1, none⟩ = some (.slice (some ⟨bv, ov, none⟩) m.length cap) ∧ W.cell? ⟨w.heap.size + 1, 1, none⟩ = some (.int .i64 dir) ∧ W.cell? ⟨w.heap.size + 1, 2, none⟩ = some (.string nm) ∧ Below w1.heap.size w1 W)) (by kernel_rfl) ?_ (fun hHeld => ?_)
 ·try dsimp only
  (go_split_ands; first | exact HALL.out _ (by assumption) | exact HALL.out _ (Below.drew (by assumption)) | exact HALL.out _ (below_step1 (by assumption) (by assumption)))
 change wpAnyH _ _ _ _ _ 8 #[false, false, false, false, false, false, false, false] _ _
 clear hB0
 refine wpH_take (i := 0) (v := ?_) rfl (by kernel_rfl) (by kernel_rfl) (by kernel_rfl) (fun _ _ _ h => h) (by rfl) ?_ (by assumption) ?_; rotate_left; (focus (intro w hSw; (try dsimp only at hSw); go_simp; try with_reducible rfl)); try simp only [Act.put, List.setIfInBounds_toArray, List.set_cons_zero, List.set_cons_succ]
 refine wpH_take (i := 1) (v := ?_) rfl (by kernel_rfl) (by kernel_rfl) (by kernel_rfl) (fun _ _ _ h => h) (by rfl) ?_ (by assumption) ?_; rotate_left; (focus (intro w hSw; (try dsimp only at hSw); go_simp; try with_reducible rfl)); try simp only [Act.put, List.setIfInBounds_toArray, List.set_cons_zero, List.set_cons_succ]
 refine wpH_take (i := 2) (v := ?_) rfl (by kernel_rfl) (by kernel_rfl) (by kernel_rfl) (fun _ _ _ h => h) (by rfl) ?_ (by assumption) ?_; rotate_left; (focus (intro w hSw; (try dsimp only at hSw); go_simp; try with_reducible rfl)); try simp only [Act.put, List.setIfInBounds_toArray, List.set_cons_zero, List.set_cons_succ]
 refine wpH_take (i := 4) (v := ?_) rfl (by kernel_rfl) (by kernel_rfl) (by kernel_rfl) (fun _ _ _ h => h) (by rfl) ?_ (by assumption) ?_; rotate_left; (focus (intro w hSw; (try dsimp only at hSw); go_simp; try with_reducible rfl)); try simp only [Act.put, List.setIfInBounds_toArray, List.set_cons_zero, List.set_cons_succ]
 refine wpH_take (i := 5) (v := ?_) rfl (by kernel_rfl) (by kernel_rfl) (by kernel_rfl) (fun _ _ _ h => h) (by rfl) ?_ (by assumption) ?_; rotate_left; (focus (intro w hSw; (try dsimp only at hSw); go_simp; try with_reducible rfl)); try simp only [Act.put, List.setIfInBounds_toArray, List.set_cons_zero, List.set_cons_succ]
 refine wpAnyH_ready (rs := [3]) (by kernel_rfl) (by simp) ?_
 refine AllReadyH.cons rfl (fun K hK => ?_) AllReadyH.nil
 try dsimp only at hHeld
 go_simp
 (go_at_call 37; refine (HEN.out _ (below_step1 HBX.out.b hHeld.2.2.2.2)).mono ?_; rintro e w7 ⟨rfl, hbk⟩)
 refine hK.out _ _ ?_ (fun hHeld2 => ?_)
 ·try dsimp only
  (go_split_ands; first | exact HALL.out _ (by assumption) | exact HALL.out _ (Below.drew (by assumption)) | exact HALL.out _ (below_step1 (by assumption) (by assumption)))
 clear hK K hHeld
 have hHeld := hHeld2
 clear hHeld2
 clear hbk
 refine wpAnyH_ready (rs := [6]) (by kernel_rfl) (by simp) ?_
 refine AllReadyH.cons rfl (fun K hK => ?_) AllReadyH.nil
 try dsimp only at hHeld
 go_simp
 (go_at_call 36; refine (l5At_any ya _ yc Y.ents nm _ (HYR.out _ (below_step1 HBX.out.b hHeld.2.2.2.2)) HSZ.out (by omega)).mono ?_; rintro e w2 ⟨r, rfl, hE, hbk⟩)
 refine hK.out _ _ ?_ (fun hHeld2 => ?_)
 ·try dsimp only
  (go_split_ands; first | exact HALL.out _ (by assumption) | exact HALL.out _ (Below.drew (by assumption)) | exact HALL.out _ (below_step1 (by assumption) (by assumption)))
 clear hK K hHeld
 have hHeld := hHeld2
 clear hHeld2
 clear hbk
 refine wpH_take (i := 7) (v := ?_) rfl (by kernel_rfl) (by kernel_rfl) (by kernel_rfl) (fun _ _ _ h => h) (by rfl) ?_ (by assumption) ?_; rotate_left; (focus (intro w hSw; (try dsimp only at hSw); go_simp; try with_reducible rfl)); try simp only [Act.put, List.setIfInBounds_toArray, List.set_cons_zero, List.set_cons_succ]
 refine wpAnyH_done (by kernel_rfl) ?_ _
 try dsimp only at hHeld
 have HBX2 := Lib.hid (HBX.out.below hHeld.2.2.2.2)
 clear hHeld HALL HBX
 obtain ⟨⟨v0, v1⟩, fv0, fv1⟩ := HBX2.out.v.two
 obtain ⟨c0, c1, c2, c3, c4, c5⟩ := HBX2.out.c.six
 obtain ⟨⟨r0, r1⟩, fr0, fr1⟩ := HBX2.out.r.two
 obtain ⟨⟨s0, s1, s2, s3⟩, fs0, fs1, fs2, fs3⟩ := HBX2.out.s.four
 have hz2 := HBX2.out.size
 rcases hE with ⟨rfl, -⟩ | ⟨j, hj, rfl, hj1, hj2⟩
 ·have hneg : (-1 : Int) < 0 := by omega
  go_wp2
  exact ret_l6On (HBX2.out.out _ _ _ _ _ _).1 (by rfl) (by rfl) (by rfl) (HSAME.out _ HBX2.out _ _ _ _)
 have hjp : (0 : Int) ≤ (j : Int) := by omega
 have hjn : ¬ (j : Int) < 0 := by omega
 have hjl : (j : Int) < (Y.ents.length : Int) := by omega
 have HDP : Hid (∀ a c W, Rd W a Y.ents.length c 4 (ens Y.ents) → Calls Try.prog 40 #[.slice a Y.ents.length c, .string nm] W (DropX Y.ents j W)) := Lib.hid (fun a c W hr => l5DropX_any a c Y.ents nm j hj W hr HSZ.out (by omega) (by omega) hj1 hj2)
 clear hj1 hj2
 obtain ⟨kx, ⟨X, xa, xc⟩, hyx, hatx, hidx, hx1, hxlo, hxhi⟩ := on_there HI.out HY0.out.1 (List.getElem_mem hj)
 try dsimp only at hatx hidx hx1 hxlo hxhi
 have HX0 := Lib.hid (And.intro hyx hatx)
 have HIDX := Lib.hid hidx
 have hkxl : kx < m.length := (List.getElem?_eq_some_iff.1 hyx).1
 have HATX : Hid (∀ W, Below w.heap.size w W → Calls Try.prog 25 #[.agg #[.int .i64 next, .slice (some ⟨bv, ov, none⟩) m.length cap], .int .i64 X.id] W fun e w' => e = .returned (.int .i64 (kx : Int)) ∧ Below W.heap.size W w') := Lib.hid (fun W hW => by rw [← hatx]; exact l6At_any next (some ⟨bv, ov, none⟩) m.length cap (xs m) X.id W (HP.out.step hW).rd)
 have hxg := inv_kind HI.out hyx
 have hxlk := inv_links HI.out hyx hx1
 try dsimp only at hxg hxlk
 have HXG := Lib.hid hxg
 have hXn : X.ents.length ≤ 12 := hxg.len
 clear hyx hatx hxg
 go_wp2_with fail
 refine (HEN.out _ HBX2.out.b).mono ?_
 rintro e w3 ⟨rfl, hb⟩
 have HBX3 := Lib.hid (HBX2.out.below hb)
 clear v0 v1 fv0 fv1 c0 c1 c2 c3 c4 c5 r0 r1 fr0 fr1 s0 s1 s2 s3 fs0 fs1 fs2 fs3
 clear hb HBX2
 obtain ⟨⟨v0, v1⟩, fv0, fv1⟩ := HBX3.out.v.two
 obtain ⟨c0, c1, c2, c3, c4, c5⟩ := HBX3.out.c.six
 obtain ⟨⟨r0, r1⟩, fr0, fr1⟩ := HBX3.out.r.two
 obtain ⟨⟨s0, s1, s2, s3⟩, fs0, fs1, fs2, fs3⟩ := HBX3.out.s.four
 have hz3 := HBX3.out.size
 obtain ⟨be, oe, rfl, hbe, e0, e1, e2, e3⟩ := ens_cells (HYR.out _ HBX3.out.b) j hj
 rw [← hidx] at e3
 clear hidx
 generalize Y.ents[j].hash = eh at *
 generalize Y.ents[j].index = ei at *
 generalize Y.ents[j].name = en at *
 have HE4 := Lib.hid (cs_new w3 63 #[.int .i64 eh, .int .i64 ei, .string en, .int .i64 X.id])
 have HBX4 := Lib.hid (HBX3.out.below (boxA w3 (.cells #[.int .i64 eh, .int .i64 ei, .string en, .int .i64 X.id] 63)))
 have hz4 : w3.heap.size < (w3.alloc (.cells #[.int .i64 eh, .int .i64 ei, .string en, .int .i64 X.id] 63)).heap.size := by simp
 go_upto_region 5 with fail
 clear v0 v1 fv0 fv1 c0 c1 c2 c3 c4 c5 r0 r1 fr0 fr1 s0 s1 s2 s3 fs0 fs1 fs2 fs3
 clear e0 e1 e2 e3 HBX3
 generalize w3.alloc (.cells #[.int .i64 eh, .int .i64 ei, .string en, .int .i64 X.id] 63) = w4 at *
 obtain ⟨b2, o2, e', -, d0', d1', d2', d3', d4', -⟩ := volP_cells (HP.out.step HBX4.out.b) HX0.out.1
 cases e'
 try dsimp only at d0' d1' d2' d3' d4'
 have HALL : Hid (∀ W, Below w4.heap.size w4 W → (W.cell? ⟨w.heap.size, 0, none⟩ = some (.int .i64 next) ∧ W.cell? ⟨w.heap.size, 1, none⟩ = some (.slice (some ⟨bv, ov, none⟩) m.length cap) ∧ W.cell? ⟨w3.heap.size, 3, none⟩ = some (.int .i64 X.id) ∧ W.cell? ⟨bv, ov + kx * 5, none⟩ = some (.int .i64 X.id) ∧ W.cell? ⟨bv, ov + kx * 5 + 1, none⟩ = some (.int .i64 X.kind) ∧ W.cell? ⟨bv, ov + kx * 5 + 2, none⟩ = some (.int .i64 X.links) ∧ W.cell? ⟨bv, ov + kx * 5 + 3, none⟩ = some (.string X.data) ∧ W.cell? ⟨bv, ov + kx * 5 + 4, none⟩ = some (.slice xa X.ents.length xc) ∧ Below w4.heap.size w4 W)) := Lib.hid (fun W hW => ⟨(HBX4.out.below hW).v.two.1.1, (HBX4.out.below hW).v.two.1.2, (HE4.out.below hW).four.1.2.2.2, cellK d0' hW, cellK d1' hW, cellK d2' hW, cellK d3' hW, cellK d4' hW, hW⟩)
 clear d0' d1' d2' d3' d4'
 have hxi : (kx : Int) < (m.length : Int) := by omega
 have hxi0 : (0 : Int) ≤ (kx : Int) := by omega
 go_cut [8] from 33 to 40 (fun p wx => ∃ xb : Nat, p = .pointer (some ⟨xb, 0, none⟩) ∧ w4.heap.size ≤ xb ∧ Hid (Cs wx xb [.int .i64 X.id, .int .i64 X.kind, .int .i64 X.links, .string X.data, .slice xa X.ents.length xc]) ∧ Hid (Below w4.heap.size w4 wx))
 case first =>
  refine wp_region_held_drew (S := (fun W => W.cell? ⟨w.heap.size, 0, none⟩ = some (.int .i64 next) ∧ W.cell? ⟨w.heap.size, 1, none⟩ = some (.slice (some ⟨bv, ov, none⟩) m.length cap) ∧ W.cell? ⟨w3.heap.size, 3, none⟩ = some (.int .i64 X.id) ∧ W.cell? ⟨bv, ov + kx * 5, none⟩ = some (.int .i64 X.id) ∧ W.cell? ⟨bv, ov + kx * 5 + 1, none⟩ = some (.int .i64 X.kind) ∧ W.cell? ⟨bv, ov + kx * 5 + 2, none⟩ = some (.int .i64 X.links) ∧ W.cell? ⟨bv, ov + kx * 5 + 3, none⟩ = some (.string X.data) ∧ W.cell? ⟨bv, ov + kx * 5 + 4, none⟩ = some (.slice xa X.ents.length xc) ∧ Below w4.heap.size w4 W)) (by kernel_rfl) ?_ (fun hHeld => ?_)
  ·try dsimp only
   exact HALL.out _ (Below.refl _ _).drew
  change wpAnyH _ _ _ _ _ 10 #[false, false, false, false, false, false, false, false, false, false] _ _
  refine wpH_take (i := 0) (v := ?_) rfl (by kernel_rfl) (by kernel_rfl) (by kernel_rfl) (fun _ _ _ h => h) (by rfl) ?_ (by assumption) ?_; rotate_left; (focus (intro w hSw; (try dsimp only at hSw); go_simp; try with_reducible rfl)); try simp only [Act.put, List.setIfInBounds_toArray, List.set_cons_zero, List.set_cons_succ]
  refine wpH_take (i := 1) (v := ?_) rfl (by kernel_rfl) (by kernel_rfl) (by kernel_rfl) (fun _ _ _ h => h) (by rfl) ?_ (by assumption) ?_; rotate_left; (focus (intro w hSw; (try dsimp only at hSw); go_simp; try with_reducible rfl)); try simp only [Act.put, List.setIfInBounds_toArray, List.set_cons_zero, List.set_cons_succ]
  refine wpH_take (i := 2) (v := ?_) rfl (by kernel_rfl) (by kernel_rfl) (by kernel_rfl) (fun _ _ _ h => h) (by rfl) ?_ (by assumption) ?_; rotate_left; (focus (intro w hSw; (try dsimp only at hSw); go_simp; try with_reducible rfl)); try simp only [Act.put, List.setIfInBounds_toArray, List.set_cons_zero, List.set_cons_succ]
  refine wpH_take (i := 3) (v := ?_) rfl (by kernel_rfl) (by kernel_rfl) (by kernel_rfl) (fun _ _ _ h => h) (by rfl) ?_ (by assumption) ?_; rotate_left; (focus (intro w hSw; (try dsimp only at hSw); go_simp; try with_reducible rfl)); try simp only [Act.put, List.setIfInBounds_toArray, List.set_cons_zero, List.set_cons_succ]
  refine wpH_take (i := 4) (v := ?_) rfl (by kernel_rfl) (by kernel_rfl) (by kernel_rfl) (fun _ _ _ h => h) (by rfl) ?_ (by assumption) ?_; rotate_left; (focus (intro w hSw; (try dsimp only at hSw); go_simp; try with_reducible rfl)); try simp only [Act.put, List.setIfInBounds_toArray, List.set_cons_zero, List.set_cons_succ]
  refine wpAnyH_ready (rs := [5, 8]) (by kernel_rfl) (by simp) ?_
  refine AllReadyH.cons rfl (fun K hK => ?_) (AllReadyH.cons rfl (fun K hK => ?_) AllReadyH.nil)
  ·try dsimp only at hHeld
   go_simp
   (go_at_call 25; refine (HATX.out _ (below_step1 HBX4.out.b (Below.refl _ _).drew)).mono ?_; rintro e w5 ⟨rfl, hbk⟩)
   have HB5 := Lib.hid (below_step1 (Below.refl _ _).drew hbk)
   clear hbk
   refine hK.out _ _ (by exact HALL.out _ HB5.out) (fun hHeld2 => ?_)
   clear hK K hHeld
   have hHeld := hHeld2
   clear hHeld2
   refine wpH_take (i := 6) (v := ?_) rfl (by kernel_rfl) (by kernel_rfl) (by kernel_rfl) (fun _ _ _ h => h) (by rfl) ?_ (by assumption) ?_; rotate_left; (focus (intro w hSw; (try dsimp only at hSw); go_simp; try with_reducible rfl)); try simp only [Act.put, List.setIfInBounds_toArray, List.set_cons_zero, List.set_cons_succ]
   refine wpH_take (i := 7) (v := ?_) rfl (by kernel_rfl) (by kernel_rfl) (by kernel_rfl) (fun _ _ _ h => h) (by rfl) ?_ (by assumption) ?_; rotate_left; (focus (intro w hSw; (try dsimp only at hSw); go_simp; try with_reducible rfl)); try simp only [Act.put, List.setIfInBounds_toArray, List.set_cons_zero, List.set_cons_succ]
   refine wpAnyH_ready (rs := [8]) (by kernel_rfl) (by simp) ?_
   refine AllReadyH.cons rfl (fun K hK => ?_) AllReadyH.nil
   try dsimp only at hHeld
   go_simp
   skip
   refine hK.out _ _ ?_ (fun hHeld2 => ?_)
   ·try dsimp only
    exact HALL.out _ (below_step1 HB5.out (boxA _ _))
   clear hK K hHeld
   have hHeld := hHeld2
   clear hHeld2
   have hz5 := HB5.out.size
   refine wpAnyH_ready (rs := [9]) (by kernel_rfl) (by simp) ?_
   refine AllReadyH.cons rfl (fun K hK => ?_) AllReadyH.nil
   try dsimp only at hHeld
   go_simp
   skip
   refine hK.out _ _ ?_ (fun hHeld2 => ?_)
   ·try dsimp only
    exact HALL.out _ (below_step1 HB5.out (boxA _ _))
   clear hK K hHeld
   have hHeld := hHeld2
   clear hHeld2
   refine wpAnyH_done (by kernel_rfl) ?_ _
   try dsimp only at hHeld
   clear hHeld HALL
   go_wp2_with fail
   go_meet
   exact ⟨w5.heap.size, rfl, hz5, Lib.hid (cs_new w5 49 #[.int .i64 X.id, .int .i64 X.kind, .int .i64 X.links, .string X.data, .slice xa X.ents.length xc]), Lib.hid (below_step1 HB5.out (boxA _ _))⟩
  ·try dsimp only at hHeld
   go_simp
   refine hK.out _ _ (by exact HALL.out _ (below_step1 (Below.refl _ _).drew (boxA _ _))) (fun hHeld2 => ?_)
   clear hK K hHeld
   have hHeld := hHeld2
   clear hHeld2
   have HZ : Hid (Cs (w4.drew.alloc (.cells #[.int .i64 0, .int .i64 0, .int .i64 0, .string ⟨#[]⟩, .slice none 0 0] 49)) w4.heap.size [.int .i64 0, .int .i64 0, .int .i64 0, .string ⟨#[]⟩, .slice none 0 0]) := Lib.hid (cs_new w4.drew 49 #[.int .i64 0, .int .i64 0, .int .i64 0, .string ⟨#[]⟩, .slice none 0 0])
   have HBZ := Lib.hid (below_step1 (Below.refl w4.heap.size w4).drew (boxA w4.drew (.cells #[.int .i64 0, .int .i64 0, .int .i64 0, .string ⟨#[]⟩, .slice none 0 0] 49)))
   refine wpAnyH_ready (rs := [5]) (by kernel_rfl) (by simp) ?_
   refine AllReadyH.cons rfl (fun K hK => ?_) AllReadyH.nil
   try dsimp only at hHeld
   go_simp
   (go_at_call 25; refine (HATX.out _ (below_step1 HBX4.out.b HBZ.out)).mono ?_; rintro e w5 ⟨rfl, hbk⟩)
   refine hK.out _ _ ?_ (fun hHeld2 => ?_)
   ·try dsimp only
    exact HALL.out _ (below_step1 HBZ.out hbk)
   clear hK K hHeld
   have hHeld := hHeld2
   clear hHeld2
   have HB5 := Lib.hid (below_step1 HBZ.out hbk)
   have HZ5 := Lib.hid (HZ.out.below hbk)
   have hz5 : w4.heap.size < w5.heap.size := HZ5.out.lt
   clear hbk HZ HBZ
   refine wpH_take (i := 6) (v := ?_) rfl (by kernel_rfl) (by kernel_rfl) (by kernel_rfl) (fun _ _ _ h => h) (by rfl) ?_ (by assumption) ?_; rotate_left; (focus (intro w hSw; (try dsimp only at hSw); go_simp; try with_reducible rfl)); try simp only [Act.put, List.setIfInBounds_toArray, List.set_cons_zero, List.set_cons_succ]
   refine wpH_take (i := 7) (v := ?_) rfl (by kernel_rfl) (by kernel_rfl) (by kernel_rfl) (fun _ _ _ h => h) (by rfl) ?_ (by assumption) ?_; rotate_left; (focus (intro w hSw; (try dsimp only at hSw); go_simp; try with_reducible rfl)); try simp only [Act.put, List.setIfInBounds_toArray, List.set_cons_zero, List.set_cons_succ]
   obtain ⟨⟨z0, z1, z2, z3, z4⟩, fz0, fz1, fz2, fz3, fz4⟩ := HZ5.out.five
   refine wpAnyH_ready (rs := [9]) (by kernel_rfl) (by simp) ?_
   refine AllReadyH.cons rfl (fun K hK => ?_) AllReadyH.nil
   try dsimp only at hHeld
   go_simp
   skip
   refine hK.out _ _ ?_ (fun hHeld2 => ?_)
   ·try dsimp only
    exact HALL.out _ (HB5.out.trans (below_set5 w5 w4.heap.size _ _ _ _ _))
   clear hK K hHeld
   have hHeld := hHeld2
   clear hHeld2
   refine wpAnyH_done (by kernel_rfl) ?_ _
   try dsimp only at hHeld
   clear hHeld HALL
   go_wp2_with fail
   go_meet
   exact ⟨w4.heap.size, rfl, Nat.le_refl _, Lib.hid (cells_zero5 HZ5.out _ _ _ _ _), Lib.hid (HB5.out.trans (below_set5 w5 w4.heap.size _ _ _ _ _))⟩
 case rest =>
 obtain ⟨xb, rfl, hxb, HX6, HB6⟩ := hcut
 clear HALL
 obtain ⟨w6, hw6⟩ : ∃ x : World, x = wc := ⟨_, rfl⟩
 subst hw6
 have HBX6 := Lib.hid (HBX4.out.below HB6.out)
 have HE6 := Lib.hid (HE4.out.below HB6.out)
 have hz6 : xb < w6.heap.size := HX6.out.lt
 clear HE4 HBX4 HB6
 obtain ⟨⟨v0, v1⟩, fv0, fv1⟩ := HBX6.out.v.two
 obtain ⟨c0, c1, c2, c3, c4, c5⟩ := HBX6.out.c.six
 obtain ⟨⟨r0, r1⟩, fr0, fr1⟩ := HBX6.out.r.two
 obtain ⟨⟨s0, s1, s2, s3⟩, fs0, fs1, fs2, fs3⟩ := HBX6.out.s.four
 obtain ⟨⟨x0, x1, x2, x3, x4⟩, fx0, fx1, fx2, fx3, fx4⟩ := HX6.out.five
 have hz6b : w.heap.size + 4 ≤ w6.heap.size := by omega
 go_wp2_with fail
 refine (HCP.out _ HBX6.out.b).mono ?_
 rintro e w7 ⟨a', c', m', rfl, hml', hxs', hv⟩
 obtain ⟨g, hg⟩ : ∃ g, a' = some ⟨g, 0, none⟩ := by
  obtain ⟨g, cp, e, _⟩ := hv.top.shape1 (by omega)
  exact ⟨g, by cases e; rfl⟩
 subst hg
 have hg6 : w6.heap.size ≤ g ∧ g < w7.heap.size := hv.top.blk g rfl
 have hb7 := hv.below
 clear v0 v1 fv0 fv1 c0 c1 c2 c3 c4 c5 r0 r1 fr0 fr1 s0 s1 s2 s3 fs0 fs1 fs2 fs3
 clear x0 x1 x2 x3 x4 fx0 fx1 fx2 fx3 fx4
 have HYS := Lib.hid (cs_new w7 37 #[.int .i64 next, .slice (some ⟨g, 0, none⟩) m.length c'])
 have HBS := Lib.hid ((HBX6.out.below hb7).below (boxA w7 (.cells #[.int .i64 next, .slice (some ⟨g, 0, none⟩) m.length c'] 37)))
 have HXS := Lib.hid ((HX6.out.below hb7).below (boxA w7 (.cells #[.int .i64 next, .slice (some ⟨g, 0, none⟩) m.length c'] 37)))
 have HES := Lib.hid ((HE6.out.below hb7).below (boxA w7 (.cells #[.int .i64 next, .slice (some ⟨g, 0, none⟩) m.length c'] 37)))
 have HVS := Lib.hid (hv.alloc (.cells #[.int .i64 next, .slice (some ⟨g, 0, none⟩) m.length c'] 37))
 have HBL := Lib.hid (fun q hq => hv.bl q hq)
 have HML := Lib.hid hml'
 have HXX := Lib.hid hxs'
 have hzS : w7.heap.size < (w7.alloc (.cells #[.int .i64 next, .slice (some ⟨g, 0, none⟩) m.length c'] 37)).heap.size := by simp
 have hz7 : w6.heap.size ≤ w7.heap.size := hb7.size
 have HINV' : Hid (Inv d0 next (xs m')) := Lib.hid (by rw [hxs']; exact HI.out)
 have HATD : Hid (atF (xs m') dir = (k : Int)) := Lib.hid (by rw [hxs']; exact HY0.out.2)
 have HATI : Hid (atF (xs m') X.id = (kx : Int)) := Lib.hid (by rw [hxs']; exact HX0.out.2)
 obtain ⟨za, zc, hz'⟩ := get_same hxs' HY0.out.1
 obtain ⟨ua, uc, hu'⟩ := get_same hxs' HX0.out.1
 try dsimp only at hz' hu'
 have HZ' := Lib.hid hz'
 have HU' := Lib.hid hu'
 clear hv hb7 hml' hxs' HX6 HE6 hz' hu'
 have hwk : (w.heap.size < w7.heap.size) ∧ (w.heap.size + 1 < w7.heap.size) ∧ (w.heap.size + 2 < w7.heap.size) ∧ (w.heap.size + 3 < w7.heap.size) ∧ w3.heap.size < w7.heap.size ∧ xb < w7.heap.size := by omega
 obtain ⟨hq0, hq1, hq2, hq3, hq4, hq5⟩ := hwk
 go_upto_region 8 with fail
 generalize w7.alloc (.cells #[.int .i64 next, .slice (some ⟨g, 0, none⟩) m.length c'] 37) = wS at *
 obtain ⟨⟨v0, v1⟩, fv0, fv1⟩ := HBS.out.v.two
 obtain ⟨c0, c1, c2, c3, c4, c5⟩ := HBS.out.c.six
 obtain ⟨⟨r0, r1⟩, fr0, fr1⟩ := HBS.out.r.two
 obtain ⟨⟨s0, s1, s2, s3⟩, fs0, fs1, fs2, fs3⟩ := HBS.out.s.four
 obtain ⟨⟨x0, x1, x2, x3, x4⟩, fx0, fx1, fx2, fx3, fx4⟩ := HXS.out.five
 obtain ⟨⟨y0, y1⟩, fy0, fy1⟩ := HYS.out.two
 obtain ⟨⟨e0, e1, e2, e3⟩, fe0, fe1, fe2, fe3⟩ := HES.out.four
 go_cut [47] from 15 to 46 (fun q wx => q = .int .i64 5 ∧ wS = wx)
 case first =>
  go_wp2_with fail
  go_meet
  exact ⟨rfl, rfl⟩
 case rest =>
 obtain ⟨rfl, rfl⟩ := hcut
 by_cases hk : X.kind = 2
 ·go_wp2
  exact ret_l6On (HBS.out.out _ _ _ _ _ _).1 (by rfl) (by rfl) (by rfl) (HSAME.out _ HBS.out _ _ _ _)
 obtain ⟨za2, zc2, hz2'⟩ := get_same HXX.out HY2.out.1
 try dsimp only at hz2'
 have HZ2 := Lib.hid hz2'
 clear hz2'
 have hkne : kx ≠ k2 := fun e => by
  have h1 := HX0.out.1
  have h2 := HY2.out.1
  rw [e, h2] at h1
  cases h1
  exact hk HKD2.out
 go_upto_region 22 with fail
 clear v0 v1 fv0 fv1 c0 c1 c2 c3 c4 c5 r0 r1 fr0 fr1 s0 s1 s2 s3 fs0 fs1 fs2 fs3 x0 x1 x2 x3 x4 fx0 fx1 fx2 fx3 fx4 y0 y1 fy0 fy1 e0 e1 e2 e3 fe0 fe1 fe2 fe3
 have HALL : Hid (∀ V, Below wS.heap.size wS V → (V.cell? ⟨w.heap.size, 0, none⟩ = some (.int .i64 next) ∧ V.cell? ⟨w.heap.size, 1, none⟩ = some (.slice (some ⟨bv, ov, none⟩) m.length cap) ∧ V.cell? ⟨w.heap.size + 1, 3, none⟩ = some (.int .i64 tt) ∧ V.cell? ⟨w.heap.size + 1, 4, none⟩ = some (.string sa) ∧ Below wS.heap.size wS V)) := Lib.hid (fun V hV => ⟨(HBS.out.below hV).v.two.1.1, (HBS.out.below hV).v.two.1.2, (HBS.out.below hV).c.six.2.2.2.1, (HBS.out.below hV).c.six.2.2.2.2.1, hV⟩)
 refine wp_region_held_drew (S := (fun V => V.cell? ⟨w.heap.size, 0, none⟩ = some (.int .i64 next) ∧ V.cell? ⟨w.heap.size, 1, none⟩ = some (.slice (some ⟨bv, ov, none⟩) m.length cap) ∧ V.cell? ⟨w.heap.size + 1, 3, none⟩ = some (.int .i64 tt) ∧ V.cell? ⟨w.heap.size + 1, 4, none⟩ = some (.string sa) ∧ Below wS.heap.size wS V)) (by kernel_rfl) ?_ (fun hHeld => ?_)
 ·try dsimp only
  exact HALL.out _ (Below.refl _ _).drew
 change wpAnyH _ _ _ _ _ 8 #[false, false, false, false, false, false, false, false] _ _
 refine wpH_take (i := 0) (v := ?_) rfl (by kernel_rfl) (by kernel_rfl) (by kernel_rfl) (fun _ _ _ h => h) (by rfl) ?_ (by assumption) ?_; rotate_left; (focus (intro w hSw; (try dsimp only at hSw); go_simp; try with_reducible rfl)); try simp only [Act.put, List.setIfInBounds_toArray, List.set_cons_zero, List.set_cons_succ]
 refine wpH_take (i := 1) (v := ?_) rfl (by kernel_rfl) (by kernel_rfl) (by kernel_rfl) (fun _ _ _ h => h) (by rfl) ?_ (by assumption) ?_; rotate_left; (focus (intro w hSw; (try dsimp only at hSw); go_simp; try with_reducible rfl)); try simp only [Act.put, List.setIfInBounds_toArray, List.set_cons_zero, List.set_cons_succ]
 refine wpH_take (i := 2) (v := ?_) rfl (by kernel_rfl) (by kernel_rfl) (by kernel_rfl) (fun _ _ _ h => h) (by rfl) ?_ (by assumption) ?_; rotate_left; (focus (intro w hSw; (try dsimp only at hSw); go_simp; try with_reducible rfl)); try simp only [Act.put, List.setIfInBounds_toArray, List.set_cons_zero, List.set_cons_succ]
 refine wpH_take (i := 4) (v := ?_) rfl (by kernel_rfl) (by kernel_rfl) (by kernel_rfl) (fun _ _ _ h => h) (by rfl) ?_ (by assumption) ?_; rotate_left; (focus (intro w hSw; (try dsimp only at hSw); go_simp; try with_reducible rfl)); try simp only [Act.put, List.setIfInBounds_toArray, List.set_cons_zero, List.set_cons_succ]
 refine wpH_take (i := 5) (v := ?_) rfl (by kernel_rfl) (by kernel_rfl) (by kernel_rfl) (fun _ _ _ h => h) (by rfl) ?_ (by assumption) ?_; rotate_left; (focus (intro w hSw; (try dsimp only at hSw); go_simp; try with_reducible rfl)); try simp only [Act.put, List.setIfInBounds_toArray, List.set_cons_zero, List.set_cons_succ]
 refine wpAnyH_ready (rs := [3]) (by kernel_rfl) (by simp) ?_
 refine AllReadyH.cons rfl (fun K hK => ?_) AllReadyH.nil
 try dsimp only at hHeld
 go_simp
 (go_at_call 37; refine (HEN2.out _ (below_step1 HBS.out.b (Below.refl _ _).drew)).mono ?_; rintro e w10 ⟨rfl, hbk⟩)
 refine hK.out _ _ ?_ (fun hHeld2 => ?_)
 ·try dsimp only
  exact HALL.out _ (below_step1 (Below.refl _ _).drew hbk)
 clear hK K hHeld
 have hHeld := hHeld2
 clear hHeld2
 have HB10 := Lib.hid (below_step1 (Below.refl _ _).drew hbk)
 clear hbk
 refine wpAnyH_ready (rs := [6]) (by kernel_rfl) (by simp) ?_
 refine AllReadyH.cons rfl (fun K hK => ?_) AllReadyH.nil
 try dsimp only at hHeld
 go_simp
 (go_at_call 36; refine (l5At_any ya2 _ yc2 Y2.ents sa _ (HYR2.out _ (below_step1 HBS.out.b HB10.out)) HSZ2.out (by omega)).mono ?_; rintro e w11 ⟨r, rfl, hE2, hbk⟩)
 refine hK.out _ _ ?_ (fun hHeld2 => ?_)
 ·try dsimp only
  exact HALL.out _ (below_step1 HB10.out hbk)
 clear hK K hHeld
 have hHeld := hHeld2
 clear hHeld2
 have HB11 := Lib.hid (below_step1 HB10.out hbk)
 clear hbk
 refine wpH_take (i := 7) (v := ?_) rfl (by kernel_rfl) (by kernel_rfl) (by kernel_rfl) (fun _ _ _ h => h) (by rfl) ?_ (by assumption) ?_; rotate_left; (focus (intro w hSw; (try dsimp only at hSw); go_simp; try with_reducible rfl)); try simp only [Act.put, List.setIfInBounds_toArray, List.set_cons_zero, List.set_cons_succ]
 refine wpAnyH_done (by kernel_rfl) ?_ _
 try dsimp only at hHeld
 clear hHeld HALL HB10
 have HBX9 := Lib.hid (HBS.out.below HB11.out)
 have HY9 := Lib.hid (HYS.out.below HB11.out)
 have HX9 := Lib.hid (HXS.out.below HB11.out)
 have HV9 := Lib.hid (HVS.out.kept HB11.out)
 clear HBS HYS HXS HVS HES HB11
 obtain ⟨⟨v0, v1⟩, fv0, fv1⟩ := HBX9.out.v.two
 obtain ⟨c0, c1, c2, c3, c4, c5⟩ := HBX9.out.c.six
 obtain ⟨⟨r0, r1⟩, fr0, fr1⟩ := HBX9.out.r.two
 obtain ⟨⟨s0, s1, s2, s3⟩, fs0, fs1, fs2, fs3⟩ := HBX9.out.s.four
 rcases hE2 with ⟨rfl, hno⟩ | ⟨q, hq, rfl, -, -⟩
 rotate_left
 ·have hq0 : (0 : Int) ≤ (q : Int) := by omega
  go_wp2
  exact ret_l6On (HBX9.out.out _ _ _ _ _ _).1 (by rfl) (by rfl) (by rfl) (HSAME.out _ HBX9.out _ _ _ _)
 have HNO := Lib.hid hno
 clear hno
 have hneg : ¬ (0 : Int) ≤ -1 := by omega
 go_wp2_with fail
 refine (HEN2.out _ HBX9.out.b).mono ?_
 rintro e w12 ⟨rfl, hb⟩
 have HBX12 := Lib.hid (HBX9.out.below hb)
 have HY12 := Lib.hid (HY9.out.below hb)
 have HX12 := Lib.hid (HX9.out.below hb)
 have HV12 := Lib.hid (HV9.out.kept hb)
 clear hb HBX9 HY9 HX9 HV9
 clear v0 v1 fv0 fv1 c0 c1 c2 c3 c4 c5 r0 r1 fr0 fr1 s0 s1 s2 s3 fs0 fs1 fs2 fs3
 obtain ⟨⟨v0, v1⟩, fv0, fv1⟩ := HBX12.out.v.two
 obtain ⟨c0, c1, c2, c3, c4, c5⟩ := HBX12.out.c.six
 obtain ⟨⟨r0, r1⟩, fr0, fr1⟩ := HBX12.out.r.two
 obtain ⟨⟨s0, s1, s2, s3⟩, fs0, fs1, fs2, fs3⟩ := HBX12.out.s.four
 by_cases hf : (12 : Int) ≤ (Y2.ents.length : Int)
 ·go_wp2
  exact ret_l6On (HBX12.out.out _ _ _ _ _ _).1 (by rfl) (by rfl) (by rfl) (HSAME.out _ HBX12.out _ _ _ _)
 go_upto_region 26 with fail
 clear v0 v1 fv0 fv1 c0 c1 c2 c3 c4 c5 r0 r1 fr0 fr1 s0 s1 s2 s3 fs0 fs1 fs2 fs3
 have HATy : Hid (∀ V, Below w12.heap.size w12 V → Calls Try.prog 25 #[.agg #[.int .i64 next, .slice (some ⟨g, 0, none⟩) m.length c'], .int .i64 X.id] V fun e w' => e = .returned (.int .i64 (kx : Int)) ∧ Below V.heap.size V w') := Lib.hid (fun V hV => by
  have h := l6At_any next (some ⟨g, 0, none⟩) m'.length c' (xs m') X.id V (HV12.out.kept hV).p.rd
  rw [HML.out, HATI.out] at h
  exact h)
 have hwl : IntKind.i64.wrap (X.links + 1) = X.links + 1 := IntWalk.i64_in _ ⟨by omega, by omega⟩
 have HALL : Hid (∀ V, Below w12.heap.size w12 V → (V.cell? ⟨w7.heap.size, 0, none⟩ = some (.int .i64 next) ∧ V.cell? ⟨w7.heap.size, 1, none⟩ = some (.slice (some ⟨g, 0, none⟩) m.length c') ∧ V.cell? ⟨xb, 0, none⟩ = some (.int .i64 X.id) ∧ V.cell? ⟨xb, 2, none⟩ = some (.int .i64 X.links))) := Lib.hid (fun V hV => ⟨(HY12.out.below hV).two.1.1, (HY12.out.below hV).two.1.2, (HX12.out.below hV).five.1.1, (HX12.out.below hV).five.1.2.2.1⟩)
 refine wp_region_held_drew (S := (fun V => V.cell? ⟨w7.heap.size, 0, none⟩ = some (.int .i64 next) ∧ V.cell? ⟨w7.heap.size, 1, none⟩ = some (.slice (some ⟨g, 0, none⟩) m.length c') ∧ V.cell? ⟨xb, 0, none⟩ = some (.int .i64 X.id) ∧ V.cell? ⟨xb, 2, none⟩ = some (.int .i64 X.links))) (by kernel_rfl) ?_ (fun hHeld => ?_)
 ·try dsimp only
  exact HALL.out _ (Below.refl _ _).drew
 change wpAnyH _ _ _ _ _ 12 #[false, false, false, false, false, false, false, false, false, false, false, false] _ _
 refine wpH_take (i := 0) (v := ?_) rfl (by kernel_rfl) (by kernel_rfl) (by kernel_rfl) (fun _ _ _ h => h) (by rfl) ?_ (by assumption) ?_; rotate_left; (focus (intro w hSw; (try dsimp only at hSw); go_simp; try with_reducible rfl)); try simp only [Act.put, List.setIfInBounds_toArray, List.set_cons_zero, List.set_cons_succ]
 refine wpH_take (i := 1) (v := ?_) rfl (by kernel_rfl) (by kernel_rfl) (by kernel_rfl) (fun _ _ _ h => h) (by rfl) ?_ (by assumption) ?_; rotate_left; (focus (intro w hSw; (try dsimp only at hSw); go_simp; try with_reducible rfl)); try simp only [Act.put, List.setIfInBounds_toArray, List.set_cons_zero, List.set_cons_succ]
 refine wpH_take (i := 2) (v := ?_) rfl (by kernel_rfl) (by kernel_rfl) (by kernel_rfl) (fun _ _ _ h => h) (by rfl) ?_ (by assumption) ?_; rotate_left; (focus (intro w hSw; (try dsimp only at hSw); go_simp; try with_reducible rfl)); try simp only [Act.put, List.setIfInBounds_toArray, List.set_cons_zero, List.set_cons_succ]
 refine wpH_take (i := 3) (v := ?_) rfl (by kernel_rfl) (by kernel_rfl) (by kernel_rfl) (fun _ _ _ h => h) (by rfl) ?_ (by assumption) ?_; rotate_left; (focus (intro w hSw; (try dsimp only at hSw); go_simp; try with_reducible rfl)); try simp only [Act.put, List.setIfInBounds_toArray, List.set_cons_zero, List.set_cons_succ]
 refine wpH_take (i := 4) (v := ?_) rfl (by kernel_rfl) (by kernel_rfl) (by kernel_rfl) (fun _ _ _ h => h) (by rfl) ?_ (by assumption) ?_; rotate_left; (focus (intro w hSw; (try dsimp only at hSw); go_simp; try with_reducible rfl)); try simp only [Act.put, List.setIfInBounds_toArray, List.set_cons_zero, List.set_cons_succ]
 refine wpH_take (i := 6) (v := ?_) rfl (by kernel_rfl) (by kernel_rfl) (by kernel_rfl) (fun _ _ _ h => h) (by rfl) ?_ (by assumption) ?_; rotate_left; (focus (intro w hSw; (try dsimp only at hSw); go_simp; try with_reducible rfl)); try simp only [Act.put, List.setIfInBounds_toArray, List.set_cons_zero, List.set_cons_succ]
 refine wpH_take (i := 7) (v := ?_) rfl (by kernel_rfl) (by kernel_rfl) (by kernel_rfl) (fun _ _ _ h => h) (by rfl) ?_ (by assumption) ?_; rotate_left; (focus (intro w hSw; (try dsimp only at hSw); go_simp; try with_reducible rfl)); try simp only [Act.put, List.setIfInBounds_toArray, List.set_cons_zero, List.set_cons_succ]
 refine wpH_take (i := 8) (v := ?_) rfl (by kernel_rfl) (by kernel_rfl) (by kernel_rfl) (fun _ _ _ h => h) (by rfl) ?_ (by assumption) ?_; rotate_left; (focus (intro w hSw; (try dsimp only at hSw); go_simp; try with_reducible rfl)); try simp only [Act.put, List.setIfInBounds_toArray, List.set_cons_zero, List.set_cons_succ]
 refine wpAnyH_ready (rs := [5]) (by kernel_rfl) (by simp) ?_
 refine AllReadyH.cons rfl (fun K hK => ?_) AllReadyH.nil
 try dsimp only at hHeld
 go_simp
 (go_at_call 25; refine (HATy.out _ (Below.refl _ _).drew).mono ?_; rintro e w13 ⟨rfl, hbk⟩)
 refine hK.out _ _ ?_ (fun hHeld2 => ?_)
 ·try dsimp only
  exact HALL.out _ (below_step1 (Below.refl _ _).drew hbk)
 clear hK K hHeld
 have hHeld := hHeld2
 clear hHeld2
 have HB13 := Lib.hid (below_step1 (Below.refl _ _).drew hbk)
 clear hbk
 refine wpH_take (i := 9) (v := ?_) rfl (by kernel_rfl) (by kernel_rfl) (by kernel_rfl) (fun _ _ _ h => h) (by rfl) ?_ (by assumption) ?_; rotate_left; (focus (intro w hSw; (try dsimp only at hSw); go_simp; try with_reducible rfl)); try simp only [Act.put, List.setIfInBounds_toArray, List.set_cons_zero, List.set_cons_succ]
 refine wpH_take (i := 10) (v := ?_) rfl (by kernel_rfl) (by kernel_rfl) (by kernel_rfl) (fun _ _ _ h => h) (by rfl) ?_ (by assumption) ?_; rotate_left; (focus (intro w hSw; (try dsimp only at hSw); go_simp; try with_reducible rfl)); try simp only [Act.put, List.setIfInBounds_toArray, List.set_cons_zero, List.set_cons_succ]
 have hv13 := HV12.out.kept HB13.out
 obtain ⟨u2, hu2⟩ : ∃ u, w13.cell? ⟨g, kx * 5 + 2, none⟩ = some u := ⟨_, hv13.top.cell (kx * 5 + 2) (by have := HML.out; simp; omega)⟩
 have hf2 := hv13.top.free (kx * 5 + 2)
 have HV14 := Lib.hid (hv13.field kx ⟨X, ua, uc⟩ ⟨{ X with links := X.links + 1 }, ua, uc⟩ HU'.out (kx * 5 + 2) (.int .i64 (X.links + 1)) rfl rfl rfl (ins_setL m' kx ⟨X, ua, uc⟩ HU'.out (X.links + 1)))
 have hgl := (hv13.top.blk g rfl).2
 clear hv13
 have hgy : w7.heap.size ≠ g := by omega
 have hgx : xb ≠ g := by omega
 refine wpAnyH_ready (rs := [11]) (by kernel_rfl) (by simp) ?_
 refine AllReadyH.cons rfl (fun K hK => ?_) AllReadyH.nil
 try dsimp only at hHeld
 go_simp
 skip
 refine hK.out _ _ ?_ (fun hHeld2 => ?_)
 ·try dsimp only
  exact ⟨cellq_far hHeld.1 hgy, cellq_far hHeld.2.1 hgy, cellq_far hHeld.2.2.1 hgx, cellq_far hHeld.2.2.2 hgx⟩
 clear hK K hHeld
 have hHeld := hHeld2
 clear hHeld2
 refine wpAnyH_done (by kernel_rfl) ?_ _
 try dsimp only at hHeld
 clear hHeld HALL HATy hu2 hf2
 have HBQ := Lib.hid ((HBX12.out.below HB13.out).far g (kx * 5 + 2) (.int .i64 (X.links + 1)) (by omega))
 have HYQ := Lib.hid ((HY12.out.below HB13.out).far (g := g) (j := kx * 5 + 2) (u := .int .i64 (X.links + 1)) hgy)
 have HXQ := Lib.hid ((HX12.out.below HB13.out).far (g := g) (j := kx * 5 + 2) (u := .int .i64 (X.links + 1)) hgx)
 clear HBX12 HY12 HX12 HV12 HB13
 generalize w13.setCell ⟨g, kx * 5 + 2, none⟩ (.int .i64 (X.links + 1)) = wQ at *
 have HL1 : Hid ((m'.set kx ⟨{ X with links := X.links + 1 }, ua, uc⟩).length = m.length) := Lib.hid (by rw [List.length_set]; exact HML.out)
 have HZ3 : Hid ((m'.set kx ⟨{ X with links := X.links + 1 }, ua, uc⟩)[k2]? = some ⟨Y2, za2, zc2⟩) := Lib.hid (by rw [get_set_ne hkne]; exact HZ2.out)
 have HAT3 : Hid (atF (xs (m'.set kx ⟨{ X with links := X.links + 1 }, ua, uc⟩)) tt = (k2 : Int)) := Lib.hid ((at_set HU'.out (z := ⟨{ X with links := X.links + 1 }, ua, uc⟩) rfl _).trans (by rw [HXX.out]; exact HY2.out.2))
 have HIV := Lib.hid (p_links HINV'.out HU'.out 1 ua uc)
 have HMI : Hid (X.id ∈ idsF (xs (m'.set kx ⟨{ X with links := X.links + 1 }, ua, uc⟩))) := Lib.hid (by rw [idsF_xset HU'.out (z := ⟨{ X with links := X.links + 1 }, ua, uc⟩) rfl]; exact mem_ids HU'.out)
 have HENy : Hid (∀ V, Below wQ.heap.size wQ V → Calls Try.prog 37 #[.agg #[.int .i64 next, .slice (some ⟨g, 0, none⟩) m.length c'], .int .i64 tt] V fun e w' => e = .returned (.slice za2 Y2.ents.length zc2) ∧ Below V.heap.size V w') := Lib.hid (fun V hV => by
  have h := l6Ents_any next (some ⟨g, 0, none⟩) (m'.set kx ⟨{ X with links := X.links + 1 }, ua, uc⟩).length c' (m'.set kx ⟨{ X with links := X.links + 1 }, ua, uc⟩) tt k2 ⟨Y2, za2, zc2⟩ V (HV14.out.kept hV).p HZ3.out HAT3.out
  rw [HL1.out] at h
  exact h)
 have HYRy : Hid (∀ V, Below wQ.heap.size wQ V → Rd V za2 Y2.ents.length zc2 4 (ens Y2.ents)) := Lib.hid (fun V hV => (HV14.out.kept hV).p.2 _ (List.mem_of_getElem? HZ3.out))
 go_wp2
 have HALL : Hid (∀ V, Below wQ.heap.size wQ V → (V.cell? ⟨w7.heap.size, 0, none⟩ = some (.int .i64 next) ∧ V.cell? ⟨w7.heap.size, 1, none⟩ = some (.slice (some ⟨g, 0, none⟩) m.length c') ∧ V.cell? ⟨w.heap.size + 1, 3, none⟩ = some (.int .i64 tt) ∧ V.cell? ⟨w.heap.size + 1, 4, none⟩ = some (.string sa) ∧ V.cell? ⟨xb, 0, none⟩ = some (.int .i64 X.id) ∧ Below wQ.heap.size wQ V)) := Lib.hid (fun V hV => ⟨(HYQ.out.below hV).two.1.1, (HYQ.out.below hV).two.1.2, (HBQ.out.below hV).c.six.2.2.2.1, (HBQ.out.below hV).c.six.2.2.2.2.1, (HXQ.out.below hV).five.1.1, hV⟩)
 refine wp_region_held_drew (S := (fun V => V.cell? ⟨w7.heap.size, 0, none⟩ = some (.int .i64 next) ∧ V.cell? ⟨w7.heap.size, 1, none⟩ = some (.slice (some ⟨g, 0, none⟩) m.length c') ∧ V.cell? ⟨w.heap.size + 1, 3, none⟩ = some (.int .i64 tt) ∧ V.cell? ⟨w.heap.size + 1, 4, none⟩ = some (.string sa) ∧ V.cell? ⟨xb, 0, none⟩ = some (.int .i64 X.id) ∧ Below wQ.heap.size wQ V)) (by kernel_rfl) ?_ (fun hHeld => ?_)
 ·try dsimp only
  exact HALL.out _ (Below.refl _ _).drew
 change wpAnyH _ _ _ _ _ 14 #[false, false, false, false, false, false, false, false, false, false, false, false, false, false] _ _
 refine wpH_take (i := 0) (v := ?_) rfl (by kernel_rfl) (by kernel_rfl) (by kernel_rfl) (fun _ _ _ h => h) (by rfl) ?_ (by assumption) ?_; rotate_left; (focus (intro w hSw; (try dsimp only at hSw); go_simp; try with_reducible rfl)); try simp only [Act.put, List.setIfInBounds_toArray, List.set_cons_zero, List.set_cons_succ]
 refine wpH_take (i := 1) (v := ?_) rfl (by kernel_rfl) (by kernel_rfl) (by kernel_rfl) (fun _ _ _ h => h) (by rfl) ?_ (by assumption) ?_; rotate_left; (focus (intro w hSw; (try dsimp only at hSw); go_simp; try with_reducible rfl)); try simp only [Act.put, List.setIfInBounds_toArray, List.set_cons_zero, List.set_cons_succ]
 refine wpH_take (i := 2) (v := ?_) rfl (by kernel_rfl) (by kernel_rfl) (by kernel_rfl) (fun _ _ _ h => h) (by rfl) ?_ (by assumption) ?_; rotate_left; (focus (intro w hSw; (try dsimp only at hSw); go_simp; try with_reducible rfl)); try simp only [Act.put, List.setIfInBounds_toArray, List.set_cons_zero, List.set_cons_succ]
 refine wpH_take (i := 4) (v := ?_) rfl (by kernel_rfl) (by kernel_rfl) (by kernel_rfl) (fun _ _ _ h => h) (by rfl) ?_ (by assumption) ?_; rotate_left; (focus (intro w hSw; (try dsimp only at hSw); go_simp; try with_reducible rfl)); try simp only [Act.put, List.setIfInBounds_toArray, List.set_cons_zero, List.set_cons_succ]
 refine wpH_take (i := 5) (v := ?_) rfl (by kernel_rfl) (by kernel_rfl) (by kernel_rfl) (fun _ _ _ h => h) (by rfl) ?_ (by assumption) ?_; rotate_left; (focus (intro w hSw; (try dsimp only at hSw); go_simp; try with_reducible rfl)); try simp only [Act.put, List.setIfInBounds_toArray, List.set_cons_zero, List.set_cons_succ]
 refine wpH_take (i := 6) (v := ?_) rfl (by kernel_rfl) (by kernel_rfl) (by kernel_rfl) (fun _ _ _ h => h) (by rfl) ?_ (by assumption) ?_; rotate_left; (focus (intro w hSw; (try dsimp only at hSw); go_simp; try with_reducible rfl)); try simp only [Act.put, List.setIfInBounds_toArray, List.set_cons_zero, List.set_cons_succ]
 refine wpH_take (i := 7) (v := ?_) rfl (by kernel_rfl) (by kernel_rfl) (by kernel_rfl) (fun _ _ _ h => h) (by rfl) ?_ (by assumption) ?_; rotate_left; (focus (intro w hSw; (try dsimp only at hSw); go_simp; try with_reducible rfl)); try simp only [Act.put, List.setIfInBounds_toArray, List.set_cons_zero, List.set_cons_succ]
 refine wpAnyH_ready (rs := [3]) (by kernel_rfl) (by simp) ?_
 refine AllReadyH.cons rfl (fun K hK => ?_) AllReadyH.nil
 try dsimp only at hHeld
 go_simp
 (go_at_call 37; refine (HENy.out _ (Below.refl _ _).drew).mono ?_; rintro e w10 ⟨rfl, hbk⟩)
 refine hK.out _ _ ?_ (fun hHeld2 => ?_)
 ·try dsimp only
  exact HALL.out _ (below_step1 (Below.refl _ _).drew hbk)
 clear hK K hHeld
 have hHeld := hHeld2
 clear hHeld2
 have HB10 := Lib.hid (below_step1 (Below.refl _ _).drew hbk)
 clear hbk
 refine wpAnyH_ready (rs := [8]) (by kernel_rfl) (by simp) ?_
 refine AllReadyH.cons rfl (fun K hK => ?_) AllReadyH.nil
 try dsimp only at hHeld
 go_simp
 (go_at_call 38; refine (l5AddX_any za2 zc2 Y2.ents sa X.id _ (HYRy.out _ HB10.out) HSZ2.out (by omega) (by omega) (by omega) HNB2.out HNO.out (by omega)).mono ?_; rintro e w11 ⟨out, h0, k0, gd, cd, rfl, hperm, hOE⟩)
 refine hK.out _ _ ?_ (fun hHeld2 => ?_)
 ·try dsimp only
  exact HALL.out _ (below_step1 HB10.out hOE.below)
 clear hK K hHeld
 have hHeld := hHeld2
 clear hHeld2
 have HOE := Lib.hid (own_down hOE (show w6.heap.size ≤ _ from Nat.le_trans HV14.out.top.base HB10.out.size) (HV14.out.below.trans (HB10.out.mono HV14.out.top.base)) (Nat.le_trans HV14.out.top.base HB10.out.size))
 have HAP : Hid (Apart1 (m'.set kx ⟨{ X with links := X.links + 1 }, ua, uc⟩) k2 (.slice gd out.length cd)) := Lib.hid (apart1_new (HV14.out.kept HB10.out) k2 (fun q hq => (hOE.blk q hq).1))
 have HB11 := Lib.hid (below_step1 HB10.out hOE.below)
 have HPM := Lib.hid hperm
 clear hOE hperm
 refine wpH_take (i := 9) (v := ?_) rfl (by kernel_rfl) (by kernel_rfl) (by kernel_rfl) (fun _ _ _ h => h) (by rfl) ?_ (by assumption) ?_; rotate_left; (focus (intro w hSw; (try dsimp only at hSw); go_simp; try with_reducible rfl)); try simp only [Act.put, List.setIfInBounds_toArray, List.set_cons_zero, List.set_cons_succ]
 refine wpH_take (i := 10) (v := ?_) rfl (by kernel_rfl) (by kernel_rfl) (by kernel_rfl) (fun _ _ _ h => h) (by rfl) ?_ (by assumption) ?_; rotate_left; (focus (intro w hSw; (try dsimp only at hSw); go_simp; try with_reducible rfl)); try simp only [Act.put, List.setIfInBounds_toArray, List.set_cons_zero, List.set_cons_succ]
 refine wpH_take (i := 11) (v := ?_) rfl (by kernel_rfl) (by kernel_rfl) (by kernel_rfl) (fun _ _ _ h => h) (by rfl) ?_ (by assumption) ?_; rotate_left; (focus (intro w hSw; (try dsimp only at hSw); go_simp; try with_reducible rfl)); try simp only [Act.put, List.setIfInBounds_toArray, List.set_cons_zero, List.set_cons_succ]
 refine wpH_take (i := 12) (v := ?_) rfl (by kernel_rfl) (by kernel_rfl) (by kernel_rfl) (fun _ _ _ h => h) (by rfl) ?_ (by assumption) ?_; rotate_left; (focus (intro w hSw; (try dsimp only at hSw); go_simp; try with_reducible rfl)); try simp only [Act.put, List.setIfInBounds_toArray, List.set_cons_zero, List.set_cons_succ]
 refine wpH_take (i := 13) (v := ?_) rfl (by kernel_rfl) (by kernel_rfl) (by kernel_rfl) (fun _ _ _ h => h) (by rfl) ?_ (by assumption) ?_; rotate_left; (focus (intro w hSw; (try dsimp only at hSw); go_simp; try with_reducible rfl)); try simp only [Act.put, List.setIfInBounds_toArray, List.set_cons_zero, List.set_cons_succ]
 refine wpAnyH_done (by kernel_rfl) ?_ _
 try dsimp only at hHeld
 clear hHeld HALL HENy HYRy HB10
 have HYR := Lib.hid (HYQ.out.below HB11.out)
 have HBR := Lib.hid (HBQ.out.below HB11.out)
 have HVR := Lib.hid (HV14.out.kept HB11.out)
 clear HYQ HXQ HBQ HV14 HB11
 obtain ⟨⟨v0, v1⟩, fv0, fv1⟩ := HBR.out.v.two
 obtain ⟨c0, c1, c2, c3, c4, c5⟩ := HBR.out.c.six
 obtain ⟨⟨r0, r1⟩, fr0, fr1⟩ := HBR.out.r.two
 obtain ⟨⟨s0, s1, s2, s3⟩, fs0, fs1, fs2, fs3⟩ := HBR.out.s.four
 obtain ⟨⟨y0, y1⟩, fy0, fy1⟩ := HYR.out.two
 go_wp2_with fail
 have hcon := l6With_any w6.heap.size w6 next g c' (m'.set kx ⟨{ X with links := X.links + 1 }, ua, uc⟩) tt k2 ⟨Y2, za2, zc2⟩ gd cd out _ HVR.out HZ3.out HAT3.out HOE.out HAP.out
 rw [HL1.out] at hcon
 refine hcon.mono ?_
 clear hcon
 rintro e w15 ⟨rfl, hv15, hgr⟩
 have HBT := Lib.hid (HBR.out.grown hgr (fun q hq => by cases hq; omega))
 have HVT := Lib.hid hv15
 clear hgr hv15
 clear v0 v1 fv0 fv1 c0 c1 c2 c3 c4 c5 r0 r1 fr0 fr1 s0 s1 s2 s3 fs0 fs1 fs2 fs3 y0 y1 fy0 fy1
 obtain ⟨⟨v0, v1⟩, fv0, fv1⟩ := HBT.out.v.two
 obtain ⟨c0, c1, c2, c3, c4, c5⟩ := HBT.out.c.six
 obtain ⟨⟨r0, r1⟩, fr0, fr1⟩ := HBT.out.r.two
 obtain ⟨⟨s0, s1, s2, s3⟩, fs0, fs1, fs2, fs3⟩ := HBT.out.s.four
 have hIF := (p_add HIV.out HZ3.out HKD2.out out ⟨h0, k0, sa, X.id⟩ HPM.out (by dsimp only; omega) (by show sa.size ≤ 1073741824; omega) hx1 HMI.out gd cd).congr (d' := d0) (fun i _ _ => by unfold d0; dsimp only; omega)
 have hfin := HBX6.out.new HBT.out hBw HVT.out hIF 0 0 ⟨#[]⟩ ⟨#[]⟩ (Q := VolBl (some ⟨bv, ov, none⟩) cap m)
 rw [List.length_set, HL1.out] at hfin
 have HFIN := Lib.hid hfin
 clear hfin hIF
 go_wp2
 exact ret_l6On (HBT.out.out _ _ _ _ _ _).1 (by rfl) (by rfl) (by rfl) HFIN.out
end Go.Proofs.Ytlkfabkkjfmnmaa
