import Derived.Test.YtlkfabkkjfmnmaaKat
namespace Go.Proofs.Ytlkfabkkjfmnmaa
open Go.RowKit
set_option linter.all false
theorem make_inv {next : Int} {l : List InoL} (h : Inv d0 next l) (k : Nat) (x : InoL) (hx : l[k]? = some x) (hkd : x.kind = 2) (hn : next < 100000) (hl : l.length < 16) (kd : Int) (hk : kd = 1 ∨ kd = 2) (out : List EntL) (e : EntL) (hp : out.Perm (e :: x.ents)) (he : e.id = next) (hs : smallN e) (h12 : x.ents.length < 12) :
  Inv d0 (next + 1) ((l ++ [(⟨next, kd, 1, ByteArray.empty, []⟩ : InoL)]).set k { x with ents := out }) := by
 obtain ⟨hkl, rfl⟩ := List.getElem?_eq_some_iff.1 hx
 have h1 := h.app hn hl kd hk
 have hk2 : k < (l ++ [(⟨next, kd, 1, ByteArray.empty, []⟩ : InoL)]).length := by simp; omega
 have hg : (l ++ [(⟨next, kd, 1, ByteArray.empty, []⟩ : InoL)])[k] = l[k] := List.getElem_append_left hkl
 have h2 := h1.add k hk2 (by rw [hg]; exact hkd) out e (by rw [hg]; exact hp) (by rw [hg]; exact h12) ⟨hs, by have := h.lo; omega, by rw [he]; simp [idsF]⟩
 rw [hg] at h2
 exact h2.congr (fun i _ _ => by rw [he]; unfold d0; omega)
theorem make_at {next : Int} {l : List InoL} (h : Inv d0 next l) (k : Nat) (hk : k < l.length) (dir : Int) (hat : atF l dir = (k : Int)) (hn : next < 100000) (hl : l.length < 16) (kd : Int) (hkd : kd = 1 ∨ kd = 2) : atF (l ++ [⟨next, kd, 1, ByteArray.empty, []⟩]) dir = (k : Int) := by
 obtain ⟨_, e⟩ := atF_get l dir k hat
 have h1 := (h.app hn hl kd hkd).at_ k (by simp; omega)
 rw [List.getElem_append_left hk, e] at h1
 exact h1
def nIno (next kz : Int) : InoP := ⟨⟨next, kz, 1, ByteArray.empty, []⟩, none, 0⟩
set_option maxRecDepth 1000000 in
set_option maxHeartbeats 6000000 in
theorem l6Make_any (B : Nat) (next : Int) (a : Option Addr) (cap : Nat) (m : List InoP) (kd dir : Int) (nm : ByteArray) (tt : Int) (sa dt : ByteArray) (k : Nat) (y : InoP) (w : World) (h : VolOwn B w a cap m w) (hi : Inv d0 next (xs m)) (hy : m[k]? = some y) (hat : atF (xs m) dir = (k : Int)) (hkd : y.x.kind = 2) (hnb : nameB nm = true) :
  Calls Try.prog 28 #[.agg #[.int .i64 next, .slice a m.length cap], .agg #[.int .i64 kd, .int .i64 dir, .string nm, .int .i64 tt, .string sa, .string dt]] w (VolAns B (VolBl a cap m) w) := by
 have hsm := inv_small hi
 have hBw := h.top.base
 have hm := volP_room h.p
 have hns : nm.size ≤ 24 := nameB_size nm hnb
 have hmem := List.mem_of_getElem? hy
 have hye := hsm.2 y hmem
 have hkl : k < m.length := (List.getElem?_eq_some_iff.1 hy).1
 have HP := Lib.hid h.p
 have HNB := Lib.hid hnb
 have hnlo := hi.lo
 have hnhi := hi.hi
 have HBX := Lib.hid (bx_new w next a m.length cap kd dir nm tt sa dt)
 have HSAME : Hid (∀ W, Bx w next a m.length cap kd dir nm tt sa dt W → ∀ (v0 v1 : Int) (v2 v3 : ByteArray), VolAns B (VolBl a cap m) w (.returned (.tuple #[.agg #[.int .i64 next, .slice a m.length cap], .agg #[.int .i64 v0, .int .i64 v1, .string v2, .string v3]])) _) := Lib.hid (fun W hb v0 v1 v2 v3 => hb.same h hi v0 v1 v2 v3)
 have HEN : Hid (∀ W, Below w.heap.size w W → Calls Try.prog 37 #[.agg #[.int .i64 next, .slice a m.length cap], .int .i64 dir] W fun e w' => e = .returned (.slice y.ad y.x.ents.length y.cap) ∧ Below W.heap.size W w') := Lib.hid (fun W hW => l6Ents_any next a m.length cap m dir k y W (HP.out.step hW) hy hat)
 have HYR : Hid (∀ W, Below w.heap.size w W → Rd W y.ad y.x.ents.length y.cap 4 (ens y.x.ents)) := Lib.hid (fun W hW => ((HP.out.step hW).2 y hmem))
 have HSZ := Lib.hid hye.2
 have h12 := hye.1
 have h16 := hsm.1
 have HCP : Hid (∀ W, Below w.heap.size w W → Calls Try.prog 20 #[.agg #[.int .i64 next, .slice a m.length cap]] W (CopyPost next m W)) := Lib.hid (fun W hW => l6Copy_any next a cap m W (HP.out.step hW) (by omega) (fun z hz => by have := (hsm.2 z hz).1; omega))
 have HPL : Hid (next < 100000 → m.length < 16 → y.x.ents.length < 12 → ∀ m' : List InoP, m'.length = m.length → xs m' = xs m → ∀ kz : Int, (kz = 1 ∨ kz = 2) → ∃ y' : InoP, (m' ++ [nIno next kz])[k]? = some y' ∧ y'.x.ents = y.x.ents ∧ atF (xs (m' ++ [nIno next kz])) dir = (k : Int) ∧
   ∀ (out : List EntL) (e : EntL) (g : Option Addr) (c : Nat), out.Perm (e :: y.x.ents) → e.id = next → smallN e → Inv d0 (next + 1) (xs ((m' ++ [nIno next kz]).set k ⟨{ y'.x with ents := out }, g, c⟩))) := Lib.hid (fun hn hl hx m' hml hxs kz hkz => by
  have hk' : k < m'.length := by omega
  have e1 : (m' ++ [nIno next kz])[k]? = some m'[k] := by rw [List.getElem?_append_left hk', List.getElem?_eq_getElem hk']
  have e2 : m'[k].x = y.x := by
   have h1 := xs_get m' k hk'
   obtain ⟨h3, h4⟩ := List.getElem?_eq_some_iff.1 hy
   have h2 := xs_get m k h3
   rw [← h4, ← h1, ← h2]
   congr 1
  have hxl : (xs m).length < 16 := by rw [xs_len]; exact hl
  have e3 : xs (m' ++ [nIno next kz]) = xs m ++ [⟨next, kz, 1, ByteArray.empty, []⟩] := by rw [← hxs]; simp [xs, nIno]
  refine ⟨m'[k], e1, by rw [e2], by rw [e3]; exact make_at hi k (by rw [xs_len]; exact hkl) dir hat hn hxl kz hkz, fun out e g c hp he hs => ?_⟩
  rw [xs_set, e3, e2]
  exact make_inv hi k y.x (by obtain ⟨h3, h4⟩ := List.getElem?_eq_some_iff.1 hy; rw [List.getElem?_eq_getElem (by rw [xs_len]; exact h3), xs_get m k h3, h4]) hkd hn hxl kz hkz out e hp he hs hx)
 clear h hi hy hat hnb hye hsm hmem
 generalize y.x.ents = es at *
 generalize y.ad = ya at *
 generalize y.cap = yc at *
 go_enter Try.func28, Try.ntmps28
 go_wp2
 generalize (((w.alloc (.cells #[.int .i64 next, .slice a m.length cap] 37)).alloc (.cells #[.int .i64 kd, .int .i64 dir, .string nm, .int .i64 tt, .string sa, .string dt] 56)).alloc (.cells #[.int .i64 0, .slice none 0 0] 37)).alloc (.cells #[.int .i64 0, .int .i64 0, .string ⟨#[]⟩, .string ⟨#[]⟩] 52) = w1 at *
 have HALL : Hid (∀ W, Below w1.heap.size w1 W → (W.cell? ⟨w.heap.size, 0, none⟩ = some (.int .i64 next) ∧ W.cell? ⟨w.heap.size, 1, none⟩ = some (.slice a m.length cap) ∧ W.cell? ⟨w.heap.size + 1, 1, none⟩ = some (.int .i64 dir) ∧ W.cell? ⟨w.heap.size + 1, 2, none⟩ = some (.string nm) ∧ Below w1.heap.size w1 W)) := Lib.hid (fun W hW => ⟨(HBX.out.below hW).v.two.1.1, (HBX.out.below hW).v.two.1.2, (HBX.out.below hW).c.six.2.1, (HBX.out.below hW).c.six.2.2.1, hW⟩)
 have hB0 := Below.refl w1.heap.size w1
 refine wp_region_held_drew (S := (fun W => W.cell? ⟨w.heap.size, 0, none⟩ = some (.int .i64 next) ∧ W.cell? ⟨w.heap.size, 1, none⟩ = some (.slice a m.length cap) ∧ W.cell? ⟨w.heap.size + 1, 1, none⟩ = some (.int .i64 dir) ∧ W.cell? ⟨w.heap.size + 1, 2, none⟩ = some (.string nm) ∧ Below w1.heap.size w1 W)) (by kernel_rfl) ?_ (fun hHeld => ?_)
 ·try dsimp only
  (go_split_ands; first | exact HALL.out _ (by assumption) | exact HALL.out _ (Below.drew (by assumption)) | exact HALL.out _ (below_step1 (by assumption) (by assumption)))
 change wpAnyH _ _ _ _ _ 8 #[false, false, false, false, false, false, false, false] _ _
 clear hB0
 refine wpH_take (i := 0) (v := ?_) rfl (by kernel_rfl) (by kernel_rfl) (by kernel_rfl) (fun _ _ _ h => h) (by rfl) ?_ (by assumption) ?_; rotate_left; (focus (intro w hSw; (try dsimp only at hSw); go_simp; try with_reducible rfl)); try simp only [Act.put, List.setIfInBounds_toArray, List.set_cons_zero, List.set_cons_succ]
 refine wpH_take (i := 1) (v := ?_) rfl (by kernel_rfl) (by kernel_rfl) (by kernel_rfl) (fun _ _ _ h => h) (by rfl) ?_ (by assumption) ?_; rotate_left; (focus (intro w hSw; (try dsimp only at hSw); go_simp; try with_reducible rfl)); try simp only [Act.put, List.setIfInBounds_toArray, List.set_cons_zero, List.set_cons_succ]
 refine wpH_take (i := 2) (v := ?_) rfl (by kernel_rfl) (by kernel_rfl) (by kernel_rfl) (fun _ _ _ h => h) (by rfl) ?_ (by assumption) ?_; rotate_left; (focus (intro w hSw; (try dsimp only at hSw); go_simp; try with_reducible rfl)); try simp only [Act.put, List.setIfInBounds_toArray, List.set_cons_zero, List.set_cons_succ]
 refine wpH_take (i := 4) (v := ?_) rfl (by kernel_rfl) (by kernel_rfl) (by kernel_rfl) (fun _ _ _ h => h) (by rfl) ?_ (by assumption) ?_; rotate_left; (focus (intro w hSw; (try dsimp only at hSw); go_simp; try with_reducible rfl)); try simp only [Act.put, List.setIfInBounds_toArray, List.set_cons_zero, List.set_cons_succ]
 refine wpH_take (i := 5) (v := ?_) rfl (by kernel_rfl) (by kernel_rfl) (by kernel_rfl) (fun _ _ _ h => h) (by rfl) ?_ (by assumption) ?_; rotate_left; (focus (intro w hSw; (try dsimp only at hSw); go_simp; try with_reducible rfl)); try simp only [Act.put, List.setIfInBounds_toArray, List.set_cons_zero, List.set_cons_succ]
 refine wpAnyH_ready (rs := [3]) (by kernel_rfl) (by simp) ?_
 refine AllReadyH.cons rfl (fun K hK => ?_) AllReadyH.nil
 try dsimp only at hHeld
 go_simp
 (go_at_call 37; refine (HEN.out _ (below_step1 HBX.out.b hHeld.2.2.2.2)).mono ?_; rintro e w7 ⟨rfl, hbk⟩)
 refine hK.out _ _ ?_ (fun hHeld2 => ?_)
 ·try dsimp only
  (go_split_ands; first | exact HALL.out _ (by assumption) | exact HALL.out _ (Below.drew (by assumption)) | exact HALL.out _ (below_step1 (by assumption) (by assumption)))
 clear hK K hHeld
 have hHeld := hHeld2
 clear hHeld2
 clear hbk
 refine wpAnyH_ready (rs := [6]) (by kernel_rfl) (by simp) ?_
 refine AllReadyH.cons rfl (fun K hK => ?_) AllReadyH.nil
 try dsimp only at hHeld
 go_simp
 (go_at_call 36; refine (l5At_any ya _ yc es nm _ (HYR.out _ (below_step1 HBX.out.b hHeld.2.2.2.2)) HSZ.out (by omega)).mono ?_; rintro e w8 ⟨r, rfl, hE, hbk⟩)
 refine hK.out _ _ ?_ (fun hHeld2 => ?_)
 ·try dsimp only
  (go_split_ands; first | exact HALL.out _ (by assumption) | exact HALL.out _ (Below.drew (by assumption)) | exact HALL.out _ (below_step1 (by assumption) (by assumption)))
 clear hK K hHeld
 have hHeld := hHeld2
 clear hHeld2
 clear hbk
 refine wpH_take (i := 7) (v := ?_) rfl (by kernel_rfl) (by kernel_rfl) (by kernel_rfl) (fun _ _ _ h => h) (by rfl) ?_ (by assumption) ?_; rotate_left; (focus (intro w hSw; (try dsimp only at hSw); go_simp; try with_reducible rfl)); try simp only [Act.put, List.setIfInBounds_toArray, List.set_cons_zero, List.set_cons_succ]
 refine wpAnyH_done (by kernel_rfl) ?_ _
 try dsimp only at hHeld
 have HBX2 := Lib.hid (HBX.out.below hHeld.2.2.2.2)
 clear hHeld HALL HBX
 obtain ⟨⟨v0, v1⟩, fv0, fv1⟩ := HBX2.out.v.two
 obtain ⟨c0, c1, c2, c3, c4, c5⟩ := HBX2.out.c.six
 obtain ⟨⟨r0, r1⟩, fr0, fr1⟩ := HBX2.out.r.two
 obtain ⟨⟨s0, s1, s2, s3⟩, fs0, fs1, fs2, fs3⟩ := HBX2.out.s.four
 have hz8 := HBX2.out.size
 rcases hE with ⟨rfl, hno⟩ | ⟨q, hq, rfl, -, -⟩
 rotate_left
 ·have hq0 : (0 : Int) ≤ (q : Int) := by omega
  go_wp2
  exact ret_l6Make (HBX2.out.out _ _ _ _ _ _).1 (by rfl) (by rfl) (by rfl) (HSAME.out _ HBX2.out _ _ _ _)
 have HNO := Lib.hid hno
 clear hno
 go_wp2_with fail
 refine (HEN.out _ HBX2.out.b).mono ?_
 rintro e w3 ⟨rfl, hb⟩
 have HBX3 := Lib.hid (HBX2.out.below hb)
 clear v0 v1 fv0 fv1 c0 c1 c2 c3 c4 c5 r0 r1 fr0 fr1 s0 s1 s2 s3 fs0 fs1 fs2 fs3
 clear hb HBX2
 obtain ⟨⟨v0, v1⟩, fv0, fv1⟩ := HBX3.out.v.two
 obtain ⟨c0, c1, c2, c3, c4, c5⟩ := HBX3.out.c.six
 obtain ⟨⟨r0, r1⟩, fr0, fr1⟩ := HBX3.out.r.two
 obtain ⟨⟨s0, s1, s2, s3⟩, fs0, fs1, fs2, fs3⟩ := HBX3.out.s.four
 have hz3 := HBX3.out.size
 by_cases hf1 : (12 : Int) ≤ (es.length : Int)
 ·go_wp2
  exact ret_l6Make (HBX3.out.out _ _ _ _ _ _).1 (by rfl) (by rfl) (by rfl) (HSAME.out _ HBX3.out _ _ _ _)
 by_cases hf2 : (16 : Int) ≤ (m.length : Int)
 ·go_wp2
  exact ret_l6Make (HBX3.out.out _ _ _ _ _ _).1 (by rfl) (by rfl) (by rfl) (HSAME.out _ HBX3.out _ _ _ _)
 by_cases hf3 : (100000 : Int) ≤ next
 ·go_wp2
  exact ret_l6Make (HBX3.out.out _ _ _ _ _ _).1 (by rfl) (by rfl) (by rfl) (HSAME.out _ HBX3.out _ _ _ _)
 have HPL2 := Lib.hid (HPL.out (by omega) (by omega) (by omega))
 clear HPL
 go_wp2_with fail
 refine (HCP.out _ HBX3.out.b).mono ?_
 rintro e w4 ⟨a', c', m', rfl, hml', hxs', hv⟩
 have HBX4 := Lib.hid (HBX3.out.below hv.below)
 have HV4 := Lib.hid hv
 have hz4 := hv.below.size
 have HMX := Lib.hid (And.intro hml' hxs')
 have HBL4 := Lib.hid (fun q hq => hv.bl q hq)
 clear v0 v1 fv0 fv1 c0 c1 c2 c3 c4 c5 r0 r1 fr0 fr1 s0 s1 s2 s3 fs0 fs1 fs2 fs3
 clear hv hml' hxs'
 obtain ⟨⟨v0, v1⟩, fv0, fv1⟩ := HBX4.out.v.two
 obtain ⟨c0, c1, c2, c3, c4, c5⟩ := HBX4.out.c.six
 obtain ⟨⟨r0, r1⟩, fr0, fr1⟩ := HBX4.out.r.two
 obtain ⟨⟨s0, s1, s2, s3⟩, fs0, fs1, fs2, fs3⟩ := HBX4.out.s.four
 have hq0 : w.heap.size < w4.heap.size := by omega
 have hq1 : w.heap.size + 1 < w4.heap.size := by omega
 have hq2 : w.heap.size + 2 < w4.heap.size := by omega
 have hq3 : w.heap.size + 3 < w4.heap.size := by omega
 have hwn : IntKind.i64.wrap (next + 1) = next + 1 := IntWalk.i64_in _ ⟨by omega, by omega⟩
 by_cases hk2 : kd = 2
 ·have hzN : ((w4.alloc (.cells #[.int .i64 (next + 1), .slice a' m.length c'] 37)).alloc (.cells #[.int .i64 next, .int .i64 2, .int .i64 1, .string ⟨#[]⟩, .slice none 0 0] 49)).heap.size = w4.heap.size + 2 := by simp
  have HYN : Hid (Cs ((w4.alloc (.cells #[.int .i64 (next + 1), .slice a' m.length c'] 37)).alloc (.cells #[.int .i64 next, .int .i64 2, .int .i64 1, .string ⟨#[]⟩, .slice none 0 0] 49)) (w4.heap.size) [.int .i64 (next + 1), .slice a' m.length c']) := Lib.hid ((cs_new w4 37 #[.int .i64 (next + 1), .slice a' m.length c']).alloc _)
  have HNN : Hid (Cs ((w4.alloc (.cells #[.int .i64 (next + 1), .slice a' m.length c'] 37)).alloc (.cells #[.int .i64 next, .int .i64 2, .int .i64 1, .string ⟨#[]⟩, .slice none 0 0] 49)) (w4.heap.size + 1) [.int .i64 next, .int .i64 2, .int .i64 1, .string ⟨#[]⟩, .slice none 0 0]) := Lib.hid (by have := cs_new (w4.alloc (.cells #[.int .i64 (next + 1), .slice a' m.length c'] 37)) 49 #[.int .i64 next, .int .i64 2, .int .i64 1, .string ⟨#[]⟩, .slice none 0 0]; simpa using this)
  have HBN : Hid (Bx w next a m.length cap kd dir nm tt sa dt ((w4.alloc (.cells #[.int .i64 (next + 1), .slice a' m.length c'] 37)).alloc (.cells #[.int .i64 next, .int .i64 2, .int .i64 1, .string ⟨#[]⟩, .slice none 0 0] 49))) := Lib.hid ((HBX4.out.below (boxA w4 (.cells #[.int .i64 (next + 1), .slice a' m.length c'] 37))).below (boxA _ (.cells #[.int .i64 next, .int .i64 2, .int .i64 1, .string ⟨#[]⟩, .slice none 0 0] 49)))
  have HVN : Hid (VolOwn w3.heap.size w3 a' c' m' ((w4.alloc (.cells #[.int .i64 (next + 1), .slice a' m.length c'] 37)).alloc (.cells #[.int .i64 next, .int .i64 2, .int .i64 1, .string ⟨#[]⟩, .slice none 0 0] 49))) := Lib.hid ((HV4.out.alloc (.cells #[.int .i64 (next + 1), .slice a' m.length c'] 37)).alloc (.cells #[.int .i64 next, .int .i64 2, .int .i64 1, .string ⟨#[]⟩, .slice none 0 0] 49))
  have HT6 : Hid (Own 49 5 w3.heap.size w3 (.slice a' m.length c') m.length (ins m') ((w4.alloc (.cells #[.int .i64 (next + 1), .slice a' m.length c'] 37)).alloc (.cells #[.int .i64 next, .int .i64 2, .int .i64 1, .string ⟨#[]⟩, .slice none 0 0] 49))) := Lib.hid (by have h := HVN.out.top; rw [HMX.out.1] at h; exact h)
  have HNX : Hid (∀ V a9 c9, Own 49 5 w3.heap.size w3 (.slice a9 (m.length + 1) c9) (m.length + 1) (ins m' ++ #[.int .i64 next, .int .i64 2, .int .i64 1, .string ⟨#[]⟩, .slice none 0 0].toList) V → ((w4.alloc (.cells #[.int .i64 (next + 1), .slice a' m.length c'] 37)).alloc (.cells #[.int .i64 next, .int .i64 2, .int .i64 1, .string ⟨#[]⟩, .slice none 0 0] 49)).grownBy V (Value.slice a' m.length c').ownBlock → ((Value.slice a9 (m.length + 1) c9).ownBlock = (Value.slice a' m.length c').ownBlock ∨ ∃ q, (Value.slice a9 (m.length + 1) c9).ownBlock = some q ∧ ((w4.alloc (.cells #[.int .i64 (next + 1), .slice a' m.length c'] 37)).alloc (.cells #[.int .i64 next, .int .i64 2, .int .i64 1, .string ⟨#[]⟩, .slice none 0 0] 49)).heap.size ≤ q) →
    Cs V (w4.heap.size) [.int .i64 (next + 1), .slice a' m.length c'] ∧ Cs V (w4.heap.size + 1) [.int .i64 next, .int .i64 2, .int .i64 1, .string ⟨#[]⟩, .slice none 0 0] ∧ Bx w next a m.length cap kd dir nm tt sa dt V ∧ VolOwn w3.heap.size w3 a9 c9 (m' ++ [nIno next 2]) V ∧ (∀ q, VolBl a9 c9 (m' ++ [nIno next 2]) q → q ≠ w4.heap.size ∧ q ≠ w4.heap.size + 1)) := Lib.hid (fun V a9 c9 ho hg hn => by
   have hb : ∀ q, (Value.slice a' m.length c').ownBlock = some q → w3.heap.size ≤ q ∧ q < w4.heap.size := fun q hq => HBL4.out q (.inl (by rw [HMX.out.1]; exact hq))
   refine ⟨HYN.out.grown hg (fun e => by have := hb _ e; omega), HNN.out.grown hg (fun e => by have := hb _ e; omega), HBN.out.grown hg (fun q hq => by have := hb _ hq; omega), ?_, fun q hq => ?_⟩
   ·refine VolOwn.app HVN.out (nIno next 2) ?_ ?_ ?_ ?_
    ·exact own_none (HVN.out.below.grown hg HVN.out.top.base (fun q hq => (hb q hq).1)) (Nat.le_trans HVN.out.top.base hg.size)
    ·rw [HMX.out.1]; exact ho
    ·rw [HMX.out.1]; exact hg
    ·intro z hz q hq e; cases e
   ·rcases hq with hq | ⟨z, hz, hq⟩
    ·rw [List.length_append, HMX.out.1] at hq
     rcases hn with hn | ⟨q2, hn, hlt⟩
     ·have := hb q (by rw [← hn]; exact hq); omega
     ·have : q = q2 := Option.some.inj (hq.symm.trans hn); omega
    ·rcases List.mem_append.1 hz with hz | hz
     ·have := (HBL4.out q (.inr ⟨z, hz, hq⟩)).2; omega
     ·rw [List.mem_singleton] at hz; subst hz; cases hq)
  clear HVN HYN HNN HBN
  go_wp2_with (at_builtin; go_loud (refine wp_app1d rfl _ _ 35 rfl 49 (.agg #[.int .i64 0, .int .i64 0, .int .i64 0, .string ByteArray.empty, .slice none 0 0]) 5 64 Try.underlying35 info_ino rfl (by decide) _ _ _ _ _ (by rfl) (by exact HT6.out) _ _ _ (by rfl) (by first | rfl | simp) (by rfl) (by intro u hu; simp at hu; rcases hu with rfl | rfl | rfl | rfl | rfl <;> rfl) (by omega) (by unfold maxLen; omega) ?_); intro a9 c9 w9 hO9 hG9 hN9; have HQ := Lib.hid (HNX.out _ _ _ hO9 hG9 hN9); obtain ⟨⟨q0, q1⟩, g0, g1⟩ := HQ.out.1.two; have hzT := HQ.out.1.lt; clear hG9 hN9 hO9)
  clear v0 v1 fv0 fv1 c0 c1 c2 c3 c4 c5 r0 r1 fr0 fr1 s0 s1 s2 s3 fs0 fs1 fs2 fs3
  have hg9 : ∃ g9, a9 = some ⟨g9, 0, none⟩ := by
   obtain ⟨g9, cp, e, _⟩ := HQ.out.2.2.2.1.top.shape1 (by rw [List.length_append]; simp)
   exact ⟨g9, by cases e; rfl⟩
  obtain ⟨g9, rfl⟩ := hg9
  have HYP := Lib.hid (HQ.out.1.set 1 (.slice (some ⟨g9, 0, none⟩) (m.length + 1) c9))
  have HNP := Lib.hid (HQ.out.2.1.far (g := w4.heap.size) (j := 1) (u := .slice (some ⟨g9, 0, none⟩) (m.length + 1) c9) (by omega))
  have HBP := Lib.hid (HQ.out.2.2.1.far (w4.heap.size) 1 (.slice (some ⟨g9, 0, none⟩) (m.length + 1) c9) (by omega))
  have HVP := Lib.hid (HQ.out.2.2.2.1.far (w4.heap.size) 1 (.slice (some ⟨g9, 0, none⟩) (m.length + 1) c9) (by omega) (fun q hq => (HQ.out.2.2.2.2 q hq).1))
  have hg9n : g9 ≠ w4.heap.size ∧ g9 ≠ w4.heap.size + 1 := HQ.out.2.2.2.2 g9 (.inl rfl)
  have hg9l : w3.heap.size ≤ g9 := (HQ.out.2.2.2.1.top.blk g9 rfl).1
  clear HQ q0 q1 g0 g1 HT6 HNX
  generalize w9.setCell ⟨w4.heap.size, 1, none⟩ (.slice (some ⟨g9, 0, none⟩) (m.length + 1) c9) = wP at *
  obtain ⟨y', hy', hxe, hat', hinv⟩ := HPL2.out m' HMX.out.1 HMX.out.2 2 (by omega)
  have HINV := Lib.hid hinv
  have HY' := Lib.hid (And.intro hy' hat')
  have HLM : Hid ((m' ++ [nIno next 2]).length = m.length + 1) := Lib.hid (by rw [List.length_append, HMX.out.1]; rfl)
  have HEN2 : Hid (∀ V, Below wP.heap.size wP V → Calls Try.prog 37 #[.agg #[.int .i64 (next + 1), .slice (some ⟨g9, 0, none⟩) (m.length + 1) c9], .int .i64 dir] V fun e w' => e = .returned (.slice y'.ad es.length y'.cap) ∧ Below V.heap.size V w') := Lib.hid (fun V hV => by
   have h := l6Ents_any (next + 1) (some ⟨g9, 0, none⟩) (m' ++ [nIno next 2]).length c9 (m' ++ [nIno next 2]) dir k y' V (HVP.out.kept hV).p hy' hat'
   rw [HLM.out, hxe] at h
   exact h)
  have HYR2 : Hid (∀ V, Below wP.heap.size wP V → Rd V y'.ad es.length y'.cap 4 (ens es)) := Lib.hid (fun V hV => by have h := (HVP.out.kept hV).p.2 y' (List.mem_of_getElem? hy'); rw [hxe] at h; exact h)
  clear hinv hy' hat' hxe
  generalize y'.ad = za at *
  generalize y'.cap = zc at *
  have HALL : Hid (∀ V, Below wP.heap.size wP V → (V.cell? ⟨w4.heap.size, 0, none⟩ = some (.int .i64 (next + 1)) ∧ V.cell? ⟨w4.heap.size, 1, none⟩ = some (.slice (some ⟨g9, 0, none⟩) (m.length + 1) c9) ∧ V.cell? ⟨w.heap.size + 1, 1, none⟩ = some (.int .i64 dir) ∧ V.cell? ⟨w.heap.size + 1, 2, none⟩ = some (.string nm) ∧ V.cell? ⟨w4.heap.size + 1, 0, none⟩ = some (.int .i64 next) ∧ Below wP.heap.size wP V)) := Lib.hid (fun V hV => ⟨(HYP.out.below hV).two.1.1, (HYP.out.below hV).two.1.2, (HBP.out.below hV).c.six.2.1, (HBP.out.below hV).c.six.2.2.1, (HNP.out.below hV).five.1.1, hV⟩)
  have hB0 := Below.refl wP.heap.size wP
  refine wp_region_held_drew (S := (fun V => V.cell? ⟨w4.heap.size, 0, none⟩ = some (.int .i64 (next + 1)) ∧ V.cell? ⟨w4.heap.size, 1, none⟩ = some (.slice (some ⟨g9, 0, none⟩) (m.length + 1) c9) ∧ V.cell? ⟨w.heap.size + 1, 1, none⟩ = some (.int .i64 dir) ∧ V.cell? ⟨w.heap.size + 1, 2, none⟩ = some (.string nm) ∧ V.cell? ⟨w4.heap.size + 1, 0, none⟩ = some (.int .i64 next) ∧ Below wP.heap.size wP V)) (by kernel_rfl) ?_ (fun hHeld => ?_)
  ·try dsimp only
   (go_split_ands; first | exact HALL.out _ (by assumption) | exact HALL.out _ (Below.drew (by assumption)) | exact HALL.out _ (below_step1 (by assumption) (by assumption)))
  change wpAnyH _ _ _ _ _ 14 #[false, false, false, false, false, false, false, false, false, false, false, false, false, false] _ _
  clear hB0
  refine wpH_take (i := 0) (v := ?_) rfl (by kernel_rfl) (by kernel_rfl) (by kernel_rfl) (fun _ _ _ h => h) (by rfl) ?_ (by assumption) ?_; rotate_left; (focus (intro w hSw; (try dsimp only at hSw); go_simp; try with_reducible rfl)); try simp only [Act.put, List.setIfInBounds_toArray, List.set_cons_zero, List.set_cons_succ]
  refine wpH_take (i := 1) (v := ?_) rfl (by kernel_rfl) (by kernel_rfl) (by kernel_rfl) (fun _ _ _ h => h) (by rfl) ?_ (by assumption) ?_; rotate_left; (focus (intro w hSw; (try dsimp only at hSw); go_simp; try with_reducible rfl)); try simp only [Act.put, List.setIfInBounds_toArray, List.set_cons_zero, List.set_cons_succ]
  refine wpH_take (i := 2) (v := ?_) rfl (by kernel_rfl) (by kernel_rfl) (by kernel_rfl) (fun _ _ _ h => h) (by rfl) ?_ (by assumption) ?_; rotate_left; (focus (intro w hSw; (try dsimp only at hSw); go_simp; try with_reducible rfl)); try simp only [Act.put, List.setIfInBounds_toArray, List.set_cons_zero, List.set_cons_succ]
  refine wpH_take (i := 4) (v := ?_) rfl (by kernel_rfl) (by kernel_rfl) (by kernel_rfl) (fun _ _ _ h => h) (by rfl) ?_ (by assumption) ?_; rotate_left; (focus (intro w hSw; (try dsimp only at hSw); go_simp; try with_reducible rfl)); try simp only [Act.put, List.setIfInBounds_toArray, List.set_cons_zero, List.set_cons_succ]
  refine wpH_take (i := 5) (v := ?_) rfl (by kernel_rfl) (by kernel_rfl) (by kernel_rfl) (fun _ _ _ h => h) (by rfl) ?_ (by assumption) ?_; rotate_left; (focus (intro w hSw; (try dsimp only at hSw); go_simp; try with_reducible rfl)); try simp only [Act.put, List.setIfInBounds_toArray, List.set_cons_zero, List.set_cons_succ]
  refine wpH_take (i := 6) (v := ?_) rfl (by kernel_rfl) (by kernel_rfl) (by kernel_rfl) (fun _ _ _ h => h) (by rfl) ?_ (by assumption) ?_; rotate_left; (focus (intro w hSw; (try dsimp only at hSw); go_simp; try with_reducible rfl)); try simp only [Act.put, List.setIfInBounds_toArray, List.set_cons_zero, List.set_cons_succ]
  refine wpH_take (i := 7) (v := ?_) rfl (by kernel_rfl) (by kernel_rfl) (by kernel_rfl) (fun _ _ _ h => h) (by rfl) ?_ (by assumption) ?_; rotate_left; (focus (intro w hSw; (try dsimp only at hSw); go_simp; try with_reducible rfl)); try simp only [Act.put, List.setIfInBounds_toArray, List.set_cons_zero, List.set_cons_succ]
  refine wpAnyH_ready (rs := [3]) (by kernel_rfl) (by simp) ?_
  refine AllReadyH.cons rfl (fun K hK => ?_) AllReadyH.nil
  try dsimp only at hHeld
  go_simp
  (go_at_call 37; refine (HEN2.out _ hHeld.2.2.2.2.2).mono ?_; rintro e w10 ⟨rfl, hbk⟩)
  refine hK.out _ _ ?_ (fun hHeld2 => ?_)
  ·try dsimp only
   (go_split_ands; first | exact HALL.out _ (by assumption) | exact HALL.out _ (Below.drew (by assumption)) | exact HALL.out _ (below_step1 (by assumption) (by assumption)))
  clear hK K hHeld
  have hHeld := hHeld2
  clear hHeld2
  clear hbk
  refine wpAnyH_ready (rs := [8]) (by kernel_rfl) (by simp) ?_
  refine AllReadyH.cons rfl (fun K hK => ?_) AllReadyH.nil
  try dsimp only at hHeld
  go_simp
  (go_at_call 38; refine (l5AddX_any za zc es nm next _ (HYR2.out _ hHeld.2.2.2.2.2) HSZ.out (by omega) (by omega) (by omega) HNB.out HNO.out (by omega)).mono ?_; rintro e w11 ⟨out, h0, k0, ga, ca, rfl, hperm, hOE⟩; have hbk := hOE.below; have hbb := hHeld.2.2.2.2.2)
  refine hK.out _ _ ?_ (fun hHeld2 => ?_)
  ·try dsimp only
   (go_split_ands; first | exact HALL.out _ (by assumption) | exact HALL.out _ (Below.drew (by assumption)) | exact HALL.out _ (below_step1 (by assumption) (by assumption)))
  clear hK K hHeld
  have hHeld := hHeld2
  clear hHeld2
  have HOE := Lib.hid (own_down hOE (show w3.heap.size ≤ _ from Nat.le_trans HVP.out.top.base hbb.size) (HVP.out.below.trans (hbb.mono HVP.out.top.base)) (Nat.le_trans HVP.out.top.base hbb.size))
  have HAP : Hid (Apart1 (m' ++ [nIno next 2]) k (.slice ga out.length ca)) := Lib.hid (apart1_new (HVP.out.kept hbb) k (fun q hq => (hOE.blk q hq).1))
  have HPM := Lib.hid hperm
  clear hbk hbb hOE hperm
  refine wpH_take (i := 9) (v := ?_) rfl (by kernel_rfl) (by kernel_rfl) (by kernel_rfl) (fun _ _ _ h => h) (by rfl) ?_ (by assumption) ?_; rotate_left; (focus (intro w hSw; (try dsimp only at hSw); go_simp; try with_reducible rfl)); try simp only [Act.put, List.setIfInBounds_toArray, List.set_cons_zero, List.set_cons_succ]
  refine wpH_take (i := 10) (v := ?_) rfl (by kernel_rfl) (by kernel_rfl) (by kernel_rfl) (fun _ _ _ h => h) (by rfl) ?_ (by assumption) ?_; rotate_left; (focus (intro w hSw; (try dsimp only at hSw); go_simp; try with_reducible rfl)); try simp only [Act.put, List.setIfInBounds_toArray, List.set_cons_zero, List.set_cons_succ]
  refine wpH_take (i := 11) (v := ?_) rfl (by kernel_rfl) (by kernel_rfl) (by kernel_rfl) (fun _ _ _ h => h) (by rfl) ?_ (by assumption) ?_; rotate_left; (focus (intro w hSw; (try dsimp only at hSw); go_simp; try with_reducible rfl)); try simp only [Act.put, List.setIfInBounds_toArray, List.set_cons_zero, List.set_cons_succ]
  refine wpH_take (i := 12) (v := ?_) rfl (by kernel_rfl) (by kernel_rfl) (by kernel_rfl) (fun _ _ _ h => h) (by rfl) ?_ (by assumption) ?_; rotate_left; (focus (intro w hSw; (try dsimp only at hSw); go_simp; try with_reducible rfl)); try simp only [Act.put, List.setIfInBounds_toArray, List.set_cons_zero, List.set_cons_succ]
  refine wpH_take (i := 13) (v := ?_) rfl (by kernel_rfl) (by kernel_rfl) (by kernel_rfl) (fun _ _ _ h => h) (by rfl) ?_ (by assumption) ?_; rotate_left; (focus (intro w hSw; (try dsimp only at hSw); go_simp; try with_reducible rfl)); try simp only [Act.put, List.setIfInBounds_toArray, List.set_cons_zero, List.set_cons_succ]
  refine wpAnyH_done (by kernel_rfl) ?_ _
  try dsimp only at hHeld
  have HBB := Lib.hid hHeld.2.2.2.2.2
  clear hHeld HALL HEN2 HYR2
  have HYQ := Lib.hid (HYP.out.below HBB.out)
  have HNQ := Lib.hid (HNP.out.below HBB.out)
  have HBQ := Lib.hid (HBP.out.below HBB.out)
  have HVQ := Lib.hid (HVP.out.kept HBB.out)
  clear HYP HNP HBP HVP HBB
  go_wp2
  have HALL2 : Hid (∀ V, Below w11.heap.size w11 V → (V.cell? ⟨w4.heap.size, 0, none⟩ = some (.int .i64 (next + 1)) ∧ V.cell? ⟨w4.heap.size, 1, none⟩ = some (.slice (some ⟨g9, 0, none⟩) (m.length + 1) c9) ∧ V.cell? ⟨w.heap.size + 1, 1, none⟩ = some (.int .i64 dir) ∧ V.cell? ⟨w4.heap.size + 1, 0, none⟩ = some (.int .i64 next))) := Lib.hid (fun V hV => ⟨(HYQ.out.below hV).two.1.1, (HYQ.out.below hV).two.1.2, (HBQ.out.below hV).c.six.2.1, (HNQ.out.below hV).five.1.1⟩)
  refine wp_region_held_drew (S := (fun V => V.cell? ⟨w4.heap.size, 0, none⟩ = some (.int .i64 (next + 1)) ∧ V.cell? ⟨w4.heap.size, 1, none⟩ = some (.slice (some ⟨g9, 0, none⟩) (m.length + 1) c9) ∧ V.cell? ⟨w.heap.size + 1, 1, none⟩ = some (.int .i64 dir) ∧ V.cell? ⟨w4.heap.size + 1, 0, none⟩ = some (.int .i64 next))) (by kernel_rfl) ?_ (fun hHeld => ?_)
  ·try dsimp only
   exact HALL2.out _ (Below.refl _ _).drew
  change wpAnyH _ _ _ _ _ 10 #[false, false, false, false, false, false, false, false, false, false] _ _
  refine wpH_take (i := 0) (v := ?_) rfl (by kernel_rfl) (by kernel_rfl) (by kernel_rfl) (fun _ _ _ h => h) (by rfl) ?_ (by assumption) ?_; rotate_left; (focus (intro w hSw; (try dsimp only at hSw); go_simp; try with_reducible rfl)); try simp only [Act.put, List.setIfInBounds_toArray, List.set_cons_zero, List.set_cons_succ]
  refine wpH_take (i := 1) (v := ?_) rfl (by kernel_rfl) (by kernel_rfl) (by kernel_rfl) (fun _ _ _ h => h) (by rfl) ?_ (by assumption) ?_; rotate_left; (focus (intro w hSw; (try dsimp only at hSw); go_simp; try with_reducible rfl)); try simp only [Act.put, List.setIfInBounds_toArray, List.set_cons_zero, List.set_cons_succ]
  refine wpH_take (i := 2) (v := ?_) rfl (by kernel_rfl) (by kernel_rfl) (by kernel_rfl) (fun _ _ _ h => h) (by rfl) ?_ (by assumption) ?_; rotate_left; (focus (intro w hSw; (try dsimp only at hSw); go_simp; try with_reducible rfl)); try simp only [Act.put, List.setIfInBounds_toArray, List.set_cons_zero, List.set_cons_succ]
  refine wpH_take (i := 3) (v := ?_) rfl (by kernel_rfl) (by kernel_rfl) (by kernel_rfl) (fun _ _ _ h => h) (by rfl) ?_ (by assumption) ?_; rotate_left; (focus (intro w hSw; (try dsimp only at hSw); go_simp; try with_reducible rfl)); try simp only [Act.put, List.setIfInBounds_toArray, List.set_cons_zero, List.set_cons_succ]
  refine wpH_take (i := 5) (v := ?_) rfl (by kernel_rfl) (by kernel_rfl) (by kernel_rfl) (fun _ _ _ h => h) (by rfl) ?_ (by assumption) ?_; rotate_left; (focus (intro w hSw; (try dsimp only at hSw); go_simp; try with_reducible rfl)); try simp only [Act.put, List.setIfInBounds_toArray, List.set_cons_zero, List.set_cons_succ]
  refine wpH_take (i := 6) (v := ?_) rfl (by kernel_rfl) (by kernel_rfl) (by kernel_rfl) (fun _ _ _ h => h) (by rfl) ?_ (by assumption) ?_; rotate_left; (focus (intro w hSw; (try dsimp only at hSw); go_simp; try with_reducible rfl)); try simp only [Act.put, List.setIfInBounds_toArray, List.set_cons_zero, List.set_cons_succ]
  refine wpH_take (i := 7) (v := ?_) rfl (by kernel_rfl) (by kernel_rfl) (by kernel_rfl) (fun _ _ _ h => h) (by rfl) ?_ (by assumption) ?_; rotate_left; (focus (intro w hSw; (try dsimp only at hSw); go_simp; try with_reducible rfl)); try simp only [Act.put, List.setIfInBounds_toArray, List.set_cons_zero, List.set_cons_succ]
  refine wpAnyH_ready (rs := [4]) (by kernel_rfl) (by simp) ?_
  refine AllReadyH.cons rfl (fun K hK => ?_) AllReadyH.nil
  try dsimp only at hHeld
  go_simp
  (go_at_call 39; have hcon := l6With_any w3.heap.size w3 (next + 1) g9 c9 (m' ++ [nIno next 2]) dir k y' ga ca out _ (HVQ.out.drew) HY'.out.1 HY'.out.2 (HOE.out.drew) HAP.out; rw [HLM.out] at hcon; refine hcon.mono ?_; clear hcon; rintro e w13 ⟨rfl, hv13, hgr⟩)
  refine hK.out _ _ ?_ (fun hHeld2 => ?_)
  ·try dsimp only
   exact ⟨cellq_grown hHeld.1 hgr (by simp; omega), cellq_grown hHeld.2.1 hgr (by simp; omega), cellq_grown hHeld.2.2.1 hgr (by simp; omega), cellq_grown hHeld.2.2.2 hgr (by simp; omega)⟩
  clear hK K hHeld
  have hHeld := hHeld2
  clear hHeld2
  have HBR := Lib.hid ((HBQ.out.below (Below.refl _ _).drew).grown hgr (fun q hq => by cases hq; omega))
  have HVR := Lib.hid hv13
  clear hgr hv13
  obtain ⟨⟨v0, v1⟩, fv0, fv1⟩ := HBR.out.v.two
  obtain ⟨c0, c1, c2, c3, c4, c5⟩ := HBR.out.c.six
  obtain ⟨⟨r0, r1⟩, fr0, fr1⟩ := HBR.out.r.two
  obtain ⟨⟨s0, s1, s2, s3⟩, fs0, fs1, fs2, fs3⟩ := HBR.out.s.four
  refine wpAnyH_ready (rs := [8]) (by kernel_rfl) (by simp) ?_
  refine AllReadyH.cons rfl (fun K hK => ?_) AllReadyH.nil
  try dsimp only at hHeld
  go_simp
  skip
  refine hK.out _ _ ?_ (fun hHeld2 => ?_)
  ·try dsimp only
   exact ⟨cellq_far (cellq_far hHeld.1 (by omega)) (by omega), cellq_far (cellq_far hHeld.2.1 (by omega)) (by omega), cellq_far (cellq_far hHeld.2.2.1 (by omega)) (by omega), cellq_far (cellq_far hHeld.2.2.2 (by omega)) (by omega)⟩
  clear hK K hHeld
  have hHeld := hHeld2
  clear hHeld2
  refine wpAnyH_ready (rs := [9]) (by kernel_rfl) (by simp) ?_
  refine AllReadyH.cons rfl (fun K hK => ?_) AllReadyH.nil
  try dsimp only at hHeld
  go_simp
  skip
  refine hK.out _ _ ?_ (fun hHeld2 => ?_)
  ·try dsimp only
   exact ⟨cellq_far (cellq_far (cellq_far (cellq_far hHeld.1 (by omega)) (by omega)) (by omega)) (by omega), cellq_far (cellq_far (cellq_far (cellq_far hHeld.2.1 (by omega)) (by omega)) (by omega)) (by omega), cellq_far (cellq_far (cellq_far (cellq_far hHeld.2.2.1 (by omega)) (by omega)) (by omega)) (by omega), cellq_far (cellq_far (cellq_far (cellq_far hHeld.2.2.2 (by omega)) (by omega)) (by omega)) (by omega)⟩
  clear hK K hHeld
  have hHeld := hHeld2
  clear hHeld2
  refine wpAnyH_done (by kernel_rfl) ?_ _
  try dsimp only at hHeld
  clear hHeld HALL2
  clear v0 v1 fv0 fv1 c0 c1 c2 c3 c4 c5 r0 r1 fr0 fr1 s0 s1 s2 s3 fs0 fs1 fs2 fs3
  have HFIN := HBX3.out.new (Q := VolBl a cap m) HBR.out hBw HVR.out (HINV.out out ⟨h0, k0, nm, next⟩ ga ca HPM.out rfl (by show nm.size ≤ 1073741824; omega)) 0 next ⟨#[]⟩ ⟨#[]⟩
  rw [List.length_set, HLM.out] at HFIN
  replace HFIN := Lib.hid HFIN
  go_wp2
  exact ret_l6Make (HBR.out.out _ _ _ _ _ _).1 (by rfl) (by rfl) (by rfl) HFIN.out
 ·have hzN : ((w4.alloc (.cells #[.int .i64 (next + 1), .slice a' m.length c'] 37)).alloc (.cells #[.int .i64 next, .int .i64 1, .int .i64 1, .string ⟨#[]⟩, .slice none 0 0] 49)).heap.size = w4.heap.size + 2 := by simp
  have HYN : Hid (Cs ((w4.alloc (.cells #[.int .i64 (next + 1), .slice a' m.length c'] 37)).alloc (.cells #[.int .i64 next, .int .i64 1, .int .i64 1, .string ⟨#[]⟩, .slice none 0 0] 49)) (w4.heap.size) [.int .i64 (next + 1), .slice a' m.length c']) := Lib.hid ((cs_new w4 37 #[.int .i64 (next + 1), .slice a' m.length c']).alloc _)
  have HNN : Hid (Cs ((w4.alloc (.cells #[.int .i64 (next + 1), .slice a' m.length c'] 37)).alloc (.cells #[.int .i64 next, .int .i64 1, .int .i64 1, .string ⟨#[]⟩, .slice none 0 0] 49)) (w4.heap.size + 1) [.int .i64 next, .int .i64 1, .int .i64 1, .string ⟨#[]⟩, .slice none 0 0]) := Lib.hid (by have := cs_new (w4.alloc (.cells #[.int .i64 (next + 1), .slice a' m.length c'] 37)) 49 #[.int .i64 next, .int .i64 1, .int .i64 1, .string ⟨#[]⟩, .slice none 0 0]; simpa using this)
  have HBN : Hid (Bx w next a m.length cap kd dir nm tt sa dt ((w4.alloc (.cells #[.int .i64 (next + 1), .slice a' m.length c'] 37)).alloc (.cells #[.int .i64 next, .int .i64 1, .int .i64 1, .string ⟨#[]⟩, .slice none 0 0] 49))) := Lib.hid ((HBX4.out.below (boxA w4 (.cells #[.int .i64 (next + 1), .slice a' m.length c'] 37))).below (boxA _ (.cells #[.int .i64 next, .int .i64 1, .int .i64 1, .string ⟨#[]⟩, .slice none 0 0] 49)))
  have HVN : Hid (VolOwn w3.heap.size w3 a' c' m' ((w4.alloc (.cells #[.int .i64 (next + 1), .slice a' m.length c'] 37)).alloc (.cells #[.int .i64 next, .int .i64 1, .int .i64 1, .string ⟨#[]⟩, .slice none 0 0] 49))) := Lib.hid ((HV4.out.alloc (.cells #[.int .i64 (next + 1), .slice a' m.length c'] 37)).alloc (.cells #[.int .i64 next, .int .i64 1, .int .i64 1, .string ⟨#[]⟩, .slice none 0 0] 49))
  have HT6 : Hid (Own 49 5 w3.heap.size w3 (.slice a' m.length c') m.length (ins m') ((w4.alloc (.cells #[.int .i64 (next + 1), .slice a' m.length c'] 37)).alloc (.cells #[.int .i64 next, .int .i64 1, .int .i64 1, .string ⟨#[]⟩, .slice none 0 0] 49))) := Lib.hid (by have h := HVN.out.top; rw [HMX.out.1] at h; exact h)
  have HNX : Hid (∀ V a9 c9, Own 49 5 w3.heap.size w3 (.slice a9 (m.length + 1) c9) (m.length + 1) (ins m' ++ #[.int .i64 next, .int .i64 1, .int .i64 1, .string ⟨#[]⟩, .slice none 0 0].toList) V → ((w4.alloc (.cells #[.int .i64 (next + 1), .slice a' m.length c'] 37)).alloc (.cells #[.int .i64 next, .int .i64 1, .int .i64 1, .string ⟨#[]⟩, .slice none 0 0] 49)).grownBy V (Value.slice a' m.length c').ownBlock → ((Value.slice a9 (m.length + 1) c9).ownBlock = (Value.slice a' m.length c').ownBlock ∨ ∃ q, (Value.slice a9 (m.length + 1) c9).ownBlock = some q ∧ ((w4.alloc (.cells #[.int .i64 (next + 1), .slice a' m.length c'] 37)).alloc (.cells #[.int .i64 next, .int .i64 1, .int .i64 1, .string ⟨#[]⟩, .slice none 0 0] 49)).heap.size ≤ q) →
    Cs V (w4.heap.size) [.int .i64 (next + 1), .slice a' m.length c'] ∧ Cs V (w4.heap.size + 1) [.int .i64 next, .int .i64 1, .int .i64 1, .string ⟨#[]⟩, .slice none 0 0] ∧ Bx w next a m.length cap kd dir nm tt sa dt V ∧ VolOwn w3.heap.size w3 a9 c9 (m' ++ [nIno next 1]) V ∧ (∀ q, VolBl a9 c9 (m' ++ [nIno next 1]) q → q ≠ w4.heap.size ∧ q ≠ w4.heap.size + 1)) := Lib.hid (fun V a9 c9 ho hg hn => by
   have hb : ∀ q, (Value.slice a' m.length c').ownBlock = some q → w3.heap.size ≤ q ∧ q < w4.heap.size := fun q hq => HBL4.out q (.inl (by rw [HMX.out.1]; exact hq))
   refine ⟨HYN.out.grown hg (fun e => by have := hb _ e; omega), HNN.out.grown hg (fun e => by have := hb _ e; omega), HBN.out.grown hg (fun q hq => by have := hb _ hq; omega), ?_, fun q hq => ?_⟩
   ·refine VolOwn.app HVN.out (nIno next 1) ?_ ?_ ?_ ?_
    ·exact own_none (HVN.out.below.grown hg HVN.out.top.base (fun q hq => (hb q hq).1)) (Nat.le_trans HVN.out.top.base hg.size)
    ·rw [HMX.out.1]; exact ho
    ·rw [HMX.out.1]; exact hg
    ·intro z hz q hq e; cases e
   ·rcases hq with hq | ⟨z, hz, hq⟩
    ·rw [List.length_append, HMX.out.1] at hq
     rcases hn with hn | ⟨q2, hn, hlt⟩
     ·have := hb q (by rw [← hn]; exact hq); omega
     ·have : q = q2 := Option.some.inj (hq.symm.trans hn); omega
    ·rcases List.mem_append.1 hz with hz | hz
     ·have := (HBL4.out q (.inr ⟨z, hz, hq⟩)).2; omega
     ·rw [List.mem_singleton] at hz; subst hz; cases hq)
  clear HVN HYN HNN HBN
  go_wp2_with (at_builtin; go_loud (refine wp_app1d rfl _ _ 35 rfl 49 (.agg #[.int .i64 0, .int .i64 0, .int .i64 0, .string ByteArray.empty, .slice none 0 0]) 5 64 Try.underlying35 info_ino rfl (by decide) _ _ _ _ _ (by rfl) (by exact HT6.out) _ _ _ (by rfl) (by first | rfl | simp) (by rfl) (by intro u hu; simp at hu; rcases hu with rfl | rfl | rfl | rfl | rfl <;> rfl) (by omega) (by unfold maxLen; omega) ?_); intro a9 c9 w9 hO9 hG9 hN9; have HQ := Lib.hid (HNX.out _ _ _ hO9 hG9 hN9); obtain ⟨⟨q0, q1⟩, g0, g1⟩ := HQ.out.1.two; have hzT := HQ.out.1.lt; clear hG9 hN9 hO9)
  clear v0 v1 fv0 fv1 c0 c1 c2 c3 c4 c5 r0 r1 fr0 fr1 s0 s1 s2 s3 fs0 fs1 fs2 fs3
  have hg9 : ∃ g9, a9 = some ⟨g9, 0, none⟩ := by
   obtain ⟨g9, cp, e, _⟩ := HQ.out.2.2.2.1.top.shape1 (by rw [List.length_append]; simp)
   exact ⟨g9, by cases e; rfl⟩
  obtain ⟨g9, rfl⟩ := hg9
  have HYP := Lib.hid (HQ.out.1.set 1 (.slice (some ⟨g9, 0, none⟩) (m.length + 1) c9))
  have HNP := Lib.hid (HQ.out.2.1.far (g := w4.heap.size) (j := 1) (u := .slice (some ⟨g9, 0, none⟩) (m.length + 1) c9) (by omega))
  have HBP := Lib.hid (HQ.out.2.2.1.far (w4.heap.size) 1 (.slice (some ⟨g9, 0, none⟩) (m.length + 1) c9) (by omega))
  have HVP := Lib.hid (HQ.out.2.2.2.1.far (w4.heap.size) 1 (.slice (some ⟨g9, 0, none⟩) (m.length + 1) c9) (by omega) (fun q hq => (HQ.out.2.2.2.2 q hq).1))
  have hg9n : g9 ≠ w4.heap.size ∧ g9 ≠ w4.heap.size + 1 := HQ.out.2.2.2.2 g9 (.inl rfl)
  have hg9l : w3.heap.size ≤ g9 := (HQ.out.2.2.2.1.top.blk g9 rfl).1
  clear HQ q0 q1 g0 g1 HT6 HNX
  generalize w9.setCell ⟨w4.heap.size, 1, none⟩ (.slice (some ⟨g9, 0, none⟩) (m.length + 1) c9) = wP at *
  obtain ⟨y', hy', hxe, hat', hinv⟩ := HPL2.out m' HMX.out.1 HMX.out.2 1 (by omega)
  have HINV := Lib.hid hinv
  have HY' := Lib.hid (And.intro hy' hat')
  have HLM : Hid ((m' ++ [nIno next 1]).length = m.length + 1) := Lib.hid (by rw [List.length_append, HMX.out.1]; rfl)
  have HEN2 : Hid (∀ V, Below wP.heap.size wP V → Calls Try.prog 37 #[.agg #[.int .i64 (next + 1), .slice (some ⟨g9, 0, none⟩) (m.length + 1) c9], .int .i64 dir] V fun e w' => e = .returned (.slice y'.ad es.length y'.cap) ∧ Below V.heap.size V w') := Lib.hid (fun V hV => by
   have h := l6Ents_any (next + 1) (some ⟨g9, 0, none⟩) (m' ++ [nIno next 1]).length c9 (m' ++ [nIno next 1]) dir k y' V (HVP.out.kept hV).p hy' hat'
   rw [HLM.out, hxe] at h
   exact h)
  have HYR2 : Hid (∀ V, Below wP.heap.size wP V → Rd V y'.ad es.length y'.cap 4 (ens es)) := Lib.hid (fun V hV => by have h := (HVP.out.kept hV).p.2 y' (List.mem_of_getElem? hy'); rw [hxe] at h; exact h)
  clear hinv hy' hat' hxe
  generalize y'.ad = za at *
  generalize y'.cap = zc at *
  have HALL : Hid (∀ V, Below wP.heap.size wP V → (V.cell? ⟨w4.heap.size, 0, none⟩ = some (.int .i64 (next + 1)) ∧ V.cell? ⟨w4.heap.size, 1, none⟩ = some (.slice (some ⟨g9, 0, none⟩) (m.length + 1) c9) ∧ V.cell? ⟨w.heap.size + 1, 1, none⟩ = some (.int .i64 dir) ∧ V.cell? ⟨w.heap.size + 1, 2, none⟩ = some (.string nm) ∧ V.cell? ⟨w4.heap.size + 1, 0, none⟩ = some (.int .i64 next) ∧ Below wP.heap.size wP V)) := Lib.hid (fun V hV => ⟨(HYP.out.below hV).two.1.1, (HYP.out.below hV).two.1.2, (HBP.out.below hV).c.six.2.1, (HBP.out.below hV).c.six.2.2.1, (HNP.out.below hV).five.1.1, hV⟩)
  have hB0 := Below.refl wP.heap.size wP
  refine wp_region_held_drew (S := (fun V => V.cell? ⟨w4.heap.size, 0, none⟩ = some (.int .i64 (next + 1)) ∧ V.cell? ⟨w4.heap.size, 1, none⟩ = some (.slice (some ⟨g9, 0, none⟩) (m.length + 1) c9) ∧ V.cell? ⟨w.heap.size + 1, 1, none⟩ = some (.int .i64 dir) ∧ V.cell? ⟨w.heap.size + 1, 2, none⟩ = some (.string nm) ∧ V.cell? ⟨w4.heap.size + 1, 0, none⟩ = some (.int .i64 next) ∧ Below wP.heap.size wP V)) (by kernel_rfl) ?_ (fun hHeld => ?_)
  ·try dsimp only
   (go_split_ands; first | exact HALL.out _ (by assumption) | exact HALL.out _ (Below.drew (by assumption)) | exact HALL.out _ (below_step1 (by assumption) (by assumption)))
  change wpAnyH _ _ _ _ _ 14 #[false, false, false, false, false, false, false, false, false, false, false, false, false, false] _ _
  clear hB0
  refine wpH_take (i := 0) (v := ?_) rfl (by kernel_rfl) (by kernel_rfl) (by kernel_rfl) (fun _ _ _ h => h) (by rfl) ?_ (by assumption) ?_; rotate_left; (focus (intro w hSw; (try dsimp only at hSw); go_simp; try with_reducible rfl)); try simp only [Act.put, List.setIfInBounds_toArray, List.set_cons_zero, List.set_cons_succ]
  refine wpH_take (i := 1) (v := ?_) rfl (by kernel_rfl) (by kernel_rfl) (by kernel_rfl) (fun _ _ _ h => h) (by rfl) ?_ (by assumption) ?_; rotate_left; (focus (intro w hSw; (try dsimp only at hSw); go_simp; try with_reducible rfl)); try simp only [Act.put, List.setIfInBounds_toArray, List.set_cons_zero, List.set_cons_succ]
  refine wpH_take (i := 2) (v := ?_) rfl (by kernel_rfl) (by kernel_rfl) (by kernel_rfl) (fun _ _ _ h => h) (by rfl) ?_ (by assumption) ?_; rotate_left; (focus (intro w hSw; (try dsimp only at hSw); go_simp; try with_reducible rfl)); try simp only [Act.put, List.setIfInBounds_toArray, List.set_cons_zero, List.set_cons_succ]
  refine wpH_take (i := 4) (v := ?_) rfl (by kernel_rfl) (by kernel_rfl) (by kernel_rfl) (fun _ _ _ h => h) (by rfl) ?_ (by assumption) ?_; rotate_left; (focus (intro w hSw; (try dsimp only at hSw); go_simp; try with_reducible rfl)); try simp only [Act.put, List.setIfInBounds_toArray, List.set_cons_zero, List.set_cons_succ]
  refine wpH_take (i := 5) (v := ?_) rfl (by kernel_rfl) (by kernel_rfl) (by kernel_rfl) (fun _ _ _ h => h) (by rfl) ?_ (by assumption) ?_; rotate_left; (focus (intro w hSw; (try dsimp only at hSw); go_simp; try with_reducible rfl)); try simp only [Act.put, List.setIfInBounds_toArray, List.set_cons_zero, List.set_cons_succ]
  refine wpH_take (i := 6) (v := ?_) rfl (by kernel_rfl) (by kernel_rfl) (by kernel_rfl) (fun _ _ _ h => h) (by rfl) ?_ (by assumption) ?_; rotate_left; (focus (intro w hSw; (try dsimp only at hSw); go_simp; try with_reducible rfl)); try simp only [Act.put, List.setIfInBounds_toArray, List.set_cons_zero, List.set_cons_succ]
  refine wpH_take (i := 7) (v := ?_) rfl (by kernel_rfl) (by kernel_rfl) (by kernel_rfl) (fun _ _ _ h => h) (by rfl) ?_ (by assumption) ?_; rotate_left; (focus (intro w hSw; (try dsimp only at hSw); go_simp; try with_reducible rfl)); try simp only [Act.put, List.setIfInBounds_toArray, List.set_cons_zero, List.set_cons_succ]
  refine wpAnyH_ready (rs := [3]) (by kernel_rfl) (by simp) ?_
  refine AllReadyH.cons rfl (fun K hK => ?_) AllReadyH.nil
  try dsimp only at hHeld
  go_simp
  (go_at_call 37; refine (HEN2.out _ hHeld.2.2.2.2.2).mono ?_; rintro e w10 ⟨rfl, hbk⟩)
  refine hK.out _ _ ?_ (fun hHeld2 => ?_)
  ·try dsimp only
   (go_split_ands; first | exact HALL.out _ (by assumption) | exact HALL.out _ (Below.drew (by assumption)) | exact HALL.out _ (below_step1 (by assumption) (by assumption)))
  clear hK K hHeld
  have hHeld := hHeld2
  clear hHeld2
  clear hbk
  refine wpAnyH_ready (rs := [8]) (by kernel_rfl) (by simp) ?_
  refine AllReadyH.cons rfl (fun K hK => ?_) AllReadyH.nil
  try dsimp only at hHeld
  go_simp
  (go_at_call 38; refine (l5AddX_any za zc es nm next _ (HYR2.out _ hHeld.2.2.2.2.2) HSZ.out (by omega) (by omega) (by omega) HNB.out HNO.out (by omega)).mono ?_; rintro e w11 ⟨out, h0, k0, ga, ca, rfl, hperm, hOE⟩; have hbk := hOE.below; have hbb := hHeld.2.2.2.2.2)
  refine hK.out _ _ ?_ (fun hHeld2 => ?_)
  ·try dsimp only
   (go_split_ands; first | exact HALL.out _ (by assumption) | exact HALL.out _ (Below.drew (by assumption)) | exact HALL.out _ (below_step1 (by assumption) (by assumption)))
  clear hK K hHeld
  have hHeld := hHeld2
  clear hHeld2
  have HOE := Lib.hid (own_down hOE (show w3.heap.size ≤ _ from Nat.le_trans HVP.out.top.base hbb.size) (HVP.out.below.trans (hbb.mono HVP.out.top.base)) (Nat.le_trans HVP.out.top.base hbb.size))
  have HAP : Hid (Apart1 (m' ++ [nIno next 1]) k (.slice ga out.length ca)) := Lib.hid (apart1_new (HVP.out.kept hbb) k (fun q hq => (hOE.blk q hq).1))
  have HPM := Lib.hid hperm
  clear hbk hbb hOE hperm
  refine wpH_take (i := 9) (v := ?_) rfl (by kernel_rfl) (by kernel_rfl) (by kernel_rfl) (fun _ _ _ h => h) (by rfl) ?_ (by assumption) ?_; rotate_left; (focus (intro w hSw; (try dsimp only at hSw); go_simp; try with_reducible rfl)); try simp only [Act.put, List.setIfInBounds_toArray, List.set_cons_zero, List.set_cons_succ]
  refine wpH_take (i := 10) (v := ?_) rfl (by kernel_rfl) (by kernel_rfl) (by kernel_rfl) (fun _ _ _ h => h) (by rfl) ?_ (by assumption) ?_; rotate_left; (focus (intro w hSw; (try dsimp only at hSw); go_simp; try with_reducible rfl)); try simp only [Act.put, List.setIfInBounds_toArray, List.set_cons_zero, List.set_cons_succ]
  refine wpH_take (i := 11) (v := ?_) rfl (by kernel_rfl) (by kernel_rfl) (by kernel_rfl) (fun _ _ _ h => h) (by rfl) ?_ (by assumption) ?_; rotate_left; (focus (intro w hSw; (try dsimp only at hSw); go_simp; try with_reducible rfl)); try simp only [Act.put, List.setIfInBounds_toArray, List.set_cons_zero, List.set_cons_succ]
  refine wpH_take (i := 12) (v := ?_) rfl (by kernel_rfl) (by kernel_rfl) (by kernel_rfl) (fun _ _ _ h => h) (by rfl) ?_ (by assumption) ?_; rotate_left; (focus (intro w hSw; (try dsimp only at hSw); go_simp; try with_reducible rfl)); try simp only [Act.put, List.setIfInBounds_toArray, List.set_cons_zero, List.set_cons_succ]
  refine wpH_take (i := 13) (v := ?_) rfl (by kernel_rfl) (by kernel_rfl) (by kernel_rfl) (fun _ _ _ h => h) (by rfl) ?_ (by assumption) ?_; rotate_left; (focus (intro w hSw; (try dsimp only at hSw); go_simp; try with_reducible rfl)); try simp only [Act.put, List.setIfInBounds_toArray, List.set_cons_zero, List.set_cons_succ]
  refine wpAnyH_done (by kernel_rfl) ?_ _
  try dsimp only at hHeld
  have HBB := Lib.hid hHeld.2.2.2.2.2
  clear hHeld HALL HEN2 HYR2
  have HYQ := Lib.hid (HYP.out.below HBB.out)
  have HNQ := Lib.hid (HNP.out.below HBB.out)
  have HBQ := Lib.hid (HBP.out.below HBB.out)
  have HVQ := Lib.hid (HVP.out.kept HBB.out)
  clear HYP HNP HBP HVP HBB
  go_wp2
  have HALL2 : Hid (∀ V, Below w11.heap.size w11 V → (V.cell? ⟨w4.heap.size, 0, none⟩ = some (.int .i64 (next + 1)) ∧ V.cell? ⟨w4.heap.size, 1, none⟩ = some (.slice (some ⟨g9, 0, none⟩) (m.length + 1) c9) ∧ V.cell? ⟨w.heap.size + 1, 1, none⟩ = some (.int .i64 dir) ∧ V.cell? ⟨w4.heap.size + 1, 0, none⟩ = some (.int .i64 next))) := Lib.hid (fun V hV => ⟨(HYQ.out.below hV).two.1.1, (HYQ.out.below hV).two.1.2, (HBQ.out.below hV).c.six.2.1, (HNQ.out.below hV).five.1.1⟩)
  refine wp_region_held_drew (S := (fun V => V.cell? ⟨w4.heap.size, 0, none⟩ = some (.int .i64 (next + 1)) ∧ V.cell? ⟨w4.heap.size, 1, none⟩ = some (.slice (some ⟨g9, 0, none⟩) (m.length + 1) c9) ∧ V.cell? ⟨w.heap.size + 1, 1, none⟩ = some (.int .i64 dir) ∧ V.cell? ⟨w4.heap.size + 1, 0, none⟩ = some (.int .i64 next))) (by kernel_rfl) ?_ (fun hHeld => ?_)
  ·try dsimp only
   exact HALL2.out _ (Below.refl _ _).drew
  change wpAnyH _ _ _ _ _ 10 #[false, false, false, false, false, false, false, false, false, false] _ _
  refine wpH_take (i := 0) (v := ?_) rfl (by kernel_rfl) (by kernel_rfl) (by kernel_rfl) (fun _ _ _ h => h) (by rfl) ?_ (by assumption) ?_; rotate_left; (focus (intro w hSw; (try dsimp only at hSw); go_simp; try with_reducible rfl)); try simp only [Act.put, List.setIfInBounds_toArray, List.set_cons_zero, List.set_cons_succ]
  refine wpH_take (i := 1) (v := ?_) rfl (by kernel_rfl) (by kernel_rfl) (by kernel_rfl) (fun _ _ _ h => h) (by rfl) ?_ (by assumption) ?_; rotate_left; (focus (intro w hSw; (try dsimp only at hSw); go_simp; try with_reducible rfl)); try simp only [Act.put, List.setIfInBounds_toArray, List.set_cons_zero, List.set_cons_succ]
  refine wpH_take (i := 2) (v := ?_) rfl (by kernel_rfl) (by kernel_rfl) (by kernel_rfl) (fun _ _ _ h => h) (by rfl) ?_ (by assumption) ?_; rotate_left; (focus (intro w hSw; (try dsimp only at hSw); go_simp; try with_reducible rfl)); try simp only [Act.put, List.setIfInBounds_toArray, List.set_cons_zero, List.set_cons_succ]
  refine wpH_take (i := 3) (v := ?_) rfl (by kernel_rfl) (by kernel_rfl) (by kernel_rfl) (fun _ _ _ h => h) (by rfl) ?_ (by assumption) ?_; rotate_left; (focus (intro w hSw; (try dsimp only at hSw); go_simp; try with_reducible rfl)); try simp only [Act.put, List.setIfInBounds_toArray, List.set_cons_zero, List.set_cons_succ]
  refine wpH_take (i := 5) (v := ?_) rfl (by kernel_rfl) (by kernel_rfl) (by kernel_rfl) (fun _ _ _ h => h) (by rfl) ?_ (by assumption) ?_; rotate_left; (focus (intro w hSw; (try dsimp only at hSw); go_simp; try with_reducible rfl)); try simp only [Act.put, List.setIfInBounds_toArray, List.set_cons_zero, List.set_cons_succ]
  refine wpH_take (i := 6) (v := ?_) rfl (by kernel_rfl) (by kernel_rfl) (by kernel_rfl) (fun _ _ _ h => h) (by rfl) ?_ (by assumption) ?_; rotate_left; (focus (intro w hSw; (try dsimp only at hSw); go_simp; try with_reducible rfl)); try simp only [Act.put, List.setIfInBounds_toArray, List.set_cons_zero, List.set_cons_succ]
  refine wpH_take (i := 7) (v := ?_) rfl (by kernel_rfl) (by kernel_rfl) (by kernel_rfl) (fun _ _ _ h => h) (by rfl) ?_ (by assumption) ?_; rotate_left; (focus (intro w hSw; (try dsimp only at hSw); go_simp; try with_reducible rfl)); try simp only [Act.put, List.setIfInBounds_toArray, List.set_cons_zero, List.set_cons_succ]
  refine wpAnyH_ready (rs := [4]) (by kernel_rfl) (by simp) ?_
  refine AllReadyH.cons rfl (fun K hK => ?_) AllReadyH.nil
  try dsimp only at hHeld
  go_simp
  (go_at_call 39; have hcon := l6With_any w3.heap.size w3 (next + 1) g9 c9 (m' ++ [nIno next 1]) dir k y' ga ca out _ (HVQ.out.drew) HY'.out.1 HY'.out.2 (HOE.out.drew) HAP.out; rw [HLM.out] at hcon; refine hcon.mono ?_; clear hcon; rintro e w13 ⟨rfl, hv13, hgr⟩)
  refine hK.out _ _ ?_ (fun hHeld2 => ?_)
  ·try dsimp only
   exact ⟨cellq_grown hHeld.1 hgr (by simp; omega), cellq_grown hHeld.2.1 hgr (by simp; omega), cellq_grown hHeld.2.2.1 hgr (by simp; omega), cellq_grown hHeld.2.2.2 hgr (by simp; omega)⟩
  clear hK K hHeld
  have hHeld := hHeld2
  clear hHeld2
  have HBR := Lib.hid ((HBQ.out.below (Below.refl _ _).drew).grown hgr (fun q hq => by cases hq; omega))
  have HVR := Lib.hid hv13
  clear hgr hv13
  obtain ⟨⟨v0, v1⟩, fv0, fv1⟩ := HBR.out.v.two
  obtain ⟨c0, c1, c2, c3, c4, c5⟩ := HBR.out.c.six
  obtain ⟨⟨r0, r1⟩, fr0, fr1⟩ := HBR.out.r.two
  obtain ⟨⟨s0, s1, s2, s3⟩, fs0, fs1, fs2, fs3⟩ := HBR.out.s.four
  refine wpAnyH_ready (rs := [8]) (by kernel_rfl) (by simp) ?_
  refine AllReadyH.cons rfl (fun K hK => ?_) AllReadyH.nil
  try dsimp only at hHeld
  go_simp
  skip
  refine hK.out _ _ ?_ (fun hHeld2 => ?_)
  ·try dsimp only
   exact ⟨cellq_far (cellq_far hHeld.1 (by omega)) (by omega), cellq_far (cellq_far hHeld.2.1 (by omega)) (by omega), cellq_far (cellq_far hHeld.2.2.1 (by omega)) (by omega), cellq_far (cellq_far hHeld.2.2.2 (by omega)) (by omega)⟩
  clear hK K hHeld
  have hHeld := hHeld2
  clear hHeld2
  refine wpAnyH_ready (rs := [9]) (by kernel_rfl) (by simp) ?_
  refine AllReadyH.cons rfl (fun K hK => ?_) AllReadyH.nil
  try dsimp only at hHeld
  go_simp
  skip
  refine hK.out _ _ ?_ (fun hHeld2 => ?_)
  ·try dsimp only
   exact ⟨cellq_far (cellq_far (cellq_far (cellq_far hHeld.1 (by omega)) (by omega)) (by omega)) (by omega), cellq_far (cellq_far (cellq_far (cellq_far hHeld.2.1 (by omega)) (by omega)) (by omega)) (by omega), cellq_far (cellq_far (cellq_far (cellq_far hHeld.2.2.1 (by omega)) (by omega)) (by omega)) (by omega), cellq_far (cellq_far (cellq_far (cellq_far hHeld.2.2.2 (by omega)) (by omega)) (by omega)) (by omega)⟩
  clear hK K hHeld
  have hHeld := hHeld2
  clear hHeld2
  refine wpAnyH_done (by kernel_rfl) ?_ _
  try dsimp only at hHeld
  clear hHeld HALL2
  clear v0 v1 fv0 fv1 c0 c1 c2 c3 c4 c5 r0 r1 fr0 fr1 s0 s1 s2 s3 fs0 fs1 fs2 fs3
  have HFIN := HBX3.out.new (Q := VolBl a cap m) HBR.out hBw HVR.out (HINV.out out ⟨h0, k0, nm, next⟩ ga ca HPM.out rfl (by show nm.size ≤ 1073741824; omega)) 0 next ⟨#[]⟩ ⟨#[]⟩
  rw [List.length_set, HLM.out] at HFIN
  replace HFIN := Lib.hid HFIN
  go_wp2
  exact ret_l6Make (HBR.out.out _ _ _ _ _ _).1 (by rfl) (by rfl) (by rfl) HFIN.out
end Go.Proofs.Ytlkfabkkjfmnmaa
