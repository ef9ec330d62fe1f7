import Derived.Test.YtlkfabkkjfmnmaaKao
namespace Go.Proofs.Ytlkfabkkjfmnmaa
open Go.RowKit
set_option linter.all false
theorem volP_room {w : World} {a : Option Addr} {n cap : Nat} {m : List InoP} (h : VolP w a n cap m) : n ≤ cap ∧ cap ≤ 9223372036854775807 := h.rd.room
set_option maxRecDepth 1000000 in
set_option maxHeartbeats 6000000 in
theorem l6Ents_any (next : Int) (a : Option Addr) (n cap : Nat) (m : List InoP) (dir : Int) (k : Nat) (y : InoP) (w : World) (hr : VolP w a n cap m) (hy : m[k]? = some y) (hat : atF (xs m) dir = (k : Int)) :
  Calls Try.prog 37 #[.agg #[.int .i64 next, .slice a n cap], .int .i64 dir] w fun e w' => e = .returned (.slice y.ad y.x.ents.length y.cap) ∧ Below w.heap.size w w' := by
 have hkl : k < m.length := (List.getElem?_eq_some_iff.1 hy).1
 have hln := hr.len
 have hm := volP_room hr
 have HB := Lib.hid (boxA w (.cells #[.int .i64 next, .slice a n cap] 37))
 have HAT : Hid (∀ W, Below w.heap.size w W → Calls Try.prog 25 #[.agg #[.int .i64 next, .slice a n cap], .int .i64 dir] W fun e w' => e = .returned (.int .i64 (k : Int)) ∧ Below W.heap.size W w') := Lib.hid (fun W hW => by rw [← hat]; exact l6At_any next a n cap (xs m) dir W (hr.step hW).rd)
 obtain ⟨b, off, rfl, hb, -, -, -, -, c4, -⟩ := volP_cells (hr.step HB.out) hy
 obtain ⟨c0, c1⟩ := box2 w 37 (.int .i64 next) (.slice (some ⟨b, off, none⟩) n cap)
 have hi : (k : Int) < (n : Int) := by omega
 have hi0 : (0 : Int) ≤ (k : Int) := by omega
 clear hat hy hr
 generalize y.ad = ya at *
 generalize y.x.ents.length = yn at *
 generalize y.cap = yc at *
 go_enter Try.func37, Try.ntmps37
 go_wp2
 have zc : w.heap.size < (w.alloc (.cells #[.int .i64 next, .slice (some ⟨b, off, none⟩) n cap] 37)).heap.size := by simp
 generalize w.alloc (.cells #[.int .i64 next, .slice (some ⟨b, off, none⟩) n cap] 37) = w1 at *
 have HALL : Hid (∀ W, Below w1.heap.size w1 W → (W.cell? ⟨w.heap.size, 0, none⟩ = some (.int .i64 next) ∧ W.cell? ⟨w.heap.size, 1, none⟩ = some (.slice (some ⟨b, off, none⟩) n cap) ∧ W.cell? ⟨b, off + k * 5 + 4, none⟩ = some (.slice ya yn yc) ∧ Below w1.heap.size w1 W)) := Lib.hid (fun W hW => ⟨cellK c0 hW, cellK c1 hW, cellK c4 hW, hW⟩)
 have hB0 := Below.refl w1.heap.size w1
 clear c0 c1 c4
 refine wp_region_held_drew (S := (fun W => W.cell? ⟨w.heap.size, 0, none⟩ = some (.int .i64 next) ∧ W.cell? ⟨w.heap.size, 1, none⟩ = some (.slice (some ⟨b, off, none⟩) n cap) ∧ W.cell? ⟨b, off + k * 5 + 4, none⟩ = some (.slice ya yn yc) ∧ Below w1.heap.size w1 W)) (by kernel_rfl) ?_ (fun hHeld => ?_)
 ·try dsimp only
  (go_split_ands; first | exact HALL.out _ (by assumption) | exact HALL.out _ (Below.drew (by assumption)) | exact HALL.out _ (below_step1 (by assumption) (by assumption)))
 change wpAnyH _ _ _ _ _ 9 #[false, false, false, false, false, false, false, false, false] _ _
 clear hB0
 refine wpH_take (i := 0) (v := ?_) rfl (by kernel_rfl) (by kernel_rfl) (by kernel_rfl) (fun _ _ _ h => h) (by rfl) ?_ (by assumption) ?_; rotate_left; (focus (intro w hSw; (try dsimp only at hSw); go_simp; try with_reducible rfl)); try simp only [Act.put, List.setIfInBounds_toArray, List.set_cons_zero, List.set_cons_succ]
 refine wpH_take (i := 1) (v := ?_) rfl (by kernel_rfl) (by kernel_rfl) (by kernel_rfl) (fun _ _ _ h => h) (by rfl) ?_ (by assumption) ?_; rotate_left; (focus (intro w hSw; (try dsimp only at hSw); go_simp; try with_reducible rfl)); try simp only [Act.put, List.setIfInBounds_toArray, List.set_cons_zero, List.set_cons_succ]
 refine wpH_take (i := 2) (v := ?_) rfl (by kernel_rfl) (by kernel_rfl) (by kernel_rfl) (fun _ _ _ h => h) (by rfl) ?_ (by assumption) ?_; rotate_left; (focus (intro w hSw; (try dsimp only at hSw); go_simp; try with_reducible rfl)); try simp only [Act.put, List.setIfInBounds_toArray, List.set_cons_zero, List.set_cons_succ]
 refine wpH_take (i := 3) (v := ?_) rfl (by kernel_rfl) (by kernel_rfl) (by kernel_rfl) (fun _ _ _ h => h) (by rfl) ?_ (by assumption) ?_; rotate_left; (focus (intro w hSw; (try dsimp only at hSw); go_simp; try with_reducible rfl)); try simp only [Act.put, List.setIfInBounds_toArray, List.set_cons_zero, List.set_cons_succ]
 refine wpAnyH_ready (rs := [4]) (by kernel_rfl) (by simp) ?_
 refine AllReadyH.cons rfl (fun K hK => ?_) AllReadyH.nil
 try dsimp only at hHeld
 go_simp
 (go_at_call 25; refine (HAT.out _ (below_step1 HB.out hHeld.2.2.2)).mono ?_; rintro e w7 ⟨rfl, hbk⟩)
 refine hK.out _ _ ?_ (fun hHeld2 => ?_)
 ·try dsimp only
  (go_split_ands; first | exact HALL.out _ (by assumption) | exact HALL.out _ (Below.drew (by assumption)) | exact HALL.out _ (below_step1 (by assumption) (by assumption)))
 clear hK K hHeld
 have hHeld := hHeld2
 clear hHeld2
 clear hbk
 refine wpH_take (i := 5) (v := ?_) rfl (by kernel_rfl) (by kernel_rfl) (by kernel_rfl) (fun _ _ _ h => h) (by rfl) ?_ (by assumption) ?_; rotate_left; (focus (intro w hSw; (try dsimp only at hSw); go_simp; try with_reducible rfl)); try simp only [Act.put, List.setIfInBounds_toArray, List.set_cons_zero, List.set_cons_succ]
 refine wpH_take (i := 6) (v := ?_) rfl (by kernel_rfl) (by kernel_rfl) (by kernel_rfl) (fun _ _ _ h => h) (by rfl) ?_ (by assumption) ?_; rotate_left; (focus (intro w hSw; (try dsimp only at hSw); go_simp; try with_reducible rfl)); try simp only [Act.put, List.setIfInBounds_toArray, List.set_cons_zero, List.set_cons_succ]
 refine wpH_take (i := 7) (v := ?_) rfl (by kernel_rfl) (by kernel_rfl) (by kernel_rfl) (fun _ _ _ h => h) (by rfl) ?_ (by assumption) ?_; rotate_left; (focus (intro w hSw; (try dsimp only at hSw); go_simp; try with_reducible rfl)); try simp only [Act.put, List.setIfInBounds_toArray, List.set_cons_zero, List.set_cons_succ]
 refine wpH_take (i := 8) (v := ?_) rfl (by kernel_rfl) (by kernel_rfl) (by kernel_rfl) (fun _ _ _ h => h) (by rfl) ?_ (by assumption) ?_; rotate_left; (focus (intro w hSw; (try dsimp only at hSw); go_simp; try with_reducible rfl)); try simp only [Act.put, List.setIfInBounds_toArray, List.set_cons_zero, List.set_cons_succ]
 refine wpAnyH_done (by kernel_rfl) ?_ _
 try dsimp only at hHeld
 go_wp2
 go_ret
 exact ⟨rfl, below_step1 HB.out hHeld.2.2.2⟩
def DirAns (m : List InoP) (dir : Int) (w : World) (e : Ending) (w' : World) : Prop :=
 ∃ b : Bool, e = .returned (.bool b) ∧ (b = true → ∃ (k : Nat) (y : InoP), m[k]? = some y ∧ atF (xs m) dir = (k : Int) ∧ y.x.kind = 2) ∧ Below w.heap.size w w'
set_option maxRecDepth 1000000 in
set_option maxHeartbeats 6000000 in
theorem l6Dir_any (next : Int) (a : Option Addr) (n cap : Nat) (m : List InoP) (dir : Int) (w : World) (hr : VolP w a n cap m) :
  Calls Try.prog 26 #[.agg #[.int .i64 next, .slice a n cap], .int .i64 dir] w (DirAns m dir w) := by
 have hln := hr.len
 have hm := volP_room hr
 have HB := Lib.hid (boxA w (.cells #[.int .i64 next, .slice a n cap] 37))
 have HR := Lib.hid (hr.step HB.out)
 have HAT : Hid (∀ W, Below w.heap.size w W → Calls Try.prog 25 #[.agg #[.int .i64 next, .slice a n cap], .int .i64 dir] W fun e w' => e = .returned (.int .i64 (atF (xs m) dir)) ∧ Below W.heap.size W w') := Lib.hid (fun W hW => l6At_any next a n cap (xs m) dir W (hr.step hW).rd)
 obtain ⟨c0, c1⟩ := box2 w 37 (.int .i64 next) (.slice a n cap)
 have hrg := atF_range (xs m) dir
 rw [xs_len] at hrg
 clear hr
 obtain ⟨r, hrr⟩ : ∃ r, r = atF (xs m) dir := ⟨_, rfl⟩
 rw [← hrr] at HAT hrg
 have HRR := Lib.hid hrr
 clear hrr
 go_enter Try.func26, Try.ntmps26
 go_wp2_with fail
 have zc : w.heap.size < (w.alloc (.cells #[.int .i64 next, .slice a n cap] 37)).heap.size := by simp
 generalize w.alloc (.cells #[.int .i64 next, .slice a n cap] 37) = w1 at *
 refine (HAT.out _ HB.out).mono ?_
 rintro e w2 ⟨rfl, hb⟩
 replace c0 := cellK c0 hb
 replace c1 := cellK c1 hb
 have HB2 := Lib.hid (below_step1 HB.out hb)
 have HR2 := Lib.hid (HR.out.step hb)
 have zc2 : w.heap.size < w2.heap.size := World.block_lt_of_cell? w2 _ c0
 clear hb
 by_cases h0 : 0 ≤ r
 ·obtain ⟨k, rfl⟩ := Int.eq_ofNat_of_zero_le h0
  have hkl : k < m.length := by omega
  obtain ⟨b, off, rfl, hbb, -, d1, -, -, -, -⟩ := volP_cells HR2.out (List.getElem?_eq_getElem hkl)
  have hi : (k : Int) < (n : Int) := by omega
  have HK : Hid (m[k].x.kind = 2 → ∃ (q : Nat) (y : InoP), m[q]? = some y ∧ atF (xs m) dir = (q : Int) ∧ y.x.kind = 2) := Lib.hid (fun h => ⟨k, m[k], List.getElem?_eq_getElem hkl, HRR.out.symm, h⟩)
  generalize m[k].x.kind = kd at *
  go_wp2
  go_ret
  refine ⟨_, rfl, fun h => HK.out ?_, HB2.out⟩
  simpa using h
 ·go_wp2
  go_ret
  exact ⟨false, rfl, fun h => (by cases h), HB2.out⟩
theorem ret_l6With {Post : Ending → World → Prop} {a : Act} {wf : World} {R : Nat} {u0 : Int} {u1 : Value} (hc : Cs wf R [.int .i64 u0, u1]) (h2 : a.tmps[6]?.getD undef = .pointer (some ⟨R, 0, none⟩)) (hd : a.defers = [])
  (hp : Post (.returned (.agg #[.int .i64 u0, u1])) wf) : bodyPost Try.prog Try.f39 Post Exit.ret a wf := by
 obtain ⟨⟨r0, r1⟩, -⟩ := hc.two
 exact bodyPost_ret (v := .agg #[.int .i64 u0, u1]) (by simp [results, Try.results39, go_sem, h2, r0, r1]) hd hp
theorem ins_setE (m : List InoP) (k : Nat) (y : InoP) (hy : m[k]? = some y) (es : List EntL) (ad : Option Addr) (c : Nat) : (ins m).set (k * 5 + 4) (.slice ad es.length c) = ins (m.set k ⟨{ y.x with ents := es }, ad, c⟩) := by
 obtain ⟨hk, rfl⟩ := List.getElem?_eq_some_iff.1 hy
 have h := ins_set m k hk ⟨{ m[k].x with ents := es }, ad, c⟩
 rw [← h]
 have hl : ∀ j, j < 5 → k * 5 + j < (ins m).length := fun j hj => by simp; omega
 have e : ∀ j (hj : j < 5), (ins m).set (k * 5 + j) ((in1 m[k])[j]'(by rw [in1_len]; exact hj)) = ins m := fun j hj => by
  rw [← ins_get m k hk j hj, List.set_getElem_self]
 have e0 : (ins m).set (k * 5) (.int .i64 m[k].x.id) = ins m := e 0 (by omega)
 have e1 : (ins m).set (k * 5 + 1) (.int .i64 m[k].x.kind) = ins m := e 1 (by omega)
 have e2 : (ins m).set (k * 5 + 2) (.int .i64 m[k].x.links) = ins m := e 2 (by omega)
 have e3 : (ins m).set (k * 5 + 3) (.string m[k].x.data) = ins m := e 3 (by omega)
 simp only [e0, e1, e2, e3]
set_option maxRecDepth 1000000 in
set_option maxHeartbeats 6000000 in
theorem l6With_any (B : Nat) (W0 : World) (next : Int) (g cap : Nat) (m : List InoP) (dir : Int) (k : Nat) (y : InoP) (ad : Option Addr) (c : Nat) (es : List EntL) (w : World) (h : VolOwn B W0 (some ⟨g, 0, none⟩) cap m w) (hy : m[k]? = some y) (hat : atF (xs m) dir = (k : Int))
  (hes : Own 63 4 B W0 (.slice ad es.length c) es.length (ens es) w) (hn : Apart1 m k (.slice ad es.length c)) :
  Calls Try.prog 39 #[.agg #[.int .i64 next, .slice (some ⟨g, 0, none⟩) m.length cap], .int .i64 dir, .slice ad es.length c] w fun e w' => e = .returned (.agg #[.int .i64 next, .slice (some ⟨g, 0, none⟩) m.length cap]) ∧ VolOwn B W0 (some ⟨g, 0, none⟩) cap (m.set k ⟨{ y.x with ents := es }, ad, c⟩) w' ∧ w.grownBy w' (some g) := by
 have hkl : k < m.length := (List.getElem?_eq_some_iff.1 hy).1
 have hm := volP_room h.p
 have hgB := (h.top.blk g rfl)
 have HAT : Hid (∀ W, Below w.heap.size w W → Calls Try.prog 25 #[.agg #[.int .i64 next, .slice (some ⟨g, 0, none⟩) m.length cap], .int .i64 dir] W fun e w' => e = .returned (.int .i64 (k : Int)) ∧ Below W.heap.size W w') := Lib.hid (fun W hW => by rw [← hat]; exact l6At_any next (some ⟨g, 0, none⟩) m.length cap (xs m) dir W (h.kept hW).p.rd)
 have HFIN : Hid (∀ W, Below w.heap.size w W → VolOwn B W0 (some ⟨g, 0, none⟩) cap (m.set k ⟨{ y.x with ents := es }, ad, c⟩) (W.setCell ⟨g, k * 5 + 4, none⟩ (.slice ad es.length c)) ∧ w.grownBy (W.setCell ⟨g, k * 5 + 4, none⟩ (.slice ad es.length c)) (some g)) := Lib.hid (fun W hW => by
  have hv := h.kept hW
  have hg := setCell_grown2 W g (k * 5 + 4) (.slice ad es.length c)
  refine ⟨VolOwn.put hv k ⟨{ y.x with ents := es }, ad, c⟩ ?_ hg ?_ hn, grown_trans (grown_of_below (some g) hW) hg (fun x hx => .inl hx)⟩
  ·rw [← ins_setE m k y hy]
   exact hv.top.set (k * 5 + 4) _
  ·refine (hes.kept hW).other hg (fun q hq => by cases hq; exact hgB.1) (fun q hq e => own_apart2 h.top hes (by decide) q hq (by rw [← e]; rfl)))
 have HFR : Hid (∀ W, Below w.heap.size w W → (∃ u, W.cell? ⟨g, k * 5 + 4, none⟩ = some u) ∧ W.frozen? ⟨g, k * 5 + 4, none⟩ = false ∧ g < W.heap.size) := Lib.hid (fun W hW => by
  have hv := h.kept hW
  refine ⟨⟨_, hv.top.cell (k * 5 + 4) (by simp; omega)⟩, hv.top.free _, ((hv.top.blk g rfl).2)⟩)
 have HBL : Hid (∀ q, VolBl (some ⟨g, 0, none⟩) cap (m.set k ⟨{ y.x with ents := es }, ad, c⟩) q → q ≠ w.heap.size + 1) := Lib.hid (fun q hq => by
  rcases volBl_set hq with hq | hq
  ·have := (h.bl q hq).2; omega
  ·have := (hes.blk q hq).2; omega)
 have hBw := h.top.base
 have hi : (k : Int) < (m.length : Int) := by omega
 have hi0 : (0 : Int) ≤ (k : Int) := by omega
 clear hat hy h hes hn
 generalize m.length = n at *
 generalize es.length = ne at *
 have HR0 := Lib.hid ((cs_new w 37 #[.int .i64 next, .slice (some ⟨g, 0, none⟩) n cap]).alloc (.cells #[.int .i64 0, .slice none 0 0] 37))
 have HR1 := Lib.hid (cs_new (w.alloc (.cells #[.int .i64 next, .slice (some ⟨g, 0, none⟩) n cap] 37)) 37 #[.int .i64 0, .slice none 0 0])
 have HB := Lib.hid ((boxA w (.cells #[.int .i64 next, .slice (some ⟨g, 0, none⟩) n cap] 37)).alloc (by simp) (.cells #[.int .i64 0, .slice none 0 0] 37))
 have hs1 : (w.alloc (.cells #[.int .i64 next, .slice (some ⟨g, 0, none⟩) n cap] 37)).heap.size = w.heap.size + 1 := by simp
 rw [hs1] at HR1
 go_enter Try.func39, Try.ntmps39
 go_wp2
 generalize (w.alloc (.cells #[.int .i64 next, .slice (some ⟨g, 0, none⟩) n cap] 37)).alloc (.cells #[.int .i64 0, .slice none 0 0] 37) = w1 at *
 have hgw := hgB.2
 have hne0 : w.heap.size ≠ g := by omega
 have hne1 : w.heap.size + 1 ≠ g := by omega
 have HALL : Hid (∀ W, Below w1.heap.size w1 W → (W.cell? ⟨w.heap.size, 0, none⟩ = some (.int .i64 next) ∧ W.cell? ⟨w.heap.size, 1, none⟩ = some (.slice (some ⟨g, 0, none⟩) n cap))) := Lib.hid (fun W hW => ⟨(HR0.out.below hW).two.1.1, (HR0.out.below hW).two.1.2⟩)
 refine wp_region_held_drew (S := (fun W => W.cell? ⟨w.heap.size, 0, none⟩ = some (.int .i64 next) ∧ W.cell? ⟨w.heap.size, 1, none⟩ = some (.slice (some ⟨g, 0, none⟩) n cap))) (by kernel_rfl) ?_ (fun hHeld => ?_)
 ·try dsimp only
  (first | exact HALL.out _ (Below.refl _ _).drew | exact HALL.out _ (below_step1 (Below.refl _ _).drew (by assumption)) | exact ⟨cellq_far hHeld.1 hne0, cellq_far hHeld.2 hne0⟩)
 change wpAnyH _ _ _ _ _ 9 #[false, false, false, false, false, false, false, false, false] _ _
 refine wpH_take (i := 0) (v := ?_) rfl (by kernel_rfl) (by kernel_rfl) (by kernel_rfl) (fun _ _ _ h => h) (by rfl) ?_ (by assumption) ?_; rotate_left; (focus (intro w hSw; (try dsimp only at hSw); go_simp; try with_reducible rfl)); try simp only [Act.put, List.setIfInBounds_toArray, List.set_cons_zero, List.set_cons_succ]
 refine wpH_take (i := 1) (v := ?_) rfl (by kernel_rfl) (by kernel_rfl) (by kernel_rfl) (fun _ _ _ h => h) (by rfl) ?_ (by assumption) ?_; rotate_left; (focus (intro w hSw; (try dsimp only at hSw); go_simp; try with_reducible rfl)); try simp only [Act.put, List.setIfInBounds_toArray, List.set_cons_zero, List.set_cons_succ]
 refine wpH_take (i := 2) (v := ?_) rfl (by kernel_rfl) (by kernel_rfl) (by kernel_rfl) (fun _ _ _ h => h) (by rfl) ?_ (by assumption) ?_; rotate_left; (focus (intro w hSw; (try dsimp only at hSw); go_simp; try with_reducible rfl)); try simp only [Act.put, List.setIfInBounds_toArray, List.set_cons_zero, List.set_cons_succ]
 refine wpH_take (i := 3) (v := ?_) rfl (by kernel_rfl) (by kernel_rfl) (by kernel_rfl) (fun _ _ _ h => h) (by rfl) ?_ (by assumption) ?_; rotate_left; (focus (intro w hSw; (try dsimp only at hSw); go_simp; try with_reducible rfl)); try simp only [Act.put, List.setIfInBounds_toArray, List.set_cons_zero, List.set_cons_succ]
 refine wpH_take (i := 5) (v := ?_) rfl (by kernel_rfl) (by kernel_rfl) (by kernel_rfl) (fun _ _ _ h => h) (by rfl) ?_ (by assumption) ?_; rotate_left; (focus (intro w hSw; (try dsimp only at hSw); go_simp; try with_reducible rfl)); try simp only [Act.put, List.setIfInBounds_toArray, List.set_cons_zero, List.set_cons_succ]
 refine wpAnyH_ready (rs := [4]) (by kernel_rfl) (by simp) ?_
 refine AllReadyH.cons rfl (fun K hK => ?_) AllReadyH.nil
 try dsimp only at hHeld
 go_simp
 (go_at_call 25; refine (HAT.out _ (below_step1 HB.out (Below.refl _ _).drew)).mono ?_; rintro e w7 ⟨rfl, hbk⟩)
 refine hK.out _ _ ?_ (fun hHeld2 => ?_)
 ·try dsimp only
  (first | exact HALL.out _ (Below.refl _ _).drew | exact HALL.out _ (below_step1 (Below.refl _ _).drew (by assumption)) | exact ⟨cellq_far hHeld.1 hne0, cellq_far hHeld.2 hne0⟩)
 clear hK K hHeld
 have hHeld := hHeld2
 clear hHeld2
 have hbw := below_step1 HB.out (below_step1 (Below.refl _ _).drew hbk)
 have HR7 := Lib.hid ((HR1.out.below ((Below.refl _ _).drew)).below hbk)
 obtain ⟨⟨u4, hu4⟩, hf4, hg4⟩ := HFR.out _ hbw
 have HF := Lib.hid (HFIN.out _ hbw)
 have HRF := Lib.hid (((HR7.out.far (g := g) (j := k * 5 + 4) (u := .slice ad ne c) hne1).set 0 (.int .i64 next)).set 1 (.slice (some ⟨g, 0, none⟩) n cap))
 have HN1 : Hid (w.heap.size + 1 < w7.heap.size) := Lib.hid HR7.out.lt
 clear hbk
 refine wpH_take (i := 6) (v := ?_) rfl (by kernel_rfl) (by kernel_rfl) (by kernel_rfl) (fun _ _ _ h => h) (by rfl) ?_ (by assumption) ?_; rotate_left; (focus (intro w hSw; (try dsimp only at hSw); go_simp; try with_reducible rfl)); try simp only [Act.put, List.setIfInBounds_toArray, List.set_cons_zero, List.set_cons_succ]
 refine wpH_take (i := 7) (v := ?_) rfl (by kernel_rfl) (by kernel_rfl) (by kernel_rfl) (fun _ _ _ h => h) (by rfl) ?_ (by assumption) ?_; rotate_left; (focus (intro w hSw; (try dsimp only at hSw); go_simp; try with_reducible rfl)); try simp only [Act.put, List.setIfInBounds_toArray, List.set_cons_zero, List.set_cons_succ]
 refine wpAnyH_ready (rs := [8]) (by kernel_rfl) (by simp) ?_
 refine AllReadyH.cons rfl (fun K hK => ?_) AllReadyH.nil
 try dsimp only at hHeld
 go_simp
 skip
 refine hK.out _ _ ?_ (fun hHeld2 => ?_)
 ·try dsimp only
  (first | exact HALL.out _ (Below.refl _ _).drew | exact HALL.out _ (below_step1 (Below.refl _ _).drew (by assumption)) | exact ⟨cellq_far hHeld.1 hne0, cellq_far hHeld.2 hne0⟩)
 clear hK K hHeld
 have hHeld := hHeld2
 clear hHeld2
 refine wpAnyH_done (by kernel_rfl) ?_ _
 try dsimp only at hHeld
 obtain ⟨⟨r0, r1⟩, fr0, fr1⟩ := (HR7.out.far (g := g) (j := k * 5 + 4) (u := .slice ad ne c) hne1).two
 go_wp2
 exact ret_l6With HRF.out (by rfl) (by rfl) ⟨rfl, HF.out.1.res2 _ (by omega) HBL.out _ _, grown_res2 HF.out.2 _ (by omega) _ _⟩
end Go.Proofs.Ytlkfabkkjfmnmaa
