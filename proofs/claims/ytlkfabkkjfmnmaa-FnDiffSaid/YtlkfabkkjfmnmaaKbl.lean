import Derived.Test.YtlkfabkkjfmnmaaKaq
import Derived.Test.YtlkfabkkjfmnmaaKbk
namespace Go.Proofs.Ytlkfabkkjfmnmaa
open Go.RowKit
set_option linter.all false
theorem inv_pos {d : Int → Int} {next : Int} {m : List InoP} (h : Inv d next (xs m)) : 0 < m.length := by
 rcases Nat.eq_zero_or_pos m.length with h0 | h0
 ·have : m = [] := List.eq_nil_of_length_eq_zero h0
  subst this
  have := h.root
  simp [xs, idsF] at this
 ·exact h0
def DrewWhere (a : Option Addr) (n cap : Nat) (bs : List Int) (g : Nat) (w : World) (e : Ending) (w' : World) : Prop :=
 ∃ (dir : Int) (t : ByteArray) (cs : CS), e = .returned (.tuple #[.int .i64 dir, .string t]) ∧ t.size ≤ 1073741824 ∧ CurAt a n cap bs g cs w' ∧ w.grownBy w' (some g)
set_option maxRecDepth 1000000 in
set_option maxHeartbeats 6000000 in
theorem l6Where_any (a : Option Addr) (n cap : Nat) (bs : List Int) (g : Nat) (s : CS) (B : Nat) (W0 : World) (next : Int) (va : Option Addr) (vcap : Nat) (m : List InoP) (w : World) (hC : CurAt a n cap bs g s w) (h : VolOwn B W0 va vcap m w) (hgB : g < B) (hpos : 0 < m.length) (hml : m.length ≤ 100000)
  (hsz : ∀ y ∈ m, y.x.ents.length ≤ 100000 ∧ ∀ e ∈ y.x.ents, e.name.size ≤ 1073741824) :
  Calls Try.prog 31 #[.pointer (some ⟨g, 0, none⟩), .agg #[.int .i64 next, .slice va m.length vcap]] w (DrewWhere a n cap bs g w) := by
 have HSZ := Lib.hid hsz
 have hm := volP_room h.p
 have hglt := hC.lt
 have hr := belowF_range bs (m.length : Int) s (by omega)
 obtain ⟨K, hK⟩ := Int.eq_ofNat_of_zero_le hr.1
 have HBE : Hid (∀ W, CurAt a n cap bs g s W → Calls Try.prog 12 #[.pointer (some ⟨g, 0, none⟩), .int .i64 (m.length : Int)] W fun e w' => ∃ cs : CS, e = .returned (.int .i64 (K : Int)) ∧ CurAt a n cap bs g cs w' ∧ W.grownBy w' (some g)) := Lib.hid (fun W hc => (l1Below_any a n cap bs g s (m.length : Int) W hc (by omega)).mono (fun e w' ⟨he, hc2, hg2⟩ => ⟨_, by rw [he, hK], hc2, hg2⟩))
 have hKl : K < m.length := by omega
 clear hr hK
 have HC1 := Lib.hid (hC.alloc (.cells #[.int .i64 next, .slice va m.length vcap] 37))
 have HV1 := Lib.hid (h.alloc (.cells #[.int .i64 next, .slice va m.length vcap] 37))
 have HG1 := Lib.hid (World.grownBy_alloc w (.cells #[.int .i64 next, .slice va m.length vcap] 37) (some g))
 obtain ⟨v0, v1⟩ := box2 w 37 (.int .i64 next) (.slice va m.length vcap)
 have hbvB := fun q hq => (h.bl q hq).1
 obtain ⟨bv, cv, hva, hbvv⟩ := h.top.shape1 hpos
 simp only [Value.slice.injEq] at hva
 obtain ⟨rfl, -, rfl⟩ := hva
 obtain ⟨b1, o1, e', hb1, d0, -, -, -, -, -⟩ := volP_cells HV1.out.p (List.getElem?_eq_getElem hKl)
 cases e'
 simp only [Nat.zero_add] at d0
 generalize m[K].x.id = idK at *
 have hposi : (0 : Int) < (m.length : Int) := by omega
 have hKi : (K : Int) < (m.length : Int) := by omega
 have hK0 : (0 : Int) ≤ (K : Int) := by omega
 have hz1 : w.heap.size < (w.alloc (.cells #[.int .i64 next, .slice (some ⟨bv, 0, none⟩) m.length vcap] 37)).heap.size := by simp
 clear hsz hC h hbvB
 go_enter Try.func31, Try.ntmps31
 go_wp2
 generalize w.alloc (.cells #[.int .i64 next, .slice (some ⟨bv, 0, none⟩) m.length vcap] 37) = w1 at *
 have HALL : Hid (∀ W, w1.grownBy W (some g) → (W.cell? ⟨w.heap.size, 0, none⟩ = some (.int .i64 next) ∧ W.cell? ⟨w.heap.size, 1, none⟩ = some (.slice (some ⟨bv, 0, none⟩) m.length vcap) ∧ W.cell? ⟨bv, K * 5, none⟩ = some (.int .i64 idK))) := Lib.hid (fun W hW => ⟨cellq_grown v0 hW (by simp; omega), cellq_grown v1 hW (by simp; omega), cellq_grown d0 hW (by simp; omega)⟩)
 refine wp_region_held_drew (S := (fun W => W.cell? ⟨w.heap.size, 0, none⟩ = some (.int .i64 next) ∧ W.cell? ⟨w.heap.size, 1, none⟩ = some (.slice (some ⟨bv, 0, none⟩) m.length vcap) ∧ W.cell? ⟨bv, K * 5, none⟩ = some (.int .i64 idK))) (by kernel_rfl) ?_ (fun hHeld => ?_)
 ·try dsimp only
  exact HALL.out _ (grown_drew (World.grownBy.refl _ _))
 change wpAnyH _ _ _ _ _ 11 #[false, false, false, false, false, false, false, false, false, false, false] _ _
 refine wpH_take (i := 0) (v := ?_) rfl (by kernel_rfl) (by kernel_rfl) (by kernel_rfl) (fun _ _ _ h => h) (by rfl) ?_ (by assumption) ?_; rotate_left; (focus (intro w hSw; (try dsimp only at hSw); go_simp; try with_reducible rfl)); try simp only [Act.put, List.setIfInBounds_toArray, List.set_cons_zero, List.set_cons_succ]
 refine wpH_take (i := 1) (v := ?_) rfl (by kernel_rfl) (by kernel_rfl) (by kernel_rfl) (fun _ _ _ h => h) (by rfl) ?_ (by assumption) ?_; rotate_left; (focus (intro w hSw; (try dsimp only at hSw); go_simp; try with_reducible rfl)); try simp only [Act.put, List.setIfInBounds_toArray, List.set_cons_zero, List.set_cons_succ]
 refine wpH_take (i := 2) (v := ?_) rfl (by kernel_rfl) (by kernel_rfl) (by kernel_rfl) (fun _ _ _ h => h) (by rfl) ?_ (by assumption) ?_; rotate_left; (focus (intro w hSw; (try dsimp only at hSw); go_simp; try with_reducible rfl)); try simp only [Act.put, List.setIfInBounds_toArray, List.set_cons_zero, List.set_cons_succ]
 refine wpH_take (i := 3) (v := ?_) rfl (by kernel_rfl) (by kernel_rfl) (by kernel_rfl) (fun _ _ _ h => h) (by rfl) ?_ (by assumption) ?_; rotate_left; (focus (intro w hSw; (try dsimp only at hSw); go_simp; try with_reducible rfl)); try simp only [Act.put, List.setIfInBounds_toArray, List.set_cons_zero, List.set_cons_succ]
 refine wpH_take (i := 4) (v := ?_) rfl (by kernel_rfl) (by kernel_rfl) (by kernel_rfl) (fun _ _ _ h => h) (by rfl) ?_ (by assumption) ?_; rotate_left; (focus (intro w hSw; (try dsimp only at hSw); go_simp; try with_reducible rfl)); try simp only [Act.put, List.setIfInBounds_toArray, List.set_cons_zero, List.set_cons_succ]
 refine wpH_take (i := 5) (v := ?_) rfl (by kernel_rfl) (by kernel_rfl) (by kernel_rfl) (fun _ _ _ h => h) (by rfl) ?_ (by assumption) ?_; rotate_left; (focus (intro w hSw; (try dsimp only at hSw); go_simp; try with_reducible rfl)); try simp only [Act.put, List.setIfInBounds_toArray, List.set_cons_zero, List.set_cons_succ]
 refine wpAnyH_ready (rs := [6]) (by kernel_rfl) (by simp) ?_
 refine AllReadyH.cons rfl (fun K hK => ?_) AllReadyH.nil
 try dsimp only at hHeld
 go_simp
 (go_at_call 12; refine (HBE.out _ HC1.out.drew).mono ?_; rintro e w2 ⟨s2, rfl, hc2, hg2⟩)
 refine hK.out _ _ ?_ (fun hHeld2 => ?_)
 ·try dsimp only
  exact HALL.out _ ((grown_drew (World.grownBy.refl _ _)).trans hg2)
 clear hK K hHeld
 have hHeld := hHeld2
 clear hHeld2
 have hgg := (grown_drew (World.grownBy.refl w1 (some g))).trans hg2
 have HC2 := Lib.hid hc2
 have HG2 := Lib.hid (HG1.out.trans hgg)
 have HV2 := Lib.hid (HV1.out.low hgg (fun q hq e => by have := (HV1.out.bl q hq).1; have := Option.some.inj e; omega))
 clear hc2 hg2 hgg
 refine wpH_take (i := 7) (v := ?_) rfl (by kernel_rfl) (by kernel_rfl) (by kernel_rfl) (fun _ _ _ h => h) (by rfl) ?_ (by assumption) ?_; rotate_left; (focus (intro w hSw; (try dsimp only at hSw); go_simp; try with_reducible rfl)); try simp only [Act.put, List.setIfInBounds_toArray, List.set_cons_zero, List.set_cons_succ]
 refine wpH_take (i := 8) (v := ?_) rfl (by kernel_rfl) (by kernel_rfl) (by kernel_rfl) (fun _ _ _ h => h) (by rfl) ?_ (by assumption) ?_; rotate_left; (focus (intro w hSw; (try dsimp only at hSw); go_simp; try with_reducible rfl)); try simp only [Act.put, List.setIfInBounds_toArray, List.set_cons_zero, List.set_cons_succ]
 refine wpH_take (i := 9) (v := ?_) rfl (by kernel_rfl) (by kernel_rfl) (by kernel_rfl) (fun _ _ _ h => h) (by rfl) ?_ (by assumption) ?_; rotate_left; (focus (intro w hSw; (try dsimp only at hSw); go_simp; try with_reducible rfl)); try simp only [Act.put, List.setIfInBounds_toArray, List.set_cons_zero, List.set_cons_succ]
 refine wpH_take (i := 10) (v := ?_) rfl (by kernel_rfl) (by kernel_rfl) (by kernel_rfl) (fun _ _ _ h => h) (by rfl) ?_ (by assumption) ?_; rotate_left; (focus (intro w hSw; (try dsimp only at hSw); go_simp; try with_reducible rfl)); try simp only [Act.put, List.setIfInBounds_toArray, List.set_cons_zero, List.set_cons_succ]
 refine wpAnyH_done (by kernel_rfl) ?_ _
 try dsimp only at hHeld
 obtain ⟨v0, v1, d0⟩ := hHeld
 have hv2 : w.heap.size < w2.heap.size := World.block_lt_of_cell? w2 _ v0
 clear HALL d0 HC1 HG1 HV1
 go_wp2_with fail
 refine (l6Dir_any next (some ⟨bv, 0, none⟩) m.length vcap m idK _ HV2.out.p).mono ?_
 rintro e w3 ⟨b, rfl, -, hb3⟩
 have HC3 := Lib.hid (HC2.out.kept hb3)
 have HG3 := Lib.hid (HG2.out.trans (grown_of_below (some g) hb3))
 have HV3 := Lib.hid ((HV2.out.kept hb3).self)
 replace v0 := cellK v0 hb3
 replace v1 := cellK v1 hb3
 have hv3 : w.heap.size < w3.heap.size := World.block_lt_of_cell? w3 _ v0
 clear hb3 HC2 HG2 HV2
 cases b with
 | true =>
  go_wp2_with fail
  refine (l6At_any next (some ⟨bv, 0, none⟩) m.length vcap (xs m) idK _ HV3.out.p.rd).mono ?_
  rintro e wA ⟨rfl, hbA⟩
  have HCA := Lib.hid (HC3.out.kept hbA)
  have HGA := Lib.hid (HG3.out.trans (grown_of_below (some g) hbA))
  have HVA := Lib.hid ((HV3.out.kept hbA).self)
  have hrg := atF_range (xs m) idK
  rw [xs_len] at hrg
  replace v0 := cellK v0 hbA
  replace v1 := cellK v1 hbA
  clear hbA HC3 HG3 HV3
  generalize atF (xs m) idK = rA at *
  have HL4 : Hid (∀ (W : World) (s4 : CS), CurAt a n cap bs g s4 W → w.grownBy W (some g) → Calls Try.prog 32 #[.pointer (some ⟨g, 0, none⟩)] W fun e w' => ∃ (t : ByteArray) (cs : CS), e = .returned (.string t) ∧ t.size ≤ 1073741824 ∧ CurAt a n cap bs g cs w' ∧ w.grownBy w' (some g)) := Lib.hid (fun W s4 hc hg => (l4Name_any a n cap bs g s4 W hc).mono (fun e w' ⟨⟨t, cs⟩, hnm, he, hc2, hg2⟩ => ⟨t, cs, he, by dsimp only at hnm; omega, hc2, hg.trans hg2⟩))
  by_cases h0 : 0 ≤ rA
  rotate_left
  ·go_wp2_with fail
   refine (HL4.out _ _ HCA.out HGA.out).mono ?_
   rintro e wB ⟨t, cs, rfl, ht, hc, hg⟩
   have HF := Lib.hid (And.intro ht (And.intro hc hg))
   clear ht hc hg
   go_wp2
   go_ret2
   exact ⟨idK, t, cs, rfl, HF.out.1, HF.out.2.1, HF.out.2.2⟩
  obtain ⟨k, rfl⟩ := Int.eq_ofNat_of_zero_le h0
  have hkl : k < m.length := by omega
  have hki : (k : Int) < (m.length : Int) := by omega
  obtain ⟨b2, o2, e', hb2, -, -, -, -, d4, hrd⟩ := volP_cells HVA.out.p (List.getElem?_eq_getElem hkl)
  cases e'
  simp only [Nat.zero_add] at d4
  have hown := HVA.out.sub m[k] (List.getElem_mem hkl)
  have hsz := HSZ.out m[k] (List.getElem_mem hkl)
  generalize m[k] = y at *
  by_cases hn0 : (0 : Int) < (y.x.ents.length : Int)
  rotate_left
  ·clear hown hrd
   go_wp2_with fail
   refine (HL4.out _ _ HCA.out HGA.out).mono ?_
   rintro e wB ⟨t, cs, rfl, ht, hc, hg⟩
   have HF := Lib.hid (And.intro ht (And.intro hc hg))
   clear ht hc hg
   go_wp2
   go_ret2
   exact ⟨idK, t, cs, rfl, HF.out.1, HF.out.2.1, HF.out.2.2⟩
  obtain ⟨be, ce, he, hbe⟩ := hown.shape1 (by omega)
  obtain ⟨yx, ya, yc⟩ := y
  simp only [Value.slice.injEq] at he
  obtain ⟨rfl, -, rfl⟩ := he
  dsimp only at *
  have HRD := Lib.hid hrd
  have HNZ := Lib.hid hsz
  clear hown hrd hsz
  have hyl := HNZ.out.1
  go_wp2_with fail
  refine (l1Once_any a n cap bs g _ 2 _ HCA.out (by omega)).mono ?_
  rintro e wB ⟨rfl, hC1, hG1⟩
  have HCB := Lib.hid hC1
  have HGB := Lib.hid (HGA.out.trans hG1)
  replace v0 := cellq_grown v0 hG1 (by simp; omega)
  replace v1 := cellq_grown v1 hG1 (by simp; omega)
  replace d4 := cellq_grown d4 hG1 (by simp; omega)
  have HRB := Lib.hid (HRD.out.grown hG1 (fun x hx _ => by cases hx; simp; omega))
  have hvB : w.heap.size < wB.heap.size := World.block_lt_of_cell? wB _ v0
  have hbB : bv < wB.heap.size := World.block_lt_of_cell? wB _ d4
  clear hC1 hG1 HCA HGA HRD HVA
  simp only at HCB ⊢
  generalize (belowF bs 2 _).2 = s5 at *
  generalize ((belowF bs 2 _).1 == 0) = t5 at *
  cases t5 with
  | false =>
   go_wp2_with fail
   refine (HL4.out _ _ HCB.out HGB.out).mono ?_
   rintro e wD ⟨t, cs, rfl, ht, hc, hg⟩
   have HF := Lib.hid (And.intro ht (And.intro hc hg))
   clear ht hc hg
   go_wp2
   go_ret2
   exact ⟨idK, t, cs, rfl, HF.out.1, HF.out.2.1, HF.out.2.2⟩
  | true =>
   have hr5 := belowF_range bs (yx.ents.length : Int) s5 (by omega)
   obtain ⟨K2, hK2⟩ := Int.eq_ofNat_of_zero_le hr5.1
   have HB5 : Hid (∀ W, CurAt a n cap bs g s5 W → Calls Try.prog 12 #[.pointer (some ⟨g, 0, none⟩), .int .i64 (yx.ents.length : Int)] W fun e w' => ∃ cs : CS, e = .returned (.int .i64 (K2 : Int)) ∧ CurAt a n cap bs g cs w' ∧ W.grownBy w' (some g)) := Lib.hid (fun W hc => (l1Below_any a n cap bs g s5 (yx.ents.length : Int) W hc (by omega)).mono (fun e w' ⟨he, hc2, hg2⟩ => ⟨_, by rw [he, hK2], hc2, hg2⟩))
   have hK2l : K2 < yx.ents.length := by omega
   clear hr5 hK2
   obtain ⟨b3, o3, e', hb3, -, -, d5, -⟩ := ens_cells HRB.out K2 hK2l
   cases e'
   simp only [Nat.zero_add] at d5
   have hnz := HNZ.out.2 yx.ents[K2] (List.getElem_mem hK2l)
   generalize yx.ents[K2].name = nmz at *
   have hK2i : (K2 : Int) < (yx.ents.length : Int) := by omega
   have hK20 : (0 : Int) ≤ (K2 : Int) := by omega
   have HALL : Hid (∀ W, wB.grownBy W (some g) → (W.cell? ⟨w.heap.size, 0, none⟩ = some (.int .i64 next) ∧ W.cell? ⟨w.heap.size, 1, none⟩ = some (.slice (some ⟨bv, 0, none⟩) m.length vcap) ∧ W.cell? ⟨bv, k * 5 + 4, none⟩ = some (.slice (some ⟨be, 0, none⟩) yx.ents.length yc) ∧ W.cell? ⟨be, K2 * 4 + 2, none⟩ = some (.string nmz))) := Lib.hid (fun W hW => ⟨cellq_grown v0 hW (by simp; omega), cellq_grown v1 hW (by simp; omega), cellq_grown d4 hW (by simp; omega), cellq_grown d5 hW (by simp; omega)⟩)
   clear v0 v1 d4 d5
   go_wp2
   refine wp_region_held_drew (S := (fun W => W.cell? ⟨w.heap.size, 0, none⟩ = some (.int .i64 next) ∧ W.cell? ⟨w.heap.size, 1, none⟩ = some (.slice (some ⟨bv, 0, none⟩) m.length vcap) ∧ W.cell? ⟨bv, k * 5 + 4, none⟩ = some (.slice (some ⟨be, 0, none⟩) yx.ents.length yc) ∧ W.cell? ⟨be, K2 * 4 + 2, none⟩ = some (.string nmz))) (by kernel_rfl) ?_ (fun hHeld => ?_)
   ·try dsimp only
    exact HALL.out _ (grown_drew (World.grownBy.refl _ _))
   change wpAnyH _ _ _ _ _ 21 #[false, false, false, false, false, false, false, false, false, false, false, false, false, false, false, false, false, false, false, false, false] _ _
   refine wpH_take (i := 0) (v := ?_) rfl (by kernel_rfl) (by kernel_rfl) (by kernel_rfl) (fun _ _ _ h => h) (by rfl) ?_ (by assumption) ?_; rotate_left; (focus (intro w hSw; (try dsimp only at hSw); go_simp; try with_reducible rfl)); try simp only [Act.put, List.setIfInBounds_toArray, List.set_cons_zero, List.set_cons_succ]
   refine wpH_take (i := 1) (v := ?_) rfl (by kernel_rfl) (by kernel_rfl) (by kernel_rfl) (fun _ _ _ h => h) (by rfl) ?_ (by assumption) ?_; rotate_left; (focus (intro w hSw; (try dsimp only at hSw); go_simp; try with_reducible rfl)); try simp only [Act.put, List.setIfInBounds_toArray, List.set_cons_zero, List.set_cons_succ]
   refine wpH_take (i := 2) (v := ?_) rfl (by kernel_rfl) (by kernel_rfl) (by kernel_rfl) (fun _ _ _ h => h) (by rfl) ?_ (by assumption) ?_; rotate_left; (focus (intro w hSw; (try dsimp only at hSw); go_simp; try with_reducible rfl)); try simp only [Act.put, List.setIfInBounds_toArray, List.set_cons_zero, List.set_cons_succ]
   refine wpH_take (i := 3) (v := ?_) rfl (by kernel_rfl) (by kernel_rfl) (by kernel_rfl) (fun _ _ _ h => h) (by rfl) ?_ (by assumption) ?_; rotate_left; (focus (intro w hSw; (try dsimp only at hSw); go_simp; try with_reducible rfl)); try simp only [Act.put, List.setIfInBounds_toArray, List.set_cons_zero, List.set_cons_succ]
   refine wpH_take (i := 4) (v := ?_) rfl (by kernel_rfl) (by kernel_rfl) (by kernel_rfl) (fun _ _ _ h => h) (by rfl) ?_ (by assumption) ?_; rotate_left; (focus (intro w hSw; (try dsimp only at hSw); go_simp; try with_reducible rfl)); try simp only [Act.put, List.setIfInBounds_toArray, List.set_cons_zero, List.set_cons_succ]
   refine wpH_take (i := 5) (v := ?_) rfl (by kernel_rfl) (by kernel_rfl) (by kernel_rfl) (fun _ _ _ h => h) (by rfl) ?_ (by assumption) ?_; rotate_left; (focus (intro w hSw; (try dsimp only at hSw); go_simp; try with_reducible rfl)); try simp only [Act.put, List.setIfInBounds_toArray, List.set_cons_zero, List.set_cons_succ]
   refine wpH_take (i := 6) (v := ?_) rfl (by kernel_rfl) (by kernel_rfl) (by kernel_rfl) (fun _ _ _ h => h) (by rfl) ?_ (by assumption) ?_; rotate_left; (focus (intro w hSw; (try dsimp only at hSw); go_simp; try with_reducible rfl)); try simp only [Act.put, List.setIfInBounds_toArray, List.set_cons_zero, List.set_cons_succ]
   refine wpH_take (i := 7) (v := ?_) rfl (by kernel_rfl) (by kernel_rfl) (by kernel_rfl) (fun _ _ _ h => h) (by rfl) ?_ (by assumption) ?_; rotate_left; (focus (intro w hSw; (try dsimp only at hSw); go_simp; try with_reducible rfl)); try simp only [Act.put, List.setIfInBounds_toArray, List.set_cons_zero, List.set_cons_succ]
   refine wpH_take (i := 8) (v := ?_) rfl (by kernel_rfl) (by kernel_rfl) (by kernel_rfl) (fun _ _ _ h => h) (by rfl) ?_ (by assumption) ?_; rotate_left; (focus (intro w hSw; (try dsimp only at hSw); go_simp; try with_reducible rfl)); try simp only [Act.put, List.setIfInBounds_toArray, List.set_cons_zero, List.set_cons_succ]
   refine wpH_take (i := 9) (v := ?_) rfl (by kernel_rfl) (by kernel_rfl) (by kernel_rfl) (fun _ _ _ h => h) (by rfl) ?_ (by assumption) ?_; rotate_left; (focus (intro w hSw; (try dsimp only at hSw); go_simp; try with_reducible rfl)); try simp only [Act.put, List.setIfInBounds_toArray, List.set_cons_zero, List.set_cons_succ]
   refine wpH_take (i := 10) (v := ?_) rfl (by kernel_rfl) (by kernel_rfl) (by kernel_rfl) (fun _ _ _ h => h) (by rfl) ?_ (by assumption) ?_; rotate_left; (focus (intro w hSw; (try dsimp only at hSw); go_simp; try with_reducible rfl)); try simp only [Act.put, List.setIfInBounds_toArray, List.set_cons_zero, List.set_cons_succ]
   refine wpH_take (i := 11) (v := ?_) rfl (by kernel_rfl) (by kernel_rfl) (by kernel_rfl) (fun _ _ _ h => h) (by rfl) ?_ (by assumption) ?_; rotate_left; (focus (intro w hSw; (try dsimp only at hSw); go_simp; try with_reducible rfl)); try simp only [Act.put, List.setIfInBounds_toArray, List.set_cons_zero, List.set_cons_succ]
   refine wpH_take (i := 12) (v := ?_) rfl (by kernel_rfl) (by kernel_rfl) (by kernel_rfl) (fun _ _ _ h => h) (by rfl) ?_ (by assumption) ?_; rotate_left; (focus (intro w hSw; (try dsimp only at hSw); go_simp; try with_reducible rfl)); try simp only [Act.put, List.setIfInBounds_toArray, List.set_cons_zero, List.set_cons_succ]
   refine wpH_take (i := 13) (v := ?_) rfl (by kernel_rfl) (by kernel_rfl) (by kernel_rfl) (fun _ _ _ h => h) (by rfl) ?_ (by assumption) ?_; rotate_left; (focus (intro w hSw; (try dsimp only at hSw); go_simp; try with_reducible rfl)); try simp only [Act.put, List.setIfInBounds_toArray, List.set_cons_zero, List.set_cons_succ]
   refine wpH_take (i := 14) (v := ?_) rfl (by kernel_rfl) (by kernel_rfl) (by kernel_rfl) (fun _ _ _ h => h) (by rfl) ?_ (by assumption) ?_; rotate_left; (focus (intro w hSw; (try dsimp only at hSw); go_simp; try with_reducible rfl)); try simp only [Act.put, List.setIfInBounds_toArray, List.set_cons_zero, List.set_cons_succ]
   refine wpAnyH_ready (rs := [15]) (by kernel_rfl) (by simp) ?_
   refine AllReadyH.cons rfl (fun K hK => ?_) AllReadyH.nil
   try dsimp only at hHeld
   go_simp
   (go_at_call 12; refine (HB5.out _ HCB.out.drew).mono ?_; rintro e w6 ⟨s6, rfl, hc6, hg6⟩)
   refine hK.out _ _ ?_ (fun hHeld2 => ?_)
   ·try dsimp only
    exact HALL.out _ ((grown_drew (World.grownBy.refl _ _)).trans hg6)
   clear hK K hHeld
   have hHeld := hHeld2
   clear hHeld2
   have HF := Lib.hid (And.intro hc6 (HGB.out.trans ((grown_drew (World.grownBy.refl _ _)).trans hg6)))
   clear hc6 hg6
   refine wpH_take (i := 16) (v := ?_) rfl (by kernel_rfl) (by kernel_rfl) (by kernel_rfl) (fun _ _ _ h => h) (by rfl) ?_ (by assumption) ?_; rotate_left; (focus (intro w hSw; (try dsimp only at hSw); go_simp; try with_reducible rfl)); try simp only [Act.put, List.setIfInBounds_toArray, List.set_cons_zero, List.set_cons_succ]
   refine wpH_take (i := 17) (v := ?_) rfl (by kernel_rfl) (by kernel_rfl) (by kernel_rfl) (fun _ _ _ h => h) (by rfl) ?_ (by assumption) ?_; rotate_left; (focus (intro w hSw; (try dsimp only at hSw); go_simp; try with_reducible rfl)); try simp only [Act.put, List.setIfInBounds_toArray, List.set_cons_zero, List.set_cons_succ]
   refine wpH_take (i := 18) (v := ?_) rfl (by kernel_rfl) (by kernel_rfl) (by kernel_rfl) (fun _ _ _ h => h) (by rfl) ?_ (by assumption) ?_; rotate_left; (focus (intro w hSw; (try dsimp only at hSw); go_simp; try with_reducible rfl)); try simp only [Act.put, List.setIfInBounds_toArray, List.set_cons_zero, List.set_cons_succ]
   refine wpH_take (i := 19) (v := ?_) rfl (by kernel_rfl) (by kernel_rfl) (by kernel_rfl) (fun _ _ _ h => h) (by rfl) ?_ (by assumption) ?_; rotate_left; (focus (intro w hSw; (try dsimp only at hSw); go_simp; try with_reducible rfl)); try simp only [Act.put, List.setIfInBounds_toArray, List.set_cons_zero, List.set_cons_succ]
   refine wpH_take (i := 20) (v := ?_) rfl (by kernel_rfl) (by kernel_rfl) (by kernel_rfl) (fun _ _ _ h => h) (by rfl) ?_ (by assumption) ?_; rotate_left; (focus (intro w hSw; (try dsimp only at hSw); go_simp; try with_reducible rfl)); try simp only [Act.put, List.setIfInBounds_toArray, List.set_cons_zero, List.set_cons_succ]
   refine wpAnyH_done (by kernel_rfl) ?_ _
   try dsimp only at hHeld
   clear hHeld HALL
   go_wp2
   go_ret2
   exact ⟨idK, nmz, s6, rfl, hnz, HF.out.1, HF.out.2⟩
 | false =>
  go_wp2_with fail
  refine (l1Once_any a n cap bs g _ 8 _ HC3.out (by omega)).mono ?_
  rintro e w4 ⟨rfl, hC1, hG1⟩
  have HC4 := Lib.hid hC1
  have HG4 := Lib.hid (HG3.out.trans hG1)
  have HV4 := Lib.hid (HV3.out.low hG1 (fun q hq e => by have := (HV3.out.bl q hq).1; have := Option.some.inj e; omega))
  replace v0 := cellq_grown v0 hG1 (by simp; omega)
  replace v1 := cellq_grown v1 hG1 (by simp; omega)
  have hv4 : w.heap.size < w4.heap.size := World.block_lt_of_cell? w4 _ v0
  clear hC1 hG1 HC3 HG3 HV3
  simp only at HC4 ⊢
  generalize (belowF bs 8 s2).2 = s4 at *
  generalize ((belowF bs 8 s2).1 == 0) = t4 at *
  cases t4 with
  | true =>
   go_wp2_with fail
   refine (l6At_any next (some ⟨bv, 0, none⟩) m.length vcap (xs m) idK _ HV4.out.p.rd).mono ?_
   rintro e wA ⟨rfl, hbA⟩
   have HCA := Lib.hid (HC4.out.kept hbA)
   have HGA := Lib.hid (HG4.out.trans (grown_of_below (some g) hbA))
   have HVA := Lib.hid ((HV4.out.kept hbA).self)
   have hrg := atF_range (xs m) idK
   rw [xs_len] at hrg
   replace v0 := cellK v0 hbA
   replace v1 := cellK v1 hbA
   clear hbA HC4 HG4 HV4
   generalize atF (xs m) idK = rA at *
   have HL4 : Hid (∀ (W : World) (s4 : CS), CurAt a n cap bs g s4 W → w.grownBy W (some g) → Calls Try.prog 32 #[.pointer (some ⟨g, 0, none⟩)] W fun e w' => ∃ (t : ByteArray) (cs : CS), e = .returned (.string t) ∧ t.size ≤ 1073741824 ∧ CurAt a n cap bs g cs w' ∧ w.grownBy w' (some g)) := Lib.hid (fun W s4 hc hg => (l4Name_any a n cap bs g s4 W hc).mono (fun e w' ⟨⟨t, cs⟩, hnm, he, hc2, hg2⟩ => ⟨t, cs, he, by dsimp only at hnm; omega, hc2, hg.trans hg2⟩))
   by_cases h0 : 0 ≤ rA
   rotate_left
   ·go_wp2_with fail
    refine (HL4.out _ _ HCA.out HGA.out).mono ?_
    rintro e wB ⟨t, cs, rfl, ht, hc, hg⟩
    have HF := Lib.hid (And.intro ht (And.intro hc hg))
    clear ht hc hg
    go_wp2
    go_ret2
    exact ⟨idK, t, cs, rfl, HF.out.1, HF.out.2.1, HF.out.2.2⟩
   obtain ⟨k, rfl⟩ := Int.eq_ofNat_of_zero_le h0
   have hkl : k < m.length := by omega
   have hki : (k : Int) < (m.length : Int) := by omega
   obtain ⟨b2, o2, e', hb2, -, -, -, -, d4, hrd⟩ := volP_cells HVA.out.p (List.getElem?_eq_getElem hkl)
   cases e'
   simp only [Nat.zero_add] at d4
   have hown := HVA.out.sub m[k] (List.getElem_mem hkl)
   have hsz := HSZ.out m[k] (List.getElem_mem hkl)
   generalize m[k] = y at *
   by_cases hn0 : (0 : Int) < (y.x.ents.length : Int)
   rotate_left
   ·clear hown hrd
    go_wp2_with fail
    refine (HL4.out _ _ HCA.out HGA.out).mono ?_
    rintro e wB ⟨t, cs, rfl, ht, hc, hg⟩
    have HF := Lib.hid (And.intro ht (And.intro hc hg))
    clear ht hc hg
    go_wp2
    go_ret2
    exact ⟨idK, t, cs, rfl, HF.out.1, HF.out.2.1, HF.out.2.2⟩
   obtain ⟨be, ce, he, hbe⟩ := hown.shape1 (by omega)
   obtain ⟨yx, ya, yc⟩ := y
   simp only [Value.slice.injEq] at he
   obtain ⟨rfl, -, rfl⟩ := he
   dsimp only at *
   have HRD := Lib.hid hrd
   have HNZ := Lib.hid hsz
   clear hown hrd hsz
   have hyl := HNZ.out.1
   go_wp2_with fail
   refine (l1Once_any a n cap bs g _ 2 _ HCA.out (by omega)).mono ?_
   rintro e wB ⟨rfl, hC1, hG1⟩
   have HCB := Lib.hid hC1
   have HGB := Lib.hid (HGA.out.trans hG1)
   replace v0 := cellq_grown v0 hG1 (by simp; omega)
   replace v1 := cellq_grown v1 hG1 (by simp; omega)
   replace d4 := cellq_grown d4 hG1 (by simp; omega)
   have HRB := Lib.hid (HRD.out.grown hG1 (fun x hx _ => by cases hx; simp; omega))
   have hvB : w.heap.size < wB.heap.size := World.block_lt_of_cell? wB _ v0
   have hbB : bv < wB.heap.size := World.block_lt_of_cell? wB _ d4
   clear hC1 hG1 HCA HGA HRD HVA
   simp only at HCB ⊢
   generalize (belowF bs 2 _).2 = s5 at *
   generalize ((belowF bs 2 _).1 == 0) = t5 at *
   cases t5 with
   | false =>
    go_wp2_with fail
    refine (HL4.out _ _ HCB.out HGB.out).mono ?_
    rintro e wD ⟨t, cs, rfl, ht, hc, hg⟩
    have HF := Lib.hid (And.intro ht (And.intro hc hg))
    clear ht hc hg
    go_wp2
    go_ret2
    exact ⟨idK, t, cs, rfl, HF.out.1, HF.out.2.1, HF.out.2.2⟩
   | true =>
    have hr5 := belowF_range bs (yx.ents.length : Int) s5 (by omega)
    obtain ⟨K2, hK2⟩ := Int.eq_ofNat_of_zero_le hr5.1
    have HB5 : Hid (∀ W, CurAt a n cap bs g s5 W → Calls Try.prog 12 #[.pointer (some ⟨g, 0, none⟩), .int .i64 (yx.ents.length : Int)] W fun e w' => ∃ cs : CS, e = .returned (.int .i64 (K2 : Int)) ∧ CurAt a n cap bs g cs w' ∧ W.grownBy w' (some g)) := Lib.hid (fun W hc => (l1Below_any a n cap bs g s5 (yx.ents.length : Int) W hc (by omega)).mono (fun e w' ⟨he, hc2, hg2⟩ => ⟨_, by rw [he, hK2], hc2, hg2⟩))
    have hK2l : K2 < yx.ents.length := by omega
    clear hr5 hK2
    obtain ⟨b3, o3, e', hb3, -, -, d5, -⟩ := ens_cells HRB.out K2 hK2l
    cases e'
    simp only [Nat.zero_add] at d5
    have hnz := HNZ.out.2 yx.ents[K2] (List.getElem_mem hK2l)
    generalize yx.ents[K2].name = nmz at *
    have hK2i : (K2 : Int) < (yx.ents.length : Int) := by omega
    have hK20 : (0 : Int) ≤ (K2 : Int) := by omega
    have HALL : Hid (∀ W, wB.grownBy W (some g) → (W.cell? ⟨w.heap.size, 0, none⟩ = some (.int .i64 next) ∧ W.cell? ⟨w.heap.size, 1, none⟩ = some (.slice (some ⟨bv, 0, none⟩) m.length vcap) ∧ W.cell? ⟨bv, k * 5 + 4, none⟩ = some (.slice (some ⟨be, 0, none⟩) yx.ents.length yc) ∧ W.cell? ⟨be, K2 * 4 + 2, none⟩ = some (.string nmz))) := Lib.hid (fun W hW => ⟨cellq_grown v0 hW (by simp; omega), cellq_grown v1 hW (by simp; omega), cellq_grown d4 hW (by simp; omega), cellq_grown d5 hW (by simp; omega)⟩)
    clear v0 v1 d4 d5
    go_wp2
    refine wp_region_held_drew (S := (fun W => W.cell? ⟨w.heap.size, 0, none⟩ = some (.int .i64 next) ∧ W.cell? ⟨w.heap.size, 1, none⟩ = some (.slice (some ⟨bv, 0, none⟩) m.length vcap) ∧ W.cell? ⟨bv, k * 5 + 4, none⟩ = some (.slice (some ⟨be, 0, none⟩) yx.ents.length yc) ∧ W.cell? ⟨be, K2 * 4 + 2, none⟩ = some (.string nmz))) (by kernel_rfl) ?_ (fun hHeld => ?_)
    ·try dsimp only
     exact HALL.out _ (grown_drew (World.grownBy.refl _ _))
    change wpAnyH _ _ _ _ _ 21 #[false, false, false, false, false, false, false, false, false, false, false, false, false, false, false, false, false, false, false, false, false] _ _
    refine wpH_take (i := 0) (v := ?_) rfl (by kernel_rfl) (by kernel_rfl) (by kernel_rfl) (fun _ _ _ h => h) (by rfl) ?_ (by assumption) ?_; rotate_left; (focus (intro w hSw; (try dsimp only at hSw); go_simp; try with_reducible rfl)); try simp only [Act.put, List.setIfInBounds_toArray, List.set_cons_zero, List.set_cons_succ]
    refine wpH_take (i := 1) (v := ?_) rfl (by kernel_rfl) (by kernel_rfl) (by kernel_rfl) (fun _ _ _ h => h) (by rfl) ?_ (by assumption) ?_; rotate_left; (focus (intro w hSw; (try dsimp only at hSw); go_simp; try with_reducible rfl)); try simp only [Act.put, List.setIfInBounds_toArray, List.set_cons_zero, List.set_cons_succ]
    refine wpH_take (i := 2) (v := ?_) rfl (by kernel_rfl) (by kernel_rfl) (by kernel_rfl) (fun _ _ _ h => h) (by rfl) ?_ (by assumption) ?_; rotate_left; (focus (intro w hSw; (try dsimp only at hSw); go_simp; try with_reducible rfl)); try simp only [Act.put, List.setIfInBounds_toArray, List.set_cons_zero, List.set_cons_succ]
    refine wpH_take (i := 3) (v := ?_) rfl (by kernel_rfl) (by kernel_rfl) (by kernel_rfl) (fun _ _ _ h => h) (by rfl) ?_ (by assumption) ?_; rotate_left; (focus (intro w hSw; (try dsimp only at hSw); go_simp; try with_reducible rfl)); try simp only [Act.put, List.setIfInBounds_toArray, List.set_cons_zero, List.set_cons_succ]
    refine wpH_take (i := 4) (v := ?_) rfl (by kernel_rfl) (by kernel_rfl) (by kernel_rfl) (fun _ _ _ h => h) (by rfl) ?_ (by assumption) ?_; rotate_left; (focus (intro w hSw; (try dsimp only at hSw); go_simp; try with_reducible rfl)); try simp only [Act.put, List.setIfInBounds_toArray, List.set_cons_zero, List.set_cons_succ]
    refine wpH_take (i := 5) (v := ?_) rfl (by kernel_rfl) (by kernel_rfl) (by kernel_rfl) (fun _ _ _ h => h) (by rfl) ?_ (by assumption) ?_; rotate_left; (focus (intro w hSw; (try dsimp only at hSw); go_simp; try with_reducible rfl)); try simp only [Act.put, List.setIfInBounds_toArray, List.set_cons_zero, List.set_cons_succ]
    refine wpH_take (i := 6) (v := ?_) rfl (by kernel_rfl) (by kernel_rfl) (by kernel_rfl) (fun _ _ _ h => h) (by rfl) ?_ (by assumption) ?_; rotate_left; (focus (intro w hSw; (try dsimp only at hSw); go_simp; try with_reducible rfl)); try simp only [Act.put, List.setIfInBounds_toArray, List.set_cons_zero, List.set_cons_succ]
    refine wpH_take (i := 7) (v := ?_) rfl (by kernel_rfl) (by kernel_rfl) (by kernel_rfl) (fun _ _ _ h => h) (by rfl) ?_ (by assumption) ?_; rotate_left; (focus (intro w hSw; (try dsimp only at hSw); go_simp; try with_reducible rfl)); try simp only [Act.put, List.setIfInBounds_toArray, List.set_cons_zero, List.set_cons_succ]
    refine wpH_take (i := 8) (v := ?_) rfl (by kernel_rfl) (by kernel_rfl) (by kernel_rfl) (fun _ _ _ h => h) (by rfl) ?_ (by assumption) ?_; rotate_left; (focus (intro w hSw; (try dsimp only at hSw); go_simp; try with_reducible rfl)); try simp only [Act.put, List.setIfInBounds_toArray, List.set_cons_zero, List.set_cons_succ]
    refine wpH_take (i := 9) (v := ?_) rfl (by kernel_rfl) (by kernel_rfl) (by kernel_rfl) (fun _ _ _ h => h) (by rfl) ?_ (by assumption) ?_; rotate_left; (focus (intro w hSw; (try dsimp only at hSw); go_simp; try with_reducible rfl)); try simp only [Act.put, List.setIfInBounds_toArray, List.set_cons_zero, List.set_cons_succ]
    refine wpH_take (i := 10) (v := ?_) rfl (by kernel_rfl) (by kernel_rfl) (by kernel_rfl) (fun _ _ _ h => h) (by rfl) ?_ (by assumption) ?_; rotate_left; (focus (intro w hSw; (try dsimp only at hSw); go_simp; try with_reducible rfl)); try simp only [Act.put, List.setIfInBounds_toArray, List.set_cons_zero, List.set_cons_succ]
    refine wpH_take (i := 11) (v := ?_) rfl (by kernel_rfl) (by kernel_rfl) (by kernel_rfl) (fun _ _ _ h => h) (by rfl) ?_ (by assumption) ?_; rotate_left; (focus (intro w hSw; (try dsimp only at hSw); go_simp; try with_reducible rfl)); try simp only [Act.put, List.setIfInBounds_toArray, List.set_cons_zero, List.set_cons_succ]
    refine wpH_take (i := 12) (v := ?_) rfl (by kernel_rfl) (by kernel_rfl) (by kernel_rfl) (fun _ _ _ h => h) (by rfl) ?_ (by assumption) ?_; rotate_left; (focus (intro w hSw; (try dsimp only at hSw); go_simp; try with_reducible rfl)); try simp only [Act.put, List.setIfInBounds_toArray, List.set_cons_zero, List.set_cons_succ]
    refine wpH_take (i := 13) (v := ?_) rfl (by kernel_rfl) (by kernel_rfl) (by kernel_rfl) (fun _ _ _ h => h) (by rfl) ?_ (by assumption) ?_; rotate_left; (focus (intro w hSw; (try dsimp only at hSw); go_simp; try with_reducible rfl)); try simp only [Act.put, List.setIfInBounds_toArray, List.set_cons_zero, List.set_cons_succ]
    refine wpH_take (i := 14) (v := ?_) rfl (by kernel_rfl) (by kernel_rfl) (by kernel_rfl) (fun _ _ _ h => h) (by rfl) ?_ (by assumption) ?_; rotate_left; (focus (intro w hSw; (try dsimp only at hSw); go_simp; try with_reducible rfl)); try simp only [Act.put, List.setIfInBounds_toArray, List.set_cons_zero, List.set_cons_succ]
    refine wpAnyH_ready (rs := [15]) (by kernel_rfl) (by simp) ?_
    refine AllReadyH.cons rfl (fun K hK => ?_) AllReadyH.nil
    try dsimp only at hHeld
    go_simp
    (go_at_call 12; refine (HB5.out _ HCB.out.drew).mono ?_; rintro e w6 ⟨s6, rfl, hc6, hg6⟩)
    refine hK.out _ _ ?_ (fun hHeld2 => ?_)
    ·try dsimp only
     exact HALL.out _ ((grown_drew (World.grownBy.refl _ _)).trans hg6)
    clear hK K hHeld
    have hHeld := hHeld2
    clear hHeld2
    have HF := Lib.hid (And.intro hc6 (HGB.out.trans ((grown_drew (World.grownBy.refl _ _)).trans hg6)))
    clear hc6 hg6
    refine wpH_take (i := 16) (v := ?_) rfl (by kernel_rfl) (by kernel_rfl) (by kernel_rfl) (fun _ _ _ h => h) (by rfl) ?_ (by assumption) ?_; rotate_left; (focus (intro w hSw; (try dsimp only at hSw); go_simp; try with_reducible rfl)); try simp only [Act.put, List.setIfInBounds_toArray, List.set_cons_zero, List.set_cons_succ]
    refine wpH_take (i := 17) (v := ?_) rfl (by kernel_rfl) (by kernel_rfl) (by kernel_rfl) (fun _ _ _ h => h) (by rfl) ?_ (by assumption) ?_; rotate_left; (focus (intro w hSw; (try dsimp only at hSw); go_simp; try with_reducible rfl)); try simp only [Act.put, List.setIfInBounds_toArray, List.set_cons_zero, List.set_cons_succ]
    refine wpH_take (i := 18) (v := ?_) rfl (by kernel_rfl) (by kernel_rfl) (by kernel_rfl) (fun _ _ _ h => h) (by rfl) ?_ (by assumption) ?_; rotate_left; (focus (intro w hSw; (try dsimp only at hSw); go_simp; try with_reducible rfl)); try simp only [Act.put, List.setIfInBounds_toArray, List.set_cons_zero, List.set_cons_succ]
    refine wpH_take (i := 19) (v := ?_) rfl (by kernel_rfl) (by kernel_rfl) (by kernel_rfl) (fun _ _ _ h => h) (by rfl) ?_ (by assumption) ?_; rotate_left; (focus (intro w hSw; (try dsimp only at hSw); go_simp; try with_reducible rfl)); try simp only [Act.put, List.setIfInBounds_toArray, List.set_cons_zero, List.set_cons_succ]
    refine wpH_take (i := 20) (v := ?_) rfl (by kernel_rfl) (by kernel_rfl) (by kernel_rfl) (fun _ _ _ h => h) (by rfl) ?_ (by assumption) ?_; rotate_left; (focus (intro w hSw; (try dsimp only at hSw); go_simp; try with_reducible rfl)); try simp only [Act.put, List.setIfInBounds_toArray, List.set_cons_zero, List.set_cons_succ]
    refine wpAnyH_done (by kernel_rfl) ?_ _
    try dsimp only at hHeld
    clear hHeld HALL
    go_wp2
    go_ret2
    exact ⟨idK, nmz, s6, rfl, hnz, HF.out.1, HF.out.2⟩
  | false =>
   go_wp2_with fail
   refine (l6At_any next (some ⟨bv, 0, none⟩) m.length vcap (xs m) 1 _ HV4.out.p.rd).mono ?_
   rintro e wA ⟨rfl, hbA⟩
   have HCA := Lib.hid (HC4.out.kept hbA)
   have HGA := Lib.hid (HG4.out.trans (grown_of_below (some g) hbA))
   have HVA := Lib.hid ((HV4.out.kept hbA).self)
   have hrg := atF_range (xs m) 1
   rw [xs_len] at hrg
   replace v0 := cellK v0 hbA
   replace v1 := cellK v1 hbA
   clear hbA HC4 HG4 HV4
   generalize atF (xs m) 1 = rA at *
   have HL4 : Hid (∀ (W : World) (s4 : CS), CurAt a n cap bs g s4 W → w.grownBy W (some g) → Calls Try.prog 32 #[.pointer (some ⟨g, 0, none⟩)] W fun e w' => ∃ (t : ByteArray) (cs : CS), e = .returned (.string t) ∧ t.size ≤ 1073741824 ∧ CurAt a n cap bs g cs w' ∧ w.grownBy w' (some g)) := Lib.hid (fun W s4 hc hg => (l4Name_any a n cap bs g s4 W hc).mono (fun e w' ⟨⟨t, cs⟩, hnm, he, hc2, hg2⟩ => ⟨t, cs, he, by dsimp only at hnm; omega, hc2, hg.trans hg2⟩))
   by_cases h0 : 0 ≤ rA
   rotate_left
   ·go_wp2_with fail
    refine (HL4.out _ _ HCA.out HGA.out).mono ?_
    rintro e wB ⟨t, cs, rfl, ht, hc, hg⟩
    have HF := Lib.hid (And.intro ht (And.intro hc hg))
    clear ht hc hg
    go_wp2
    go_ret2
    exact ⟨1, t, cs, rfl, HF.out.1, HF.out.2.1, HF.out.2.2⟩
   obtain ⟨k, rfl⟩ := Int.eq_ofNat_of_zero_le h0
   have hkl : k < m.length := by omega
   have hki : (k : Int) < (m.length : Int) := by omega
   obtain ⟨b2, o2, e', hb2, -, -, -, -, d4, hrd⟩ := volP_cells HVA.out.p (List.getElem?_eq_getElem hkl)
   cases e'
   simp only [Nat.zero_add] at d4
   have hown := HVA.out.sub m[k] (List.getElem_mem hkl)
   have hsz := HSZ.out m[k] (List.getElem_mem hkl)
   generalize m[k] = y at *
   by_cases hn0 : (0 : Int) < (y.x.ents.length : Int)
   rotate_left
   ·clear hown hrd
    go_wp2_with fail
    refine (HL4.out _ _ HCA.out HGA.out).mono ?_
    rintro e wB ⟨t, cs, rfl, ht, hc, hg⟩
    have HF := Lib.hid (And.intro ht (And.intro hc hg))
    clear ht hc hg
    go_wp2
    go_ret2
    exact ⟨1, t, cs, rfl, HF.out.1, HF.out.2.1, HF.out.2.2⟩
   obtain ⟨be, ce, he, hbe⟩ := hown.shape1 (by omega)
   obtain ⟨yx, ya, yc⟩ := y
   simp only [Value.slice.injEq] at he
   obtain ⟨rfl, -, rfl⟩ := he
   dsimp only at *
   have HRD := Lib.hid hrd
   have HNZ := Lib.hid hsz
   clear hown hrd hsz
   have hyl := HNZ.out.1
   go_wp2_with fail
   refine (l1Once_any a n cap bs g _ 2 _ HCA.out (by omega)).mono ?_
   rintro e wB ⟨rfl, hC1, hG1⟩
   have HCB := Lib.hid hC1
   have HGB := Lib.hid (HGA.out.trans hG1)
   replace v0 := cellq_grown v0 hG1 (by simp; omega)
   replace v1 := cellq_grown v1 hG1 (by simp; omega)
   replace d4 := cellq_grown d4 hG1 (by simp; omega)
   have HRB := Lib.hid (HRD.out.grown hG1 (fun x hx _ => by cases hx; simp; omega))
   have hvB : w.heap.size < wB.heap.size := World.block_lt_of_cell? wB _ v0
   have hbB : bv < wB.heap.size := World.block_lt_of_cell? wB _ d4
   clear hC1 hG1 HCA HGA HRD HVA
   simp only at HCB ⊢
   generalize (belowF bs 2 _).2 = s5 at *
   generalize ((belowF bs 2 _).1 == 0) = t5 at *
   cases t5 with
   | false =>
    go_wp2_with fail
    refine (HL4.out _ _ HCB.out HGB.out).mono ?_
    rintro e wD ⟨t, cs, rfl, ht, hc, hg⟩
    have HF := Lib.hid (And.intro ht (And.intro hc hg))
    clear ht hc hg
    go_wp2
    go_ret2
    exact ⟨1, t, cs, rfl, HF.out.1, HF.out.2.1, HF.out.2.2⟩
   | true =>
    have hr5 := belowF_range bs (yx.ents.length : Int) s5 (by omega)
    obtain ⟨K2, hK2⟩ := Int.eq_ofNat_of_zero_le hr5.1
    have HB5 : Hid (∀ W, CurAt a n cap bs g s5 W → Calls Try.prog 12 #[.pointer (some ⟨g, 0, none⟩), .int .i64 (yx.ents.length : Int)] W fun e w' => ∃ cs : CS, e = .returned (.int .i64 (K2 : Int)) ∧ CurAt a n cap bs g cs w' ∧ W.grownBy w' (some g)) := Lib.hid (fun W hc => (l1Below_any a n cap bs g s5 (yx.ents.length : Int) W hc (by omega)).mono (fun e w' ⟨he, hc2, hg2⟩ => ⟨_, by rw [he, hK2], hc2, hg2⟩))
    have hK2l : K2 < yx.ents.length := by omega
    clear hr5 hK2
    obtain ⟨b3, o3, e', hb3, -, -, d5, -⟩ := ens_cells HRB.out K2 hK2l
    cases e'
    simp only [Nat.zero_add] at d5
    have hnz := HNZ.out.2 yx.ents[K2] (List.getElem_mem hK2l)
    generalize yx.ents[K2].name = nmz at *
    have hK2i : (K2 : Int) < (yx.ents.length : Int) := by omega
    have hK20 : (0 : Int) ≤ (K2 : Int) := by omega
    have HALL : Hid (∀ W, wB.grownBy W (some g) → (W.cell? ⟨w.heap.size, 0, none⟩ = some (.int .i64 next) ∧ W.cell? ⟨w.heap.size, 1, none⟩ = some (.slice (some ⟨bv, 0, none⟩) m.length vcap) ∧ W.cell? ⟨bv, k * 5 + 4, none⟩ = some (.slice (some ⟨be, 0, none⟩) yx.ents.length yc) ∧ W.cell? ⟨be, K2 * 4 + 2, none⟩ = some (.string nmz))) := Lib.hid (fun W hW => ⟨cellq_grown v0 hW (by simp; omega), cellq_grown v1 hW (by simp; omega), cellq_grown d4 hW (by simp; omega), cellq_grown d5 hW (by simp; omega)⟩)
    clear v0 v1 d4 d5
    go_wp2
    refine wp_region_held_drew (S := (fun W => W.cell? ⟨w.heap.size, 0, none⟩ = some (.int .i64 next) ∧ W.cell? ⟨w.heap.size, 1, none⟩ = some (.slice (some ⟨bv, 0, none⟩) m.length vcap) ∧ W.cell? ⟨bv, k * 5 + 4, none⟩ = some (.slice (some ⟨be, 0, none⟩) yx.ents.length yc) ∧ W.cell? ⟨be, K2 * 4 + 2, none⟩ = some (.string nmz))) (by kernel_rfl) ?_ (fun hHeld => ?_)
    ·try dsimp only
     exact HALL.out _ (grown_drew (World.grownBy.refl _ _))
    change wpAnyH _ _ _ _ _ 21 #[false, false, false, false, false, false, false, false, false, false, false, false, false, false, false, false, false, false, false, false, false] _ _
    refine wpH_take (i := 0) (v := ?_) rfl (by kernel_rfl) (by kernel_rfl) (by kernel_rfl) (fun _ _ _ h => h) (by rfl) ?_ (by assumption) ?_; rotate_left; (focus (intro w hSw; (try dsimp only at hSw); go_simp; try with_reducible rfl)); try simp only [Act.put, List.setIfInBounds_toArray, List.set_cons_zero, List.set_cons_succ]
    refine wpH_take (i := 1) (v := ?_) rfl (by kernel_rfl) (by kernel_rfl) (by kernel_rfl) (fun _ _ _ h => h) (by rfl) ?_ (by assumption) ?_; rotate_left; (focus (intro w hSw; (try dsimp only at hSw); go_simp; try with_reducible rfl)); try simp only [Act.put, List.setIfInBounds_toArray, List.set_cons_zero, List.set_cons_succ]
    refine wpH_take (i := 2) (v := ?_) rfl (by kernel_rfl) (by kernel_rfl) (by kernel_rfl) (fun _ _ _ h => h) (by rfl) ?_ (by assumption) ?_; rotate_left; (focus (intro w hSw; (try dsimp only at hSw); go_simp; try with_reducible rfl)); try simp only [Act.put, List.setIfInBounds_toArray, List.set_cons_zero, List.set_cons_succ]
    refine wpH_take (i := 3) (v := ?_) rfl (by kernel_rfl) (by kernel_rfl) (by kernel_rfl) (fun _ _ _ h => h) (by rfl) ?_ (by assumption) ?_; rotate_left; (focus (intro w hSw; (try dsimp only at hSw); go_simp; try with_reducible rfl)); try simp only [Act.put, List.setIfInBounds_toArray, List.set_cons_zero, List.set_cons_succ]
    refine wpH_take (i := 4) (v := ?_) rfl (by kernel_rfl) (by kernel_rfl) (by kernel_rfl) (fun _ _ _ h => h) (by rfl) ?_ (by assumption) ?_; rotate_left; (focus (intro w hSw; (try dsimp only at hSw); go_simp; try with_reducible rfl)); try simp only [Act.put, List.setIfInBounds_toArray, List.set_cons_zero, List.set_cons_succ]
    refine wpH_take (i := 5) (v := ?_) rfl (by kernel_rfl) (by kernel_rfl) (by kernel_rfl) (fun _ _ _ h => h) (by rfl) ?_ (by assumption) ?_; rotate_left; (focus (intro w hSw; (try dsimp only at hSw); go_simp; try with_reducible rfl)); try simp only [Act.put, List.setIfInBounds_toArray, List.set_cons_zero, List.set_cons_succ]
    refine wpH_take (i := 6) (v := ?_) rfl (by kernel_rfl) (by kernel_rfl) (by kernel_rfl) (fun _ _ _ h => h) (by rfl) ?_ (by assumption) ?_; rotate_left; (focus (intro w hSw; (try dsimp only at hSw); go_simp; try with_reducible rfl)); try simp only [Act.put, List.setIfInBounds_toArray, List.set_cons_zero, List.set_cons_succ]
    refine wpH_take (i := 7) (v := ?_) rfl (by kernel_rfl) (by kernel_rfl) (by kernel_rfl) (fun _ _ _ h => h) (by rfl) ?_ (by assumption) ?_; rotate_left; (focus (intro w hSw; (try dsimp only at hSw); go_simp; try with_reducible rfl)); try simp only [Act.put, List.setIfInBounds_toArray, List.set_cons_zero, List.set_cons_succ]
    refine wpH_take (i := 8) (v := ?_) rfl (by kernel_rfl) (by kernel_rfl) (by kernel_rfl) (fun _ _ _ h => h) (by rfl) ?_ (by assumption) ?_; rotate_left; (focus (intro w hSw; (try dsimp only at hSw); go_simp; try with_reducible rfl)); try simp only [Act.put, List.setIfInBounds_toArray, List.set_cons_zero, List.set_cons_succ]
    refine wpH_take (i := 9) (v := ?_) rfl (by kernel_rfl) (by kernel_rfl) (by kernel_rfl) (fun _ _ _ h => h) (by rfl) ?_ (by assumption) ?_; rotate_left; (focus (intro w hSw; (try dsimp only at hSw); go_simp; try with_reducible rfl)); try simp only [Act.put, List.setIfInBounds_toArray, List.set_cons_zero, List.set_cons_succ]
    refine wpH_take (i := 10) (v := ?_) rfl (by kernel_rfl) (by kernel_rfl) (by kernel_rfl) (fun _ _ _ h => h) (by rfl) ?_ (by assumption) ?_; rotate_left; (focus (intro w hSw; (try dsimp only at hSw); go_simp; try with_reducible rfl)); try simp only [Act.put, List.setIfInBounds_toArray, List.set_cons_zero, List.set_cons_succ]
    refine wpH_take (i := 11) (v := ?_) rfl (by kernel_rfl) (by kernel_rfl) (by kernel_rfl) (fun _ _ _ h => h) (by rfl) ?_ (by assumption) ?_; rotate_left; (focus (intro w hSw; (try dsimp only at hSw); go_simp; try with_reducible rfl)); try simp only [Act.put, List.setIfInBounds_toArray, List.set_cons_zero, List.set_cons_succ]
    refine wpH_take (i := 12) (v := ?_) rfl (by kernel_rfl) (by kernel_rfl) (by kernel_rfl) (fun _ _ _ h => h) (by rfl) ?_ (by assumption) ?_; rotate_left; (focus (intro w hSw; (try dsimp only at hSw); go_simp; try with_reducible rfl)); try simp only [Act.put, List.setIfInBounds_toArray, List.set_cons_zero, List.set_cons_succ]
    refine wpH_take (i := 13) (v := ?_) rfl (by kernel_rfl) (by kernel_rfl) (by kernel_rfl) (fun _ _ _ h => h) (by rfl) ?_ (by assumption) ?_; rotate_left; (focus (intro w hSw; (try dsimp only at hSw); go_simp; try with_reducible rfl)); try simp only [Act.put, List.setIfInBounds_toArray, List.set_cons_zero, List.set_cons_succ]
    refine wpH_take (i := 14) (v := ?_) rfl (by kernel_rfl) (by kernel_rfl) (by kernel_rfl) (fun _ _ _ h => h) (by rfl) ?_ (by assumption) ?_; rotate_left; (focus (intro w hSw; (try dsimp only at hSw); go_simp; try with_reducible rfl)); try simp only [Act.put, List.setIfInBounds_toArray, List.set_cons_zero, List.set_cons_succ]
    refine wpAnyH_ready (rs := [15]) (by kernel_rfl) (by simp) ?_
    refine AllReadyH.cons rfl (fun K hK => ?_) AllReadyH.nil
    try dsimp only at hHeld
    go_simp
    (go_at_call 12; refine (HB5.out _ HCB.out.drew).mono ?_; rintro e w6 ⟨s6, rfl, hc6, hg6⟩)
    refine hK.out _ _ ?_ (fun hHeld2 => ?_)
    ·try dsimp only
     exact HALL.out _ ((grown_drew (World.grownBy.refl _ _)).trans hg6)
    clear hK K hHeld
    have hHeld := hHeld2
    clear hHeld2
    have HF := Lib.hid (And.intro hc6 (HGB.out.trans ((grown_drew (World.grownBy.refl _ _)).trans hg6)))
    clear hc6 hg6
    refine wpH_take (i := 16) (v := ?_) rfl (by kernel_rfl) (by kernel_rfl) (by kernel_rfl) (fun _ _ _ h => h) (by rfl) ?_ (by assumption) ?_; rotate_left; (focus (intro w hSw; (try dsimp only at hSw); go_simp; try with_reducible rfl)); try simp only [Act.put, List.setIfInBounds_toArray, List.set_cons_zero, List.set_cons_succ]
    refine wpH_take (i := 17) (v := ?_) rfl (by kernel_rfl) (by kernel_rfl) (by kernel_rfl) (fun _ _ _ h => h) (by rfl) ?_ (by assumption) ?_; rotate_left; (focus (intro w hSw; (try dsimp only at hSw); go_simp; try with_reducible rfl)); try simp only [Act.put, List.setIfInBounds_toArray, List.set_cons_zero, List.set_cons_succ]
    refine wpH_take (i := 18) (v := ?_) rfl (by kernel_rfl) (by kernel_rfl) (by kernel_rfl) (fun _ _ _ h => h) (by rfl) ?_ (by assumption) ?_; rotate_left; (focus (intro w hSw; (try dsimp only at hSw); go_simp; try with_reducible rfl)); try simp only [Act.put, List.setIfInBounds_toArray, List.set_cons_zero, List.set_cons_succ]
    refine wpH_take (i := 19) (v := ?_) rfl (by kernel_rfl) (by kernel_rfl) (by kernel_rfl) (fun _ _ _ h => h) (by rfl) ?_ (by assumption) ?_; rotate_left; (focus (intro w hSw; (try dsimp only at hSw); go_simp; try with_reducible rfl)); try simp only [Act.put, List.setIfInBounds_toArray, List.set_cons_zero, List.set_cons_succ]
    refine wpH_take (i := 20) (v := ?_) rfl (by kernel_rfl) (by kernel_rfl) (by kernel_rfl) (fun _ _ _ h => h) (by rfl) ?_ (by assumption) ?_; rotate_left; (focus (intro w hSw; (try dsimp only at hSw); go_simp; try with_reducible rfl)); try simp only [Act.put, List.setIfInBounds_toArray, List.set_cons_zero, List.set_cons_succ]
    refine wpAnyH_done (by kernel_rfl) ?_ _
    try dsimp only at hHeld
    clear hHeld HALL
    go_wp2
    go_ret2
    exact ⟨1, nmz, s6, rfl, hnz, HF.out.1, HF.out.2⟩
end Go.Proofs.Ytlkfabkkjfmnmaa
