import Derived.Test.YtlkfabkkjfmnmaaKak
import Derived.Test.YtlkfabkkjfmnmaaKam
import Derived.Test.YtlkfabkkjfmnmaaKan
import Derived.Deep.DeepCutAuto
namespace Go.Proofs.Ytlkfabkkjfmnmaa
open Go.RowKit
set_option linter.all false
def Cs (w : World) (b : Nat) (vs : List Value) : Prop := b < w.heap.size ∧ ∀ j (h : j < vs.length), w.cell? ⟨b, j, none⟩ = some vs[j] ∧ w.frozen? ⟨b, j, none⟩ = false
theorem Cs.lt {w : World} {b : Nat} {vs : List Value} (h : Cs w b vs) : b < w.heap.size := h.1
theorem Cs.kept {w w' : World} {b : Nat} {vs : List Value} (h : Cs w b vs) (hb : w'.heap[b]? = w.heap[b]?) (hs : w.heap.size ≤ w'.heap.size) : Cs w' b vs :=
 ⟨Nat.lt_of_lt_of_le h.1 hs, fun j hj => ⟨(World.cell?_of_block (a := ⟨b, j, none⟩) hb).trans (h.2 j hj).1, (World.frozen?_of_block (a := ⟨b, j, none⟩) hb).trans (h.2 j hj).2⟩⟩
theorem Cs.grown {w w' : World} {b : Nat} {r : Option Nat} {vs : List Value} (h : Cs w b vs) (hg : w.grownBy w' r) (hne : r ≠ some b) : Cs w' b vs := h.kept (hg.block b h.1 (fun e => hne e.symm)) hg.size
theorem Cs.below {w w' : World} {b : Nat} {vs : List Value} (h : Cs w b vs) (hb : Below w.heap.size w w') : Cs w' b vs := h.kept (hb.block b h.1) hb.size
theorem Cs.alloc {w : World} {b : Nat} {vs : List Value} (h : Cs w b vs) (o : Obj) : Cs (w.alloc o) b vs := h.below (boxA w o)
theorem Cs.drew {w : World} {b : Nat} {vs : List Value} (h : Cs w b vs) : Cs w.drew b vs := h.below (Below.refl _ _).drew
theorem cs_new (w : World) (e : TypeId) (arr : Array Value) : Cs (w.alloc (.cells arr e)) w.heap.size arr.toList := by
 refine ⟨by simp, fun j hj => ⟨?_, frozen_of_row _ _ j arr e (heap_alloc_new w _)⟩⟩
 rw [cell_of_row _ _ j arr e (0, 0) (heap_alloc_new w _)]
 simp only [Array.length_toList] at hj
 simp [hj]
theorem Cs.set {w : World} {b : Nat} {vs : List Value} (h : Cs w b vs) (j : Nat) (u : Value) : Cs (w.setCell ⟨b, j, none⟩ u) b (vs.set j u) := by
 have hset : w.setCells b j [u] = w.setCell ⟨b, j, none⟩ u := rfl
 refine ⟨by simpa [World.setCell] using h.1, fun i hi => ⟨?_, ?_⟩⟩
 ·have hi2 : i < vs.length := by simpa using hi
  by_cases e : i = j
  ·subst e
   have := World.cell?_setCells_in b [u] i w (fun k hk => by
    have e0 : k = 0 := by simp at hk; omega
    subst e0
    rw [Nat.add_zero, (h.2 i hi2).1]
    rfl) 0 (by simp)
   rw [hset, Nat.add_zero] at this
   rw [this]
   simp
  ·have := World.cell?_setCells_out b [u] j w ⟨b, i, none⟩ (fun _ _ => by simp only [List.length_singleton]; omega)
   rw [hset] at this
   rw [this, (h.2 i hi2).1, List.getElem_set_ne (fun e2 => e e2.symm)]
 ·have hi2 : i < vs.length := by simpa using hi
  rw [World.frozen?_setCell]
  exact (h.2 i hi2).2
theorem Cs.far {w : World} {b g j : Nat} {vs : List Value} {u : Value} (h : Cs w b vs) (hne : b ≠ g) : Cs (w.setCell ⟨g, j, none⟩ u) b vs :=
 h.grown (setCell_grown2 w g j u) (fun e => hne (Option.some.inj e).symm)
theorem Cs.two {w : World} {b : Nat} {u0 u1 : Value} (h : Cs w b [u0, u1]) : (w.cell? ⟨b, 0, none⟩ = some u0 ∧ w.cell? ⟨b, 1, none⟩ = some u1) ∧ (w.frozen? ⟨b, 0, none⟩ = false ∧ w.frozen? ⟨b, 1, none⟩ = false) :=
 ⟨⟨(h.2 0 (by simp)).1, (h.2 1 (by simp)).1⟩, ⟨(h.2 0 (by simp)).2, (h.2 1 (by simp)).2⟩⟩
theorem Cs.four {w : World} {b : Nat} {u0 u1 u2 u3 : Value} (h : Cs w b [u0, u1, u2, u3]) : (w.cell? ⟨b, 0, none⟩ = some u0 ∧ w.cell? ⟨b, 1, none⟩ = some u1 ∧ w.cell? ⟨b, 2, none⟩ = some u2 ∧ w.cell? ⟨b, 3, none⟩ = some u3) ∧ (w.frozen? ⟨b, 0, none⟩ = false ∧ w.frozen? ⟨b, 1, none⟩ = false ∧ w.frozen? ⟨b, 2, none⟩ = false ∧ w.frozen? ⟨b, 3, none⟩ = false) :=
 ⟨⟨(h.2 0 (by simp)).1, (h.2 1 (by simp)).1, (h.2 2 (by simp)).1, (h.2 3 (by simp)).1⟩, ⟨(h.2 0 (by simp)).2, (h.2 1 (by simp)).2, (h.2 2 (by simp)).2, (h.2 3 (by simp)).2⟩⟩
theorem Cs.five {w : World} {b : Nat} {u0 u1 u2 u3 u4 : Value} (h : Cs w b [u0, u1, u2, u3, u4]) : (w.cell? ⟨b, 0, none⟩ = some u0 ∧ w.cell? ⟨b, 1, none⟩ = some u1 ∧ w.cell? ⟨b, 2, none⟩ = some u2 ∧ w.cell? ⟨b, 3, none⟩ = some u3 ∧ w.cell? ⟨b, 4, none⟩ = some u4) ∧ (w.frozen? ⟨b, 0, none⟩ = false ∧ w.frozen? ⟨b, 1, none⟩ = false ∧ w.frozen? ⟨b, 2, none⟩ = false ∧ w.frozen? ⟨b, 3, none⟩ = false ∧ w.frozen? ⟨b, 4, none⟩ = false) :=
 ⟨⟨(h.2 0 (by simp)).1, (h.2 1 (by simp)).1, (h.2 2 (by simp)).1, (h.2 3 (by simp)).1, (h.2 4 (by simp)).1⟩, ⟨(h.2 0 (by simp)).2, (h.2 1 (by simp)).2, (h.2 2 (by simp)).2, (h.2 3 (by simp)).2, (h.2 4 (by simp)).2⟩⟩
theorem VolOwn.app {B : Nat} {W0 w w' : World} {a a' : Option Addr} {cap c' : Nat} {m : List InoP} (h : VolOwn B W0 a cap m w) (y : InoP)
  (hy : Own 63 4 B W0 (.slice y.ad y.x.ents.length y.cap) y.x.ents.length (ens y.x.ents) w')
  (ht : Own 49 5 B W0 (.slice a' (m.length + 1) c') (m.length + 1) (ins m ++ in1 y) w') (hg : w.grownBy w' (Value.slice a m.length cap).ownBlock)
  (hn : ∀ z ∈ m, ∀ q, z.blk = some q → y.blk ≠ some q) : VolOwn B W0 a' c' (m ++ [y]) w' := by
 refine ⟨?_, fun z hz => ?_, ?_⟩
 ·rw [List.length_append, ins_append]
  have e : ins [y] = in1 y := by simp [ins]
  rw [e]
  exact ht
 ·rcases List.mem_append.1 hz with hz | hz
  ·exact (h.sub z hz).other hg (fun q hq => (h.top.blk q hq).1) (fun q hq e => h.side z hz q hq e)
  ·rw [List.mem_singleton] at hz
   subst hz
   exact hy
 ·rw [List.pairwise_append]
  refine ⟨h.apart, List.pairwise_singleton .., fun z hz x hx q hq => ?_⟩
  rw [List.mem_singleton] at hx
  subst hx
  exact hn z hz q hq
theorem vol_none (B : Nat) (w : World) (W0 : World) (hb : Below B W0 w) (hB : B ≤ w.heap.size) : VolOwn B W0 none 0 [] w := ⟨own_none hb hB, (fun y hy => by cases hy), List.Pairwise.nil⟩
theorem volOwn_row {B B' : Nat} {W0 w W1 : World} {a : Option Addr} {cap : Nat} {m : List InoP} (h : VolOwn B W0 a cap m w) (hB : B' ≤ B) (hb : Below B' W1 w) (h0 : B' ≤ w.heap.size) : VolOwn B' W1 a cap m w :=
 ⟨⟨row_down h.top.row hB, hb, h0⟩, fun y hy => ⟨row_down (h.sub y hy).row hB, hb, h0⟩, h.apart⟩
theorem VolOwn.low {B : Nat} {W0 w w' : World} {a : Option Addr} {cap : Nat} {m : List InoP} {r : Option Nat} (h : VolOwn B W0 a cap m w) (hg : w.grownBy w' r) (hne : ∀ k, VolBl a cap m k → r ≠ some k) : VolOwn B w' a cap m w' :=
 ⟨h.top.otherLow hg (fun k hk => hne k (.inl hk)), fun y hy => (h.sub y hy).otherLow hg (fun k hk => hne k (.inr ⟨y, hy, hk⟩)), h.apart⟩
theorem cells_zero5 {w : World} {R : Nat} {u0 u1 u2 u3 u4 : Value} (h : Cs w R [u0, u1, u2, u3, u4]) (v0 v1 v2 v3 v4 : Value) :
  Cs (((((w.setCell ⟨R, 0, none⟩ v0).setCell ⟨R, 1, none⟩ v1).setCell ⟨R, 2, none⟩ v2).setCell ⟨R, 3, none⟩ v3).setCell ⟨R, 4, none⟩ v4) R [v0, v1, v2, v3, v4] :=
 ((((h.set 0 v0).set 1 v1).set 2 v2).set 3 v3).set 4 v4
theorem cellq_far {w : World} {b j g i : Nat} {v u : Value} (h : w.cell? ⟨b, j, none⟩ = some v) (hne : b ≠ g) : (w.setCell ⟨g, i, none⟩ u).cell? ⟨b, j, none⟩ = some v :=
 (World.cell?_of_block (a := ⟨b, j, none⟩) ((setCell_grown2 w g i u).block b (World.block_lt_of_cell? w _ h) (fun e => hne (Option.some.inj e)))).trans h
theorem cellq_grown {w w' : World} {b j : Nat} {r : Option Nat} {v : Value} (h : w.cell? ⟨b, j, none⟩ = some v) (hg : w.grownBy w' r) (hne : r ≠ some b) : w'.cell? ⟨b, j, none⟩ = some v :=
 (World.cell?_of_block (a := ⟨b, j, none⟩) (hg.block b (World.block_lt_of_cell? w _ h) (fun e => hne e.symm))).trans h
section
variable {P : Program}
end
def VolP (w : World) (a : Option Addr) (n cap : Nat) (m : List InoP) : Prop :=
 Rd w a n cap 5 (ins m) ∧ ∀ y ∈ m, Rd w y.ad y.x.ents.length y.cap 4 (ens y.x.ents)
def xs (m : List InoP) : List InoL := m.map (·.x)
theorem xs_len (m : List InoP) : (xs m).length = m.length := by simp [xs]
theorem xs_get (m : List InoP) (k : Nat) (hk : k < m.length) : (xs m)[k]'(by rw [xs_len]; exact hk) = m[k].x := by simp [xs]
theorem xs_set (m : List InoP) (k : Nat) (y : InoP) : xs (m.set k y) = (xs m).set k y.x := by simp [xs, List.map_set]
theorem xs_filter (m : List InoP) (p : InoL → Bool) : xs (m.filter (fun y => p y.x)) = (xs m).filter p := by
 unfold xs
 rw [List.filter_map]
 rfl
theorem VolP.rd {w : World} {a : Option Addr} {n cap : Nat} {m : List InoP} (h : VolP w a n cap m) : VolRd w a n cap (xs m) := ⟨m, rfl, h.1, h.2⟩
theorem VolP.of {w : World} {a : Option Addr} {n cap : Nat} {l : List InoL} (h : VolRd w a n cap l) : ∃ m, xs m = l ∧ VolP w a n cap m := by
 obtain ⟨m, e, h1, h2⟩ := h
 exact ⟨m, e, h1, h2⟩
theorem VolP.below {B : Nat} {w w' : World} {a : Option Addr} {n cap : Nat} {m : List InoP} (h : VolP w a n cap m) (hb : Below B w w') (hB : w.heap.size ≤ B) : VolP w' a n cap m :=
 ⟨h.1.below hb hB, fun y hy => (h.2 y hy).below hb hB⟩
theorem VolP.step {w w' : World} {a : Option Addr} {n cap : Nat} {m : List InoP} (h : VolP w a n cap m) (hb : Below w.heap.size w w') : VolP w' a n cap m := h.below hb (Nat.le_refl _)
theorem VolP.len {w : World} {a : Option Addr} {n cap : Nat} {m : List InoP} (h : VolP w a n cap m) : m.length = n := by
 have := h.1.len; simp at this; omega
theorem VolOwn.p {B : Nat} {W0 w : World} {a : Option Addr} {cap : Nat} {m : List InoP} (h : VolOwn B W0 a cap m w) : VolP w a m.length cap m := ⟨h.top.rd, fun y hy => (h.sub y hy).rd⟩
theorem volP_cells {w : World} {a : Option Addr} {n cap : Nat} {m : List InoP} (h : VolP w a n cap m) {k : Nat} {y : InoP} (hy : m[k]? = some y) :
  ∃ b off, a = some ⟨b, off, none⟩ ∧ b < w.heap.size ∧ w.cell? ⟨b, off + k * 5, none⟩ = some (.int .i64 y.x.id) ∧ w.cell? ⟨b, off + k * 5 + 1, none⟩ = some (.int .i64 y.x.kind) ∧ w.cell? ⟨b, off + k * 5 + 2, none⟩ = some (.int .i64 y.x.links) ∧ w.cell? ⟨b, off + k * 5 + 3, none⟩ = some (.string y.x.data) ∧ w.cell? ⟨b, off + k * 5 + 4, none⟩ = some (.slice y.ad y.x.ents.length y.cap) ∧ Rd w y.ad y.x.ents.length y.cap 4 (ens y.x.ents) := by
 obtain ⟨hk, rfl⟩ := List.getElem?_eq_some_iff.1 hy
 have hn := h.len
 obtain ⟨b, off, e, hlt, hc⟩ := h.1.at' (by omega)
 have g : ∀ j (hj : j < 5), w.cell? ⟨b, off + k * 5 + j, none⟩ = some ((in1 m[k])[j]'(by rw [in1_len]; exact hj)) := fun j hj => by
  rw [Nat.add_assoc, hc (k * 5 + j) (by simp; omega), ins_get m k hk j hj]
 exact ⟨b, off, e, hlt, g 0 (by omega), g 1 (by omega), g 2 (by omega), g 3 (by omega), g 4 (by omega), h.2 _ (List.getElem_mem hk)⟩
def Apart1 (m : List InoP) (k : Nat) (v : Value) : Prop := ∀ i (hi : i < m.length), i ≠ k → ∀ q, m[i].blk = some q → v.ownBlock ≠ some q
theorem apart1_new {B : Nat} {W0 w : World} {a : Option Addr} {cap : Nat} {m : List InoP} (h : VolOwn B W0 a cap m w) (k : Nat) {v : Value} (hv : ∀ q, v.ownBlock = some q → w.heap.size ≤ q) : Apart1 m k v := by
 intro i hi _ q hq e
 have h1 := ((h.sub m[i] (List.getElem_mem hi)).blk q hq).2
 have h2 := hv q e
 omega
theorem apart1_same {B : Nat} {W0 w : World} {a : Option Addr} {cap : Nat} {m : List InoP} (h : VolOwn B W0 a cap m w) (k : Nat) {y : InoP} (hy : m[k]? = some y) : Apart1 m k (.slice y.ad y.x.ents.length y.cap) := by
 obtain ⟨hk, rfl⟩ := List.getElem?_eq_some_iff.1 hy
 intro i hi hne q hq e
 have hp := List.pairwise_iff_getElem.1 h.apart
 rcases Nat.lt_or_gt_of_ne hne with hlt | hlt
 ·exact hp i k hi hk hlt q hq e
 ·exact hp k i hk hi hlt q e hq
theorem VolOwn.turn {B : Nat} {W0 w w' : World} {a : Option Addr} {cap : Nat} {m : List InoP} (h : VolOwn B W0 a cap m w) {k : Nat} {y : InoP} (hy : m[k]? = some y) (es : List EntL) (hl : es.length = y.x.ents.length)
  (ho : Own 63 4 B W0 (.slice y.ad y.x.ents.length y.cap) y.x.ents.length (ens es) w') (hg : w.grownBy w' (Value.slice y.ad y.x.ents.length y.cap).ownBlock) : VolOwn B W0 a cap (m.set k ⟨{ y.x with ents := es }, y.ad, y.cap⟩) w' := by
 obtain ⟨hk, rfl⟩ := List.getElem?_eq_some_iff.1 hy
 have hb : ∀ q, (Value.slice m[k].ad m[k].x.ents.length m[k].cap).ownBlock = some q → B ≤ q := fun q hq => ((h.sub _ (List.getElem_mem hk)).blk q hq).1
 have hin : ins (m.set k ⟨{ m[k].x with ents := es }, m[k].ad, m[k].cap⟩) = ins m := by
  unfold ins
  rw [List.flatMap_def, List.flatMap_def, List.map_set]
  congr 1
  refine List.ext_getElem (by simp) fun i h1 h2 => ?_
  rw [List.getElem_set]
  split
  ·next e => subst e; simp [in1, hl]
  ·rfl
 have hblk : ∀ i (hi : i < m.length), ((m.set k ⟨{ m[k].x with ents := es }, m[k].ad, m[k].cap⟩)[i]'(by simpa using hi)).blk = m[i].blk := by
  intro i hi
  rw [List.getElem_set]
  split
  ·next e => subst e; unfold InoP.blk; simp only [hl]
  ·rfl
 refine ⟨?_, fun z hz => ?_, ?_⟩
 ·rw [hin, List.length_set]
  exact h.top.other hg hb (fun q hq e => h.side _ (List.getElem_mem hk) q e hq)
 ·obtain ⟨i, hi, rfl⟩ := List.mem_iff_getElem.1 hz
  have hi2 : i < m.length := by simpa using hi
  rw [List.getElem_set]
  split
  ·simp only [hl]; exact ho
  ·next hne =>
   exact (h.sub _ (List.getElem_mem hi2)).other hg hb (fun q hq e => apart1_same h k (List.getElem?_eq_getElem hk) i hi2 (fun e2 => hne e2.symm) q hq e)
 ·rw [List.pairwise_iff_getElem]
  intro i j hi hj hij
  have hi2 : i < m.length := by simpa using hi
  have hj2 : j < m.length := by simpa using hj
  rw [hblk i hi2, hblk j hj2]
  exact List.pairwise_iff_getElem.1 h.apart i j hi2 hj2 hij
theorem VolOwn.filter {B B' : Nat} {W0 w W1 : World} {a a' : Option Addr} {cap cap' : Nat} {m : List InoP} (h : VolOwn B W0 a cap m w) (p : InoP → Bool) (ht : Own 49 5 B' W1 (.slice a' (m.filter p).length cap') (m.filter p).length (ins (m.filter p)) w) (hB : B' ≤ B) : VolOwn B' W1 a' cap' (m.filter p) w :=
 ⟨ht, fun y hy => ⟨row_down (h.sub y (List.mem_filter.1 hy).1).row hB, ht.below, ht.base⟩, h.apart.sublist List.filter_sublist⟩
theorem VolOwn.res2 {B : Nat} {W0 w : World} {a : Option Addr} {cap : Nat} {m : List InoP} (h : VolOwn B W0 a cap m w) (R : Nat) (hB : B ≤ R) (hne : ∀ q, VolBl a cap m q → q ≠ R) (u0 u1 : Value) : VolOwn B W0 a cap m ((w.setCell ⟨R, 0, none⟩ u0).setCell ⟨R, 1, none⟩ u1) :=
 (h.far R 0 u0 hB hne).far R 1 u1 hB hne
theorem VolOwn.res2l {B : Nat} {W0 w : World} {a : Option Addr} {cap : Nat} {m : List InoP} (h : VolOwn B W0 a cap m w) (R : Nat) (hne : ∀ q, VolBl a cap m q → q ≠ R) (u0 u1 : Value) : VolOwn B ((w.setCell ⟨R, 0, none⟩ u0).setCell ⟨R, 1, none⟩ u1) a cap m ((w.setCell ⟨R, 0, none⟩ u0).setCell ⟨R, 1, none⟩ u1) :=
 (h.low (setCell_grown2 w R 0 u0) (fun q hq e => hne q hq (Option.some.inj e).symm)).low (setCell_grown2 _ R 1 u1) (fun q hq e => hne q hq (Option.some.inj e).symm)
theorem grown_res2 {w w' : World} {r : Option Nat} (h : w.grownBy w' r) (R : Nat) (hR : w.heap.size ≤ R) (u0 u1 : Value) : w.grownBy ((w'.setCell ⟨R, 0, none⟩ u0).setCell ⟨R, 1, none⟩ u1) r :=
 grown_trans (grown_trans h (setCell_grown2 w' R 0 u0) (fun g hg => .inr (by cases hg; exact hR))) (setCell_grown2 _ R 1 u1) (fun g hg => .inr (by cases hg; exact hR))
theorem below_res2 {B : Nat} {w w' : World} (h : Below B w w') (R : Nat) (hR : B ≤ R) (u0 u1 : Value) : Below B w ((w'.setCell ⟨R, 0, none⟩ u0).setCell ⟨R, 1, none⟩ u1) :=
 (h.setCell (p := ⟨R, 0, none⟩) hR u0).setCell (p := ⟨R, 1, none⟩) hR u1
theorem below_res6 {B : Nat} {w w' : World} (h : Below B w w') (R S : Nat) (hR : B ≤ R) (hS : B ≤ S) (u0 u1 v0 v1 v2 v3 : Value) :
  Below B w ((((((w'.setCell ⟨R, 0, none⟩ u0).setCell ⟨R, 1, none⟩ u1).setCell ⟨S, 0, none⟩ v0).setCell ⟨S, 1, none⟩ v1).setCell ⟨S, 2, none⟩ v2).setCell ⟨S, 3, none⟩ v3) :=
 ((((below_res2 h R hR u0 u1).setCell (p := ⟨S, 0, none⟩) hS v0).setCell (p := ⟨S, 1, none⟩) hS v1).setCell (p := ⟨S, 2, none⟩) hS v2).setCell (p := ⟨S, 3, none⟩) hS v3
theorem VolOwn.res6 {B : Nat} {W0 w : World} {a : Option Addr} {cap : Nat} {m : List InoP} (h : VolOwn B W0 a cap m w) (R S : Nat) (hR : ∀ q, VolBl a cap m q → q ≠ R) (hS : ∀ q, VolBl a cap m q → q ≠ S) (u0 u1 v0 v1 v2 v3 : Value) :
  VolOwn B ((((((w.setCell ⟨R, 0, none⟩ u0).setCell ⟨R, 1, none⟩ u1).setCell ⟨S, 0, none⟩ v0).setCell ⟨S, 1, none⟩ v1).setCell ⟨S, 2, none⟩ v2).setCell ⟨S, 3, none⟩ v3) a cap m ((((((w.setCell ⟨R, 0, none⟩ u0).setCell ⟨R, 1, none⟩ u1).setCell ⟨S, 0, none⟩ v0).setCell ⟨S, 1, none⟩ v1).setCell ⟨S, 2, none⟩ v2).setCell ⟨S, 3, none⟩ v3) := by
 have f : ∀ {W0 W : World} (b j : Nat) (u : Value), VolOwn B W0 a cap m W → (∀ q, VolBl a cap m q → q ≠ b) → VolOwn B (W.setCell ⟨b, j, none⟩ u) a cap m (W.setCell ⟨b, j, none⟩ u) := fun b j u h hne => h.low (setCell_grown2 _ b j u) (fun q hq e => hne q hq (Option.some.inj e).symm)
 exact f _ _ _ (f _ _ _ (f _ _ _ (f _ _ _ (f _ _ _ (f _ _ _ h hR) hR) hS) hS) hS) hS
theorem cs_res6 {w : World} {R S : Nat} {x0 x1 y0 y1 y2 y3 : Value} (hR : Cs w R [x0, x1]) (hS : Cs w S [y0, y1, y2, y3]) (hne : R ≠ S) (u0 u1 v0 v1 v2 v3 : Value) :
  Cs ((((((w.setCell ⟨R, 0, none⟩ u0).setCell ⟨R, 1, none⟩ u1).setCell ⟨S, 0, none⟩ v0).setCell ⟨S, 1, none⟩ v1).setCell ⟨S, 2, none⟩ v2).setCell ⟨S, 3, none⟩ v3) R [u0, u1] ∧ Cs ((((((w.setCell ⟨R, 0, none⟩ u0).setCell ⟨R, 1, none⟩ u1).setCell ⟨S, 0, none⟩ v0).setCell ⟨S, 1, none⟩ v1).setCell ⟨S, 2, none⟩ v2).setCell ⟨S, 3, none⟩ v3) S [v0, v1, v2, v3] :=
 ⟨((((((hR.set 0 u0).set 1 u1).far hne).far hne).far hne).far hne), ((((((hS.far hne.symm).far hne.symm).set 0 v0).set 1 v1).set 2 v2).set 3 v3)⟩
theorem Cs.six {w : World} {b : Nat} {u0 u1 u2 u3 u4 u5 : Value} (h : Cs w b [u0, u1, u2, u3, u4, u5]) : (w.cell? ⟨b, 0, none⟩ = some u0 ∧ w.cell? ⟨b, 1, none⟩ = some u1 ∧ w.cell? ⟨b, 2, none⟩ = some u2 ∧ w.cell? ⟨b, 3, none⟩ = some u3 ∧ w.cell? ⟨b, 4, none⟩ = some u4 ∧ w.cell? ⟨b, 5, none⟩ = some u5) :=
 ⟨(h.2 0 (by simp)).1, (h.2 1 (by simp)).1, (h.2 2 (by simp)).1, (h.2 3 (by simp)).1, (h.2 4 (by simp)).1, (h.2 5 (by simp)).1⟩
theorem volBl_set {a : Option Addr} {cap : Nat} {m : List InoP} {k : Nat} {y : InoP} {q : Nat} (h : VolBl a cap (m.set k y) q) : VolBl a cap m q ∨ y.blk = some q := by
 rcases h with h | ⟨z, hz, h⟩
 ·left; left; rwa [List.length_set] at h
 ·rcases List.mem_or_eq_of_mem_set hz with hz | rfl
  ·exact .inl (.inr ⟨z, hz, h⟩)
  ·exact .inr h
def VolAns (B : Nat) (Q : Nat → Prop) (w : World) (e : Ending) (w' : World) : Prop :=
 ∃ (next : Int) (a : Option Addr) (c : Nat) (m : List InoP) (v0 v1 : Int) (v2 v3 : ByteArray), e = .returned (.tuple #[.agg #[.int .i64 next, .slice a m.length c], .agg #[.int .i64 v0, .int .i64 v1, .string v2, .string v3]]) ∧ Inv d0 next (xs m) ∧ VolOwn B w' a c m w' ∧ Below w.heap.size w w' ∧ ∀ q, VolBl a c m q → Q q ∨ w.heap.size ≤ q
theorem box2 (w : World) (e : TypeId) (u0 u1 : Value) : (w.alloc (.cells #[u0, u1] e)).cell? ⟨w.heap.size, 0, none⟩ = some u0 ∧ (w.alloc (.cells #[u0, u1] e)).cell? ⟨w.heap.size, 1, none⟩ = some u1 := by
 go_simp
set_option maxRecDepth 1000000 in
set_option maxHeartbeats 6000000 in
theorem l6At_any (next : Int) (a : Option Addr) (n cap : Nat) (l : List InoL) (id : Int) (w : World) (hr : VolRd w a n cap l) :
  Calls Try.prog 25 #[.agg #[.int .i64 next, .slice a n cap], .int .i64 id] w fun e w' => e = .returned (.int .i64 (atF l id)) ∧ Below w.heap.size w w' := by
 have hl : l.length = n := hr.len
 subst hl
 have hm := hr.room
 have HB := Lib.hid (boxA w (.cells #[.int .i64 next, .slice a l.length cap] 37))
 have H := Lib.hid (hr.step HB.out)
 obtain ⟨c0, c1⟩ := box2 w 37 (.int .i64 next) (.slice a l.length cap)
 clear hr
 go_enter Try.func25, Try.ntmps25
 go_wp2
 have hw0 : w.heap.size < (w.alloc (.cells #[.int .i64 next, .slice a l.length cap] 37)).heap.size := by simp
 generalize w.alloc (.cells #[.int .i64 next, .slice a l.length cap] 37) = w1 at *
 go_loopg [5] l.length (fun gg i wr => ∃ m : Nat, m + gg = l.length ∧ i = .int .i64 (m : Int) ∧ Hid (∀ j (hj : j < m) (hl : j < l.length), l[j].id ≠ id) ∧ wr = w1)
 case atStart => exact ⟨0, by omega, rfl, Lib.hid (fun j hj => by omega), rfl⟩
 case round =>
  obtain ⟨m, hm2, rfl, HM, rfl⟩ := hrel
  by_cases hlt : m < l.length
  ·obtain ⟨b, off, ad, c, rfl, hbs, d0, d1, d2, d3, d4, hrd⟩ := vol_cells H.out m hlt
   have hi : (m : Int) < (l.length : Int) := by omega
   have hi0 : (0 : Int) ≤ (m : Int) := by omega
   by_cases he : l[m].id = id
   ·have HE := Lib.hid (atF_hit l id m hlt he (fun j hj => HM.out j hj (by omega)))
    have heq : (l[m].id == id) = true := by simp [he]
    clear hrd he
    generalize l[m].id = x0 at *
    clear d1 d2 d3 d4
    go_wp2
    go_ret
    exact ⟨ret_int HE.out.symm, HB.out⟩
   ·have HN : Hid (∀ j (hj : j < m + 1) (hl : j < l.length), l[j].id ≠ id) := Lib.hid (fun j hj hl => by
     by_cases h : j = m
     ·subst h; exact he
     ·exact HM.out j (by omega) hl)
    have heq : (l[m].id == id) = false := by simp [he]
    clear hrd he
    generalize l[m].id = x0 at *
    clear d1 d2 d3 d4
    go_wp2
    go_roundg (gk - 1)
    case measure => omega
    case rel => exact ⟨m + 1, by omega, by go_num, HN, rfl⟩
  ·have hlm : m = l.length := by omega
   subst hlm
   have HE : Hid (atF l id = -1) := Lib.hid (atF_miss l id (fun x hx => by obtain ⟨j, hj, rfl⟩ := List.mem_iff_getElem.1 hx; exact HM.out j hj hj))
   go_wp2
   go_ret
   exact ⟨ret_int HE.out.symm, HB.out⟩
end Go.Proofs.Ytlkfabkkjfmnmaa
