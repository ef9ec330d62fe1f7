/- The cells of a block that may be written; a volume that grows; cells kept while another block is written. -/
import Derived.Test.YtlkfabkkjfmnmaaGreatDoorVolT
namespace Go.Proofs.YtlkfabkkjfmnmaaGreatDoor
open Go.RowKit

/-- The cells of a block, and that they may be written. -/
def Cs (w : World) (b : Nat) (vs : List Value) : Prop := b < w.heap.size ∧ ∀ j (h : j < vs.length), w.cell? ⟨b, j, none⟩ = some vs[j] ∧ w.frozen? ⟨b, j, none⟩ = false
theorem Cs.lt {w : World} {b : Nat} {vs : List Value} (h : Cs w b vs) : b < w.heap.size := h.1
theorem Cs.kept {w w' : World} {b : Nat} {vs : List Value} (h : Cs w b vs) (hb : w'.heap[b]? = w.heap[b]?) (hs : w.heap.size ≤ w'.heap.size) : Cs w' b vs :=
  ⟨Nat.lt_of_lt_of_le h.1 hs, fun j hj => ⟨(World.cell?_of_block (a := ⟨b, j, none⟩) hb).trans (h.2 j hj).1, (World.frozen?_of_block (a := ⟨b, j, none⟩) hb).trans (h.2 j hj).2⟩⟩
theorem Cs.grown {w w' : World} {b : Nat} {r : Option Nat} {vs : List Value} (h : Cs w b vs) (hg : w.grownBy w' r) (hne : r ≠ some b) : Cs w' b vs := h.kept (hg.block b h.1 (fun e => hne e.symm)) hg.size
theorem Cs.below {w w' : World} {b : Nat} {vs : List Value} (h : Cs w b vs) (hb : Below w.heap.size w w') : Cs w' b vs := h.kept (hb.block b h.1) hb.size
theorem Cs.alloc {w : World} {b : Nat} {vs : List Value} (h : Cs w b vs) (o : Obj) : Cs (w.alloc o) b vs := h.below (boxA w o)
theorem Cs.drew {w : World} {b : Nat} {vs : List Value} (h : Cs w b vs) : Cs w.drew b vs := h.below (Below.refl _ _).drew
theorem cs_new (w : World) (e : TypeId) (arr : Array Value) : Cs (w.alloc (.cells arr e)) w.heap.size arr.toList := by
  refine ⟨by simp, fun j hj => ⟨?_, frozen_of_row _ _ j arr e (heap_alloc_new w _)⟩⟩
  rw [cell_of_row _ _ j arr e (0, 0) (heap_alloc_new w _)]
  simp only [Array.length_toList] at hj
  simp [hj]
theorem Cs.set {w : World} {b : Nat} {vs : List Value} (h : Cs w b vs) (j : Nat) (u : Value) : Cs (w.setCell ⟨b, j, none⟩ u) b (vs.set j u) := by
  have hset : w.setCells b j [u] = w.setCell ⟨b, j, none⟩ u := rfl
  refine ⟨by simpa [World.setCell] using h.1, fun i hi => ⟨?_, ?_⟩⟩
  · have hi2 : i < vs.length := by simpa using hi
    by_cases e : i = j
    · subst e
      have := World.cell?_setCells_in b [u] i w (fun k hk => by
        have e0 : k = 0 := by simp at hk; omega
        subst e0
        rw [Nat.add_zero, (h.2 i hi2).1]
        rfl) 0 (by simp)
      rw [hset, Nat.add_zero] at this
      rw [this]
      simp
    · have := World.cell?_setCells_out b [u] j w ⟨b, i, none⟩ (fun _ _ => by simp only [List.length_singleton]; omega)
      rw [hset] at this
      rw [this, (h.2 i hi2).1, List.getElem_set_ne (fun e2 => e e2.symm)]
  · have hi2 : i < vs.length := by simpa using hi
    rw [World.frozen?_setCell]
    exact (h.2 i hi2).2
theorem Cs.far {w : World} {b g j : Nat} {vs : List Value} {u : Value} (h : Cs w b vs) (hne : b ≠ g) : Cs (w.setCell ⟨g, j, none⟩ u) b vs :=
  h.grown (setCell_grown2 w g j u) (fun e => hne (Option.some.inj e).symm)
theorem Cs.two {w : World} {b : Nat} {u0 u1 : Value} (h : Cs w b [u0, u1]) : (w.cell? ⟨b, 0, none⟩ = some u0 ∧ w.cell? ⟨b, 1, none⟩ = some u1) ∧ (w.frozen? ⟨b, 0, none⟩ = false ∧ w.frozen? ⟨b, 1, none⟩ = false) :=
  ⟨⟨(h.2 0 (by simp)).1, (h.2 1 (by simp)).1⟩, ⟨(h.2 0 (by simp)).2, (h.2 1 (by simp)).2⟩⟩
theorem Cs.four {w : World} {b : Nat} {u0 u1 u2 u3 : Value} (h : Cs w b [u0, u1, u2, u3]) : (w.cell? ⟨b, 0, none⟩ = some u0 ∧ w.cell? ⟨b, 1, none⟩ = some u1 ∧ w.cell? ⟨b, 2, none⟩ = some u2 ∧ w.cell? ⟨b, 3, none⟩ = some u3) ∧ (w.frozen? ⟨b, 0, none⟩ = false ∧ w.frozen? ⟨b, 1, none⟩ = false ∧ w.frozen? ⟨b, 2, none⟩ = false ∧ w.frozen? ⟨b, 3, none⟩ = false) :=
  ⟨⟨(h.2 0 (by simp)).1, (h.2 1 (by simp)).1, (h.2 2 (by simp)).1, (h.2 3 (by simp)).1⟩, ⟨(h.2 0 (by simp)).2, (h.2 1 (by simp)).2, (h.2 2 (by simp)).2, (h.2 3 (by simp)).2⟩⟩
theorem Cs.five {w : World} {b : Nat} {u0 u1 u2 u3 u4 : Value} (h : Cs w b [u0, u1, u2, u3, u4]) : (w.cell? ⟨b, 0, none⟩ = some u0 ∧ w.cell? ⟨b, 1, none⟩ = some u1 ∧ w.cell? ⟨b, 2, none⟩ = some u2 ∧ w.cell? ⟨b, 3, none⟩ = some u3 ∧ w.cell? ⟨b, 4, none⟩ = some u4) ∧ (w.frozen? ⟨b, 0, none⟩ = false ∧ w.frozen? ⟨b, 1, none⟩ = false ∧ w.frozen? ⟨b, 2, none⟩ = false ∧ w.frozen? ⟨b, 3, none⟩ = false ∧ w.frozen? ⟨b, 4, none⟩ = false) :=
  ⟨⟨(h.2 0 (by simp)).1, (h.2 1 (by simp)).1, (h.2 2 (by simp)).1, (h.2 3 (by simp)).1, (h.2 4 (by simp)).1⟩, ⟨(h.2 0 (by simp)).2, (h.2 1 (by simp)).2, (h.2 2 (by simp)).2, (h.2 3 (by simp)).2, (h.2 4 (by simp)).2⟩⟩
theorem VolOwn.app {B : Nat} {W0 w w' : World} {a a' : Option Addr} {cap c' : Nat} {m : List InoP} (h : VolOwn B W0 a cap m w) (y : InoP)
    (hy : Own 74 4 B W0 (.slice y.ad y.x.ents.length y.cap) y.x.ents.length (ens y.x.ents) w')
    (ht : Own 45 5 B W0 (.slice a' (m.length + 1) c') (m.length + 1) (ins m ++ in1 y) w') (hg : w.grownBy w' (Value.slice a m.length cap).ownBlock)
    (hn : ∀ z ∈ m, ∀ q, z.blk = some q → y.blk ≠ some q) : VolOwn B W0 a' c' (m ++ [y]) w' := by
  refine ⟨?_, fun z hz => ?_, ?_⟩
  · rw [List.length_append, ins_append]
    have e : ins [y] = in1 y := by simp [ins]
    rw [e]
    exact ht
  · rcases List.mem_append.1 hz with hz | hz
    · exact (h.sub z hz).other hg (fun q hq => (h.top.blk q hq).1) (fun q hq e => h.side z hz q hq e)
    · rw [List.mem_singleton] at hz
      subst hz
      exact hy
  · rw [List.pairwise_append]
    refine ⟨h.apart, List.pairwise_singleton .., fun z hz x hx q hq => ?_⟩
    rw [List.mem_singleton] at hx
    subst hx
    exact hn z hz q hq
theorem vol_none (B : Nat) (w : World) (W0 : World) (hb : Below B W0 w) (hB : B ≤ w.heap.size) : VolOwn B W0 none 0 [] w := ⟨own_none hb hB, (fun y hy => by cases hy), List.Pairwise.nil⟩
theorem volOwn_row {B B' : Nat} {W0 w W1 : World} {a : Option Addr} {cap : Nat} {m : List InoP} (h : VolOwn B W0 a cap m w) (hB : B' ≤ B) (hb : Below B' W1 w) (h0 : B' ≤ w.heap.size) : VolOwn B' W1 a cap m w :=
  ⟨⟨row_down h.top.row hB, hb, h0⟩, fun y hy => ⟨row_down (h.sub y hy).row hB, hb, h0⟩, h.apart⟩
theorem VolOwn.low {B : Nat} {W0 w w' : World} {a : Option Addr} {cap : Nat} {m : List InoP} {r : Option Nat} (h : VolOwn B W0 a cap m w) (hg : w.grownBy w' r) (hne : ∀ k, VolBl a cap m k → r ≠ some k) : VolOwn B w' a cap m w' :=
  ⟨h.top.otherLow hg (fun k hk => hne k (.inl hk)), fun y hy => (h.sub y hy).otherLow hg (fun k hk => hne k (.inr ⟨y, hy, hk⟩)), h.apart⟩
theorem cells_zero5 {w : World} {R : Nat} {u0 u1 u2 u3 u4 : Value} (h : Cs w R [u0, u1, u2, u3, u4]) (v0 v1 v2 v3 v4 : Value) :
    Cs (((((w.setCell ⟨R, 0, none⟩ v0).setCell ⟨R, 1, none⟩ v1).setCell ⟨R, 2, none⟩ v2).setCell ⟨R, 3, none⟩ v3).setCell ⟨R, 4, none⟩ v4) R [v0, v1, v2, v3, v4] :=
  ((((h.set 0 v0).set 1 v1).set 2 v2).set 3 v3).set 4 v4
theorem cs_far5n {w : World} {b g : Nat} {vs : List Value} (h : Cs w b vs) (hne : b ≠ g) (u0 u1 u2 u3 u4 : Value) :
    Cs (((((w.setCell ⟨g, 0, none⟩ u0).setCell ⟨g, 1, none⟩ u1).setCell ⟨g, 2, none⟩ u2).setCell ⟨g, 3, none⟩ u3).setCell ⟨g, 4, none⟩ u4) b vs := by
  refine Cs.far ?_ hne
  refine Cs.far ?_ hne
  refine Cs.far ?_ hne
  refine Cs.far ?_ hne
  exact Cs.far h hne
theorem cell_far5n {w : World} {b g j : Nat} {v : Value} (h : w.cell? ⟨b, j, none⟩ = some v) (hne : b ≠ g) (u0 u1 u2 u3 u4 : Value) :
    (((((w.setCell ⟨g, 0, none⟩ u0).setCell ⟨g, 1, none⟩ u1).setCell ⟨g, 2, none⟩ u2).setCell ⟨g, 3, none⟩ u3).setCell ⟨g, 4, none⟩ u4).cell? ⟨b, j, none⟩ = some v := by
  have hl : b < w.heap.size := World.block_lt_of_cell? w _ h
  have f : ∀ (W : World) (i : Nat) (u : Value), b < W.heap.size → (W.setCell ⟨g, i, none⟩ u).cell? ⟨b, j, none⟩ = W.cell? ⟨b, j, none⟩ := fun W i u hW => World.cell?_of_block (a := ⟨b, j, none⟩) ((setCell_grown2 W g i u).block b hW (fun e => hne (Option.some.inj e)))
  have z : ∀ (W : World) (i : Nat) (u : Value), (W.setCell ⟨g, i, none⟩ u).heap.size = W.heap.size := fun W i u => by simp [World.setCell]
  rw [f _ _ _ (by rw [z, z, z, z]; exact hl), f _ _ _ (by rw [z, z, z]; exact hl), f _ _ _ (by rw [z, z]; exact hl), f _ _ _ (by rw [z]; exact hl), f _ _ _ hl]
  exact h
theorem cellq_far {w : World} {b j g i : Nat} {v u : Value} (h : w.cell? ⟨b, j, none⟩ = some v) (hne : b ≠ g) : (w.setCell ⟨g, i, none⟩ u).cell? ⟨b, j, none⟩ = some v :=
  (World.cell?_of_block (a := ⟨b, j, none⟩) ((setCell_grown2 w g i u).block b (World.block_lt_of_cell? w _ h) (fun e => hne (Option.some.inj e)))).trans h
theorem cellq_grown {w w' : World} {b j : Nat} {r : Option Nat} {v : Value} (h : w.cell? ⟨b, j, none⟩ = some v) (hg : w.grownBy w' r) (hne : r ≠ some b) : w'.cell? ⟨b, j, none⟩ = some v :=
  (World.cell?_of_block (a := ⟨b, j, none⟩) (hg.block b (World.block_lt_of_cell? w _ h) (fun e => hne e.symm))).trans h
section
variable {P : Program}
theorem step_appq {w : World} {ops : Array Oper} {o : Oper} {a : Act} {K : Act → World → Prop} {Q : Exit → Act → World → Prop} {E : Prop} (hgd : o.guard = none) (s x : Operand) (t : TypeId)
    (ho : o.op = .call { callee := .builtin .append, args := #[s, x], argTypes := #[t, t] })
    (e : TypeId) (z : Value) (size bytes : Nat) (ht : P.underlying t = some (.slice e)) (hi : (P.info? e).map (fun i => (i.zero, i.size, i.bytes)) = some (some z, size, bytes)) (hzs : z.cells.size = size) (hsz : 0 < size)
    (B : Nat) (W0 : World) (v : Value) (n : Nat) (xs : List Value) (hs : a.eval s = v) (hown : Own e size B W0 v n xs w)
    (ad : Option Addr) (m c : Nat) (news : List Value) (hx : a.eval x = .slice ad m c) (hr : Rd w ad m c size news) (h1 : ∀ u ∈ news, u.oneCell' = true)
    (hlim : (n + m) * bytes ≤ 140737488355328) (hmax : n + m ≤ maxLen)
    (h : ∀ a' cap' w', Own e size B W0 (.slice a' (n + m) cap') (n + m) (xs ++ news) w' → w.grownBy w' v.ownBlock → K (a.put o.dst (.slice a' (n + m) cap')) w') :
    if Region.wanted o (yielded ops a.tmps) = true then Oper.wp P o a w K Q else E := by
  rw [if_pos (by simp [Region.wanted, hgd])]
  exact oper_appg s x t ho e z size bytes ht hi hzs hsz B W0 v n xs hs hown ad m c news hx hr h1 hlim hmax h
end
end Go.Proofs.YtlkfabkkjfmnmaaGreatDoor
