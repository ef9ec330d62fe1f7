/- Words for worlds, more: an append that tells what it leaves alone; rows that stay while another row is written. -/
import Derived.Test.YtlkfabkkjfmnmaaGreatDoorBase
import Derived.Maps.AppendAt
import Derived.WalkSmall
import Derived.OrdersHeld
import Derived.Deep.RegionHeld3
import Derived.IntWalk
namespace Go.Proofs.YtlkfabkkjfmnmaaGreatDoor
open Go.RowKit

theorem Own.drewN {e : TypeId} {size B : Nat} {W0 w : World} {v : Value} {n : Nat} {xs : List Value} (h : Own e size B W0 v n xs w) (q : Nat) : Own e size B W0 v n xs (w.drewN q) :=
  ⟨h.row, below_drewN h.below q, h.base⟩
theorem Rd.drewN {w : World} {a : Option Addr} {n cap size : Nat} {xs : List Value} (h : Rd w a n cap size xs) (q : Nat) : Rd (w.drewN q) a n cap size xs :=
  h.below (below_drewN (Below.refl w.heap.size w) q) (Nat.le_refl _)
theorem Rd.grown {w w' : World} {r : Option Nat} {a : Option Addr} {n cap size : Nat} {xs : List Value} (h : Rd w a n cap size xs) (hg : w.grownBy w' r) (hne : ∀ x, a = some x → 0 < n → r ≠ some x.block) : Rd w' a n cap size xs :=
  ⟨h.len, h.le, h.max, h.nil, fun h0 => by
    obtain ⟨b, off, e, hlt, hc⟩ := h.at' h0
    refine ⟨b, off, e, Nat.lt_of_lt_of_le hlt hg.size, fun j hj => ?_⟩
    rw [World.cell?_of_block (a := ⟨b, off + j, none⟩) (hg.block b hlt (fun e2 => hne _ e h0 e2.symm))]
    exact hc j hj⟩
theorem Own.self {e : TypeId} {size B : Nat} {W0 w : World} {v : Value} {n : Nat} {xs : List Value} (h : Own e size B W0 v n xs w) : Own e size B w v n xs w := ⟨h.row, Below.refl _ _, h.base⟩
theorem Own.stay {e : TypeId} {size B : Nat} {W0 w w' : World} {v : Value} {n : Nat} {xs : List Value} (h : Own e size B W0 v n xs w) (hb : Below w.heap.size w w') : Own e size B w' v n xs w' := (h.kept hb).self
theorem Own.blk {e : TypeId} {size B : Nat} {W0 w : World} {v : Value} {n : Nat} {xs : List Value} (h : Own e size B W0 v n xs w) (k : Nat) (hk : v.ownBlock = some k) : B ≤ k ∧ k < w.heap.size := h.row.lt k hk
theorem grown_of_below {w w' : World} (r : Option Nat) (h : Below w.heap.size w w') : w.grownBy w' r := ⟨h.os, h.tape, h.output, h.size, fun k hk _ => h.block k hk⟩
theorem grown_trans {a b c : World} {r r' : Option Nat} (h : a.grownBy b r) (k : b.grownBy c r') (hr : ∀ g, r' = some g → r = some g ∨ a.heap.size ≤ g) : a.grownBy c r :=
  ⟨k.os.trans h.os, k.tape.trans h.tape, k.output.trans h.output, Nat.le_trans h.size k.size, fun i hi hne => (k.block i (Nat.lt_of_lt_of_le hi h.size) (fun e => by
    rcases hr i e.symm with h1 | h1
    · exact hne h1.symm
    · omega)).trans (h.block i hi hne)⟩
theorem grown_drewN {w w' : World} {r : Option Nat} (h : w.grownBy w' r) (q : Nat) : w.grownBy (w'.drewN q) r := ⟨h.os, h.tape, h.output, h.size, h.block⟩
theorem grown_drew {w w' : World} {r : Option Nat} (h : w.grownBy w' r) : w.grownBy w'.drew r := ⟨h.os, h.tape, h.output, h.size, h.block⟩

section
variable {P : Program}
/-- A region that draws, under what is held: one operation first, given as it is written. -/
theorem wpH_take {md : Region.Mode} {ops : Array Oper} {Q : Exit → Act → World → Prop} {S : World → Prop} {i : Nat} {oi : Oper} {v : Value} {fuel : Nat} {listed : Array Bool} {a : Act} {w : World} (hi : ops.toList[i]? = some oi)
    (hs : Region.noSelect ops = true) (hf : Region.free md ops listed i = true) (hr : (Region.ready md ops listed).contains i = true)
    (hQ : ∀ c a w, Q (.panic c) (a.put oi.dst v) w → Q (.panic c) a w) (hw : Region.wanted oi (yielded ops a.tmps) = true) (hv : ∀ w, S w → (execOp a.eval oi).run P w = .ok (.value v) w) (hS : S w)
    (h : wpAnyH P md ops Q S fuel (listed.setIfInBounds i true) (a.put oi.dst v) w) : wpAnyH P md ops Q S (fuel + 1) listed a w :=
  wpAnyH_take (by simpa using hi) hs hf hr hQ (.inl ⟨hw, hv⟩) hS h
/-- .. one that is guarded away. -/
theorem wpH_off {md : Region.Mode} {ops : Array Oper} {Q : Exit → Act → World → Prop} {S : World → Prop} {i : Nat} {oi : Oper} {fuel : Nat} {listed : Array Bool} {a : Act} {w : World} (hi : ops.toList[i]? = some oi)
    (hs : Region.noSelect ops = true) (hf : Region.free md ops listed i = true) (hr : (Region.ready md ops listed).contains i = true)
    (hQ : ∀ c a w, Q (.panic c) (a.put oi.dst undef) w → Q (.panic c) a w) (hw : Region.wanted oi (yielded ops a.tmps) = false) (hS : S w)
    (h : wpAnyH P md ops Q S fuel (listed.setIfInBounds i true) (a.put oi.dst undef) w) : wpAnyH P md ops Q S (fuel + 1) listed a w :=
  wpAnyH_take (by simpa using hi) hs hf hr hQ (.inr ⟨hw, rfl⟩) hS h
/-- APPEND OF ELEMENTS THAT THE STATEMENT LAID IN A NEW BLOCK, and what it leaves alone. -/
theorem wp_app1g {w0 : World} {ops : Array Oper} {rest : List Oper} {o : Oper} {a : Act} {Q : Exit → Act → World → Prop} (hgd : o.guard = none) (s x : Operand) (t : TypeId)
    (ho : o.op = .call { callee := .builtin .append, args := #[s, x], argTypes := #[t, t] })
    (e : TypeId) (z : Value) (size bytes : Nat) (ht : P.underlying t = some (.slice e)) (hi : (P.info? e).map (fun i => (i.zero, i.size, i.bytes)) = some (some z, size, bytes)) (hzs : z.cells.size = size) (hsz : 0 < size)
    (B : Nat) (W0 : World) (v : Value) (n : Nat) (xs : List Value) (hs : a.eval s = v) (hown : Own e size B W0 v n xs w0)
    (m : Nat) (news : Array Value) (hx : a.eval x = .slice (some ⟨w0.heap.size, 0, none⟩) m m) (hl : news.size = m * size) (h1 : ∀ u ∈ news.toList, u.oneCell' = true)
    (hlim : (n + m) * bytes ≤ 140737488355328) (hmax : n + m ≤ maxLen)
    (h : ∀ a' cap' w', Own e size B W0 (.slice a' (n + m) cap') (n + m) (xs ++ news.toList) w' → w0.grownBy w' v.ownBlock → ((Value.slice a' (n + m) cap').ownBlock = v.ownBlock ∨ ∃ k, (Value.slice a' (n + m) cap').ownBlock = some k ∧ w0.heap.size ≤ k) →
      wpList P ops Q rest (a.put o.dst (.slice a' (n + m) cap')) w') : wpList P ops Q (o :: rest) a (w0.alloc (.cells news e)) := by
  obtain ⟨i, hi, hz, hsize, hby⟩ := info_parts hi
  have hown2 := hown.alloc (.cells news e)
  have hr : Rd (w0.alloc (.cells news e)) (some ⟨w0.heap.size, 0, none⟩) m m size news.toList := lit_rd hl (by omega)
  refine wpList_append_own_at _ hgd s x t ho B e i z size bytes ht hi hz hsize hby hzs hsz v n xs hs hown2.row ⟨w0.heap.size, 0, none⟩ m m news.toList hx hr.len ?_ h1 hmax hlim hown2.base ?_
  · intro j u hj
    have hj' := (List.getElem?_eq_some_iff.1 hj).1
    have hm0 : 0 < m := by
      rcases Nat.eq_zero_or_pos m with h0 | h0
      · have := hr.len; rw [h0, Nat.zero_mul] at this; omega
      · exact h0
    obtain ⟨b, off, e1, _, hc⟩ := hr.at' hm0
    cases e1
    rw [Addr.add_lit, hc j hj']
    rw [List.getElem?_eq_getElem hj'] at hj
    exact hj
  · intro v' w' ho' hg _ hN
    have hO : Own e size B W0 v' (n + m) (xs ++ news.toList) w' := ⟨ho', hown2.below.grown hg hown2.base (fun k hk => (hown2.row.lt k hk).1), Nat.le_trans hown2.base hg.size⟩
    obtain ⟨a', cap', rfl, _, _⟩ := hO.shape
    refine h a' cap' w' hO ?_ ?_
    · exact grown_trans (World.grownBy_alloc w0 _ _) hg (fun g hg' => .inl hg')
    · rcases hN with hN | hN
      · exact .inl hN
      · exact .inr ⟨_, hN, by simp⟩
/-- APPEND, one operation, WHATEVER IS APPENDED, and what it leaves alone. -/
theorem oper_appg {w : World} {o : Oper} {a : Act} {K : Act → World → Prop} {Q : Exit → Act → World → Prop} (s x : Operand) (t : TypeId)
    (ho : o.op = .call { callee := .builtin .append, args := #[s, x], argTypes := #[t, t] })
    (e : TypeId) (z : Value) (size bytes : Nat) (ht : P.underlying t = some (.slice e)) (hi : (P.info? e).map (fun i => (i.zero, i.size, i.bytes)) = some (some z, size, bytes)) (hzs : z.cells.size = size) (hsz : 0 < size)
    (B : Nat) (W0 : World) (v : Value) (n : Nat) (xs : List Value) (hs : a.eval s = v) (hown : Own e size B W0 v n xs w)
    (ad : Option Addr) (m c : Nat) (news : List Value) (hx : a.eval x = .slice ad m c) (hr : Rd w ad m c size news) (h1 : ∀ u ∈ news, u.oneCell' = true)
    (hlim : (n + m) * bytes ≤ 140737488355328) (hmax : n + m ≤ maxLen)
    (h : ∀ a' cap' w', Own e size B W0 (.slice a' (n + m) cap') (n + m) (xs ++ news) w' → w.grownBy w' v.ownBlock → K (a.put o.dst (.slice a' (n + m) cap')) w') : Oper.wp P o a w K Q := by
  obtain ⟨i, hi, hz, hsize, hby⟩ := info_parts hi
  cases ad with
  | some ad =>
    refine wp_append_own w s x t ho B e i z size bytes ht hi hz hsize hby hzs hsz v n xs hs hown.row ad m c news hx hr.len ?_ h1 hmax hlim hown.base ?_
    · intro j u hj
      have hj' := (List.getElem?_eq_some_iff.1 hj).1
      have hm0 : 0 < m := by
        rcases Nat.eq_zero_or_pos m with h0 | h0
        · have := hr.len; rw [h0] at this; simp at this; subst this; simp at hj'
        · exact h0
      obtain ⟨b, off, e1, _, hc⟩ := hr.at' hm0
      cases e1
      rw [Addr.add_lit, hc j hj']
      rw [List.getElem?_eq_getElem hj'] at hj
      exact hj
    · intro v' w' ho' hg _
      have hO : Own e size B W0 v' (n + m) (xs ++ news) w' := ⟨ho', hown.below.grown hg hown.base (fun k hk => (hown.row.lt k hk).1), Nat.le_trans hown.base hg.size⟩
      obtain ⟨a', cap', rfl, _, _⟩ := hO.shape
      exact h a' cap' w' hO hg
  | none =>
    have hc0 := hr.nil rfl
    have hm0 : m = 0 := by have := hr.le; omega
    subst hc0
    subst hm0
    have hn : news = [] := List.eq_nil_of_length_eq_zero (by have := hr.len; simpa using this)
    subst hn
    have hrun := run_append_owned_none (P := P) w B t o.type e i size ht hi v n xs hown.row
    unfold Oper.wp
    simp [execOp, ho, resolve, invoke, builtin, hs, hx, hrun, Result.andThen]
    obtain ⟨a', cap', rfl, _, _⟩ := hown.shape
    exact h a' cap' w (by simpa using hown) (grown_of_below _ (Below.refl _ _))
end
end Go.Proofs.YtlkfabkkjfmnmaaGreatDoor
