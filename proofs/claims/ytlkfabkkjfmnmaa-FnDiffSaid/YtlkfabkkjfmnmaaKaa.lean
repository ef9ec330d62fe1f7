import Derived.WalkKit
import Derived.WalkSpells
import Derived.WalkLawsBesides
import Derived.PlainAid
import Derived.Lib.Hide
import Derived.Handy
import Derived.Deep.LoopGhost
import Derived.Laws.IdiomStrings
import Derived.Laws.AppendOwnNone
import Derived.Deep.RegionLaw
import Derived.Deep.QuietTactic
import Derived.BigQuiet
import Derived.BigRegion
import Derived.Test.YtlkfabkkjfmnmaaProg
import Derived.Deep.Slices
import Derived.Deep.Fields
import Derived.Lib.SmallJoins
import Derived.ChangeSame
import Derived.ChangeMaps5
namespace Go.Proofs.Ytlkfabkkjfmnmaa
open Go.RowKit
set_option linter.all false
structure Rd (w : World) (a : Option Addr) (n cap size : Nat) (xs : List Value) : Prop where
 len : xs.length = n * size
 le : n ≤ cap
 max : cap ≤ maxLen
 nil : a = none → cap = 0
 at' : 0 < n → ∃ b off, a = some ⟨b, off, none⟩ ∧ b < w.heap.size ∧ ∀ j (h : j < xs.length), w.cell? ⟨b, off + j, none⟩ = some xs[j]
theorem Rd.below {B : Nat} {w w' : World} {a : Option Addr} {n cap size : Nat} {xs : List Value} (h : Rd w a n cap size xs) (hb : Below B w w') (hB : w.heap.size ≤ B) : Rd w' a n cap size xs :=
 ⟨h.len, h.le, h.max, h.nil, fun h0 => let ⟨b, off, e, hlt, hc⟩ := h.at' h0; ⟨b, off, e, Nat.lt_of_lt_of_le hlt hb.size, fun j hj => (hb.cell (by show b < B; omega)).trans (hc j hj)⟩⟩
theorem Rd.alloc {w : World} {a : Option Addr} {n cap size : Nat} {xs : List Value} (h : Rd w a n cap size xs) (o : Obj) : Rd (w.alloc o) a n cap size xs :=
 h.below ((Below.refl w.heap.size w).alloc (Nat.le_refl _) o) (Nat.le_refl _)
theorem Rd.drew {w : World} {a : Option Addr} {n cap size : Nat} {xs : List Value} (h : Rd w a n cap size xs) : Rd w.drew a n cap size xs :=
 h.below (Below.refl w.heap.size w).drew (Nat.le_refl _)
structure Own (e : TypeId) (size B : Nat) (W0 : World) (v : Value) (n : Nat) (xs : List Value) (w : World) : Prop where
 row : w.ownsRow B e size v n xs
 below : Below B W0 w
 base : B ≤ w.heap.size
theorem Own.alloc {e : TypeId} {size B : Nat} {W0 w : World} {v : Value} {n : Nat} {xs : List Value} (h : Own e size B W0 v n xs w) (o : Obj) : Own e size B W0 v n xs (w.alloc o) :=
 ⟨h.row.alloc o, h.below.alloc h.base o, by have := h.base; simp; omega⟩
theorem Own.drew {e : TypeId} {size B : Nat} {W0 w : World} {v : Value} {n : Nat} {xs : List Value} (h : Own e size B W0 v n xs w) : Own e size B W0 v n xs w.drew :=
 ⟨h.row.drew, h.below.drew, h.base⟩
theorem Own.kept {e : TypeId} {size B : Nat} {W0 w w' : World} {v : Value} {n : Nat} {xs : List Value} (h : Own e size B W0 v n xs w) (hb : Below w.heap.size w w') : Own e size B W0 v n xs w' := by
 refine ⟨⟨h.row.1, ?_⟩, h.below.trans (hb.mono h.base), Nat.le_trans h.base hb.size⟩
 rcases h.row.2 with hn | ⟨g, cap, cur, rfl, hg, hgg, rest⟩
 ·exact .inl hn
 ·exact .inr ⟨g, cap, cur, rfl, hg, (hb.block g (Array.getElem?_eq_some_iff.1 hgg).1).trans hgg, rest⟩
theorem Own.set {e : TypeId} {size B : Nat} {W0 w : World} {g n cap : Nat} {xs : List Value} (h : Own e size B W0 (.slice (some ⟨g, 0, none⟩) n cap) n xs w) (j : Nat) (u : Value) :
  Own e size B W0 (.slice (some ⟨g, 0, none⟩) n cap) n (xs.set j u) (w.setCell ⟨g, j, none⟩ u) := by
 have hs := h.row.stored j u
 have hg := (h.row.lt g rfl).1
 exact ⟨hs.1, h.below.setCell hg u, Nat.le_trans h.base hs.2.size⟩
theorem Own.cell {e : TypeId} {size B : Nat} {W0 w : World} {g n cap : Nat} {xs : List Value} (h : Own e size B W0 (.slice (some ⟨g, 0, none⟩) n cap) n xs w) (j : Nat) (hj : j < xs.length) : w.cell? ⟨g, j, none⟩ = some xs[j] := by
 rw [h.row.cellAt j (by have := h.row.1; omega), List.getElem?_eq_getElem hj]
theorem Own.free {e : TypeId} {size B : Nat} {W0 w : World} {g n cap : Nat} {xs : List Value} (h : Own e size B W0 (.slice (some ⟨g, 0, none⟩) n cap) n xs w) (j : Nat) : w.frozen? ⟨g, j, none⟩ = false := h.row.frozenAt j
theorem Own.other {e : TypeId} {size B : Nat} {W0 w w' : World} {v : Value} {n : Nat} {xs : List Value} {r : Option Nat} (h : Own e size B W0 v n xs w) (hg : w.grownBy w' r) (hr : ∀ k, r = some k → B ≤ k) (hne : ∀ k, v.ownBlock = some k → r ≠ some k) : Own e size B W0 v n xs w' :=
 ⟨h.row.kept hg (by cases hv : v.ownBlock with
  | none => exact .inl rfl
  | some k => exact .inr (fun e => hne k hv e.symm)), h.below.grown hg h.base hr, Nat.le_trans h.base hg.size⟩
theorem Own.otherLow {e : TypeId} {size B : Nat} {W0 w w' : World} {v : Value} {n : Nat} {xs : List Value} {r : Option Nat} (h : Own e size B W0 v n xs w) (hg : w.grownBy w' r) (hne : ∀ k, v.ownBlock = some k → r ≠ some k) : Own e size B w' v n xs w' :=
 ⟨h.row.kept hg (by cases hv : v.ownBlock with
  | none => exact .inl rfl
  | some k => exact .inr (fun e => hne k hv e.symm)), Below.refl _ _, Nat.le_trans h.base hg.size⟩
theorem Own.shape {e : TypeId} {size B : Nat} {W0 w : World} {v : Value} {n : Nat} {xs : List Value} (h : Own e size B W0 v n xs w) :
  ∃ a cap, v = .slice a n cap ∧ Rd w a n cap size xs ∧ (∀ x, a = some x → B ≤ x.block) := by
 obtain ⟨h1, h2⟩ := h.row
 rcases h2 with ⟨rfl, rfl⟩ | ⟨g, cap, cur, rfl, hg, hgg, hn, hm, hs, ht⟩
 ·exact ⟨none, 0, rfl, ⟨h1, Nat.le_refl _, by unfold maxLen; omega, fun _ => rfl, (fun h => by omega)⟩, fun x hx => by cases hx⟩
 ·refine ⟨some ⟨g, 0, none⟩, cap, rfl, ⟨h1, hn, hm, (fun h => by cases h), fun h0 => ⟨g, 0, rfl, (Array.getElem?_eq_some_iff.1 hgg).1, fun j hj => ?_⟩⟩, fun x hx => by cases hx; exact hg⟩
  have hj' := h.row.cellAt j (by omega)
  rw [Nat.zero_add, hj', List.getElem?_eq_getElem hj]
theorem Own.shape1 {e : TypeId} {size B : Nat} {W0 w : World} {v : Value} {n : Nat} {xs : List Value} (h : Own e size B W0 v n xs w) (hn : 0 < n) :
  ∃ g cap, v = .slice (some ⟨g, 0, none⟩) n cap ∧ B ≤ g := by
 rcases h.row.2 with ⟨rfl, rfl⟩ | ⟨g, cap, cur, rfl, hg, _⟩
 ·omega
 ·exact ⟨g, cap, rfl, hg⟩
theorem Own.rd {e : TypeId} {size B : Nat} {W0 w : World} {a : Option Addr} {n cap : Nat} {xs : List Value} (h : Own e size B W0 (.slice a n cap) n xs w) : Rd w a n cap size xs := by
 obtain ⟨a', cap', he, hr, _⟩ := h.shape
 cases he
 exact hr
theorem Own.nil (e : TypeId) (size : Nat) (w : World) : Own e size w.heap.size w (.slice none 0 0) 0 [] w := ⟨World.ownsRow_nil _ _ _ _, Below.refl _ _, Nat.le_refl _⟩
theorem Own.lit {e : TypeId} {size n : Nat} {W0 w : World} {B : Nat} (hb : Below B W0 w) (hB : B ≤ w.heap.size) (cs : Array Value) (hn : cs.size = n * size) (hm : n ≤ maxLen) :
  Own e size B W0 (.slice (some ⟨w.heap.size, 0, none⟩) n n) n cs.toList (w.alloc (.cells cs e)) :=
 ⟨World.ownsRow_lit w cs n hB hm hn, hb.alloc hB _, by simp; omega⟩
section
variable {P : Program}
theorem oper_app {w : World} {o : Oper} {a : Act} {K : Act → World → Prop} {Q : Exit → Act → World → Prop} (s x : Operand) (t : TypeId)
  (ho : o.op = .call { callee := .builtin .append, args := #[s, x], argTypes := #[t, t] })
  (e : TypeId) (z : Value) (size bytes : Nat) (ht : P.underlying t = some (.slice e)) (hi : (P.info? e).map (fun i => (i.zero, i.size, i.bytes)) = some (some z, size, bytes)) (hzs : z.cells.size = size) (hsz : 0 < size)
  (B : Nat) (W0 : World) (v : Value) (n : Nat) (xs : List Value) (hs : a.eval s = v) (hown : Own e size B W0 v n xs w)
  (ad : Option Addr) (m c : Nat) (news : List Value) (hx : a.eval x = .slice ad m c) (hr : Rd w ad m c size news) (h1 : ∀ u ∈ news, u.oneCell' = true)
  (hlim : (n + m) * bytes ≤ 140737488355328) (hmax : n + m ≤ maxLen)
  (h : ∀ a' cap' w', Own e size B W0 (.slice a' (n + m) cap') (n + m) (xs ++ news) w' → K (a.put o.dst (.slice a' (n + m) cap')) w') : Oper.wp P o a w K Q := by
 obtain ⟨i, hi, hz, hsize, hby⟩ := info_parts hi
 cases ad with
 | some ad =>
  refine wp_append_own w s x t ho B e i z size bytes ht hi hz hsize hby hzs hsz v n xs hs hown.row ad m c news hx hr.len ?_ h1 hmax hlim hown.base ?_
  ·intro j u hj
   have hj' := (List.getElem?_eq_some_iff.1 hj).1
   have hm0 : 0 < m := by
    rcases Nat.eq_zero_or_pos m with h0 | h0
    ·have := hr.len; rw [h0] at this; simp at this; subst this; simp at hj'
    ·exact h0
   obtain ⟨b, off, e1, _, hc⟩ := hr.at' hm0
   cases e1
   rw [Addr.add_lit, hc j hj']
   rw [List.getElem?_eq_getElem hj'] at hj
   exact hj
  ·intro v' w' ho' hg _
   have hO : Own e size B W0 v' (n + m) (xs ++ news) w' := ⟨ho', hown.below.grown hg hown.base (fun k hk => (hown.row.lt k hk).1), Nat.le_trans hown.base hg.size⟩
   obtain ⟨a', cap', rfl, _, _⟩ := hO.shape
   exact h a' cap' w' hO
 | none =>
  have hc0 := hr.nil rfl
  have hm0 : m = 0 := by have := hr.le; omega
  subst hc0
  subst hm0
  have hn : news = [] := List.eq_nil_of_length_eq_zero (by have := hr.len; simpa using this)
  subst hn
  have hrun := run_append_owned_none (P := P) w B t o.type e i size ht hi v n xs hown.row
  unfold Oper.wp
  simp [execOp, ho, resolve, invoke, builtin, hs, hx, hrun, Result.andThen]
  obtain ⟨a', cap', rfl, _, _⟩ := hown.shape
  exact h a' cap' w (by simpa using hown)
theorem wp_app {w : World} {ops : Array Oper} {rest : List Oper} {o : Oper} {a : Act} {Q : Exit → Act → World → Prop} (hgd : o.guard = none) (s x : Operand) (t : TypeId)
  (ho : o.op = .call { callee := .builtin .append, args := #[s, x], argTypes := #[t, t] })
  (e : TypeId) (z : Value) (size bytes : Nat) (ht : P.underlying t = some (.slice e)) (hi : (P.info? e).map (fun i => (i.zero, i.size, i.bytes)) = some (some z, size, bytes)) (hzs : z.cells.size = size) (hsz : 0 < size)
  (B : Nat) (W0 : World) (v : Value) (n : Nat) (xs : List Value) (hs : a.eval s = v) (hown : Own e size B W0 v n xs w)
  (ad : Option Addr) (m c : Nat) (news : List Value) (hx : a.eval x = .slice ad m c) (hr : Rd w ad m c size news) (h1 : ∀ u ∈ news, u.oneCell' = true)
  (hlim : (n + m) * bytes ≤ 140737488355328) (hmax : n + m ≤ maxLen)
  (h : ∀ a' cap' w', Own e size B W0 (.slice a' (n + m) cap') (n + m) (xs ++ news) w' → wpList P ops Q rest (a.put o.dst (.slice a' (n + m) cap')) w') : wpList P ops Q (o :: rest) a w :=
 wpList_plain hgd fun _ hK => oper_app s x t ho e z size bytes ht hi hzs hsz B W0 v n xs hs hown ad m c news hx hr h1 hlim hmax fun a' cap' w' hO => hK _ _ (h a' cap' w' hO)
theorem lit_rd {w0 : World} {e : TypeId} {size m : Nat} {news : Array Value} (hl : news.size = m * size) (hm : m ≤ maxLen) : Rd (w0.alloc (.cells news e)) (some ⟨w0.heap.size, 0, none⟩) m m size news.toList :=
 (Own.lit (Below.refl w0.heap.size w0) (Nat.le_refl _) news hl hm : Own e size _ _ _ m _ _).rd
theorem wp_app1 {w0 : World} {ops : Array Oper} {rest : List Oper} {o : Oper} {a : Act} {Q : Exit → Act → World → Prop} (hgd : o.guard = none) (s x : Operand) (t : TypeId)
  (ho : o.op = .call { callee := .builtin .append, args := #[s, x], argTypes := #[t, t] })
  (e : TypeId) (z : Value) (size bytes : Nat) (ht : P.underlying t = some (.slice e)) (hi : (P.info? e).map (fun i => (i.zero, i.size, i.bytes)) = some (some z, size, bytes)) (hzs : z.cells.size = size) (hsz : 0 < size)
  (B : Nat) (W0 : World) (v : Value) (n : Nat) (xs : List Value) (hs : a.eval s = v) (hown : Own e size B W0 v n xs w0)
  (m : Nat) (news : Array Value) (hx : a.eval x = .slice (some ⟨w0.heap.size, 0, none⟩) m m) (hl : news.size = m * size) (h1 : ∀ u ∈ news.toList, u.oneCell' = true)
  (hlim : (n + m) * bytes ≤ 140737488355328) (hmax : n + m ≤ maxLen)
  (h : ∀ a' cap' w', Own e size B W0 (.slice a' (n + m) cap') (n + m) (xs ++ news.toList) w' → wpList P ops Q rest (a.put o.dst (.slice a' (n + m) cap')) w') : wpList P ops Q (o :: rest) a (w0.alloc (.cells news e)) :=
 wp_app hgd s x t ho e z size bytes ht hi hzs hsz B W0 v n xs hs (hown.alloc _) (some ⟨w0.heap.size, 0, none⟩) m m news.toList hx (lit_rd hl (by omega)) h1 hlim hmax h
theorem wp_maken {w : World} {ops : Array Oper} {rest : List Oper} {o : Oper} {a : Act} {Q : Exit → Act → World → Prop}
  (hg : o.guard = none) (l c : Operand) (t : TypeId) (hop : o.op = Op.makeSlice t l c)
  (e : TypeId) (z : Value) (bytes : Nat) (ht : P.underlying t = some (.slice e)) (hi : (P.info? e).map (fun i => (i.zero, i.size, i.bytes)) = some (some z, 1, bytes)) (hz1 : z.cells = #[z])
  (B : Nat) (W0 : World) (hb : Below B W0 w) (hB : B ≤ w.heap.size)
  (kl kc : IntKind) (L C : Int) (n : Nat) (hl : a.eval l = .int kl L) (hc : a.eval c = .int kc C) (hL : L = (n : Int)) (hC : C = (n : Int)) (b2 : bytes * n ≤ 281474976710656) (b3 : n ≤ maxLen)
  (hK : ∀ w', Own e 1 B W0 (.slice (some ⟨w.heap.size, 0, none⟩) n n) n (List.replicate n z) w' → wpList P ops Q rest (a.put o.dst (.slice (some ⟨w.heap.size, 0, none⟩) n n)) w') :
  wpList P ops Q (o :: rest) a w := by
 obtain ⟨i, hi, hz, hsize, hby⟩ := info_parts hi
 refine wpList_make_full w hg l c t hop B e i z 1 ht hi hz hsize kl kc L C n hl hc hL hC (by rw [hby]; exact b2) b3 hB ?_
 intro w' ho hg'
 rw [hz1, Nat.mul_one, toList_madeCells_one] at ho
 exact hK w' ⟨ho, hb.grown hg' hB (fun k hk => by cases hk), Nat.le_trans hB hg'.size⟩
def u8s (bs : List UInt8) : List Value := bs.map fun b => .int .u8 (b.toNat : Int)
@[simp] theorem u8s_length (bs : List UInt8) : (u8s bs).length = bs.length := by simp [u8s]
theorem u8s_append (a b : List UInt8) : u8s (a ++ b) = u8s a ++ u8s b := by simp [u8s]
def ub (x : Int) : UInt8 := UInt8.ofNat x.toNat
theorem ub_toNat (x : Int) (h0 : 0 ≤ x) (h1 : x < 256) : ((ub x).toNat : Int) = x := by unfold ub; rw [UInt8.toNat_ofNat']; omega
theorem u8s_ub1 (a : Int) (a0 : 0 ≤ a) (a1 : a < 256) : u8s [ub a] = [.int .u8 a] := by simp only [u8s, List.map_cons, List.map_nil, ub_toNat a a0 a1]
theorem u8s_ub2 (a b : Int) (a0 : 0 ≤ a) (a1 : a < 256) (b0 : 0 ≤ b) (b1 : b < 256) : u8s [ub a, ub b] = [.int .u8 a, .int .u8 b] := by simp only [u8s, List.map_cons, List.map_nil, ub_toNat a a0 a1, ub_toNat b b0 b1]
theorem u8s_ub3 (a b c : Int) (a0 : 0 ≤ a) (a1 : a < 256) (b0 : 0 ≤ b) (b1 : b < 256) (c0 : 0 ≤ c) (c1 : c < 256) : u8s [ub a, ub b, ub c] = [.int .u8 a, .int .u8 b, .int .u8 c] := by
 simp only [u8s, List.map_cons, List.map_nil, ub_toNat a a0 a1, ub_toNat b b0 b1, ub_toNat c c0 c1]
theorem u8s_ub4 (a b c d : Int) (a0 : 0 ≤ a) (a1 : a < 256) (b0 : 0 ≤ b) (b1 : b < 256) (c0 : 0 ≤ c) (c1 : c < 256) (d0 : 0 ≤ d) (d1 : d < 256) : u8s [ub a, ub b, ub c, ub d] = [.int .u8 a, .int .u8 b, .int .u8 c, .int .u8 d] := by
 simp only [u8s, List.map_cons, List.map_nil, ub_toNat a a0 a1, ub_toNat b b0 b1, ub_toNat c c0 c1, ub_toNat d d0 d1]
def ints (l : List Int) : List Value := l.map (Value.int .i64)
@[simp] theorem ints_length (l : List Int) : (ints l).length = l.length := by simp [ints]
theorem ints_append (a b : List Int) : ints (a ++ b) = ints a ++ ints b := by simp [ints]
theorem ints_one (l : List Int) : ∀ u ∈ ints l, u.oneCell' = true := by
 intro u hu
 obtain ⟨_, _, rfl⟩ := List.mem_map.1 hu
 rfl
theorem ints_get (l : List Int) (k : Nat) (h : k < l.length) : (ints l)[k]'(by simpa using h) = .int .i64 l[k] := by simp [ints]
def marks (k : Int) (n : Nat) : List Int := (List.range n).map fun (i : Nat) => k + (i : Int)
@[simp] theorem marks_length (k : Int) (n : Nat) : (marks k n).length = n := by simp [marks]
theorem u8s_one (c : Int) (h0 : 0 ≤ c) (h1 : c < 256) : u8s [UInt8.ofNat c.toNat] = [.int .u8 c] := by
 simp only [u8s, List.map_cons, List.map_nil]
 have : (UInt8.ofNat c.toNat).toNat = c.toNat := by simp; omega
 rw [this, Int.toNat_of_nonneg h0]
theorem run_str {w : World} (src dst e : TypeId) (hs : P.underlying src = some (.slice e)) (he : P.underlying e = some (.int .u8)) (hd : P.underlying dst = some .string)
  {ad : Option Addr} {n cap : Nat} {bs : List UInt8} (hr : Rd w ad n cap 1 (u8s bs)) : (convert src dst (.slice ad n cap)).run P w = .ok (.string ⟨bs.toArray⟩) w := by
 have hl : bs.length = n := by have := hr.len; simpa using this
 subst hl
 cases ad with
 | some ad =>
  rcases Nat.eq_zero_or_pos bs.length with h0 | h0
  ·have hb : bs = [] := List.eq_nil_of_length_eq_zero h0
   subst hb
   exact run_convert_bytes_back w src dst e ad cap [] hs he hd (fun j hj => by simp at hj)
  ·refine run_convert_bytes_back w src dst e ad cap bs hs he hd ?_
   intro j hj
   obtain ⟨b, off, e1, _, hc⟩ := hr.at' h0
   cases e1
   rw [Addr.add_lit, hc j (by simpa using hj)]
   simp [u8s]
 | none =>
  have hc0 := hr.nil rfl
  have hm0 := hr.le
  have hb : bs = [] := List.eq_nil_of_length_eq_zero (by omega)
  subst hb
  subst hc0
  rw [run_convert_bytes_string w src dst e none _ 0 hs he hd]
  simp [Conv.bytesToString, Sem.run_pure]
  rfl
theorem wp_str {w : World} {ops : Array Oper} {rest : List Oper} {o : Oper} {a : Act} {Q : Exit → Act → World → Prop} (hgd : o.guard = none) (x : Operand) (src dst e : TypeId)
  (ho : o.op = .convert src dst x) (hs : P.underlying src = some (.slice e)) (he : P.underlying e = some (.int .u8)) (hd : P.underlying dst = some .string)
  (ad : Option Addr) (n cap : Nat) (bs : List UInt8) (hx : a.eval x = .slice ad n cap) (hr : Rd w ad n cap 1 (u8s bs))
  (h : wpList P ops Q rest (a.put o.dst (.string ⟨bs.toArray⟩)) w) : wpList P ops Q (o :: rest) a w := by
 have hrun := run_str (P := P) src dst e hs he hd hr
 refine wpList_plain hgd fun K hK => ?_
 unfold Oper.wp
 simp [execOp, ho, hx, hrun, Result.andThen]
 exact hK _ _ h
end
theorem wraps_i64 (n : Int) (h₀ : 0 ≤ n) (h₁ : n < 2 ^ 63) : IntKind.i64.wrap n = n := by rw [IntKind.wrap_i64]; omega
theorem i64_and255 (x : Int) (h₀ : 0 ≤ x) (h₁ : x < 9223372036854775808) : bits .and .i64 x 255 = x % 256 := bits_mask .i64 63 (by decide) wraps_i64 8 (by decide) x h₀ h₁
theorem i64_and63 (x : Int) (h₀ : 0 ≤ x) (h₁ : x < 9223372036854775808) : bits .and .i64 x 63 = x % 64 := bits_mask .i64 63 (by decide) wraps_i64 6 (by decide) x h₀ h₁
theorem i64_and31 (x : Int) (h₀ : 0 ≤ x) (h₁ : x < 9223372036854775808) : bits .and .i64 x 31 = x % 32 := bits_mask .i64 63 (by decide) wraps_i64 5 (by decide) x h₀ h₁
theorem i64_and15 (x : Int) (h₀ : 0 ≤ x) (h₁ : x < 9223372036854775808) : bits .and .i64 x 15 = x % 16 := bits_mask .i64 63 (by decide) wraps_i64 4 (by decide) x h₀ h₁
theorem i64_and7 (x : Int) (h₀ : 0 ≤ x) (h₁ : x < 9223372036854775808) : bits .and .i64 x 7 = x % 8 := bits_mask .i64 63 (by decide) wraps_i64 3 (by decide) x h₀ h₁
theorem i64_and1 (x : Int) (h₀ : 0 ≤ x) (h₁ : x < 9223372036854775808) : bits .and .i64 x 1 = x % 2 := bits_mask .i64 63 (by decide) wraps_i64 1 (by decide) x h₀ h₁
theorem ret_int {k : IntKind} {a b : Int} (h : a = b) : Ending.returned (.int k a) = .returned (.int k b) := by rw [h]
theorem ret_bool {a b : Bool} (h : a = b) : Ending.returned (.bool a) = .returned (.bool b) := by rw [h]
theorem ret_str {a b : ByteArray} (h : a = b) : Ending.returned (.string a) = .returned (.string b) := by rw [h]
def IsRow (k : IntKind) (w : World) (a : Option Addr) (len cap : Nat) (zs : List Int) : Prop :=
 (a = none ∧ len = 0 ∧ cap = 0 ∧ zs = []) ∨
 ∃ x, a = some x ∧ len ≤ cap ∧ cap ≤ maxLen ∧ zs.length = cap ∧ (∀ i, i < zs.length → w.cell? (x.add i) = some (.int k (zs.getD i 0))) ∧ ∀ n ∈ zs, (Lit.int k n).wf = true
theorem IsRow.rd {k : IntKind} {w : World} {a : Option Addr} {len cap : Nat} {zs : List Int} (h : IsRow k w a len cap zs) :
  Rd w a len cap 1 ((zs.take len).map (Value.int k)) ∧ (∀ n ∈ zs.take len, (Lit.int k n).wf = true) := by
 rcases h with ⟨rfl, rfl, rfl, rfl⟩ | ⟨x, rfl, h1, h2, h3, h4, h5⟩
 ·exact ⟨⟨rfl, Nat.le_refl _, by unfold maxLen; omega, fun _ => rfl, fun h => by omega⟩, fun n hn => by simp at hn⟩
 ·refine ⟨⟨by simp; omega, h1, h2, (fun h => by cases h), fun h0 => ?_⟩, fun n hn => h5 n (List.mem_of_mem_take hn)⟩
  obtain ⟨b, off, spot⟩ := x
  have hc := h4 0 (by omega)
  have hspot : spot = none := by simpa [Addr.add] using World.cell?_spot hc
  subst hspot
  refine ⟨b, off, rfl, ?_, ?_⟩
  ·have := World.block_lt_of_cell? w _ hc
   simpa [Addr.add] using this
  ·intro j hj
   simp only [List.length_map, List.length_take] at hj
   have := h4 j (by omega)
   rw [Addr.add_lit] at this
   rw [this]
   simp [List.getD, show j < zs.length by omega]
theorem info_u8 : (Try.prog.info? 5).map (fun i => (i.zero, i.size, i.bytes)) = some (some (.int .u8 0), 1, 1) := by kernel_rfl
set_option maxRecDepth 1000000 in
set_option maxHeartbeats 6000000 in
theorem l1In_yes (x lo hi : Int) (w : World) (h1 : lo ≤ x) (h2 : x ≤ hi) : Calls Try.prog 22 #[.int .i64 x, .int .i64 lo, .int .i64 hi] w fun e w' => e = .returned (.bool true) ∧ w = w' := by
 go_enter Try.func22, Try.ntmps22
 go_wp2
 go_ret
 exact ⟨rfl, rfl⟩
theorem l1In_no (x lo hi : Int) (w : World) (h : x < lo ∨ hi < x) : Calls Try.prog 22 #[.int .i64 x, .int .i64 lo, .int .i64 hi] w fun e w' => e = .returned (.bool false) ∧ w = w' := by
 by_cases h1 : x < lo
 ·go_enter Try.func22, Try.ntmps22
  go_wp2
  go_ret
  exact ⟨rfl, rfl⟩
 ·have h2 : ¬ x ≤ hi := by omega
  clear h
  go_enter Try.func22, Try.ntmps22
  go_wp2
  go_ret
  exact ⟨rfl, rfl⟩
section
open Go.ChangeShapes Go.WideShapes Go.RowKit Go.Deep
theorem flat_length {α : Type} (f : α → List Value) (size : Nat) (hf : ∀ x, (f x).length = size) : ∀ xs : List α, (xs.flatMap f).length = xs.length * size := by
 intro xs
 induction xs with
 | nil => simp
 | cons x xs ih => rw [List.flatMap_cons, List.length_append, hf, ih, List.length_cons, Nat.succ_mul]; omega
theorem flat_get {α : Type} (f : α → List Value) (size : Nat) (hf : ∀ x, (f x).length = size) : ∀ (xs : List α) (i j : Nat) (hi : i < xs.length), j < size → (xs.flatMap f)[i * size + j]? = (f xs[i])[j]? := by
 intro xs
 induction xs with
 | nil => intro i j hi; simp at hi
 | cons x xs ih =>
  intro i j hi hj
  rw [List.flatMap_cons]
  cases i with
  | zero => rw [Nat.zero_mul, Nat.zero_add, List.getElem?_append_left (by rw [hf]; exact hj)]; rfl
  | succ i =>
   rw [List.getElem?_append_right (by rw [hf, Nat.succ_mul]; omega), hf]
   have e : (i + 1) * size + j - size = i * size + j := by rw [Nat.succ_mul]; omega
   rw [e, ih i j (by simpa using hi) hj]
   rfl
def strs (l : List ByteArray) : List Value := l.flatMap fun s => [.string s]
theorem strs_eq (l : List ByteArray) : strs l = l.map Value.string := by
 induction l with
 | nil => rfl
 | cons s l ih => simp only [strs, List.flatMap_cons, List.map_cons] at *; rw [ih]; rfl
@[simp] theorem strs_length (l : List ByteArray) : (strs l).length = l.length := by simp [strs_eq]
theorem strs_append (a b : List ByteArray) : strs (a ++ b) = strs a ++ strs b := by simp [strs]
theorem strs_get (l : List ByteArray) (k : Nat) (h : k < l.length) : (strs l)[k]'(by simpa using h) = .string l[k] := by simp [strs_eq]
theorem strs_one (l : List ByteArray) : ∀ u ∈ strs l, u.oneCell' = true := by
 intro u hu
 rw [strs_eq] at hu
 obtain ⟨_, _, rfl⟩ := List.mem_map.1 hu
 rfl
def wr1 (x : Int × ByteArray) : List Value := [.int .i64 x.1, .string x.2]
def wrs (l : List (Int × ByteArray)) : List Value := l.flatMap wr1
theorem wr1_len (x : Int × ByteArray) : (wr1 x).length = 2 := rfl
@[simp] theorem wrs_length (l : List (Int × ByteArray)) : (wrs l).length = l.length * 2 := flat_length wr1 2 wr1_len l
theorem wrs_append (a b : List (Int × ByteArray)) : wrs (a ++ b) = wrs a ++ wrs b := by simp [wrs]
theorem wrs_get0 (l : List (Int × ByteArray)) (k : Nat) (h : k < l.length) : (wrs l)[k * 2]'(by simp; omega) = .int .i64 l[k].1 := by
 have := flat_get wr1 2 wr1_len l k 0 h (by omega)
 rw [Nat.add_zero, ← wrs, List.getElem?_eq_getElem (by simp; omega)] at this
 exact Option.some.inj this
theorem wrs_get1 (l : List (Int × ByteArray)) (k : Nat) (h : k < l.length) : (wrs l)[k * 2 + 1]'(by simp; omega) = .string l[k].2 := by
 have := flat_get wr1 2 wr1_len l k 1 h (by omega)
 rw [← wrs, List.getElem?_eq_getElem (by simp; omega)] at this
 exact Option.some.inj this
structure EntL where
 hash : Int
 index : Int
 name : ByteArray
 id : Int
def en1 (x : EntL) : List Value := [.int .i64 x.hash, .int .i64 x.index, .string x.name, .int .i64 x.id]
def ens (l : List EntL) : List Value := l.flatMap en1
theorem en1_len (x : EntL) : (en1 x).length = 4 := rfl
@[simp] theorem ens_length (l : List EntL) : (ens l).length = l.length * 4 := flat_length en1 4 en1_len l
theorem ens_append (a b : List EntL) : ens (a ++ b) = ens a ++ ens b := by simp [ens]
theorem ens_get (l : List EntL) (k : Nat) (h : k < l.length) (j : Nat) (hj : j < 4) : (ens l)[k * 4 + j]'(by simp; omega) = (en1 l[k])[j]'(by rw [en1_len]; exact hj) := by
 have := flat_get en1 4 en1_len l k j h hj
 rw [← ens, List.getElem?_eq_getElem (by simp; omega), List.getElem?_eq_getElem (by rw [en1_len]; exact hj)] at this
 exact Option.some.inj this
theorem ens_one (l : List EntL) : ∀ u ∈ ens l, u.oneCell' = true := by
 intro u hu
 unfold ens at hu
 obtain ⟨x, _, h⟩ := List.mem_flatMap.1 hu
 unfold en1 at h
 simp only [List.mem_cons, List.not_mem_nil, or_false] at h
 rcases h with rfl | rfl | rfl | rfl <;> rfl
section
variable {P : Program}
end
section
variable {H : Type} {enc : TypeId × Value → H} {P : Program} {w : World} {spare : Nat → Bool} {held : Bool}
end
end
end Go.Proofs.Ytlkfabkkjfmnmaa
