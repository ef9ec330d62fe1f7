/- Lists of strings and of structs of one-cell fields: how they lie in memory, and how an argument reads as one. -/
import Derived.Test.YtlkfabkkjfmnmaaDoorIn
import Derived.Deep.Slices
import Derived.Deep.Fields
import Derived.Lib.SmallJoins
import Derived.ChangeSame
import Derived.ChangeMaps5
namespace Go.Proofs.YtlkfabkkjfmnmaaDoor
open Go.ChangeShapes Go.WideShapes Go.RowKit Go.Deep

/-- Rows of one length, one behind the other. -/
theorem flat_length {α : Type} (f : α → List Value) (size : Nat) (hf : ∀ x, (f x).length = size) : ∀ xs : List α, (xs.flatMap f).length = xs.length * size := by
  intro xs
  induction xs with
  | nil => simp
  | cons x xs ih => rw [List.flatMap_cons, List.length_append, hf, ih, List.length_cons, Nat.succ_mul]; omega
theorem flat_get {α : Type} (f : α → List Value) (size : Nat) (hf : ∀ x, (f x).length = size) : ∀ (xs : List α) (i j : Nat) (hi : i < xs.length), j < size → (xs.flatMap f)[i * size + j]? = (f xs[i])[j]? := by
  intro xs
  induction xs with
  | nil => intro i j hi; simp at hi
  | cons x xs ih =>
    intro i j hi hj
    rw [List.flatMap_cons]
    cases i with
    | zero => rw [Nat.zero_mul, Nat.zero_add, List.getElem?_append_left (by rw [hf]; exact hj)]; rfl
    | succ i =>
      rw [List.getElem?_append_right (by rw [hf, Nat.succ_mul]; omega), hf]
      have e : (i + 1) * size + j - size = i * size + j := by rw [Nat.succ_mul]; omega
      rw [e, ih i j (by simpa using hi) hj]
      rfl
theorem flat_take {α : Type} (f : α → List Value) (size : Nat) (hf : ∀ x, (f x).length = size) (xs : List α) (k : Nat) : (xs.take k).flatMap f = (xs.flatMap f).take (k * size) := by
  induction xs generalizing k with
  | nil => simp
  | cons x xs ih =>
    cases k with
    | zero => simp
    | succ k =>
      rw [List.take_succ_cons, List.flatMap_cons, List.flatMap_cons, ih k]
      rw [List.take_append, hf, List.take_of_length_le (l := f x) (by rw [hf, Nat.succ_mul]; omega)]
      congr 2
      rw [Nat.succ_mul]; omega

/-- What lies row by row reads as a list. -/
theorem rd_of {α : Type} {w : World} {a : Addr} {len cap size : Nat} (hs : 0 < size) (hl : len ≤ cap) (hm : cap ≤ maxLen) (f : α → List Value) (hf : ∀ x, (f x).length = size) (p : α → Prop)
    (h : ∀ i, i < len → ∃ x, p x ∧ ∀ j, j < size → w.cell? (a.add (i * size + j)) = (f x)[j]?) :
    ∃ xs : List α, xs.length = len ∧ (∀ x ∈ xs, p x) ∧ Rd w (some a) len cap size (xs.flatMap f) := by
  let g : Fin len → α := fun i => Classical.choose (h i.1 i.2)
  have hg : ∀ i : Fin len, p (g i) ∧ ∀ j, j < size → w.cell? (a.add (i.1 * size + j)) = (f (g i))[j]? := fun i => Classical.choose_spec (h i.1 i.2)
  refine ⟨List.ofFn g, List.length_ofFn, fun x hx => ?_, ⟨by rw [flat_length f size hf, List.length_ofFn], hl, hm, (fun e => by cases e), fun h0 => ?_⟩⟩
  · obtain ⟨i, rfl⟩ := List.mem_ofFn.1 hx
    exact (hg i).1
  · obtain ⟨b, off, spot⟩ := a
    have hc : ∀ k (hk : k < len * size), w.cell? (Addr.add ⟨b, off, spot⟩ k) = ((List.ofFn g).flatMap f)[k]? := by
      intro k hk
      have h1 : k / size < len := Nat.div_lt_of_lt_mul (by rw [Nat.mul_comm]; exact hk)
      have h2 : k % size < size := Nat.mod_lt _ hs
      have e : k / size * size + k % size = k := by rw [Nat.mul_comm]; exact Nat.div_add_mod k size
      have h3 := (hg ⟨k / size, h1⟩).2 (k % size) h2
      have h4 := flat_get f size hf (List.ofFn g) (k / size) (k % size) (by simpa using h1) h2
      rw [List.getElem_ofFn] at h4
      simp only [e] at h3 h4
      rw [h3, h4]
    have h00 : 0 < len * size := Nat.mul_pos h0 hs
    have hl2 : ((List.ofFn g).flatMap f).length = len * size := by rw [flat_length f size hf, List.length_ofFn]
    have h1 := hc 0 h00
    rw [List.getElem?_eq_getElem (by omega)] at h1
    have hspot : spot = none := by simpa [Addr.add] using World.cell?_spot h1
    subst hspot
    refine ⟨b, off, rfl, ?_, ?_⟩
    · have := World.block_lt_of_cell? w _ h1
      simpa [Addr.add] using this
    · intro j hj
      have h2 := hc j (by omega)
      rw [Addr.add_lit, List.getElem?_eq_getElem hj] at h2
      exact h2

/-- Strings as cells. -/
def strs (l : List ByteArray) : List Value := l.flatMap fun s => [.string s]
theorem strs_eq (l : List ByteArray) : strs l = l.map Value.string := by
  induction l with
  | nil => rfl
  | cons s l ih => simp only [strs, List.flatMap_cons, List.map_cons] at *; rw [ih]; rfl
@[simp] theorem strs_length (l : List ByteArray) : (strs l).length = l.length := by simp [strs_eq]
theorem strs_append (a b : List ByteArray) : strs (a ++ b) = strs a ++ strs b := by simp [strs]
theorem strs_get (l : List ByteArray) (k : Nat) (h : k < l.length) : (strs l)[k]'(by simpa using h) = .string l[k] := by simp [strs_eq]
theorem strs_one (l : List ByteArray) : ∀ u ∈ strs l, u.oneCell' = true := by
  intro u hu
  rw [strs_eq] at hu
  obtain ⟨_, _, rfl⟩ := List.mem_map.1 hu
  rfl

/-- A number and a text, as cells. -/
def wr1 (x : Int × ByteArray) : List Value := [.int .i64 x.1, .string x.2]
def wrs (l : List (Int × ByteArray)) : List Value := l.flatMap wr1
theorem wr1_len (x : Int × ByteArray) : (wr1 x).length = 2 := rfl
@[simp] theorem wrs_length (l : List (Int × ByteArray)) : (wrs l).length = l.length * 2 := flat_length wr1 2 wr1_len l
theorem wrs_append (a b : List (Int × ByteArray)) : wrs (a ++ b) = wrs a ++ wrs b := by simp [wrs]
theorem wrs_get0 (l : List (Int × ByteArray)) (k : Nat) (h : k < l.length) : (wrs l)[k * 2]'(by simp; omega) = .int .i64 l[k].1 := by
  have := flat_get wr1 2 wr1_len l k 0 h (by omega)
  rw [Nat.add_zero, ← wrs, List.getElem?_eq_getElem (by simp; omega)] at this
  exact Option.some.inj this
theorem wrs_get1 (l : List (Int × ByteArray)) (k : Nat) (h : k < l.length) : (wrs l)[k * 2 + 1]'(by simp; omega) = .string l[k].2 := by
  have := flat_get wr1 2 wr1_len l k 1 h (by omega)
  rw [← wrs, List.getElem?_eq_getElem (by simp; omega)] at this
  exact Option.some.inj this
theorem wrs_one (l : List (Int × ByteArray)) : ∀ u ∈ wrs l, u.oneCell' = true := by
  intro u hu
  unfold wrs at hu
  obtain ⟨x, _, h⟩ := List.mem_flatMap.1 hu
  unfold wr1 at h
  simp only [List.mem_cons, List.not_mem_nil, or_false] at h
  rcases h with rfl | rfl <;> rfl

/-- An entry: its hash, index, name and id. -/
structure EntL where
  hash : Int
  index : Int
  name : ByteArray
  id : Int
def en1 (x : EntL) : List Value := [.int .i64 x.hash, .int .i64 x.index, .string x.name, .int .i64 x.id]
def ens (l : List EntL) : List Value := l.flatMap en1
theorem en1_len (x : EntL) : (en1 x).length = 4 := rfl
@[simp] theorem ens_length (l : List EntL) : (ens l).length = l.length * 4 := flat_length en1 4 en1_len l
theorem ens_append (a b : List EntL) : ens (a ++ b) = ens a ++ ens b := by simp [ens]
theorem ens_get (l : List EntL) (k : Nat) (h : k < l.length) (j : Nat) (hj : j < 4) : (ens l)[k * 4 + j]'(by simp; omega) = (en1 l[k])[j]'(by rw [en1_len]; exact hj) := by
  have := flat_get en1 4 en1_len l k j h hj
  rw [← ens, List.getElem?_eq_getElem (by simp; omega), List.getElem?_eq_getElem (by rw [en1_len]; exact hj)] at this
  exact Option.some.inj this
theorem ens_one (l : List EntL) : ∀ u ∈ ens l, u.oneCell' = true := by
  intro u hu
  unfold ens at hu
  obtain ⟨x, _, h⟩ := List.mem_flatMap.1 hu
  unfold en1 at h
  simp only [List.mem_cons, List.not_mem_nil, or_false] at h
  rcases h with rfl | rfl | rfl | rfl <;> rfl

theorem made_rows {α : Type} (f : α → List Value) (size : Nat) (hs : 0 < size) (hf : ∀ x, (f x).length = size) (x : α) (z : Array Value) (hz : z.toList = f x) (n : Nat) : (madeCells z (n * size)).toList = (List.replicate n x).flatMap f := by
  have hzs : z.size = size := by rw [← Array.length_toList, hz, hf]
  refine List.ext_getElem? fun k => ?_
  by_cases hk : k < n * size
  · have h1 : k / size < n := Nat.div_lt_of_lt_mul (by rw [Nat.mul_comm]; exact hk)
    have h2 : k % size < size := Nat.mod_lt _ hs
    have e : k / size * size + k % size = k := by rw [Nat.mul_comm]; exact Nat.div_add_mod k size
    have h3 := flat_get f size hf (List.replicate n x) (k / size) (k % size) (by simpa using h1) h2
    rw [List.getElem_replicate, ← hz] at h3
    simp only [e] at h3
    rw [h3]
    simp only [madeCells, Array.toList_map, Array.toList_range, List.getElem?_map]
    rw [List.getElem?_range hk]
    simp only [Option.map_some, hzs, Array.getElem?_toList]
    rw [Array.getElem!_eq_getD, Array.getD_eq_getD_getElem?, Array.getElem?_eq_getElem (by omega)]
    rfl
  · rw [List.getElem?_eq_none (by rw [Array.length_toList, size_madeCells]; omega), List.getElem?_eq_none (by rw [flat_length f size hf, List.length_replicate]; omega)]

section
variable {P : Program}
/-- make([]T, n), T of so many cells. -/
theorem wp_makes {α : Type} (f : α → List Value) (size : Nat) (hs : 0 < size) (hf : ∀ x, (f x).length = size) (x : α) {w : World} {ops : Array Oper} {rest : List Oper} {o : Oper} {a : Act} {Q : Exit → Act → World → Prop}
    (hg : o.guard = none) (l c : Operand) (t : TypeId) (hop : o.op = Op.makeSlice t l c)
    (e : TypeId) (z : Value) (bytes : Nat) (ht : P.underlying t = some (.slice e)) (hi : (P.info? e).map (fun i => (i.zero, i.size, i.bytes)) = some (some z, size, bytes)) (hz : z.cells.toList = f x)
    (B : Nat) (W0 : World) (hb : Below B W0 w) (hB : B ≤ w.heap.size)
    (kl kc : IntKind) (L C : Int) (n : Nat) (hl : a.eval l = .int kl L) (hc : a.eval c = .int kc C) (hL : L = (n : Int)) (hC : C = (n : Int)) (b2 : bytes * n ≤ 281474976710656) (b3 : n ≤ maxLen)
    (hK : ∀ w', Own e size B W0 (.slice (some ⟨w.heap.size, 0, none⟩) n n) n ((List.replicate n x).flatMap f) w' → wpList P ops Q rest (a.put o.dst (.slice (some ⟨w.heap.size, 0, none⟩) n n)) w') :
    wpList P ops Q (o :: rest) a w := by
  obtain ⟨i, hi, hz0, hsize, hby⟩ := info_parts hi
  refine wpList_make_full w hg l c t hop B e i z size ht hi hz0 hsize kl kc L C n hl hc hL hC (by rw [hby]; exact b2) b3 hB ?_
  intro w' ho hg'
  rw [made_rows f size hs hf x z.cells hz n] at ho
  exact hK w' ⟨ho, hb.grown hg' hB (fun k hk => by cases hk), Nat.le_trans hB hg'.size⟩
end

/-- A whole number and a length that fit. -/
def OkInt (x : Int) : Prop := -9223372036854775808 ≤ x ∧ x ≤ 9223372036854775807
theorem okInt_wf {n : Int} (wf : (Lit.int .i64 n).wf = true) : OkInt n := by simpa [OkInt, Lit.wf, IntKind.min, IntKind.max, IntKind.signed, IntKind.bits] using wf

section
variable {H : Type} {enc : TypeId × Value → H} {P : Program} {w : World} {spare : Nat → Bool} {held : Bool}

/-- An argument that is a slice of structs of one-cell fields, opened. -/
theorem open_rows {t e : TypeId} {fs : Array Field} {fuel : Nat} {cs : List Value} {x : DataW H × List MemPlace} (ht : P.underlying t = some (.slice e)) (he : P.underlying e = some (.struct fs))
    (hone : oneCellFields P fs = true) (hC : P.cellsOf e = fs.size) (h : DataW.trod enc P w 0 spare held fuel t cs = some x) :
    cs = [.slice none 0 0] ∨
    ∃ (a : Addr) (len cap : Nat), cs = [.slice (some a) len cap] ∧ len ≤ cap ∧ cap ≤ maxLen ∧
      ∀ i, i < len → ∃ n : Nat, ∀ (j : Nat) (f : Field), fs[j]? = some f → ∃ (v : Value) (y : DataW H × List MemPlace), w.cell? (a.add (i * fs.size + j)) = some v ∧ DataW.trod enc P w 0 spare held n f.type [v] = some y := by
  rcases open_slice ht h with h0 | ⟨a, len, cap, m, n, D, Pl, hcs, hb, hl, hm, hmm, hx, hi⟩
  · exact .inl h0.1
  · refine .inr ⟨a, len, cap, hcs, hl, hm, fun i hil => ?_⟩
    have him : i < m := by rw [hmm]; split <;> omega
    obtain ⟨cs', hc, ht'⟩ := hi i him
    rw [hC] at hc
    obtain ⟨ys, n', hn', hy, hlen, hyl, hf⟩ := DataW.trod_struct he ht'
    obtain ⟨_, hcl, hat⟩ := World.cells?_some hc
    refine ⟨n', fun j f hj => ?_⟩
    obtain ⟨ho, hk⟩ := hone_of hone j f hj
    have hjl : j < fs.size := (Array.getElem?_eq_some_iff.1 hj).1
    have hcell := hat j hjl
    have hv : cs'[j]? = some (cs'[j]'(by omega)) := List.getElem?_eq_getElem (by omega)
    have h1 := hf j f hj
    rw [ho, hk] at h1
    have hone' : (cs'.drop j).take 1 = [cs'[j]'(by omega)] := by
      rw [List.drop_eq_getElem_cons (by omega)]
      rfl
    rw [hone'] at h1
    have hys : ys[j]? = some (ys[j]'(by omega)) := List.getElem?_eq_getElem (by omega)
    refine ⟨_, _, ?_, h1.trans hys⟩
    rw [← Go.Deep.add_add, hcell, hv]

theorem nil_rd (W : World) (size : Nat) : Rd W none 0 0 size [] := ⟨by simp, Nat.le_refl _, by unfold maxLen; omega, fun _ => rfl, fun h => by omega⟩

/-- An argument that is a slice of strings, opened. -/
theorem open_strsL {t e : TypeId} {fuel : Nat} {cs : List Value} {x : DataW H × List MemPlace} (ht : P.underlying t = some (.slice e)) (he : P.underlying e = some .string) (hc : P.cellsOf e = 1)
    (h : DataW.trod enc P w 0 spare held fuel t cs = some x) :
    ∃ (a : Option Addr) (len cap : Nat) (l : List ByteArray), cs = [.slice a len cap] ∧ (∀ s ∈ l, s.size ≤ maxLen) ∧ Rd w a len cap 1 (strs l) := by
  rcases open_slice1 ht hc h with ⟨h0, _⟩ | ⟨a, len, cap, m, n, V, D, Pl, hcs, hb, hl, hm, hmm, hx, hi⟩
  · exact ⟨none, 0, 0, [], h0, by simp, nil_rd w 1⟩
  · obtain ⟨xs, _, h2, h3⟩ := rd_of (w := w) (a := a) (len := len) (cap := cap) (size := 1) (by omega) hl hm (fun s : ByteArray => [Value.string s]) (fun _ => rfl) (fun s => s.size ≤ maxLen) (fun i hil => by
      obtain ⟨hcell, hv⟩ := hi i (by rw [hmm]; split <;> omega)
      obtain ⟨s, hs, _, hsz⟩ := DataW.trod_string he hv
      simp only [List.cons.injEq, and_true] at hs
      refine ⟨s, hsz, fun j hj => ?_⟩
      have : j = 0 := by omega
      subst this
      rw [Nat.mul_one, Nat.add_zero, hcell, hs]
      rfl)
    exact ⟨some a, len, cap, xs, hcs, h2, h3⟩

/-- An argument that is a slice of a number and a text each, opened. -/
theorem open_wrsL {t e ti ts : TypeId} {f0 f1 : Field} {fuel : Nat} {cs : List Value} {x : DataW H × List MemPlace} (ht : P.underlying t = some (.slice e)) (he : P.underlying e = some (.struct #[f0, f1]))
    (hone : oneCellFields P #[f0, f1] = true) (hC : P.cellsOf e = 2) (h0 : P.underlying f0.type = some (.int .i64)) (h1 : P.underlying f1.type = some .string)
    (h : DataW.trod enc P w 0 spare held fuel t cs = some x) :
    ∃ (a : Option Addr) (len cap : Nat) (l : List (Int × ByteArray)), cs = [.slice a len cap] ∧ (∀ s ∈ l, OkInt s.1 ∧ s.2.size ≤ maxLen) ∧ Rd w a len cap 2 (wrs l) := by
  rcases open_rows ht he hone hC h with hn | ⟨a, len, cap, hcs, hl, hm, hi⟩
  · exact ⟨none, 0, 0, [], hn, by simp, nil_rd w 2⟩
  · obtain ⟨xs, _, h2, h3⟩ := rd_of (w := w) (a := a) (len := len) (cap := cap) (size := 2) (by omega) hl hm wr1 wr1_len (fun s => OkInt s.1 ∧ s.2.size ≤ maxLen) (fun i hil => by
      obtain ⟨n, hf⟩ := hi i hil
      obtain ⟨v0, y0, c0, t0⟩ := hf 0 f0 rfl
      obtain ⟨v1, y1, c1, t1⟩ := hf 1 f1 rfl
      obtain ⟨z, hz, _, hw⟩ := DataW.trod_int h0 t0
      obtain ⟨s, hs, _, hsz⟩ := DataW.trod_string h1 t1
      simp only [List.cons.injEq, and_true] at hz hs
      subst hz hs
      refine ⟨(z, s), ⟨okInt_wf hw, hsz⟩, fun j hj => ?_⟩
      have : j = 0 ∨ j = 1 := by omega
      rcases this with rfl | rfl
      · exact c0
      · exact c1)
    exact ⟨some a, len, cap, xs, hcs, h2, h3⟩

/-- An argument that is a slice of entries, opened. -/
theorem open_ensL {t e : TypeId} {f0 f1 f2 f3 : Field} {fuel : Nat} {cs : List Value} {x : DataW H × List MemPlace} (ht : P.underlying t = some (.slice e)) (he : P.underlying e = some (.struct #[f0, f1, f2, f3]))
    (hone : oneCellFields P #[f0, f1, f2, f3] = true) (hC : P.cellsOf e = 4) (h0 : P.underlying f0.type = some (.int .i64)) (h1 : P.underlying f1.type = some (.int .i64)) (h2 : P.underlying f2.type = some .string) (h3 : P.underlying f3.type = some (.int .i64))
    (h : DataW.trod enc P w 0 spare held fuel t cs = some x) :
    ∃ (a : Option Addr) (len cap : Nat) (l : List EntL), cs = [.slice a len cap] ∧ (∀ s ∈ l, OkInt s.hash ∧ OkInt s.index ∧ s.name.size ≤ maxLen ∧ OkInt s.id) ∧ Rd w a len cap 4 (ens l) := by
  rcases open_rows ht he hone hC h with hn | ⟨a, len, cap, hcs, hl, hm, hi⟩
  · exact ⟨none, 0, 0, [], hn, by simp, nil_rd w 4⟩
  · obtain ⟨xs, _, hp, hr⟩ := rd_of (w := w) (a := a) (len := len) (cap := cap) (size := 4) (by omega) hl hm en1 en1_len (fun s => OkInt s.hash ∧ OkInt s.index ∧ s.name.size ≤ maxLen ∧ OkInt s.id) (fun i hil => by
      obtain ⟨n, hf⟩ := hi i hil
      obtain ⟨v0, y0, c0, t0⟩ := hf 0 f0 rfl
      obtain ⟨v1, y1, c1, t1⟩ := hf 1 f1 rfl
      obtain ⟨v2, y2, c2, t2⟩ := hf 2 f2 rfl
      obtain ⟨v3, y3, c3, t3⟩ := hf 3 f3 rfl
      obtain ⟨z0, hz0, _, w0⟩ := DataW.trod_int h0 t0
      obtain ⟨z1, hz1, _, w1⟩ := DataW.trod_int h1 t1
      obtain ⟨s, hs, _, hsz⟩ := DataW.trod_string h2 t2
      obtain ⟨z3, hz3, _, w3⟩ := DataW.trod_int h3 t3
      simp only [List.cons.injEq, and_true] at hz0 hz1 hs hz3
      subst hz0 hz1 hs hz3
      refine ⟨⟨z0, z1, s, z3⟩, ⟨okInt_wf w0, okInt_wf w1, hsz, okInt_wf w3⟩, fun j hj => ?_⟩
      have : j = 0 ∨ j = 1 ∨ j = 2 ∨ j = 3 := by omega
      rcases this with rfl | rfl | rfl | rfl
      · exact c0
      · exact c1
      · exact c2
      · exact c3)
    exact ⟨some a, len, cap, xs, hcs, hp, hr⟩
/-- An argument that is a struct of one-cell fields, by value, opened: its cells, each with its reading. -/
theorem open_aggs {r : Reach} {b0 : Nat} {t : TypeId} {fs : Array Field} {v : Value} {d : DataW H} {p : List MemPlace} (hs : P.underlying t = some (.struct fs)) (hone : oneCellFields P fs = true) (hC : P.cellsOf t = fs.size)
    (hv : Value.okWide P w r b0 t v) (h : DataW.Trod enc P w 0 spare held t v d p) :
    ∃ (cs : Array Value) (n : Nat), v = .agg cs ∧ cs.size = fs.size ∧ ∀ (j : Nat) (f : Field) (c : Value), fs[j]? = some f → cs[j]? = some c → ∃ y, DataW.trod enc P w 0 spare held n f.type [c] = some y := by
  obtain ⟨cs, rfl, hsz⟩ := okWide_struct hs hv
  obtain ⟨fuel, hf⟩ := h
  obtain ⟨ys, n, _, _, hl, hlen, hg⟩ := DataW.trod_struct hs hf
  refine ⟨cs, n, rfl, hsz.trans hC, fun j f c hj hc => ?_⟩
  obtain ⟨ho, hk⟩ := hone_of hone j f hj
  have hjl : j < fs.size := (Array.getElem?_eq_some_iff.1 hj).1
  have h1 := hg j f hj
  rw [ho, hk] at h1
  obtain ⟨hcl, rfl⟩ := Array.getElem?_eq_some_iff.1 hc
  have e : ((Value.agg cs).cells.toList.drop j).take 1 = [cs[j]] := by
    simp only [Value.cells]
    rw [List.drop_eq_getElem_cons (by simpa using hcl)]
    simp
  rw [e] at h1
  have hys : ys[j]? = some (ys[j]'(by omega)) := List.getElem?_eq_getElem (by omega)
  exact ⟨_, h1.trans hys⟩
theorem array6 {α : Type} {cs : Array α} (h : cs.size = 6) : ∃ c0 c1 c2 c3 c4 c5, cs = #[c0, c1, c2, c3, c4, c5] := by
  obtain ⟨l⟩ := cs
  match l, h with
  | [c0, c1, c2, c3, c4, c5], _ => exact ⟨c0, c1, c2, c3, c4, c5, rfl⟩
theorem int_of {t : TypeId} {n : Nat} {c : Value} {y : DataW H × List MemPlace} (ht : P.underlying t = some (.int .i64)) (h : DataW.trod enc P w 0 spare held n t [c] = some y) : ∃ z : Int, c = .int .i64 z ∧ OkInt z := by
  obtain ⟨z, hz, _, hw⟩ := DataW.trod_int ht h
  exact ⟨z, by simpa using hz, okInt_wf hw⟩
theorem string_of {t : TypeId} {n : Nat} {c : Value} {y : DataW H × List MemPlace} (ht : P.underlying t = some .string) (h : DataW.trod enc P w 0 spare held n t [c] = some y) : ∃ s : ByteArray, c = .string s ∧ s.size ≤ maxLen := by
  obtain ⟨s, hs, _, hw⟩ := DataW.trod_string ht h
  exact ⟨s, by simpa using hs, hw⟩
end
end Go.Proofs.YtlkfabkkjfmnmaaDoor
