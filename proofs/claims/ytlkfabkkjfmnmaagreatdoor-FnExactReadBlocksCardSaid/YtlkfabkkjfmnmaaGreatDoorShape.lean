/- Lists of strings and of structs of one-cell fields: how they lie in memory, and how an argument reads as one. -/
import Derived.Test.YtlkfabkkjfmnmaaGreatDoorIn
import Derived.Deep.Slices
import Derived.Deep.Fields
import Derived.Lib.SmallJoins
import Derived.ChangeSame
import Derived.ChangeMaps5
namespace Go.Proofs.YtlkfabkkjfmnmaaGreatDoor
open Go.ChangeShapes Go.WideShapes Go.RowKit Go.Deep

/-- Rows of one length, one behind the other. -/
theorem flat_length {α : Type} (f : α → List Value) (size : Nat) (hf : ∀ x, (f x).length = size) : ∀ xs : List α, (xs.flatMap f).length = xs.length * size := by
  intro xs
  induction xs with
  | nil => simp
  | cons x xs ih => rw [List.flatMap_cons, List.length_append, hf, ih, List.length_cons, Nat.succ_mul]; omega
theorem flat_get {α : Type} (f : α → List Value) (size : Nat) (hf : ∀ x, (f x).length = size) : ∀ (xs : List α) (i j : Nat) (hi : i < xs.length), j < size → (xs.flatMap f)[i * size + j]? = (f xs[i])[j]? := by
  intro xs
  induction xs with
  | nil => intro i j hi; simp at hi
  | cons x xs ih =>
    intro i j hi hj
    rw [List.flatMap_cons]
    cases i with
    | zero => rw [Nat.zero_mul, Nat.zero_add, List.getElem?_append_left (by rw [hf]; exact hj)]; rfl
    | succ i =>
      rw [List.getElem?_append_right (by rw [hf, Nat.succ_mul]; omega), hf]
      have e : (i + 1) * size + j - size = i * size + j := by rw [Nat.succ_mul]; omega
      rw [e, ih i j (by simpa using hi) hj]
      rfl
/-- What lies row by row reads as a list. -/
theorem rd_of {α : Type} {w : World} {a : Addr} {len cap size : Nat} (hs : 0 < size) (hl : len ≤ cap) (hm : cap ≤ maxLen) (f : α → List Value) (hf : ∀ x, (f x).length = size) (p : α → Prop)
    (h : ∀ i, i < len → ∃ x, p x ∧ ∀ j, j < size → w.cell? (a.add (i * size + j)) = (f x)[j]?) :
    ∃ xs : List α, xs.length = len ∧ (∀ x ∈ xs, p x) ∧ Rd w (some a) len cap size (xs.flatMap f) := by
  let g : Fin len → α := fun i => Classical.choose (h i.1 i.2)
  have hg : ∀ i : Fin len, p (g i) ∧ ∀ j, j < size → w.cell? (a.add (i.1 * size + j)) = (f (g i))[j]? := fun i => Classical.choose_spec (h i.1 i.2)
  refine ⟨List.ofFn g, List.length_ofFn, fun x hx => ?_, ⟨by rw [flat_length f size hf, List.length_ofFn], hl, hm, (fun e => by cases e), fun h0 => ?_⟩⟩
  · obtain ⟨i, rfl⟩ := List.mem_ofFn.1 hx
    exact (hg i).1
  · obtain ⟨b, off, spot⟩ := a
    have hc : ∀ k (hk : k < len * size), w.cell? (Addr.add ⟨b, off, spot⟩ k) = ((List.ofFn g).flatMap f)[k]? := by
      intro k hk
      have h1 : k / size < len := Nat.div_lt_of_lt_mul (by rw [Nat.mul_comm]; exact hk)
      have h2 : k % size < size := Nat.mod_lt _ hs
      have e : k / size * size + k % size = k := by rw [Nat.mul_comm]; exact Nat.div_add_mod k size
      have h3 := (hg ⟨k / size, h1⟩).2 (k % size) h2
      have h4 := flat_get f size hf (List.ofFn g) (k / size) (k % size) (by simpa using h1) h2
      rw [List.getElem_ofFn] at h4
      simp only [e] at h3 h4
      rw [h3, h4]
    have h00 : 0 < len * size := Nat.mul_pos h0 hs
    have hl2 : ((List.ofFn g).flatMap f).length = len * size := by rw [flat_length f size hf, List.length_ofFn]
    have h1 := hc 0 h00
    rw [List.getElem?_eq_getElem (by omega)] at h1
    have hspot : spot = none := by simpa [Addr.add] using World.cell?_spot h1
    subst hspot
    refine ⟨b, off, rfl, ?_, ?_⟩
    · have := World.block_lt_of_cell? w _ h1
      simpa [Addr.add] using this
    · intro j hj
      have h2 := hc j (by omega)
      rw [Addr.add_lit, List.getElem?_eq_getElem hj] at h2
      exact h2

/-- Strings as cells. -/
def strs (l : List ByteArray) : List Value := l.flatMap fun s => [.string s]
theorem strs_eq (l : List ByteArray) : strs l = l.map Value.string := by
  induction l with
  | nil => rfl
  | cons s l ih => simp only [strs, List.flatMap_cons, List.map_cons] at *; rw [ih]; rfl
@[simp] theorem strs_length (l : List ByteArray) : (strs l).length = l.length := by simp [strs_eq]
theorem strs_append (a b : List ByteArray) : strs (a ++ b) = strs a ++ strs b := by simp [strs]
theorem strs_get (l : List ByteArray) (k : Nat) (h : k < l.length) : (strs l)[k]'(by simpa using h) = .string l[k] := by simp [strs_eq]
/-- A number and a text, as cells. -/
def wr1 (x : Int × ByteArray) : List Value := [.int .i64 x.1, .string x.2]
def wrs (l : List (Int × ByteArray)) : List Value := l.flatMap wr1
theorem wr1_len (x : Int × ByteArray) : (wr1 x).length = 2 := rfl
@[simp] theorem wrs_length (l : List (Int × ByteArray)) : (wrs l).length = l.length * 2 := flat_length wr1 2 wr1_len l
/-- An entry: its hash, index, name and id. -/
structure EntL where
  hash : Int
  index : Int
  name : ByteArray
  id : Int
def en1 (x : EntL) : List Value := [.int .i64 x.hash, .int .i64 x.index, .string x.name, .int .i64 x.id]
def ens (l : List EntL) : List Value := l.flatMap en1
theorem en1_len (x : EntL) : (en1 x).length = 4 := rfl
@[simp] theorem ens_length (l : List EntL) : (ens l).length = l.length * 4 := flat_length en1 4 en1_len l
theorem ens_append (a b : List EntL) : ens (a ++ b) = ens a ++ ens b := by simp [ens]
theorem ens_get (l : List EntL) (k : Nat) (h : k < l.length) (j : Nat) (hj : j < 4) : (ens l)[k * 4 + j]'(by simp; omega) = (en1 l[k])[j]'(by rw [en1_len]; exact hj) := by
  have := flat_get en1 4 en1_len l k j h hj
  rw [← ens, List.getElem?_eq_getElem (by simp; omega), List.getElem?_eq_getElem (by rw [en1_len]; exact hj)] at this
  exact Option.some.inj this
section
variable {P : Program}
end

section
variable {H : Type} {enc : TypeId × Value → H} {P : Program} {w : World} {spare : Nat → Bool} {held : Bool}

theorem nil_rd (W : World) (size : Nat) : Rd W none 0 0 size [] := ⟨by simp, Nat.le_refl _, by unfold maxLen; omega, fun _ => rfl, fun h => by omega⟩

/-- An argument that is a slice of strings, opened. -/
theorem open_strsL {t e : TypeId} {fuel : Nat} {cs : List Value} {x : DataW H × List MemPlace} (ht : P.underlying t = some (.slice e)) (he : P.underlying e = some .string) (hc : P.cellsOf e = 1)
    (h : DataW.trod enc P w 0 spare held fuel t cs = some x) :
    ∃ (a : Option Addr) (len cap : Nat) (l : List ByteArray), cs = [.slice a len cap] ∧ (∀ s ∈ l, s.size ≤ maxLen) ∧ Rd w a len cap 1 (strs l) := by
  rcases open_slice1 ht hc h with ⟨h0, _⟩ | ⟨a, len, cap, m, n, V, D, Pl, hcs, hb, hl, hm, hmm, hx, hi⟩
  · exact ⟨none, 0, 0, [], h0, by simp, nil_rd w 1⟩
  · obtain ⟨xs, _, h2, h3⟩ := rd_of (w := w) (a := a) (len := len) (cap := cap) (size := 1) (by omega) hl hm (fun s : ByteArray => [Value.string s]) (fun _ => rfl) (fun s => s.size ≤ maxLen) (fun i hil => by
      obtain ⟨hcell, hv⟩ := hi i (by rw [hmm]; split <;> omega)
      obtain ⟨s, hs, _, hsz⟩ := DataW.trod_string he hv
      simp only [List.cons.injEq, and_true] at hs
      refine ⟨s, hsz, fun j hj => ?_⟩
      have : j = 0 := by omega
      subst this
      rw [Nat.mul_one, Nat.add_zero, hcell, hs]
      rfl)
    exact ⟨some a, len, cap, xs, hcs, h2, h3⟩

end
end Go.Proofs.YtlkfabkkjfmnmaaGreatDoor
