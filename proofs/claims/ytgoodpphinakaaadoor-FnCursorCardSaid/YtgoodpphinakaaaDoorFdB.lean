/- One text of AddF Ins InsI AddC AddI AddS DropI Fdir. (Printed by merge.py.) -/
import Derived.Test.YtgoodpphinakaaaDoorFdA
import Derived.Test.YtgoodpphinakaaaDoorFalike
import Derived.Test.YtgoodpphinakaaaDoorMore
import Derived.Laws.IdiomCopy
import Derived.Laws.NewBlocks
import Derived.Laws.Externs
import Derived.Lib.AppendZeros
import Derived.Lib.AppendZerosOnto
import Derived.Lib.Overlaps
import Derived.Lib.SliceRun
import Derived.Deep.RegionLaw
import Derived.Deep.DeepCutAuto
namespace Go.Proofs.YtgoodpphinakaaaDoor
open Go.RowKit

def ahead (a b : EntL) : Prop := lessH a.hash a.index b.hash b.index = true
theorem ahead_trans {a b c : EntL} (h : ahead a b) (h' : ahead b c) : ahead a c := by
  unfold ahead at *
  rw [lessH_iff] at *
  omega
theorem ahead_irr (a : EntL) (h : ahead a a) : False := by
  unfold ahead at h
  rw [lessH_iff] at h
  omega
theorem ahead_or {a b : EntL} (h : ¬ ahead a b) (hne : ¬ (a.hash = b.hash ∧ a.index = b.index)) : ahead b a := by
  unfold ahead at *
  rw [lessH_iff] at *
  omega
theorem dir_iff (l : List EntL) : dirB l = true ↔ l.length ≤ 12 ∧ (∀ x ∈ l, x.row = true) ∧ l.Pairwise (fun a b => ahead a b ∧ alikeB a.name b.name = false) := by
  constructor
  · intro hd
    refine ⟨dir_len l hd, ?_, ?_⟩
    · intro x hx
      obtain ⟨j, hj, rfl⟩ := List.mem_iff_getElem.1 hx
      have h1 := entOk_row (dir_ent l hd j hj)
      rw [getD_ent l j hj] at h1
      exact h1
    · rw [List.pairwise_iff_getElem]
      intro i j hi hj hij
      refine ⟨?_, ?_⟩
      · obtain ⟨d, rfl⟩ : ∃ d, j = i + d + 1 := ⟨j - i - 1, by omega⟩
        exact dir_lt l hd i d hj
      · have h1 := dir_ent l hd j hj
        rw [entOk_eq l j hj] at h1
        simp only [Bool.and_eq_true] at h1
        cases e : alikeB l[i].name l[j].name with
        | false => rfl
        | true => rw [apart_no l j i hij (by omega) _ e] at h1; exact absurd h1.2 (by decide)
  · rintro ⟨hl, hr, hp⟩
    rw [List.pairwise_iff_getElem] at hp
    unfold dirB
    rw [decide_eq_true hl, Bool.true_and]
    unfold dirUp
    rw [List.all_eq_true]
    intro i hi
    have hi := List.mem_range.1 hi
    refine entOk_yes l i hi (hr _ (List.getElem_mem hi)) ?_ (apart_yes l i _ ?_)
    · cases i with
      | zero => rfl
      | succ i =>
        rw [afterB_succ l i (by omega)]
        exact (hp i (i + 1) (by omega) hi (by omega)).1
    · rw [List.any_eq_false]
      intro x hx
      obtain ⟨j, hj, rfl⟩ := List.mem_iff_getElem.1 hx
      rw [List.length_take] at hj
      rw [List.getElem_take]
      rw [(hp j i (by omega) hi (by omega)).2]
      decide
def addL (l : List EntL) (k : Nat) (e : EntL) : List EntL := l.take k ++ e :: l.drop k
theorem addL_len (l : List EntL) (k : Nat) (h : k ≤ l.length) (e : EntL) : (addL l k e).length = l.length + 1 := by
  unfold addL
  rw [List.length_append, List.length_cons, List.length_take, List.length_drop]
  omega
theorem addL_at (l : List EntL) (k : Nat) (h : k ≤ l.length) (e : EntL) : (addL l k e)[k]'(by rw [addL_len l k h]; omega) = e := by
  unfold addL
  rw [List.getElem_append_right (by rw [List.length_take]; omega)]
  simp only [List.length_take, Nat.min_eq_left h, Nat.sub_self, List.getElem_cons_zero]
theorem addL_take (l : List EntL) (k : Nat) (h : k ≤ l.length) (e : EntL) : (addL l k e).take k = l.take k := by
  unfold addL
  rw [List.take_append_of_le_length (by rw [List.length_take]; omega), List.take_take, Nat.min_self]
theorem addL_erase (l : List EntL) (k : Nat) (h : k ≤ l.length) (e : EntL) : (addL l k e).eraseIdx k = l := by
  unfold addL
  rw [List.eraseIdx_append_of_length_le (by rw [List.length_take]; omega), List.length_take, Nat.min_eq_left h, Nat.sub_self, List.eraseIdx_cons_zero, List.take_append_drop]
theorem addL_set (l : List EntL) (k : Nat) (h : k ≤ l.length) (e e' : EntL) : (addL l k e).set k e' = addL l k e' := by
  unfold addL
  rw [List.set_append_right _ _ (by rw [List.length_take]; omega), List.length_take, Nat.min_eq_left h, Nat.sub_self, List.set_cons_zero]
/-- Where an entry that is added stands. -/
structure AddAt (l : List EntL) (k : Nat) (e : EntL) : Prop where
  le : k ≤ l.length
  low : ∀ x ∈ l.take k, ahead x e
  top : ∀ h : k < l.length, ¬ ahead l[k] e
  free : ∀ x ∈ l, ¬ (x.hash = e.hash ∧ x.index = e.index)
theorem add_dir {l : List EntL} {k : Nat} {e : EntL} (hd : dirB l = true) (h : AddAt l k e) (hl : l.length < 12) (hr : e.row = true) (ha : ∀ x ∈ l, alikeB x.name e.name = false) : dirB (addL l k e) = true := by
  obtain ⟨h1, h2, h3⟩ := (dir_iff l).1 hd
  rw [dir_iff]
  refine ⟨by rw [addL_len l k h.le]; omega, ?_, ?_⟩
  · intro x hx
    unfold addL at hx
    rcases List.mem_append.1 hx with hx | hx
    · exact h2 x (List.mem_of_mem_take hx)
    · rcases List.mem_cons.1 hx with rfl | hx
      · exact hr
      · exact h2 x (List.mem_of_mem_drop hx)
  · have htop : ∀ x ∈ l.drop k, ahead e x := by
      intro x hx
      obtain ⟨j, hj, rfl⟩ := List.mem_iff_getElem.1 hx
      rw [List.length_drop] at hj
      rw [List.getElem_drop]
      have hk : k < l.length := by omega
      have hek : ahead e l[k] := ahead_or (h.top hk) (h.free _ (List.getElem_mem hk))
      rcases Nat.eq_zero_or_pos j with rfl | hj0
      · exact hek
      · rw [List.pairwise_iff_getElem] at h3
        exact ahead_trans hek (h3 k (k + j) hk (by omega) (by omega)).1
    unfold addL
    rw [List.pairwise_append]
    refine ⟨h3.sublist (List.take_sublist ..), ?_, ?_⟩
    · rw [List.pairwise_cons]
      exact ⟨fun x hx => ⟨htop x hx, by rw [alike_sym]; exact ha x (List.mem_of_mem_drop hx)⟩, h3.sublist (List.drop_sublist ..)⟩
    · intro a ha1 b hb1
      rcases List.mem_cons.1 hb1 with rfl | hb1
      · exact ⟨h.low a ha1, ha a (List.mem_of_mem_take ha1)⟩
      · have h4 := h3
        rw [← List.take_append_drop k l, List.pairwise_append] at h4
        exact h4.2.2 a ha1 b hb1
theorem add_look {l : List EntL} {k : Nat} {e : EntL} (hk : k ≤ l.length) (hd : dirB (addL l k e) = true) (ha : ∀ x ∈ l, alikeB x.name e.name = false) (s : ByteArray) (hs : alikeB s e.name = true) : lookF (addL l k e) s = (e, true) := by
  have h1 := pickF_hit (addL l k e) (fun x => alikeB x.name s) hd k (by rw [addL_len l k hk]; omega) (by
    rw [addL_take l k hk, List.any_eq_false]
    intro x hx
    have h2 := ha x (List.mem_of_mem_take hx)
    intro h3
    have h4 := alike_on x.name s e.name h3
    rw [hs, h2] at h4
    exact absurd h4 (by decide)) (by
    rw [addL_at l k hk, alike_sym]
    exact hs)
  rw [addL_at l k hk] at h1
  exact h1
/-- A right directory holds an entry at one place alone. -/
theorem dir_once {l : List EntL} (hd : dirB l = true) (i j : Nat) (hi : i < l.length) (hj : j < l.length) (e : l[i] = l[j]) : i = j := by
  obtain ⟨_, _, h3⟩ := (dir_iff l).1 hd
  rw [List.pairwise_iff_getElem] at h3
  rcases Nat.lt_trichotomy i j with h | h | h
  · have h4 := (h3 i j hi hj h).1
    rw [e] at h4
    exact (ahead_irr _ h4).elim
  · exact h
  · have h4 := (h3 j i hj hi h).1
    rw [e] at h4
    exact (ahead_irr _ h4).elim
theorem nodup_subI : ∀ (a b : List Int), a.Nodup → (∀ y ∈ a, y ∈ b) → a.length ≤ b.length := by
  intro a
  induction a with
  | nil => intro b _ _; simp
  | cons x a ih =>
    intro b hn hs
    rw [List.nodup_cons] at hn
    have hx : x ∈ b := hs x (List.mem_cons_self ..)
    have h1 := ih (b.erase x) hn.2 (fun y hy => by
      have hyx : y ≠ x := fun e => hn.1 (by rw [← e]; exact hy)
      exact (List.mem_erase_of_ne hyx).2 (hs y (List.mem_cons_of_mem _ hy)))
    rw [List.length_erase_of_mem hx] at h1
    have h2 : 0 < b.length := List.length_pos_of_mem hx
    rw [List.length_cons]
    omega
/-- The first free place is not beyond the entries' number. -/
theorem free_le (l : List EntL) (h : Int) (k : Nat) (hb : ∀ j : Nat, j < k → ∃ x ∈ l, x.hash = h ∧ x.index = (j : Int)) : k ≤ l.length := by
  have h1 := nodup_subI ((List.range k).map (fun j : Nat => (j : Int))) (l.map (fun x => x.index)) (by
    unfold List.Nodup
    rw [List.pairwise_map]
    refine (List.nodup_range (n := k)).imp ?_
    intro a b hab e
    exact hab (by omega)) (by
    intro y hy
    obtain ⟨j, hj, rfl⟩ := List.mem_map.1 hy
    obtain ⟨x, hx, _, hi⟩ := hb j (List.mem_range.1 hj)
    exact List.mem_map.2 ⟨x, hx, hi⟩)
  simpa using h1
def addable (l : List EntL) (s : ByteArray) (id : Int) : Bool := nameB s && (!(l.any (fun x => alikeB x.name s)) && (decide (1 ≤ id ∧ id ≤ 100000) && decide (l.length < 12)))
theorem addable_iff (l : List EntL) (s : ByteArray) (id : Int) : addable l s id = true ↔ nameB s = true ∧ (∀ x ∈ l, alikeB x.name s = false) ∧ (1 ≤ id ∧ id ≤ 100000) ∧ l.length < 12 := by
  unfold addable
  simp only [Bool.and_eq_true, Bool.not_eq_true', List.any_eq_false, decide_eq_true_eq, Bool.not_eq_true]
/-- What the program's addition leaves of a right directory. -/
def AddR (l : List EntL) (s : ByteArray) (id : Int) (out : List EntL) (ok : Bool) : Prop :=
  ok = addable l s id ∧ (ok = false → out = l) ∧ (ok = true → ∃ (k at' : Nat), k ≤ l.length ∧ AddAt l at' ⟨hashF s, k, s, id⟩ ∧ out = addL l at' ⟨hashF s, k, s, id⟩)
theorem hash_rangeF (s : ByteArray) (h : nameB s = true) : 0 ≤ hashF s ∧ hashF s ≤ 15 := by
  unfold hashF
  rw [if_pos h]
  omega
theorem addR_all {l : List EntL} {s : ByteArray} {id : Int} {out : List EntL} (hd : dirB l = true) (h : AddR l s id out true) : ∃ (at' : Nat) (e : EntL), at' ≤ l.length ∧ e.name = s ∧ e.id = id ∧ out = addL l at' e ∧ (∀ id', 1 ≤ id' → id' ≤ 100000 → dirB (addL l at' ⟨e.hash, e.index, s, id'⟩) = true) ∧ dirB out = true ∧ ∀ x ∈ l, alikeB x.name s = false := by
  obtain ⟨h1, _, h3⟩ := h
  obtain ⟨k, at', hk, hA, rfl⟩ := h3 rfl
  obtain ⟨hn, ha, hid, hl⟩ := (addable_iff l s id).1 h1.symm
  have hall : ∀ id', 1 ≤ id' → id' ≤ 100000 → dirB (addL l at' ⟨hashF s, k, s, id'⟩) = true := by
    intro id' h0 h1
    exact add_dir hd ⟨hA.le, hA.low, hA.top, hA.free⟩ hl (row_yes hn rfl ⟨by dsimp only; omega, by dsimp only; omega⟩ ⟨h0, h1⟩) ha
  exact ⟨at', ⟨hashF s, k, s, id⟩, hA.le, rfl, rfl, rfl, hall, hall id hid.1 hid.2, ha⟩
section
variable {P : Program}
/-- copy of elements of several cells each. -/
theorem run_copy_wide (w : World) (dT sT ty elem : TypeId) (size b o dLen dCap : Nat) (a : Addr) (sLen sCap : Nat) (cs : List Value)
    (hu : P.underlying dT = some (.slice elem)) (hs : (P.info? elem).map (·.size) = some size) (hn : cs.length = Nat.min sLen dLen * size)
    (hsrc : ∀ j v, cs[j]? = some v → w.cell? (a.add j) = some v) (hc : ∀ j, j < cs.length → (w.cell? ⟨b, o + j, none⟩).isSome = true) (hf : ∀ j, j < cs.length → w.frozen? ⟨b, o + j, none⟩ = false) (h1 : ∀ v ∈ cs, v.oneCell' = true) :
    (Builtin.copy_ #[dT, sT] ty #[.slice (some ⟨b, o, none⟩) dLen dCap, .slice (some a) sLen sCap]).run P w = .ok (goInt (Nat.min sLen dLen)) (w.setCells b o cs) := by
  have hl := run_loadCells_list (P := P) w a cs hsrc
  have hst := run_storeCells_cells (P := P) b o cs 0 w (by simpa using hc) (by simpa using hf) h1
  cases hq : P.info? elem with
  | none => simp [hq] at hs
  | some i =>
    have hi : i.size = size := by simpa [hq] using hs
    simp [Builtin.copy_, run_underlying hu, Builtin.lenOf, Builtin.firstCells, sizeOf, typeInfo, hq, hi, ← hn, hl, hst]
/-- clear of elements of several cells each. -/
theorem run_clear_wide (w : World) (t e ty : TypeId) (z : Value) (ht : P.underlying t = some (.slice e)) (hv : ∀ w, (zeroValue e).run P w = .ok z w) (b o n c : Nat) (hn : 0 < n) (cs : List Value) (hcs : (Builtin.zeroCells z.cells n).toList = cs) (h1 : ∀ v ∈ cs, v.oneCell' = true)
    (hc : ∀ j, j < cs.length → (w.cell? ⟨b, o + j, none⟩).isSome = true) (hf : ∀ j, j < cs.length → w.frozen? ⟨b, o + j, none⟩ = false) :
    (Builtin.clear_ #[t] ty #[.slice (some ⟨b, o, none⟩) n c]).run P w = .ok (.tuple #[]) (w.setCells b o cs) := by
  have hst := run_storeCells_cells (P := P) b o cs 0 w (by simpa using hc) (by simpa using hf) h1
  simp only [Nat.add_zero] at hst
  obtain ⟨m, rfl⟩ : ∃ m, n = m + 1 := ⟨n - 1, by omega⟩
  simp [Builtin.clear_, run_underlying ht, hv, hcs, hst]
theorem wpL_copy (w : World) {ops : Array Oper} {rest : List Oper} {o : Oper} {a : Act} {Q : Exit → Act → World → Prop} (hgd : o.guard = none) (d s : Operand) (t t' : TypeId)
    (ho : o.op = .call { callee := .builtin .copy, args := #[d, s], argTypes := #[t, t'] }) (v u : Value) (hd : a.eval d = v) (hs : a.eval s = u) {v' : Value} {w' : World}
    (hr : (Builtin.copy_ #[t, t'] o.type #[v, u]).run P w = .ok v' w') (h : wpList P ops Q rest (a.put o.dst v') w') : wpList P ops Q (o :: rest) a w :=
  wpList_plain hgd fun _ hK => by
    unfold Oper.wp execOp
    simp only [ho, resolve, invoke, builtin, Sem.run_bind, Sem.run_pure, Result.andThen_ok, List.map_toArray, List.map_cons, List.map_nil, hd, hs, hr]
    exact hK _ _ h
theorem wpL_clear (w : World) {ops : Array Oper} {rest : List Oper} {o : Oper} {a : Act} {Q : Exit → Act → World → Prop} (hgd : o.guard = none) (d : Operand) (t : TypeId)
    (ho : o.op = .call { callee := .builtin .clear, args := #[d], argTypes := #[t] }) (v : Value) (hd : a.eval d = v) {v' : Value} {w' : World}
    (hr : (Builtin.clear_ #[t] o.type #[v]).run P w = .ok v' w') (h : wpList P ops Q rest (a.put o.dst v') w') : wpList P ops Q (o :: rest) a w :=
  wpList_plain hgd fun _ hK => by
    unfold Oper.wp execOp
    simp only [ho, resolve, invoke, builtin, Sem.run_bind, Sem.run_pure, Result.andThen_ok, List.map_toArray, List.map_cons, List.map_nil, hd, hr]
    exact hK _ _ h
theorem st_copy {ops : Array Oper} {o : Oper} {a : Act} {w : World} {K : Act → World → Prop} {Q : Exit → Act → World → Prop} {E : Prop}
    (hg : o.guard = none) (d x : Operand) (dT sT : TypeId) (hop : o.op = Op.call { callee := Callee.builtin Builtin.copy, args := #[d, x], argTypes := #[dT, sT] })
    (v u : Value) (hd : a.eval d = v) (hx : a.eval x = u) {v' : Value} {w' : World} (hr : (Builtin.copy_ #[dT, sT] o.type #[v, u]).run P w = .ok v' w') (hK : K (a.put o.dst v') w') :
    if Region.wanted o (yielded ops a.tmps) = true then Oper.wp P o a w K Q else E := by
  have hw : Region.wanted o (yielded ops a.tmps) = true := by simp [Region.wanted, hg]
  rw [if_pos hw]
  unfold Oper.wp
  simp [execOp, hop, resolve, invoke, builtin, hd, hx, hr, Result.andThen]
  exact hK
end
theorem setCells_size (b : Nat) : ∀ (vs : List Value) (o : Nat) (w : World), (w.setCells b o vs).heap.size = w.heap.size
  | [], _, _ => rfl
  | v :: r, o, w => by rw [World.setCells, setCells_size b r]; simp [World.setCell]
theorem below_setCells {B : Nat} {W0 : World} (b : Nat) (hb : B ≤ b) : ∀ (vs : List Value) (o : Nat) (w : World), Below B W0 w → Below B W0 (w.setCells b o vs)
  | [], _, _, h => h
  | v :: r, o, w, h => below_setCells b hb r (o + 1) _ (h.setCell (p := ⟨b, o, none⟩) hb v)
theorem isSome_cells (b : Nat) (vs : List Value) (o : Nat) (w : World) (h : ∀ j, j < vs.length → (w.cell? ⟨b, o + j, none⟩).isSome = true) (k : Nat) (hk : (w.cell? ⟨b, k, none⟩).isSome = true) : ((w.setCells b o vs).cell? ⟨b, k, none⟩).isSome = true := by
  by_cases hin : o ≤ k ∧ k < o + vs.length
  · have := World.cell?_setCells_in b vs o w h (k - o) (by omega)
    rw [show o + (k - o) = k by omega] at this
    rw [this]; rfl
  · rw [World.cell?_setCells_out b vs o w ⟨b, k, none⟩ (fun _ _ => by show k < o ∨ o + vs.length ≤ k; omega)]
    exact hk
/-- What is owned: its block, and that all of its cells are there. -/
theorem Own.whole {e : TypeId} {size B : Nat} {W0 w : World} {a : Option Addr} {n cap : Nat} {xs : List Value} (h : Own e size B W0 (.slice a n cap) n xs w) (hn : 0 < n) :
    ∃ g, a = some ⟨g, 0, none⟩ ∧ B ≤ g ∧ g < w.heap.size ∧ n ≤ cap ∧ cap ≤ maxLen ∧ w.shape? g = some (e, cap * size) ∧ (∀ j, j < cap * size → (w.cell? ⟨g, j, none⟩).isSome = true) ∧ (∀ j, w.frozen? ⟨g, j, none⟩ = false) ∧ ∀ j v, xs[j]? = some v → w.cell? ⟨g, j, none⟩ = some v := by
  obtain ⟨h1, h2⟩ := h.row
  rcases h2 with ⟨_, rfl⟩ | ⟨g, cap', cur, he, hg, hgg, hn', hm, hs, ht⟩
  · omega
  · simp only [Value.slice.injEq, true_and] at he
    obtain ⟨rfl, rfl⟩ := he
    refine ⟨g, rfl, hg, (Array.getElem?_eq_some_iff.1 hgg).1, hn', hm, ?_, ?_, fun j => h.row.frozenAt j, ?_⟩
    · simp [World.shape?, hgg, hs]
    · intro j hj
      simp only [World.cell?, hgg]
      simp [hs, hj]
    · intro j v hj
      have hjl := (List.getElem?_eq_some_iff.1 hj).1
      rw [h.row.cellAt j (by omega)]
      exact hj
def EntRow (n : Nat) (l : List EntL) (B : Nat) (W0 : World) (e : Ending) (w' : World) : Prop := ∃ (a' : Option Addr) (c' : Nat), e = .returned (.slice a' n c') ∧ Rd w' a' n c' 4 (ens l) ∧ Below B W0 w' ∧ ∀ x, a' = some x → B ≤ x.block
theorem Own.low {e : TypeId} {size B : Nat} {W0 w : World} {a : Option Addr} {n cap : Nat} {xs : List Value} (h : Own e size B W0 (.slice a n cap) n xs w) : ∀ x, a = some x → B ≤ x.block := by
  obtain ⟨a', cap', he, _, hl⟩ := h.shape
  cases he
  exact hl
theorem ens_take (l : List EntL) (k : Nat) : (ens l).take (k * 4) = ens (l.take k) := by
  by_cases h : k ≤ l.length
  · conv => lhs; rw [← List.take_append_drop k l, ens_append]
    rw [List.take_append_of_le_length (by simp; omega), List.take_of_length_le (by simp; omega)]
  · rw [List.take_of_length_le (by simp; omega), List.take_of_length_le (by omega)]
theorem ens_drop (l : List EntL) (k : Nat) : (ens l).drop (k * 4) = ens (l.drop k) := by
  by_cases h : k ≤ l.length
  · conv => lhs; rw [← List.take_append_drop k l, ens_append]
    rw [List.drop_append_of_le_length (by simp; omega), List.drop_of_length_le (by simp; omega), List.nil_append]
  · rw [List.drop_of_length_le (by simp; omega), List.drop_of_length_le (by omega)]
    rfl
theorem one_entC {l : List EntL} : ∀ v ∈ ens l, v.oneCell' = true := ens_one _
/-- A row that reads in three parts. -/
theorem rd_three {W : World} {g n c : Nat} (l : List EntL) (k : Nat) (e : EntL) (hk : k ≤ l.length) (hn : n = l.length + 1) (hc : n ≤ c) (hm : c ≤ maxLen) (hlt : g < W.heap.size)
    (h1 : ∀ j v, (ens (l.take k))[j]? = some v → W.cell? ⟨g, j, none⟩ = some v) (h2 : ∀ j v, (ens [e])[j]? = some v → W.cell? ⟨g, k * 4 + j, none⟩ = some v) (h3 : ∀ j v, (ens (l.drop k))[j]? = some v → W.cell? ⟨g, (k + 1) * 4 + j, none⟩ = some v) : Rd W (some ⟨g, 0, none⟩) n c 4 (ens (addL l k e)) := by
  have e0 : ens (addL l k e) = ens (l.take k) ++ (ens [e] ++ ens (l.drop k)) := by
    unfold addL
    rw [ens_append, show e :: l.drop k = [e] ++ l.drop k from rfl, ens_append]
  have hl1 : (ens (l.take k)).length = k * 4 := by simp; omega
  have hl2 : (ens [e]).length = 4 := by simp
  refine ⟨by rw [e0]; simp; omega, hc, hm, (fun h => by cases h), fun _ => ⟨g, 0, rfl, hlt, fun j hj => ?_⟩⟩
  rw [Nat.zero_add, ← List.getElem?_eq_getElem hj]
  obtain ⟨v, hv⟩ : ∃ v, (ens (addL l k e))[j]? = some v := ⟨_, List.getElem?_eq_getElem hj⟩
  rw [hv]
  rw [e0] at hv
  by_cases c1 : j < k * 4
  · rw [List.getElem?_append_left (by omega)] at hv
    exact h1 j v hv
  · rw [List.getElem?_append_right (by omega), hl1] at hv
    by_cases c2 : j < k * 4 + 4
    · rw [List.getElem?_append_left (by omega)] at hv
      have := h2 (j - k * 4) v hv
      rwa [show k * 4 + (j - k * 4) = j by omega] at this
    · rw [List.getElem?_append_right (by omega), hl2] at hv
      have := h3 (j - k * 4 - 4) v hv
      rwa [show (k + 1) * 4 + (j - k * 4 - 4) = j by omega] at this
theorem mod_free : ∀ (z : Value), z = .agg #[.int .i64 0, .int .i64 0, .string ByteArray.empty, .int .i64 0] → (Builtin.zeroCells z.cells 1).toList = ens [zEnt] := by
  rintro z rfl
  simp [Builtin.zeroCells, Value.cells, List.range_succ, ens, en1, zEnt]
/-- A literal of one entry. -/
structure VLit (w : World) (vb : Nat) (e : EntL) : Prop where
  rd : Rd w (some ⟨vb, 0, none⟩) 1 1 4 (ens [e])
  sh : w.shape? vb = some (46, 4)
  fz : ∀ j, w.frozen? ⟨vb, j, none⟩ = false
theorem VLit.cell {w : World} {vb : Nat} {e : EntL} (h : VLit w vb e) : vb < w.heap.size ∧ ∀ j v, (ens [e])[j]? = some v → w.cell? ⟨vb, j, none⟩ = some v := by
  obtain ⟨b, off, he, hlt, hc⟩ := h.rd.at' (by omega)
  cases he
  refine ⟨hlt, fun j v hj => ?_⟩
  obtain ⟨hjl, rfl⟩ := List.getElem?_eq_some_iff.1 hj
  have := hc j hjl
  rwa [Nat.zero_add] at this
theorem vlit_new (W : World) (e : EntL) : VLit (W.alloc (.cells #[.int .i64 e.hash, .int .i64 e.index, .string e.name, .int .i64 e.id] 46)) W.heap.size e :=
  ⟨lit_rd (news := (ens [e]).toArray) rfl (by decide), by show (match (W.heap.push _)[W.heap.size]? with | some (.cells c elem _) => some (elem, c.size) | _ => none) = _; rw [Array.getElem?_push_size]; rfl, fun j => World.frozen?_alloc_at _ _ _ _ rfl⟩
theorem size_ent : ∀ w : World, (Go.sizeOf 46).run Tryd.prog w = .ok 4 w := by
  obtain ⟨i0, hi0, _, hz1, _⟩ := info_parts info_ent
  intro w
  simp [sizeOf, typeInfo, hi0, hz1]
theorem sz_ent : (Tryd.prog.info? 46).map (·.size) = some 4 := by
  obtain ⟨i0, hi0, _, hz1, _⟩ := info_parts info_ent
  rw [hi0]
  simp [hz1]
theorem min_l (n k : Nat) (h : k ≤ n) : Nat.min (n + 1 - k) (n + 1 - (k + 1)) = n - k := by simp only [Nat.min_def]; split <;> omega
theorem min_r (n k : Nat) (h : k ≤ n) : Nat.min (n - k) (n + 1 - (k + 1)) = n - k := by simp only [Nat.min_def]; split <;> omega
theorem min_o (m : Nat) (h : 1 ≤ m) : Nat.min 1 m = 1 := by simp only [Nat.min_def]; split <;> omega
set_option maxRecDepth 1000000 in
set_option maxHeartbeats 6000000 in
theorem insert_any (B : Nat) (W0 w : World) (a : Option Addr) (cap : Nat) (l : List EntL) (k vb : Nat) (e : EntL) (hO : Own 46 4 B W0 (.slice a l.length cap) l.length (ens l) w) (hV : VLit w vb e) (hne : ∀ q, (Value.slice a l.length cap).ownBlock = some q → q ≠ vb) (hk : k ≤ l.length) (hl : l.length ≤ 1000) :
    Calls Tryd.prog 80 #[.slice a l.length cap, .int .i64 (k : Int), .slice (some ⟨vb, 0, none⟩) 1 1] w (EntRow (l.length + 1) (addL l k e) B W0) := by
  by_cases hkl : k = l.length
  · subst hkl
    have HO := Lib.hid hO
    have HR := Lib.hid hV.rd
    have HEQ : Hid (ens (addL l l.length e) = ens l ++ ens [e]) := Lib.hid (by unfold addL; rw [List.take_length, List.drop_length, ens_append])
    have hcap := hO.rd.le
    have hnil := hO.rd.nil
    rcases hO.shape with ⟨a', cap', he, -, -⟩
    clear he
    cases a with
    | none =>
      have hc0 := hnil rfl
      subst hc0
      have hl0 : l.length = 0 := by omega
      have HL0 := Lib.hid hl0
      clear hV hne hO hnil hcap hk
      generalize hq : l.length = q at *
      subst hl0
      clear hq
      go_enter Tryd.func80, Tryd.ntmps80
      go_wp2_with (at_builtin; go_loud (refine wp_app rfl _ _ 41 rfl 46 (.agg #[.int .i64 0, .int .i64 0, .string ByteArray.empty, .int .i64 0]) 4 40 Tryd.underlying41 info_ent rfl (by decide) _ _ _ _ _ (by rfl) (by exact HO.out) _ _ _ _ (by rfl) (by exact HR.out) one_entC (by omega) (by unfold maxLen; omega) ?_); intro a2 c2 w2 hO2)
      all_goals (go_ret; exact ⟨a2, c2, rfl, by rw [HEQ.out]; exact hO2.rd, hO2.below, hO2.low⟩)
    | some x =>
      obtain ⟨g, cap2, he, -⟩ := (show ∃ g cap2, (Value.slice (some x) l.length cap) = .slice (some ⟨g, 0, none⟩) l.length cap2 ∧ True by
        rcases hO.row.2 with ⟨h, _⟩ | ⟨g, cap2, cur, h, _⟩
        · cases h
        · exact ⟨g, cap2, h, trivial⟩)
      cases he
      clear hV hne hO hnil hk
      go_enter Tryd.func80, Tryd.ntmps80
      go_wp2_with (at_builtin; go_loud (refine wp_app rfl _ _ 41 rfl 46 (.agg #[.int .i64 0, .int .i64 0, .string ByteArray.empty, .int .i64 0]) 4 40 Tryd.underlying41 info_ent rfl (by decide) _ _ _ _ _ (by rfl) (by exact HO.out) _ _ _ _ (by rfl) (by exact HR.out) one_entC (by omega) (by unfold maxLen; omega) ?_); intro a2 c2 w2 hO2)
      all_goals (go_ret; exact ⟨a2, c2, rfl, by rw [HEQ.out]; exact hO2.rd, hO2.below, hO2.low⟩)
  · have hkn : k < l.length := by omega
    obtain ⟨g, rfl, hBg, hgl, hnc, hcm, hsh, hsp, hfz, hce⟩ := hO.whole (by omega)
    have hgv : g ≠ vb := hne g rfl
    obtain ⟨hvl, hvc⟩ := hV.cell
    have HBW := Lib.hid hO.below
    have hdl : (ens (l.drop k)).length = (l.length - k) * 4 := by simp
    have hvl4 : (ens [e]).length = 4 := by simp
    have hcd : ∀ j v, (ens (l.drop k))[j]? = some v → w.cell? ⟨g, k * 4 + j, none⟩ = some v := fun j v hj => by
      rw [← ens_drop, List.getElem?_drop] at hj
      exact hce _ v hj
    have hct : ∀ j v, (ens (l.take k))[j]? = some v → w.cell? ⟨g, j, none⟩ = some v ∧ j < k * 4 := fun j v hj => by
      have hjl := (List.getElem?_eq_some_iff.1 hj).1
      rw [← ens_take, List.getElem?_take] at hj
      split at hj
      · rename_i h
        exact ⟨hce j v hj, h⟩
      · cases hj
    have HCT := Lib.hid hct
    have hw1 : IntKind.i64.wrap ((k : Int) + 1) = (k : Int) + 1 := IntWalk.i64_in _ ⟨by omega, by omega⟩
    have hw3 : IntKind.i64.wrap ((l.length : Int) + 1) = (l.length : Int) + 1 := IntWalk.i64_in _ ⟨by omega, by omega⟩
    have hw2 : ((k : Int) + 1).toNat = k + 1 := by omega
    have hw4 : ((l.length : Int) + 1).toNat = l.length + 1 := by omega
    have hb0 : (0 : Int) ≤ (k : Int) := by omega
    have hb1 : (0 : Int) ≤ (k : Int) + 1 := by omega
    have hb2 : (k : Int) ≤ (l.length : Int) := by omega
    have hkne : ¬ ((k : Int) = (l.length : Int)) := by omega
    by_cases hroom : l.length + 1 ≤ cap
    · have hr1 : ¬ ((cap : Int) < (l.length : Int) + 1) := by omega
      have hr2 : (l.length : Int) + 1 ≤ (cap : Int) := by omega
      have hr3 : (k : Int) + 1 ≤ (l.length : Int) + 1 := by omega
      have hr4 : (k : Int) ≤ (l.length : Int) + 1 := by omega
      have hb3 : ¬ (cap = k + 1) := by omega
      have hb4 : ¬ (cap = k) := by omega
      have hov : ∀ o lb cb, (callFunc 98 #[.slice (some ⟨vb, 0, none⟩) 1 1, .slice (some ⟨g, o, none⟩) lb cb]).run Tryd.prog w = .ok (.value (.bool false)) w := fun o lb cb => by
        rw [run_callFunc_extern Tryd.func98 (by kernel_rfl) (by kernel_rfl) (by kernel_rfl) (e := Extern.SlicesOverlaps.overlaps #[41, 41] #[4]) (by kernel_rfl),
          Lib.run_overlaps_apart w 41 4 46 Tryd.underlying41 4 size_ent ⟨vb, 0, none⟩ ⟨g, o, none⟩ 1 1 lb cb (fun e => hgv e.symm) 46 46 4 (cap * 4) hV.sh hsh (by omega) (hV.fz 0) (hV.fz 4)]
        rfl
      have hcp1 : ∀ ty o1 d1 dc o2 s1 sc, o1 = (k + 1) * 4 → d1 = l.length + 1 - (k + 1) → o2 = k * 4 → s1 = l.length + 1 - k → (Builtin.copy_ #[41, 41] ty #[.slice (some ⟨g, o1, none⟩) d1 dc, .slice (some ⟨g, o2, none⟩) s1 sc]).run Tryd.prog w.drew = .ok (goInt ((l.length - k : Nat) : Int)) (w.drew.setCells g ((k + 1) * 4) (ens (l.drop k))) := by
        rintro ty o1 d1 dc o2 s1 sc rfl rfl rfl rfl
        have h := run_copy_wide (P := Tryd.prog) w.drew 41 41 ty 46 4 g ((k + 1) * 4) (l.length + 1 - (k + 1)) dc ⟨g, k * 4, none⟩ (l.length + 1 - k) sc (ens (l.drop k)) Tryd.underlying41 sz_ent (by rw [min_l _ _ hk, hdl])
          (fun j v hj => by rw [Addr.add_lit]; exact hcd j v hj) (fun j hj => hsp _ (by omega)) (fun j hj => hfz _) one_entC
        rw [min_l _ _ hk] at h
        exact h
      obtain ⟨W1, hW1⟩ : ∃ W1, W1 = w.drew.setCells g ((k + 1) * 4) (ens (l.drop k)) := ⟨_, rfl⟩
      have hsp1 : ∀ j, j < cap * 4 → (W1.cell? ⟨g, j, none⟩).isSome = true := fun j hj => by
        rw [hW1]
        exact isSome_cells g (ens (l.drop k)) ((k + 1) * 4) w.drew (fun t ht => hsp _ (by omega)) j (hsp j hj)
      have hcp2 : ∀ ty o1 d1 dc, o1 = k * 4 → d1 = l.length + 1 - k → (Builtin.copy_ #[41, 41] ty #[.slice (some ⟨g, o1, none⟩) d1 dc, .slice (some ⟨vb, 0, none⟩) 1 1]).run Tryd.prog W1 = .ok (goInt 1) (W1.setCells g (k * 4) (ens [e])) := by
        rintro ty o1 d1 dc rfl rfl
        have h := run_copy_wide (P := Tryd.prog) W1 41 41 ty 46 4 g (k * 4) (l.length + 1 - k) dc ⟨vb, 0, none⟩ 1 1 (ens [e]) Tryd.underlying41 sz_ent (by rw [min_o _ (by omega)]; rfl)
          (fun j v hj => by
            rw [Addr.add_lit, Nat.zero_add, hW1, World.cell?_setCells_out _ _ _ _ _ (fun h _ => absurd h.symm hgv)]
            exact hvc j v hj)
          (fun j hj => hsp1 _ (by omega)) (fun j hj => by rw [hW1, World.frozen?_setCells]; exact hfz _) one_entC
        rw [min_o _ (by omega)] at h
        exact h
      rw [← hW1] at hcp1
      have HEND : Hid (EntRow (l.length + 1) (addL l k e) B W0 (.returned (.slice (some ⟨g, 0, none⟩) (l.length + 1) cap)) (W1.setCells g (k * 4) (ens [e]))) := Lib.hid (by
        refine ⟨some ⟨g, 0, none⟩, cap, rfl, ?_, ?_, fun x hx => by cases hx; exact hBg⟩
        · refine rd_three l k e hk rfl hroom hcm (by rw [setCells_size, hW1, setCells_size]; exact hgl) ?_ ?_ ?_
          · intro j v hj
            obtain ⟨h1, h2⟩ := HCT.out j v hj
            rw [World.cell?_setCells_out _ _ _ _ _ (fun _ _ => Or.inl (by show j < k * 4; omega)), hW1, World.cell?_setCells_out _ _ _ _ _ (fun _ _ => Or.inl (by show j < (k + 1) * 4; omega))]
            exact h1
          · intro j v hj
            obtain ⟨hjl, rfl⟩ := List.getElem?_eq_some_iff.1 hj
            exact World.cell?_setCells_in g (ens [e]) (k * 4) W1 (fun t ht => hsp1 _ (by omega)) j hjl
          · intro j v hj
            obtain ⟨hjl, rfl⟩ := List.getElem?_eq_some_iff.1 hj
            rw [World.cell?_setCells_out _ _ _ _ _ (fun _ _ => Or.inr (by show k * 4 + (ens [e]).length ≤ (k + 1) * 4 + j; omega)), hW1]
            exact World.cell?_setCells_in g (ens (l.drop k)) ((k + 1) * 4) w.drew (fun t ht => hsp _ (by omega)) j hjl
        · exact below_setCells g hBg _ _ _ (by rw [hW1]; exact below_setCells g hBg _ _ _ HBW.out.drew))
      have HC1 := Lib.hid hcp1
      have HC2 := Lib.hid hcp2
      have HW1 := Lib.hid hW1
      have HOV := Lib.hid hov
      clear hcp1 hcp2 hW1 hsp hsp1 hfz hce hcd hct hvc hO hV hne hov hdl hsh
      go_enter Tryd.func80, Tryd.ntmps80
      go_wp2_with (simp only [HOV.out])
      refine wp_region_held_drew (S := (fun _ => True)) (by kernel_rfl) ?_ (fun hHeld => ?_)
      · try dsimp only
        skip
      change wpAnyH _ _ _ _ _ 9 #[false, false, false, false, false, false, false, false, false] _ _
      refine wpH_take (i := 0) (v := ?_) rfl (by kernel_rfl) (by kernel_rfl) (by kernel_rfl) (fun _ _ _ h => h) (by rfl) ?_ (by assumption) ?_; rotate_left; (focus (intro w hSw; (try dsimp only at hSw); go_simp; try with_reducible rfl)); try simp only [Act.put, List.setIfInBounds_toArray, List.set_cons_zero, List.set_cons_succ]
      refine wpH_take (i := 1) (v := ?_) rfl (by kernel_rfl) (by kernel_rfl) (by kernel_rfl) (fun _ _ _ h => h) (by rfl) ?_ (by assumption) ?_; rotate_left; (focus (intro w hSw; (try dsimp only at hSw); go_simp; try with_reducible rfl)); try simp only [Act.put, List.setIfInBounds_toArray, List.set_cons_zero, List.set_cons_succ]
      refine wpH_take (i := 2) (v := ?_) rfl (by kernel_rfl) (by kernel_rfl) (by kernel_rfl) (fun _ _ _ h => h) (by rfl) ?_ (by assumption) ?_; rotate_left; (focus (intro w hSw; (try dsimp only at hSw); go_simp; try with_reducible rfl)); try simp only [Act.put, List.setIfInBounds_toArray, List.set_cons_zero, List.set_cons_succ]
      refine wpH_take (i := 3) (v := ?_) rfl (by kernel_rfl) (by kernel_rfl) (by kernel_rfl) (fun _ _ _ h => h) (by rfl) ?_ (by assumption) ?_; rotate_left; (focus (intro w hSw; (try dsimp only at hSw); go_simp; try with_reducible rfl)); try simp only [Act.put, List.setIfInBounds_toArray, List.set_cons_zero, List.set_cons_succ]
      refine wpH_take (i := 4) (v := ?_) rfl (by kernel_rfl) (by kernel_rfl) (by kernel_rfl) (fun _ _ _ h => h) (by rfl) ?_ (by assumption) ?_; rotate_left; (focus (intro w hSw; (try dsimp only at hSw); go_simp; try with_reducible rfl)); try simp only [Act.put, List.setIfInBounds_toArray, List.set_cons_zero, List.set_cons_succ]
      refine wpH_take (i := 5) (v := ?_) rfl (by kernel_rfl) (by kernel_rfl) (by kernel_rfl) (fun _ _ _ h => h) (by rfl) ?_ (by assumption) ?_; rotate_left; (focus (intro w hSw; (try dsimp only at hSw); go_simp; try with_reducible rfl)); try simp only [Act.put, List.setIfInBounds_toArray, List.set_cons_zero, List.set_cons_succ]
      refine wpH_take (i := 6) (v := ?_) rfl (by kernel_rfl) (by kernel_rfl) (by kernel_rfl) (fun _ _ _ h => h) (by rfl) ?_ (by assumption) ?_; rotate_left; (focus (intro w hSw; (try dsimp only at hSw); go_simp; try with_reducible rfl)); try simp only [Act.put, List.setIfInBounds_toArray, List.set_cons_zero, List.set_cons_succ]
      refine wpH_take (i := 7) (v := ?_) rfl (by kernel_rfl) (by kernel_rfl) (by kernel_rfl) (fun _ _ _ h => h) (by rfl) ?_ (by assumption) ?_; rotate_left; (focus (intro w hSw; (try dsimp only at hSw); go_simp; try with_reducible rfl)); try simp only [Act.put, List.setIfInBounds_toArray, List.set_cons_zero, List.set_cons_succ]
      refine wpAnyH_ready (rs := [8]) (by kernel_rfl) (by simp) ?_
      refine AllReadyH.cons rfl (fun K hK => ?_) AllReadyH.nil
      refine st_copy rfl _ _ 41 41 rfl _ _ (by rfl) (by rfl) (HC1.out _ _ _ _ _ _ _ (by omega) (by omega) (by omega) (by omega)) ?_
      refine hK.out _ _ trivial (fun hHeld => ?_)
      clear hK K
      refine wpAnyH_done (by kernel_rfl) ?_ _
      try dsimp only at hHeld
      go_wp2_with fail
      rw [HC2.out _ _ _ _ rfl rfl]
      go_wp2
      go_ret
      exact HEND.out
    · have hcap : cap = l.length := by omega
      obtain ⟨i0, hi0, hz0, hzs, hzb⟩ := info_parts info_ent
      have hkk : (l.length : Int) + 1 - (k : Int) = ((l.length + 1 - k : Nat) : Int) := by omega
      have hkw : IntKind.i64.wrap ((l.length : Int) + 1 - (k : Int)) = (l.length : Int) + 1 - (k : Int) := IntWalk.i64_in _ ⟨by omega, by omega⟩
      have hik : k + (l.length + 1 - k) = l.length + 1 := by omega
      have hold : (Builtin.firstCells i0.size k (.slice (some ⟨g, 0, none⟩) k cap)).run Tryd.prog w.drew = .ok (ens (l.take k)).toArray w.drew := by
        rw [hzs]
        exact run_firstCells_some w.drew 4 k ⟨g, 0, none⟩ k cap (ens (l.take k)) (by simp; omega) (fun j v hj => by rw [Addr.add_lit, Nat.zero_add]; exact (HCT.out j v hj).1)
      obtain ⟨G, hG⟩ : ∃ G, G = grownCap w (l.length + 1) cap 46 := ⟨_, rfl⟩
      obtain ⟨ROW, hROW⟩ : ∃ ROW : Array Value, ROW = (ens (l.take k)).toArray ++ Builtin.zeroCells (Value.agg #[.int .i64 0, .int .i64 0, .string ByteArray.empty, .int .i64 0]).cells (l.length + 1 - k) ++ Builtin.zeroCells (Value.agg #[.int .i64 0, .int .i64 0, .string ByteArray.empty, .int .i64 0]).cells (G - (l.length + 1)) := ⟨_, rfl⟩
      have hrz : ∀ ty kk, kk = (l.length : Int) + 1 - (k : Int) → (Builtin.append_ #[41, 3] ty #[.slice (some ⟨g, 0, none⟩) k cap, .int .i64 kk]).run Tryd.prog w = .ok (.slice (some ⟨w.heap.size, 0, none⟩) (l.length + 1) G) (w.drew.alloc (.cells ROW 46)) := by
        rintro ty kk rfl
        have h := Lib.run_append_grow_zeros w 41 3 ty 46 i0 _ .i64 .i64 Tryd.underlying41 Tryd.underlying3 hi0 hz0 (some ⟨g, 0, none⟩) k cap (ens (l.take k)) hold (l.length + 1 - k) (by omega) (by omega) (by omega) (by omega) (by rw [hzb]; omega) (by rw [hzb, hik]; exact growslice_fits (by omega) (by omega))
        rw [hik, ← hG, ← hROW] at h
        rw [hkk]
        exact h
      have hRl : (l.length + 1) * 4 ≤ ROW.size := by
        rw [hROW]
        simp [Builtin.zeroCells, Value.cells]
        omega
      obtain ⟨W1, hW1⟩ : ∃ W1, W1 = w.drew.alloc (.cells ROW 46) := ⟨_, rfl⟩
      have hN : ∀ j, j < (l.length + 1) * 4 → (W1.cell? ⟨w.heap.size, j, none⟩).isSome = true := fun j hj => by
        rw [hW1, World.cell?_alloc_at (w := w.drew) ROW _ w.heap.size j rfl, Array.getElem?_eq_getElem (by omega)]; rfl
      have hNf : ∀ j, W1.frozen? ⟨w.heap.size, j, none⟩ = false := fun j => by rw [hW1]; exact World.frozen?_alloc_at (w := w.drew) ROW _ w.heap.size j rfl
      have hNt : ∀ j v, (ens (l.take k))[j]? = some v → W1.cell? ⟨w.heap.size, j, none⟩ = some v := fun j v hj => by
        have hjl := (List.getElem?_eq_some_iff.1 hj).1
        rw [hW1, World.cell?_alloc_at (w := w.drew) ROW _ w.heap.size j rfl, hROW, Array.append_assoc, Array.getElem?_append_left (by simpa using hjl), List.getElem?_toArray]
        exact hj
      have hOb : ∀ j v, w.cell? ⟨g, j, none⟩ = some v → W1.cell? ⟨g, j, none⟩ = some v := fun j v h => by rw [hW1, World.cell?_alloc_past (w := w.drew) _ g j hgl]; exact h
      have hOv : ∀ j v, w.cell? ⟨vb, j, none⟩ = some v → W1.cell? ⟨vb, j, none⟩ = some v := fun j v h => by rw [hW1, World.cell?_alloc_past (w := w.drew) _ vb j hvl]; exact h
      have hgN : g ≠ w.heap.size := by omega
      have hcpA : ∀ W, (∀ x, W.cell? x = W1.cell? x) → (∀ x, W.frozen? x = W1.frozen? x) → ∀ ty o1 d1 dc, o1 = k * 4 → d1 = l.length + 1 - k → (Builtin.copy_ #[41, 41] ty #[.slice (some ⟨w.heap.size, o1, none⟩) d1 dc, .slice (some ⟨vb, 0, none⟩) 1 1]).run Tryd.prog W = .ok (goInt 1) (W.setCells w.heap.size (k * 4) (ens [e])) := by
        rintro W hWc hWf ty o1 d1 dc rfl rfl
        have h := run_copy_wide (P := Tryd.prog) W 41 41 ty 46 4 w.heap.size (k * 4) (l.length + 1 - k) dc ⟨vb, 0, none⟩ 1 1 (ens [e]) Tryd.underlying41 sz_ent (by rw [min_o _ (by omega)]; rfl)
          (fun j v hj => by rw [Addr.add_lit, Nat.zero_add, hWc]; exact hOv _ v (hvc j v hj))
          (fun j hj => by rw [hWc]; exact hN _ (by omega)) (fun j hj => by rw [hWf]; exact hNf _) one_entC
        rw [min_o _ (by omega)] at h
        exact h
      have hN2 : ∀ j, j < (l.length + 1) * 4 → ((W1.setCells w.heap.size (k * 4) (ens [e])).cell? ⟨w.heap.size, j, none⟩).isSome = true := fun j hj => isSome_cells w.heap.size (ens [e]) (k * 4) W1 (fun t ht => hN _ (by omega)) j (hN j hj)
      have hcpB : ∀ W, (∀ x, W.cell? x = (W1.setCells w.heap.size (k * 4) (ens [e])).cell? x) → (∀ x, W.frozen? x = (W1.setCells w.heap.size (k * 4) (ens [e])).frozen? x) → ∀ ty o1 d1 dc o2 s1 sc, o1 = (k + 1) * 4 → d1 = l.length + 1 - (k + 1) → o2 = k * 4 → s1 = l.length - k → (Builtin.copy_ #[41, 41] ty #[.slice (some ⟨w.heap.size, o1, none⟩) d1 dc, .slice (some ⟨g, o2, none⟩) s1 sc]).run Tryd.prog W = .ok (goInt ((l.length - k : Nat) : Int)) (W.setCells w.heap.size ((k + 1) * 4) (ens (l.drop k))) := by
        rintro W hWc hWf ty o1 d1 dc o2 s1 sc rfl rfl rfl rfl
        have h := run_copy_wide (P := Tryd.prog) W 41 41 ty 46 4 w.heap.size ((k + 1) * 4) (l.length + 1 - (k + 1)) dc ⟨g, k * 4, none⟩ (l.length - k) sc (ens (l.drop k)) Tryd.underlying41 sz_ent (by rw [min_r _ _ hk, hdl])
          (fun j v hj => by
            rw [Addr.add_lit, hWc, World.cell?_setCells_out _ _ _ _ _ (fun h _ => absurd h hgN)]
            exact hOb _ v (hcd j v hj))
          (fun j hj => by rw [hWc]; exact hN2 _ (by omega)) (fun j hj => by rw [hWf, World.frozen?_setCells]; exact hNf _) one_entC
        rw [min_r _ _ hk] at h
        exact h
      have hGn : l.length + 1 ≤ G := by rw [hG]; exact grownCap_ge w _ _ _
      have hGm : G ≤ maxLen := by rw [hG]; exact grownCap_le_maxLen w (l.length + 1) cap 46 (by unfold maxLen; omega)
      have HEND : Hid (∀ W2, (∀ x, W2.cell? x = (W1.setCells w.heap.size (k * 4) (ens [e])).cell? x) → Below B W0 W2 → w.heap.size < W2.heap.size → EntRow (l.length + 1) (addL l k e) B W0 (.returned (.slice (some ⟨w.heap.size, 0, none⟩) (l.length + 1) G)) (W2.setCells w.heap.size ((k + 1) * 4) (ens (l.drop k)))) := Lib.hid (fun W2 hWc hB2 hlt2 => by
        refine ⟨some ⟨w.heap.size, 0, none⟩, G, rfl, ?_, below_setCells _ hO.base _ _ _ hB2, fun x hx => by cases hx; exact hO.base⟩
        refine rd_three l k e hk rfl hGn hGm (by rw [setCells_size]; exact hlt2) ?_ ?_ ?_
        · intro j v hj
          obtain ⟨h1, h2⟩ := HCT.out j v hj
          rw [World.cell?_setCells_out _ _ _ _ _ (fun _ _ => Or.inl (by show j < (k + 1) * 4; omega)), hWc, World.cell?_setCells_out _ _ _ _ _ (fun _ _ => Or.inl (by show j < k * 4; omega))]
          exact hNt j v hj
        · intro j v hj
          obtain ⟨hjl, rfl⟩ := List.getElem?_eq_some_iff.1 hj
          rw [World.cell?_setCells_out _ _ _ _ _ (fun _ _ => Or.inl (by show k * 4 + j < (k + 1) * 4; omega)), hWc]
          exact World.cell?_setCells_in w.heap.size (ens [e]) (k * 4) W1 (fun t ht => hN _ (by omega)) j hjl
        · intro j v hj
          obtain ⟨hjl, rfl⟩ := List.getElem?_eq_some_iff.1 hj
          exact World.cell?_setCells_in w.heap.size (ens (l.drop k)) ((k + 1) * 4) W2 (fun t ht => by rw [hWc]; exact hN2 _ (by omega)) j hjl)
      have HBA : Hid (Below B W0 (((w.alloc (.cells ROW 46)).drew.setCells w.heap.size (k * 4) (ens [e])).drew) ∧ w.heap.size < (((w.alloc (.cells ROW 46)).drew.setCells w.heap.size (k * 4) (ens [e])).drew).heap.size) := Lib.hid ⟨(below_setCells _ hO.base _ _ _ ((HBW.out.alloc hO.base _).drew)).drew, by show w.heap.size < ((w.alloc (.cells ROW 46)).drew.setCells w.heap.size (k * 4) (ens [e])).heap.size; rw [setCells_size]; show w.heap.size < (w.heap.push _).size; simp⟩
      have hE1 : Hid (∀ x, ((w.alloc (.cells ROW 46)).drew).cell? x = W1.cell? x) := Lib.hid (fun x => by rw [hW1]; rfl)
      have hE2 : Hid (∀ x, ((w.alloc (.cells ROW 46)).drew).frozen? x = W1.frozen? x) := Lib.hid (fun x => by rw [hW1]; rfl)
      have hF1 : Hid (∀ x, (((w.alloc (.cells ROW 46)).drew.setCells w.heap.size (k * 4) (ens [e])).drew).cell? x = (W1.setCells w.heap.size (k * 4) (ens [e])).cell? x) := Lib.hid (fun x => by rw [hW1]; rfl)
      have hF2 : Hid (∀ x, (((w.alloc (.cells ROW 46)).drew.setCells w.heap.size (k * 4) (ens [e])).drew).frozen? x = (W1.setCells w.heap.size (k * 4) (ens [e])).frozen? x) := Lib.hid (fun x => by rw [hW1]; rfl)
      have hg1 : (cap : Int) < (l.length : Int) + 1 := by omega
      have hg2 : ¬ (G = k) := by omega
      have hg3 : ¬ (G = k + 1) := by omega
      have hg4 : ¬ (cap = k) := by omega
      have hg5 : (k : Int) ≤ (cap : Int) := by omega
      have hg6 : (k : Int) ≤ (l.length : Int) + 1 := by omega
      have hg7 : (k : Int) + 1 ≤ (l.length : Int) + 1 := by omega
      have HRZ := Lib.hid hrz
      have HCA := Lib.hid hcpA
      have HCB := Lib.hid hcpB
      clear hrz hcpA hcpB hkk hik hold hROW hG hRl hN hNf hNt hOb hOv hN2 hcap hi0 hz0 hzs hzb hfz hce hcd hct hvc hO hV hne hdl hsh hsp hW1
      go_enter Tryd.func80, Tryd.ntmps80
      go_wp2_with (at_builtin; refine Lib.wpList_append_run _ rfl _ _ _ _ rfl _ _ (by rfl) (by rfl) _ _ (HRZ.out _ _ (by omega)) ?_)
      rw [HCA.out _ hE1.out hE2.out _ _ _ _ rfl rfl]
      go_wp2
      refine wp_region_held_drew (S := (fun _ => True)) (by kernel_rfl) ?_ (fun hHeld => ?_)
      · try dsimp only
        skip
      change wpAnyH _ _ _ _ _ 9 #[false, false, false, false, false, false, false, false, false] _ _
      refine wpH_take (i := 0) (v := ?_) rfl (by kernel_rfl) (by kernel_rfl) (by kernel_rfl) (fun _ _ _ h => h) (by rfl) ?_ (by assumption) ?_; rotate_left; (focus (intro w hSw; (try dsimp only at hSw); go_simp; try with_reducible rfl)); try simp only [Act.put, List.setIfInBounds_toArray, List.set_cons_zero, List.set_cons_succ]
      refine wpH_take (i := 1) (v := ?_) rfl (by kernel_rfl) (by kernel_rfl) (by kernel_rfl) (fun _ _ _ h => h) (by rfl) ?_ (by assumption) ?_; rotate_left; (focus (intro w hSw; (try dsimp only at hSw); go_simp; try with_reducible rfl)); try simp only [Act.put, List.setIfInBounds_toArray, List.set_cons_zero, List.set_cons_succ]
      refine wpH_take (i := 2) (v := ?_) rfl (by kernel_rfl) (by kernel_rfl) (by kernel_rfl) (fun _ _ _ h => h) (by rfl) ?_ (by assumption) ?_; rotate_left; (focus (intro w hSw; (try dsimp only at hSw); go_simp; try with_reducible rfl)); try simp only [Act.put, List.setIfInBounds_toArray, List.set_cons_zero, List.set_cons_succ]
      refine wpH_take (i := 3) (v := ?_) rfl (by kernel_rfl) (by kernel_rfl) (by kernel_rfl) (fun _ _ _ h => h) (by rfl) ?_ (by assumption) ?_; rotate_left; (focus (intro w hSw; (try dsimp only at hSw); go_simp; try with_reducible rfl)); try simp only [Act.put, List.setIfInBounds_toArray, List.set_cons_zero, List.set_cons_succ]
      refine wpH_take (i := 4) (v := ?_) rfl (by kernel_rfl) (by kernel_rfl) (by kernel_rfl) (fun _ _ _ h => h) (by rfl) ?_ (by assumption) ?_; rotate_left; (focus (intro w hSw; (try dsimp only at hSw); go_simp; try with_reducible rfl)); try simp only [Act.put, List.setIfInBounds_toArray, List.set_cons_zero, List.set_cons_succ]
      refine wpH_take (i := 5) (v := ?_) rfl (by kernel_rfl) (by kernel_rfl) (by kernel_rfl) (fun _ _ _ h => h) (by rfl) ?_ (by assumption) ?_; rotate_left; (focus (intro w hSw; (try dsimp only at hSw); go_simp; try with_reducible rfl)); try simp only [Act.put, List.setIfInBounds_toArray, List.set_cons_zero, List.set_cons_succ]
      refine wpH_take (i := 6) (v := ?_) rfl (by kernel_rfl) (by kernel_rfl) (by kernel_rfl) (fun _ _ _ h => h) (by rfl) ?_ (by assumption) ?_; rotate_left; (focus (intro w hSw; (try dsimp only at hSw); go_simp; try with_reducible rfl)); try simp only [Act.put, List.setIfInBounds_toArray, List.set_cons_zero, List.set_cons_succ]
      refine wpH_take (i := 7) (v := ?_) rfl (by kernel_rfl) (by kernel_rfl) (by kernel_rfl) (fun _ _ _ h => h) (by rfl) ?_ (by assumption) ?_; rotate_left; (focus (intro w hSw; (try dsimp only at hSw); go_simp; try with_reducible rfl)); try simp only [Act.put, List.setIfInBounds_toArray, List.set_cons_zero, List.set_cons_succ]
      refine wpAnyH_ready (rs := [8]) (by kernel_rfl) (by simp) ?_
      refine AllReadyH.cons rfl (fun K hK => ?_) AllReadyH.nil
      refine st_copy rfl _ _ 41 41 rfl _ _ (by rfl) (by rfl) (HCB.out _ hF1.out hF2.out _ _ _ _ _ _ _ (by omega) (by omega) (by omega) (by omega)) ?_
      refine hK.out _ _ trivial (fun hHeld => ?_)
      clear hK K
      refine wpAnyH_done (by kernel_rfl) ?_ _
      try dsimp only at hHeld
      go_wp2
      go_ret
      exact HEND.out _ hF1.out HBA.out.1 HBA.out.2
set_option maxRecDepth 1000000 in
set_option maxHeartbeats 6000000 in
theorem delete_any (B : Nat) (W0 w : World) (a : Option Addr) (cap : Nat) (l : List EntL) (k : Nat) (hO : Own 46 4 B W0 (.slice a l.length cap) l.length (ens l) w) (hk : k < l.length) (hl : l.length ≤ 1000) :
    Calls Tryd.prog 83 #[.slice a l.length cap, .int .i64 (k : Int), .int .i64 ((k : Int) + 1)] w (EntRow (l.length - 1) (l.eraseIdx k) B W0) := by
  obtain ⟨g, rfl, hBg, hgl, hnc, hcm, hsh, hsp, hfz, hce⟩ := hO.whole (by omega)
  have HBW := Lib.hid hO.below
  obtain ⟨i0, hi0, hz0, hzs, hzb⟩ := info_parts info_ent
  have hzv : ∀ w : World, (zeroValue 46).run Tryd.prog w = .ok (.agg #[.int .i64 0, .int .i64 0, .string ByteArray.empty, .int .i64 0]) w := by
    intro w
    simp [zeroValue, typeInfo, hi0, hz0]
  obtain ⟨q, hq⟩ : ∃ q, l.length = q + 1 := ⟨l.length - 1, by omega⟩
  have hnews : (ens (l.drop (k + 1))).length = (q - k) * 4 := by simp; omega
  have hes : ens (l.eraseIdx k) = ens (l.take k) ++ ens (l.drop (k + 1)) := by rw [← ens_append, List.eraseIdx_eq_take_drop_succ]
  have hlt1 : (ens (l.take k)).length = k * 4 := by simp; omega
  have hel : (l.eraseIdx k).length = q := by rw [List.length_eraseIdx_of_lt hk]; omega
  have hct : ∀ j v, (ens (l.take k))[j]? = some v → w.cell? ⟨g, j, none⟩ = some v ∧ j < k * 4 := fun j v hj => by
    have hjl := (List.getElem?_eq_some_iff.1 hj).1
    rw [← ens_take, List.getElem?_take] at hj
    split at hj
    · rename_i h
      exact ⟨hce j v hj, h⟩
    · cases hj
  have hcd : ∀ j v, (ens (l.drop (k + 1)))[j]? = some v → w.cell? ⟨g, (k + 1) * 4 + j, none⟩ = some v := fun j v hj => by
    rw [← ens_drop, List.getElem?_drop] at hj
    exact hce _ v hj
  have hz4 : (ens [zEnt]).length = 4 := by simp
  obtain ⟨W1, hW1⟩ : ∃ W1, W1 = w.drew.setCells g (0 + k * 4) (ens (l.drop (k + 1))) := ⟨_, rfl⟩
  have hsp1 : ∀ j, j < cap * 4 → (W1.cell? ⟨g, j, none⟩).isSome = true := fun j hj => by
    rw [hW1]
    exact isSome_cells g (ens (l.drop (k + 1))) (0 + k * 4) w.drew (fun t ht => hsp _ (by omega)) j (hsp j hj)
  have HCL : Hid (∀ ty o1 c1, o1 = q * 4 → (Builtin.clear_ #[41] ty #[.slice (some ⟨g, o1, none⟩) 1 c1]).run Tryd.prog W1 = .ok (.tuple #[]) (W1.setCells g (q * 4) (ens [zEnt]))) := Lib.hid (by
    rintro ty o1 c1 rfl
    exact run_clear_wide W1 _ _ ty _ Tryd.underlying41 hzv g (q * 4) 1 c1 (by omega) (ens [zEnt]) (mod_free _ rfl) one_entC (fun j hj => hsp1 _ (by omega)) (fun j hj => by rw [hW1, World.frozen?_setCells]; exact hfz _))
  have HEND : Hid (EntRow q (l.eraseIdx k) B W0 (.returned (.slice (some ⟨g, 0, none⟩) q cap)) (W1.setCells g (q * 4) (ens [zEnt]))) := Lib.hid (by
    refine ⟨some ⟨g, 0, none⟩, cap, rfl, ⟨by simp; omega, by omega, hcm, (fun h => by cases h), fun _ => ⟨g, 0, rfl, by rw [setCells_size, hW1, setCells_size]; exact hgl, fun j hj => ?_⟩⟩, below_setCells g hBg _ _ _ (by rw [hW1]; exact below_setCells g hBg _ _ _ HBW.out.drew), fun x hx => by cases hx; exact hBg⟩
    have hjq : j < q * 4 := by have := hj; simp at this; omega
    rw [Nat.zero_add, ← List.getElem?_eq_getElem hj, World.cell?_setCells_out _ _ _ _ _ (fun _ _ => Or.inl (by show j < q * 4; omega)), hW1]
    by_cases c1 : j < k * 4
    · rw [World.cell?_setCells_out _ _ _ _ _ (fun _ _ => Or.inl (by show j < 0 + k * 4; omega)), hes, List.getElem?_append_left (by omega)]
      have hjt : j < (ens (l.take k)).length := by omega
      rw [List.getElem?_eq_getElem hjt]
      exact (hct j _ (List.getElem?_eq_getElem hjt)).1
    · rw [hes, List.getElem?_append_right (by omega), hlt1]
      have hjd : j - k * 4 < (ens (l.drop (k + 1))).length := by omega
      have := World.cell?_setCells_in g (ens (l.drop (k + 1))) (0 + k * 4) w.drew (fun t ht => hsp _ (by omega)) (j - k * 4) hjd
      rw [show 0 + k * 4 + (j - k * 4) = j by omega] at this
      rw [this, List.getElem?_eq_getElem hjd])
  have hsrc : Hid (∀ A : Addr, A = (if cap = k + 1 then (⟨g, 0, none⟩ : Addr) else ⟨g, (k + 1) * 4, none⟩) → ∀ t u, (ens (l.drop (k + 1)))[t]? = some u → w.drew.cell? (A.add t) = some u) := Lib.hid (by
    rintro A rfl t u hu
    have htl := (List.getElem?_eq_some_iff.1 hu).1
    have hne : ¬ (cap = k + 1) := by
      intro e
      omega
    rw [if_neg hne, Addr.add_lit]
    exact hcd t u hu)
  have HSP : Hid (∀ j, j < (ens (l.drop (k + 1))).length → (w.drew.cell? ⟨g, 0 + k * 4 + j, none⟩).isSome = true ∧ w.drew.frozen? ⟨g, 0 + k * 4 + j, none⟩ = false) := Lib.hid (fun j hj => ⟨hsp _ (by omega), hfz _⟩)
  have HNL : Hid ((ens (l.drop (k + 1))).length = (q - k) * 4) := Lib.hid hnews
  have HONE : Hid (∀ u ∈ ens (l.drop (k + 1)), u.oneCell' = true) := Lib.hid one_entC
  have HW1 := Lib.hid hW1
  have HI0 := Lib.hid hi0
  have HZS := Lib.hid hzs
  clear hsp hfz hce hct hcd hes hlt1 hel hsp1 hW1 hi0 hz0 hzs hzb hzv hz4 hO hsh hnews
  generalize ens (l.drop (k + 1)) = news at *
  generalize l.eraseIdx k = le at *
  rw [hq] at hk hl hnc ⊢
  rw [Nat.add_sub_cancel]
  clear hq
  have hw1 : ((q + 1 : Nat) : Int) = (q : Int) + 1 := by omega
  have hw2 : ((k : Int) + 1).toNat = k + 1 := by omega
  have hb0 : (0 : Int) ≤ (k : Int) := by omega
  have hb1 : (0 : Int) ≤ (k : Int) + 1 := by omega
  have hb2 : (k : Int) ≤ (k : Int) + 1 := by omega
  have hb3 : (k : Int) + 1 ≤ (q : Int) + 1 := by omega
  have hb4 : (q : Int) + 1 ≤ (cap : Int) := by omega
  have hb5 : (k : Int) ≤ (cap : Int) := by omega
  have hb6 : (k : Int) ≤ (q : Int) + 1 := by omega
  have hkne : ¬ ((k : Int) = (k : Int) + 1) := by omega
  have hks : k + (q + 1 - (k + 1)) = q := by omega
  have hqk : q + 1 - (k + 1) = q - k := by omega
  have HON : Hid (∀ u ∈ news, u.oneCell' = true) := HONE
  by_cases hcap : cap = k + 1
  · have HAD : Hid ((⟨g, 0, none⟩ : Addr) = if cap = k + 1 then (⟨g, 0, none⟩ : Addr) else ⟨g, (k + 1) * 4, none⟩) := Lib.hid (by rw [if_pos hcap])
    subst hcap
    go_enter Tryd.func83, Tryd.ntmps83
    go_wp2
    refine wp_region_held_drew (S := (fun _ => True)) (by kernel_rfl) ?_ (fun hHeld => ?_)
    · try dsimp only
      skip
    change wpAnyH _ _ _ _ _ 8 #[false, false, false, false, false, false, false, false] _ _
    refine wpH_take (i := 0) (v := ?_) rfl (by kernel_rfl) (by kernel_rfl) (by kernel_rfl) (fun _ _ _ h => h) (by rfl) ?_ (by assumption) ?_; rotate_left; (focus (intro w hSw; (try dsimp only at hSw); go_simp; try with_reducible rfl)); try simp only [Act.put, List.setIfInBounds_toArray, List.set_cons_zero, List.set_cons_succ]
    refine wpH_take (i := 1) (v := ?_) rfl (by kernel_rfl) (by kernel_rfl) (by kernel_rfl) (fun _ _ _ h => h) (by rfl) ?_ (by assumption) ?_; rotate_left; (focus (intro w hSw; (try dsimp only at hSw); go_simp; try with_reducible rfl)); try simp only [Act.put, List.setIfInBounds_toArray, List.set_cons_zero, List.set_cons_succ]
    refine wpH_take (i := 2) (v := ?_) rfl (by kernel_rfl) (by kernel_rfl) (by kernel_rfl) (fun _ _ _ h => h) (by rfl) ?_ (by assumption) ?_; rotate_left; (focus (intro w hSw; (try dsimp only at hSw); go_simp; try with_reducible rfl)); try simp only [Act.put, List.setIfInBounds_toArray, List.set_cons_zero, List.set_cons_succ]
    refine wpH_take (i := 3) (v := ?_) rfl (by kernel_rfl) (by kernel_rfl) (by kernel_rfl) (fun _ _ _ h => h) (by rfl) ?_ (by assumption) ?_; rotate_left; (focus (intro w hSw; (try dsimp only at hSw); go_simp; try with_reducible rfl)); try simp only [Act.put, List.setIfInBounds_toArray, List.set_cons_zero, List.set_cons_succ]
    refine wpH_take (i := 4) (v := ?_) rfl (by kernel_rfl) (by kernel_rfl) (by kernel_rfl) (fun _ _ _ h => h) (by rfl) ?_ (by assumption) ?_; rotate_left; (focus (intro w hSw; (try dsimp only at hSw); go_simp; try with_reducible rfl)); try simp only [Act.put, List.setIfInBounds_toArray, List.set_cons_zero, List.set_cons_succ]
    refine wpH_take (i := 5) (v := ?_) rfl (by kernel_rfl) (by kernel_rfl) (by kernel_rfl) (fun _ _ _ h => h) (by rfl) ?_ (by assumption) ?_; rotate_left; (focus (intro w hSw; (try dsimp only at hSw); go_simp; try with_reducible rfl)); try simp only [Act.put, List.setIfInBounds_toArray, List.set_cons_zero, List.set_cons_succ]
    refine wpAnyH_ready (rs := [6]) (by kernel_rfl) (by simp) ?_
    refine AllReadyH.cons rfl (fun K hK => ?_) AllReadyH.nil
    refine step_append_room rfl _ _ 41 rfl 46 i0 4 Tryd.underlying41 HI0.out HZS.out g 0 k (k + 1) (by rfl) ⟨g, 0, none⟩ (q - k) 0 news (by rfl) HNL.out (hsrc.out _ HAD.out) HON.out (by omega) HSP.out ?_
    rw [← HW1.out]
    refine hK.out _ _ trivial (fun hHeld => ?_)
    clear hK K
    rw [show k + (q - k) = q by omega]
    refine wpH_take (i := 7) (v := ?_) rfl (by kernel_rfl) (by kernel_rfl) (by kernel_rfl) (fun _ _ _ h => h) (by rfl) ?_ (by assumption) ?_; rotate_left; (focus (intro w hSw; (try dsimp only at hSw); go_simp; try with_reducible rfl)); try simp only [Act.put, List.setIfInBounds_toArray, List.set_cons_zero, List.set_cons_succ]
    refine wpAnyH_done (by kernel_rfl) ?_ _
    try dsimp only at hHeld
    go_wp2_with fail
    rw [HCL.out _ _ _ rfl]
    go_wp2
    go_ret
    exact HEND.out
  · have HAD : Hid ((⟨g, (k + 1) * 4, none⟩ : Addr) = if cap = k + 1 then (⟨g, 0, none⟩ : Addr) else ⟨g, (k + 1) * 4, none⟩) := Lib.hid (by rw [if_neg hcap])
    go_enter Tryd.func83, Tryd.ntmps83
    go_wp2
    refine wp_region_held_drew (S := (fun _ => True)) (by kernel_rfl) ?_ (fun hHeld => ?_)
    · try dsimp only
      skip
    change wpAnyH _ _ _ _ _ 8 #[false, false, false, false, false, false, false, false] _ _
    refine wpH_take (i := 0) (v := ?_) rfl (by kernel_rfl) (by kernel_rfl) (by kernel_rfl) (fun _ _ _ h => h) (by rfl) ?_ (by assumption) ?_; rotate_left; (focus (intro w hSw; (try dsimp only at hSw); go_simp; try with_reducible rfl)); try simp only [Act.put, List.setIfInBounds_toArray, List.set_cons_zero, List.set_cons_succ]
    refine wpH_take (i := 1) (v := ?_) rfl (by kernel_rfl) (by kernel_rfl) (by kernel_rfl) (fun _ _ _ h => h) (by rfl) ?_ (by assumption) ?_; rotate_left; (focus (intro w hSw; (try dsimp only at hSw); go_simp; try with_reducible rfl)); try simp only [Act.put, List.setIfInBounds_toArray, List.set_cons_zero, List.set_cons_succ]
    refine wpH_take (i := 2) (v := ?_) rfl (by kernel_rfl) (by kernel_rfl) (by kernel_rfl) (fun _ _ _ h => h) (by rfl) ?_ (by assumption) ?_; rotate_left; (focus (intro w hSw; (try dsimp only at hSw); go_simp; try with_reducible rfl)); try simp only [Act.put, List.setIfInBounds_toArray, List.set_cons_zero, List.set_cons_succ]
    refine wpH_take (i := 3) (v := ?_) rfl (by kernel_rfl) (by kernel_rfl) (by kernel_rfl) (fun _ _ _ h => h) (by rfl) ?_ (by assumption) ?_; rotate_left; (focus (intro w hSw; (try dsimp only at hSw); go_simp; try with_reducible rfl)); try simp only [Act.put, List.setIfInBounds_toArray, List.set_cons_zero, List.set_cons_succ]
    refine wpH_take (i := 4) (v := ?_) rfl (by kernel_rfl) (by kernel_rfl) (by kernel_rfl) (fun _ _ _ h => h) (by rfl) ?_ (by assumption) ?_; rotate_left; (focus (intro w hSw; (try dsimp only at hSw); go_simp; try with_reducible rfl)); try simp only [Act.put, List.setIfInBounds_toArray, List.set_cons_zero, List.set_cons_succ]
    refine wpH_take (i := 5) (v := ?_) rfl (by kernel_rfl) (by kernel_rfl) (by kernel_rfl) (fun _ _ _ h => h) (by rfl) ?_ (by assumption) ?_; rotate_left; (focus (intro w hSw; (try dsimp only at hSw); go_simp; try with_reducible rfl)); try simp only [Act.put, List.setIfInBounds_toArray, List.set_cons_zero, List.set_cons_succ]
    refine wpAnyH_ready (rs := [6]) (by kernel_rfl) (by simp) ?_
    refine AllReadyH.cons rfl (fun K hK => ?_) AllReadyH.nil
    refine step_append_room rfl _ _ 41 rfl 46 i0 4 Tryd.underlying41 HI0.out HZS.out g 0 k cap (by rfl) ⟨g, (k + 1) * 4, none⟩ (q - k) (cap - (k + 1)) news (by rfl) HNL.out (hsrc.out _ HAD.out) HON.out (by omega) HSP.out ?_
    rw [← HW1.out]
    refine hK.out _ _ trivial (fun hHeld => ?_)
    clear hK K
    rw [show k + (q - k) = q by omega]
    refine wpH_take (i := 7) (v := ?_) rfl (by kernel_rfl) (by kernel_rfl) (by kernel_rfl) (fun _ _ _ h => h) (by rfl) ?_ (by assumption) ?_; rotate_left; (focus (intro w hSw; (try dsimp only at hSw); go_simp; try with_reducible rfl)); try simp only [Act.put, List.setIfInBounds_toArray, List.set_cons_zero, List.set_cons_succ]
    refine wpAnyH_done (by kernel_rfl) ?_ _
    try dsimp only at hHeld
    go_wp2_with fail
    rw [HCL.out _ _ _ rfl]
    go_wp2
    go_ret
    exact HEND.out
/-- Four cells of a box. -/
structure Four (w : World) (b : Nat) (u0 u1 u2 u3 : Value) : Prop where
  c0 : w.cell? ⟨b, 0, none⟩ = some u0
  c1 : w.cell? ⟨b, 1, none⟩ = some u1
  c2 : w.cell? ⟨b, 2, none⟩ = some u2
  c3 : w.cell? ⟨b, 3, none⟩ = some u3
  fz : ∀ j, w.frozen? ⟨b, j, none⟩ = false
theorem Four.lt {w : World} {b : Nat} {u0 u1 u2 u3 : Value} (h : Four w b u0 u1 u2 u3) : b < w.heap.size := World.block_lt_of_cell? w _ h.c0
theorem Four.kept {w w' : World} {b : Nat} {u0 u1 u2 u3 : Value} (h : Four w b u0 u1 u2 u3) (hb : Below w.heap.size w w') : Four w' b u0 u1 u2 u3 :=
  ⟨cellK h.c0 hb, cellK h.c1 hb, cellK h.c2 hb, cellK h.c3 hb, fun j => frozK (h.fz j) hb h.lt⟩
theorem four_new (w : World) (e : TypeId) (u0 u1 u2 u3 : Value) : Four (w.alloc (.cells #[u0, u1, u2, u3] e)) w.heap.size u0 u1 u2 u3 := by
  obtain ⟨c0, c1, c2, c3⟩ := box4 w e u0 u1 u2 u3
  exact ⟨c0, c1, c2, c3, fun j => World.frozen?_alloc_at _ _ _ _ rfl⟩
theorem Four.set1 {w : World} {b : Nat} {u0 u1 u2 u3 : Value} (h : Four w b u0 u1 u2 u3) (x : Value) : Four (w.setCell ⟨b, 1, none⟩ x) b u0 x u2 u3 :=
  ⟨(World.cell?_setCell_other _ _ _ _ (by simp)).trans h.c0, World.cell?_setCell_same _ _ _ h.c1, (World.cell?_setCell_other _ _ _ _ (by simp)).trans h.c2, (World.cell?_setCell_other _ _ _ _ (by simp)).trans h.c3, fun j => by rw [World.frozen?_setCell]; exact h.fz j⟩
def sameP (h k : Int) (x : EntL) : Bool := decide (x.hash = h) && decide (x.index = k)
set_option maxRecDepth 1000000 in
set_option maxHeartbeats 6000000 in
theorem add1_any (x : EntL) (g : Nat) (h k : Int) (w : World) (hg0 : w.cell? ⟨g, 0, none⟩ = some (.int .i64 h)) (hg1 : w.cell? ⟨g, 1, none⟩ = some (.int .i64 k)) :
    Calls Tryd.prog 79 #[enV x, .pointer (some ⟨g, 0, none⟩)] w fun e w' => e = .returned (.bool (sameP h k x)) ∧ Below w.heap.size w w' := by
  obtain ⟨xh, xi, xn, xd⟩ := x
  have hgl := World.block_lt_of_cell? w _ hg0
  have HB := Lib.hid (boxA w (.cells #[.int .i64 xh, .int .i64 xi, .string xn, .int .i64 xd] 46))
  unfold enV sameP
  simp only
  by_cases h1 : xh = h
  · subst h1
    by_cases h2 : xi = k
    · subst h2
      go_enter Tryd.func79, Tryd.ntmps79
      go_wp2
      go_ret
      exact ⟨by simp, HB.out⟩
    · have HN := Lib.hid h2
      have hne : (xi == k) = false := by simp [h2]
      clear h2
      go_enter Tryd.func79, Tryd.ntmps79
      go_wp2
      go_ret
      exact ⟨by rw [decide_eq_false HN.out]; simp, HB.out⟩
  · have HN := Lib.hid h1
    have hne : (xh == h) = false := by simp [h1]
    clear h1
    go_enter Tryd.func79, Tryd.ntmps79
    go_wp2
    go_ret
    exact ⟨by rw [decide_eq_false HN.out]; simp, HB.out⟩
set_option maxRecDepth 1000000 in
set_option maxHeartbeats 6000000 in
theorem idxA_any (a : Option Addr) (n cap : Nat) (l : List EntL) (g : Nat) (h k : Int) (w : World) (hr : Rd w a n cap 4 (ens l)) (hg0 : w.cell? ⟨g, 0, none⟩ = some (.int .i64 h)) (hg1 : w.cell? ⟨g, 1, none⟩ = some (.int .i64 k)) :
    Calls Tryd.prog 94 #[.slice a n cap, .func (.func 79) #[] #[.pointer (some ⟨g, 0, none⟩)]] w fun e w' => ∃ r, e = .returned (.int .i64 r) ∧ AtP l (sameP h k) r ∧ Below w.heap.size w w' := by
  have hl : l.length = n := by have := hr.len; simp at this; omega
  subst hl
  have hm : l.length ≤ maxLen := Nat.le_trans hr.le hr.max
  unfold maxLen at hm
  have H := Lib.hid hr
  clear hr
  have HG0 := Lib.hid hg0
  have HG1 := Lib.hid hg1
  clear hg0 hg1
  go_enter Tryd.func94, Tryd.ntmps94
  go_wp2
  go_loopg [8] l.length (fun gg i wr => ∃ m : Nat, m + gg = l.length ∧ i = .int .i64 (m : Int) ∧ Hid ((l.take m).any (sameP h k) = false) ∧ Hid (Below w.heap.size w wr))
  case atStart => exact ⟨0, by omega, rfl, Lib.hid rfl, Lib.hid (Below.refl _ _)⟩
  case round =>
    obtain ⟨m, hm2, rfl, HM, HB2⟩ := hrel
    by_cases hlt : m < l.length
    · obtain ⟨b, off, rfl, hbs, d0, d1, d2, d3⟩ := ens_cells (H.out.below HB2.out (Nat.le_refl _)) m hlt
      have HH : Hid (sameP h k l[m] = true → AtP l (sameP h k) (m : Int)) := Lib.hid (fun e => .inr ⟨m, hlt, rfl, HM.out, e⟩)
      have HN : Hid (sameP h k l[m] = false → (l.take (m + 1)).any (sameP h k) = false) := Lib.hid (fun e => any_next l m hlt _ HM.out e)
      have hi : (m : Int) < (l.length : Int) := by omega
      have hi0 : (0 : Int) ≤ (m : Int) := by omega
      have HCL : Hid (∀ W, Below w.heap.size w W → Calls Tryd.prog 79 #[.agg #[.int .i64 l[m].hash, .int .i64 l[m].index, .string l[m].name, .int .i64 l[m].id], .pointer (some ⟨g, 0, none⟩)] W fun e w' => e = .returned (.bool (sameP h k l[m])) ∧ Below W.heap.size W w') := Lib.hid (fun W hW => add1_any l[m] g h k W (cellK HG0.out hW) (cellK HG1.out hW))
      generalize l[m] = x at *
      obtain ⟨xh, xi, xn, xd⟩ := x
      try simp only at d0 d1 d2 d3 HCL
      clear hlt
      generalize sameP h k ⟨xh, xi, xn, xd⟩ = q at *
      cases q with
      | true =>
        have HE := Lib.hid (HH.out rfl)
        go_wp2_with (go_at_call 79; refine (HCL.out _ HB2.out).mono ?_; rintro e w3 ⟨rfl, hb⟩; have HB3 := Lib.hid (below_step1 HB2.out hb); clear hb)
        go_ret
        exact ⟨_, rfl, HE.out, HB3.out⟩
      | false =>
        have HE := Lib.hid (HN.out rfl)
        go_wp2_with (go_at_call 79; refine (HCL.out _ HB2.out).mono ?_; rintro e w3 ⟨rfl, hb⟩; have HB3 := Lib.hid (below_step1 HB2.out hb); clear hb)
        go_roundg (gk - 1)
        case measure => omega
        case rel => exact ⟨m + 1, by omega, by go_num, HE, HB3⟩
    · have hlm : m = l.length := by omega
      subst hlm
      rw [List.take_length] at HM
      go_wp2
      go_ret
      exact ⟨-1, rfl, .inl ⟨rfl, HM.out⟩, HB2.out⟩
set_option maxRecDepth 1000000 in
set_option maxHeartbeats 6000000 in
theorem contA_any (a : Option Addr) (n cap : Nat) (l : List EntL) (g : Nat) (h k : Int) (w : World) (hr : Rd w a n cap 4 (ens l)) (hg0 : w.cell? ⟨g, 0, none⟩ = some (.int .i64 h)) (hg1 : w.cell? ⟨g, 1, none⟩ = some (.int .i64 k)) :
    Calls Tryd.prog 78 #[.slice a n cap, .func (.func 79) #[] #[.pointer (some ⟨g, 0, none⟩)]] w fun e w' => e = .returned (.bool (l.any (sameP h k))) ∧ Below w.heap.size w w' := by
  go_enter Tryd.func78, Tryd.ntmps78
  go_wp2_with fail
  refine (idxA_any a n cap l g h k _ hr hg0 hg1).mono ?_
  rintro e w1 ⟨r, rfl, hA, hb⟩
  have HB1 := Lib.hid hb
  rcases hA with ⟨rfl, h0⟩ | ⟨m, hm, rfl, h0, h1⟩
  · have HE := Lib.hid h0
    clear hb h0
    go_wp2
    go_ret
    exact ⟨ret_bool (by rw [HE.out]), HB1.out⟩
  · have HE : Hid (l.any (sameP h k) = true) := Lib.hid (List.any_eq_true.2 ⟨_, List.getElem_mem hm, h1⟩)
    have hm0 : (0 : Int) ≤ (m : Int) := by omega
    clear hb h0 h1
    go_wp2
    go_ret
    exact ⟨ret_bool (by rw [HE.out]), HB1.out⟩
set_option maxRecDepth 1000000 in
set_option maxHeartbeats 6000000 in
theorem copyEnts_any (a : Option Addr) (c : Nat) (l : List EntL) (w : World) (h : Rd w a l.length c 4 (ens l)) (hn : l.length ≤ 1048576) :
    Calls Tryd.prog 77 #[.slice a l.length c] w (EntsOut l.length (ens l) w) := by
  have HO := Lib.hid ((Own.nil 46 4 w))
  have H := Lib.hid h
  clear h
  go_enter Tryd.func77, Tryd.ntmps77
  go_wp2_with (at_builtin; go_loud (refine wp_app rfl _ _ 41 rfl 46 (.agg #[.int .i64 0, .int .i64 0, .string ByteArray.empty, .int .i64 0]) 4 40 Tryd.underlying41 info_ent rfl (by decide) _ _ _ _ _ (by rfl) (by exact HO.out) _ _ _ _ (by rfl) (by exact H.out) (ens_one _) (by omega) (by unfold maxLen; omega) ?_); intro a2 c2 w2 hO2)
  go_ret
  refine ⟨a2, c2, rfl, ?_⟩
  rw [Nat.zero_add] at hO2
  simpa using hO2
theorem look_no {l : List EntL} {s : ByteArray} (hd : dirB l = true) (h : lookF l s = (zEnt, false)) : ∀ x ∈ l, alikeB x.name s = false := by
  unfold lookF pickF at h
  rw [if_pos hd] at h
  intro x hx
  cases e : l.find? (fun x => alikeB x.name s) with
  | some y => rw [e] at h; simp at h
  | none =>
    have := List.find?_eq_none.1 e x hx
    simpa using this
set_option maxRecDepth 1000000 in
set_option maxHeartbeats 6000000 in
theorem look_yes {l : List EntL} {s : ByteArray} {x : EntL} (hd : dirB l = true) (h : lookF l s = (x, true)) : x ∈ l ∧ alikeB x.name s = true := by
  unfold lookF pickF at h
  rw [if_pos hd] at h
  cases e : l.find? (fun x => alikeB x.name s) with
  | none => rw [e] at h; simp at h
  | some y =>
    rw [e] at h
    simp only [Prod.mk.injEq, and_true] at h
    subst h
    exact ⟨List.mem_of_find?_eq_some e, by simpa using List.find?_some e⟩
def AddPost (l : List EntL) (s : ByteArray) (id : Int) (w : World) (e : Ending) (w' : World) : Prop :=
  ∃ (out : List EntL) (ok : Bool) (a' : Option Addr) (c' : Nat), e = .returned (.tuple #[.slice a' out.length c', .bool ok]) ∧ (dirB l = false → out = [] ∧ ok = false) ∧ (dirB l = true → AddR l s id out ok) ∧ Rd w' a' out.length c' 4 (ens out) ∧ Below w.heap.size w w' ∧ ∀ x, a' = some x → w.heap.size ≤ x.block
theorem rd_nil4 (w : World) : Rd w none 0 0 4 (ens []) := ⟨by simp [ens], Nat.le_refl _, by unfold maxLen; omega, fun _ => rfl, (fun h => by omega)⟩
theorem addR_no {l : List EntL} {s : ByteArray} {id : Int} (h : addable l s id = false) : AddR l s id l false := ⟨h.symm, fun _ => rfl, fun e => by cases e⟩
theorem addable_no1 {l : List EntL} {s : ByteArray} {id : Int} (h : nameB s = false) : addable l s id = false := by unfold addable; rw [h]; rfl
theorem addable_no2 {l : List EntL} {s : ByteArray} {id : Int} (h : l.any (fun x => alikeB x.name s) = true) : addable l s id = false := by unfold addable; rw [h]; simp
theorem addable_no3 {l : List EntL} {s : ByteArray} {id : Int} (h : id < 1 ∨ 100000 < id) : addable l s id = false := by unfold addable; rw [decide_eq_false (show ¬ (1 ≤ id ∧ id ≤ 100000) by omega)]; simp
theorem addable_no4 {l : List EntL} {s : ByteArray} {id : Int} (h : ¬ l.length < 12) : addable l s id = false := by unfold addable; rw [decide_eq_false h]; simp
set_option maxRecDepth 1000000 in
set_option maxHeartbeats 6000000 in
theorem implAdd_any (a : Option Addr) (n cap : Nat) (l : List EntL) (s : ByteArray) (id : Int) (w : World) (hr : Rd w a n cap 4 (ens l)) (hs : ∀ x ∈ l, x.name.size ≤ 1073741824) (hss : s.size ≤ 1073741824) (hT : KTab w) :
    Calls Tryd.prog 45 #[.slice a n cap, .string s, .int .i64 id] w (AddPost l s id w) := by
  have hl : l.length = n := by have := hr.len; simp at this; omega
  subst hl
  have hm : l.length ≤ maxLen := Nat.le_trans hr.le hr.max
  unfold maxLen at hm
  have H := Lib.hid hr
  have HT := Lib.hid hT
  have HSZ := Lib.hid hs
  clear hr hT hs
  go_enter Tryd.func45, Tryd.ntmps45
  go_wp2_with fail
  refine (implDirOk_any a _ cap l _ H.out HSZ.out HT.out).mono ?_
  rintro e w1 ⟨rfl, hb⟩
  have HB1 := Lib.hid hb
  clear hb
  cases hd : dirB l with
  | false =>
    have HD := Lib.hid hd
    clear hd
    go_wp2
    go_ret2
    exact ⟨[], false, none, 0, rfl, (fun _ => ⟨rfl, rfl⟩), (fun e => by rw [HD.out] at e; cases e), rd_nil4 _, HB1.out, (fun x h => by cases h)⟩
  | true =>
    have hl12 := dir_len l hd
    have HD := Lib.hid hd
    clear hd
    have HRF : Hid (∀ W a' c', addable l s id = false → Own 46 4 w.heap.size w (.slice a' l.length c') l.length (ens l) W → AddPost l s id w (.returned (.tuple #[.slice a' l.length c', .bool false])) W) := Lib.hid (fun W a' c' h hO => ⟨l, false, a', c', rfl, (fun e => by rw [HD.out] at e; cases e), (fun _ => addR_no h), hO.rd, hO.below, hO.low⟩)
    have HNM : Hid (∀ W, KTab W → Calls Tryd.prog 18 #[.string s] W fun e w' => e = .returned (.bool (nameB s)) ∧ Below W.heap.size W w') := Lib.hid (fun W h => implNameOk_any s W hss h)
    have HN1 : Hid (nameB s = false → addable l s id = false) := Lib.hid (fun h => addable_no1 h)
    have HN2 : Hid (nameB s = true → (∀ x ∈ l, alikeB x.name s = false) → 1 ≤ id ∧ id ≤ 100000 → l.length < 12 → addable l s id = true) := Lib.hid (fun h1 h2 h3 h4 => (addable_iff l s id).2 ⟨h1, h2, h3, h4⟩)
    go_wp2_with fail
    refine (copyEnts_any a cap l _ (H.out.below HB1.out (Nat.le_refl _)) (by omega)).mono ?_
    rintro e w2 ⟨p, c, rfl, hO⟩
    have HB2 := Lib.hid (below_step1 HB1.out hO.below)
    have HO2 : Hid (Own 46 4 w.heap.size w (.slice p l.length c) l.length (ens l) w2) := Lib.hid ⟨row_mono hO.row HB1.out.size, HB2.out, HB2.out.size⟩
    clear hO HB1
    generalize hnb : nameB s = nb at *
    have HNB := Lib.hid hnb
    clear hnb
    go_wp2_with fail
    refine (HNM.out _ (HT.out.below HB2.out (Nat.le_refl _))).mono ?_
    rintro e w3 ⟨rfl, hb⟩
    have HB3 := Lib.hid (below_step1 HB2.out hb)
    have HO3 := Lib.hid (HO2.out.kept hb)
    clear hb HB2 HO2 HNM
    cases nb with
    | false =>
      have HA := Lib.hid (HN1.out (by first | rfl | trivial))
      go_wp2
      go_ret2
      exact HRF.out _ _ _ HA.out HO3.out
    | true =>
      go_wp2_with fail
      refine (entAt_any a _ cap l s _ (H.out.below HB3.out (Nat.le_refl _)) HSZ.out hss (HT.out.below HB3.out (Nat.le_refl _))).mono ?_
      rintro e w4 ⟨r, rfl, hE, hb⟩
      have HB4 := Lib.hid (below_step1 HB3.out hb)
      have HO4 := Lib.hid (HO3.out.kept hb)
      clear hb HB3 HO3
      rcases hE with ⟨rfl, hlk⟩ | ⟨m, hlt, rfl, hlk⟩
      · have HLK := Lib.hid (look_no HD.out hlk)
        clear hlk
        by_cases hid : 1 ≤ id ∧ id ≤ 100000
        · have HID := Lib.hid hid
          by_cases h12 : l.length = 12
          · have HA : Hid (addable l s id = false) := Lib.hid (addable_no4 (by omega))
            have h12i : (l.length : Int) = 12 := by omega
            clear h12 hid
            go_wp2_with (go_at_call 69; refine (isId_yes id _ HID.out).mono ?_; rintro e w' ⟨rfl, rfl⟩)
            go_ret2
            exact HRF.out _ _ _ HA.out HO4.out
          · have hlt12 : l.length < 12 := by omega
            have HA := Lib.hid (HN2.out (by first | rfl | trivial) HLK.out hid hlt12)
            have h12i : ((l.length : Int) == 12) = false := by simp; omega
            have HNB2 := Lib.hid HNB.out
            clear h12 hid
            go_wp2_with (first | (go_at_call 69; refine (isId_yes id _ HID.out).mono ?_; rintro e w' ⟨rfl, rfl⟩) | fail)
            refine (implHashOf_any s _ hss (HT.out.below HB4.out (Nat.le_refl _))).mono ?_
            rintro e w5 ⟨rfl, hb⟩
            have HB5 := Lib.hid (below_step1 HB4.out hb)
            have HO5 := Lib.hid (HO4.out.kept hb)
            clear hb HB4 HO4 HRF HN1 HN2 HNB2
            obtain ⟨hv, hhv⟩ : ∃ hv, hv = hashF s := ⟨_, rfl⟩
            rw [← hhv]
            have HHV := Lib.hid hhv
            clear hhv
            have HE0 := Lib.hid (four_new w5 46 (.int .i64 hv) (.int .i64 0) (.string s) (.int .i64 id))
            have HB6 := Lib.hid (below_step1 HB5.out (boxA w5 (.cells #[.int .i64 hv, .int .i64 0, .string s, .int .i64 id] 46)))
            have HO6 := Lib.hid (HO5.out.kept (boxA w5 (.cells #[.int .i64 hv, .int .i64 0, .string s, .int .i64 id] 46)))
            have hbl := HO5.out.blk
            have HBL := Lib.hid hbl
            have hw5 := HB5.out.size
            clear hbl HB5 HO5
            go_wp2
            generalize hE0 : w5.heap.size = E0 at *
            clear hE0
            go_loopg [] l.length (fun gg wr => ∃ k : Nat, k + gg = l.length ∧ Hid (∀ j : Nat, j < k → ∃ x ∈ l, x.hash = hv ∧ x.index = (j : Int)) ∧ Hid (Four wr E0 (.int .i64 hv) (.int .i64 (k : Int)) (.string s) (.int .i64 id)) ∧ Hid (Below w.heap.size w wr) ∧ Hid (Own 46 4 w.heap.size w (.slice p l.length c) l.length (ens l) wr))
            case atStart => exact ⟨0, by omega, Lib.hid (fun j hj => by omega), HE0, HB6, HO6⟩
            case round =>
              clear HE0 HB6 HO6
              rename World => wo
              obtain ⟨k, hk, HFR, HF, HBW, HOW⟩ := hrel
              have hkl : k ≤ l.length := by omega
              go_wp2_with fail
              refine (contA_any a _ cap l E0 hv (k : Int) _ (H.out.below HBW.out (Nat.le_refl _)) HF.out.c0 HF.out.c1).mono ?_
              rintro e w7 ⟨rfl, hb⟩
              have HB7 := Lib.hid (below_step1 HBW.out hb)
              have HO7 := Lib.hid (HOW.out.kept hb)
              have HF7 := Lib.hid (HF.out.kept hb)
              clear hb HBW HOW HF
              cases hany : l.any (sameP hv (k : Int)) with
              | true =>
                obtain ⟨x, hx, hxs⟩ := List.any_eq_true.1 hany
                unfold sameP at hxs
                simp only [Bool.and_eq_true, decide_eq_true_eq] at hxs
                have hfr : ∀ j : Nat, j < k + 1 → ∃ x ∈ l, x.hash = hv ∧ x.index = (j : Int) := by
                  intro j hj
                  by_cases hjk : j = k
                  · subst hjk; exact ⟨x, hx, hxs⟩
                  · exact HFR.out j (by omega)
                have hk1 := free_le l hv (k + 1) hfr
                have HFR2 := Lib.hid hfr
                have f0 := HF7.out.c0
                have f1 := HF7.out.c1
                have fz1 := HF7.out.fz 1
                have fl := HF7.out.lt
                have hkw : IntKind.i64.wrap ((k : Int) + 1) = ((k + 1 : Nat) : Int) := by rw [show ((k + 1 : Nat) : Int) = (k : Int) + 1 by omega]; exact IntWalk.i64_in _ ⟨by omega, by omega⟩
                have HF8 := Lib.hid (HF7.out.set1 (.int .i64 ((k + 1 : Nat) : Int)))
                have HO8 : Hid (Own 46 4 w.heap.size w (.slice p l.length c) l.length (ens l) (w7.setCell ⟨E0, 1, none⟩ (.int .i64 ((k + 1 : Nat) : Int)))) := Lib.hid (HO7.out.other (setCell_grown w7 E0 1 _) (fun q hq => by cases hq; exact hw5) (fun q hq e => by have := (HBL.out q hq).2; cases e; omega))
                have HB8 := Lib.hid (HB7.out.setCell (p := ⟨E0, 1, none⟩) hw5 (.int .i64 ((k + 1 : Nat) : Int)))
                clear hany hx hxs hfr HFR HF7 HO7 HB7
                go_wp2
                go_roundg (gk - 1)
                case measure => omega
                case rel => exact ⟨k + 1, by omega, HFR2, HF8, HB8, HO8⟩
              | false =>
                have HFREE : Hid (∀ x ∈ l, ¬ (x.hash = hv ∧ x.index = (k : Int))) := Lib.hid (fun x hx hh => by
                  have := List.any_eq_false.1 hany x hx
                  unfold sameP at this
                  simp [hh.1, hh.2] at this)
                clear hany
                go_wp2
                go_loopg [10] l.length (fun gg i wr => ∃ m : Nat, m + gg = l.length ∧ i = .int .i64 (m : Int) ∧ Hid (∀ x ∈ l.take m, ahead x ⟨hv, k, s, id⟩) ∧ Hid (Below w7.heap.size w7 wr))
                case atStart => exact ⟨0, by omega, rfl, Lib.hid (by simp), Lib.hid (Below.refl _ _)⟩
                case round =>
                  obtain ⟨m, hm2, rfl, HAH, HBI⟩ := hrel
                  have HO9 := Lib.hid (HO7.out.kept HBI.out)
                  have HF9 := Lib.hid (HF7.out.kept HBI.out)
                  have f0 := HF9.out.c0
                  have f1 := HF9.out.c1
                  have f2 := HF9.out.c2
                  have f3 := HF9.out.c3
                  have fl := HF9.out.lt
                  have HBR := Lib.hid (Below.refl wr.heap.size wr)
                  by_cases hlt : m < l.length
                  · obtain ⟨b, off, he, hbs, d0, d1, d2, d3⟩ := ens_cells HO9.out.rd m hlt
                    have HIB : Hid (∀ W, Calls Tryd.prog 70 #[.agg #[.int .i64 hv, .int .i64 (k : Int), .string s, .int .i64 id], .int .i64 l[m].hash, .int .i64 l[m].index] W fun e w' => e = .returned (.bool (lessH l[m].hash l[m].index hv (k : Int))) ∧ Below W.heap.size W w') := Lib.hid (fun W => isBehind_any ⟨hv, k, s, id⟩ _ _ W)
                    have HAN : Hid (lessH l[m].hash l[m].index hv (k : Int) = true → ∀ x ∈ l.take (m + 1), ahead x ⟨hv, k, s, id⟩) := Lib.hid (fun h x hx => by
                      rw [List.take_succ_eq_append_getElem hlt] at hx
                      rcases List.mem_append.1 hx with hx | hx
                      · exact HAH.out x hx
                      · rw [List.mem_singleton] at hx; subst hx; exact h)
                    have HTP : Hid (lessH l[m].hash l[m].index hv (k : Int) = false → ∀ h : m < l.length, ¬ ahead l[m] ⟨hv, k, s, id⟩) := Lib.hid (fun h _ h2 => by unfold ahead at h2; dsimp only at h2; rw [h] at h2; cases h2)
                    generalize lessH l[m].hash l[m].index hv (k : Int) = bl at *
                    generalize l[m].hash = xh at *
                    generalize l[m].index = xi at *
                    have hi : (m : Int) < (l.length : Int) := by omega
                    have hi0 : (0 : Int) ≤ (m : Int) := by omega
                    have HFF := Lib.hid (And.intro f0 (And.intro f1 (And.intro f2 (And.intro f3 (And.intro d0 (And.intro d1 HBR.out))))))
                    clear d2 d3 f0 f1 f2 f3
                    subst he
                    cases bl with
                    | true =>
                      go_wp2
                      clear d0 d1
                      refine wp_region_held_drew (S := (fun W => W.cell? ⟨E0, 0, none⟩ = some (.int .i64 hv) ∧ W.cell? ⟨E0, 1, none⟩ = some (.int .i64 (k : Int)) ∧ W.cell? ⟨E0, 2, none⟩ = some (.string s) ∧ W.cell? ⟨E0, 3, none⟩ = some (.int .i64 id) ∧ W.cell? ⟨b, off + m * 4, none⟩ = some (.int .i64 xh) ∧ W.cell? ⟨b, off + m * 4 + 1, none⟩ = some (.int .i64 xi) ∧ Below wr.heap.size wr W)) (by kernel_rfl) ?_ (fun hHeld => ?_)
                      · try dsimp only
                        first | exact HFF.out | exact hHeld | exact ⟨HFF.out.1, HFF.out.2.1, HFF.out.2.2.1, HFF.out.2.2.2.1, HFF.out.2.2.2.2.1, HFF.out.2.2.2.2.2.1, HBR.out.drew⟩ | (refine ⟨?_, ?_, ?_, ?_, ?_, ?_, ?_⟩ <;> first | exact cellK hHeld.1 (by assumption) | exact cellK hHeld.2.1 (by assumption) | exact cellK hHeld.2.2.1 (by assumption) | exact cellK hHeld.2.2.2.1 (by assumption) | exact cellK hHeld.2.2.2.2.1 (by assumption) | exact cellK hHeld.2.2.2.2.2.1 (by assumption) | exact below_step1 hHeld.2.2.2.2.2.2 (by assumption))
                      change wpAnyH _ _ _ _ _ 18 #[false, false, false, false, false, false, false, false, false, false, false, false, false, false, false, false, false, false] _ _
                      refine wpH_take (i := 0) (v := ?_) rfl (by kernel_rfl) (by kernel_rfl) (by kernel_rfl) (fun _ _ _ h => h) (by rfl) ?_ (by assumption) ?_; rotate_left; (focus (intro w hSw; (try dsimp only at hSw); go_simp; try with_reducible rfl)); try simp only [Act.put, List.setIfInBounds_toArray, List.set_cons_zero, List.set_cons_succ]
                      refine wpH_take (i := 1) (v := ?_) rfl (by kernel_rfl) (by kernel_rfl) (by kernel_rfl) (fun _ _ _ h => h) (by rfl) ?_ (by assumption) ?_; rotate_left; (focus (intro w hSw; (try dsimp only at hSw); go_simp; try with_reducible rfl)); try simp only [Act.put, List.setIfInBounds_toArray, List.set_cons_zero, List.set_cons_succ]
                      refine wpH_take (i := 2) (v := ?_) rfl (by kernel_rfl) (by kernel_rfl) (by kernel_rfl) (fun _ _ _ h => h) (by rfl) ?_ (by assumption) ?_; rotate_left; (focus (intro w hSw; (try dsimp only at hSw); go_simp; try with_reducible rfl)); try simp only [Act.put, List.setIfInBounds_toArray, List.set_cons_zero, List.set_cons_succ]
                      refine wpH_take (i := 3) (v := ?_) rfl (by kernel_rfl) (by kernel_rfl) (by kernel_rfl) (fun _ _ _ h => h) (by rfl) ?_ (by assumption) ?_; rotate_left; (focus (intro w hSw; (try dsimp only at hSw); go_simp; try with_reducible rfl)); try simp only [Act.put, List.setIfInBounds_toArray, List.set_cons_zero, List.set_cons_succ]
                      refine wpH_take (i := 4) (v := ?_) rfl (by kernel_rfl) (by kernel_rfl) (by kernel_rfl) (fun _ _ _ h => h) (by rfl) ?_ (by assumption) ?_; rotate_left; (focus (intro w hSw; (try dsimp only at hSw); go_simp; try with_reducible rfl)); try simp only [Act.put, List.setIfInBounds_toArray, List.set_cons_zero, List.set_cons_succ]
                      refine wpH_take (i := 5) (v := ?_) rfl (by kernel_rfl) (by kernel_rfl) (by kernel_rfl) (fun _ _ _ h => h) (by rfl) ?_ (by assumption) ?_; rotate_left; (focus (intro w hSw; (try dsimp only at hSw); go_simp; try with_reducible rfl)); try simp only [Act.put, List.setIfInBounds_toArray, List.set_cons_zero, List.set_cons_succ]
                      refine wpH_take (i := 6) (v := ?_) rfl (by kernel_rfl) (by kernel_rfl) (by kernel_rfl) (fun _ _ _ h => h) (by rfl) ?_ (by assumption) ?_; rotate_left; (focus (intro w hSw; (try dsimp only at hSw); go_simp; try with_reducible rfl)); try simp only [Act.put, List.setIfInBounds_toArray, List.set_cons_zero, List.set_cons_succ]
                      refine wpH_take (i := 7) (v := ?_) rfl (by kernel_rfl) (by kernel_rfl) (by kernel_rfl) (fun _ _ _ h => h) (by rfl) ?_ (by assumption) ?_; rotate_left; (focus (intro w hSw; (try dsimp only at hSw); go_simp; try with_reducible rfl)); try simp only [Act.put, List.setIfInBounds_toArray, List.set_cons_zero, List.set_cons_succ]
                      refine wpH_take (i := 8) (v := ?_) rfl (by kernel_rfl) (by kernel_rfl) (by kernel_rfl) (fun _ _ _ h => h) (by rfl) ?_ (by assumption) ?_; rotate_left; (focus (intro w hSw; (try dsimp only at hSw); go_simp; try with_reducible rfl)); try simp only [Act.put, List.setIfInBounds_toArray, List.set_cons_zero, List.set_cons_succ]
                      refine wpH_take (i := 9) (v := ?_) rfl (by kernel_rfl) (by kernel_rfl) (by kernel_rfl) (fun _ _ _ h => h) (by rfl) ?_ (by assumption) ?_; rotate_left; (focus (intro w hSw; (try dsimp only at hSw); go_simp; try with_reducible rfl)); try simp only [Act.put, List.setIfInBounds_toArray, List.set_cons_zero, List.set_cons_succ]
                      refine wpH_take (i := 10) (v := ?_) rfl (by kernel_rfl) (by kernel_rfl) (by kernel_rfl) (fun _ _ _ h => h) (by rfl) ?_ (by assumption) ?_; rotate_left; (focus (intro w hSw; (try dsimp only at hSw); go_simp; try with_reducible rfl)); try simp only [Act.put, List.setIfInBounds_toArray, List.set_cons_zero, List.set_cons_succ]
                      refine wpH_take (i := 11) (v := ?_) rfl (by kernel_rfl) (by kernel_rfl) (by kernel_rfl) (fun _ _ _ h => h) (by rfl) ?_ (by assumption) ?_; rotate_left; (focus (intro w hSw; (try dsimp only at hSw); go_simp; try with_reducible rfl)); try simp only [Act.put, List.setIfInBounds_toArray, List.set_cons_zero, List.set_cons_succ]
                      refine wpH_take (i := 12) (v := ?_) rfl (by kernel_rfl) (by kernel_rfl) (by kernel_rfl) (fun _ _ _ h => h) (by rfl) ?_ (by assumption) ?_; rotate_left; (focus (intro w hSw; (try dsimp only at hSw); go_simp; try with_reducible rfl)); try simp only [Act.put, List.setIfInBounds_toArray, List.set_cons_zero, List.set_cons_succ]
                      refine wpH_take (i := 13) (v := ?_) rfl (by kernel_rfl) (by kernel_rfl) (by kernel_rfl) (fun _ _ _ h => h) (by rfl) ?_ (by assumption) ?_; rotate_left; (focus (intro w hSw; (try dsimp only at hSw); go_simp; try with_reducible rfl)); try simp only [Act.put, List.setIfInBounds_toArray, List.set_cons_zero, List.set_cons_succ]
                      refine wpH_take (i := 14) (v := ?_) rfl (by kernel_rfl) (by kernel_rfl) (by kernel_rfl) (fun _ _ _ h => h) (by rfl) ?_ (by assumption) ?_; rotate_left; (focus (intro w hSw; (try dsimp only at hSw); go_simp; try with_reducible rfl)); try simp only [Act.put, List.setIfInBounds_toArray, List.set_cons_zero, List.set_cons_succ]
                      refine wpH_take (i := 15) (v := ?_) rfl (by kernel_rfl) (by kernel_rfl) (by kernel_rfl) (fun _ _ _ h => h) (by rfl) ?_ (by assumption) ?_; rotate_left; (focus (intro w hSw; (try dsimp only at hSw); go_simp; try with_reducible rfl)); try simp only [Act.put, List.setIfInBounds_toArray, List.set_cons_zero, List.set_cons_succ]
                      refine wpAnyH_ready (rs := [16]) (by kernel_rfl) (by simp) ?_
                      refine AllReadyH.cons rfl (fun K hK => ?_) AllReadyH.nil
                      try dsimp only at hHeld
                      go_simp
                      (go_at_call 70; refine (HIB.out _).mono ?_; rintro e w9 ⟨rfl, hbk⟩)
                      refine hK.out _ _ ?_ (fun hHeld2 => ?_)
                      · try dsimp only
                        first | exact HFF.out | exact hHeld | exact ⟨HFF.out.1, HFF.out.2.1, HFF.out.2.2.1, HFF.out.2.2.2.1, HFF.out.2.2.2.2.1, HFF.out.2.2.2.2.2.1, HBR.out.drew⟩ | (refine ⟨?_, ?_, ?_, ?_, ?_, ?_, ?_⟩ <;> first | exact cellK hHeld.1 (by assumption) | exact cellK hHeld.2.1 (by assumption) | exact cellK hHeld.2.2.1 (by assumption) | exact cellK hHeld.2.2.2.1 (by assumption) | exact cellK hHeld.2.2.2.2.1 (by assumption) | exact cellK hHeld.2.2.2.2.2.1 (by assumption) | exact below_step1 hHeld.2.2.2.2.2.2 (by assumption))
                      clear hK K hHeld
                      have hHeld := hHeld2
                      clear hHeld2
                      refine wpH_take (i := 17) (v := ?_) rfl (by kernel_rfl) (by kernel_rfl) (by kernel_rfl) (fun _ _ _ h => h) (by rfl) ?_ (by assumption) ?_; rotate_left; (focus (intro w hSw; (try dsimp only at hSw); go_simp; try with_reducible rfl)); try simp only [Act.put, List.setIfInBounds_toArray, List.set_cons_zero, List.set_cons_succ]
                      refine wpAnyH_done (by kernel_rfl) ?_ _
                      try dsimp only at hHeld
                      have HBX := Lib.hid hHeld.2.2.2.2.2.2
                      clear hHeld
                      have HAH2 := Lib.hid (HAN.out (by first | rfl | trivial))
                      have HB2 := Lib.hid (below_step1 HBI.out HBX.out)
                      clear HBX HO9 HF9
                      go_wp2
                      go_roundg (gk - 1)
                      case measure => omega
                      case rel => exact ⟨m + 1, by omega, by go_num, HAH2, HB2⟩
                    | false =>
                      go_wp2
                      clear d0 d1
                      refine wp_region_held_drew (S := (fun W => W.cell? ⟨E0, 0, none⟩ = some (.int .i64 hv) ∧ W.cell? ⟨E0, 1, none⟩ = some (.int .i64 (k : Int)) ∧ W.cell? ⟨E0, 2, none⟩ = some (.string s) ∧ W.cell? ⟨E0, 3, none⟩ = some (.int .i64 id) ∧ W.cell? ⟨b, off + m * 4, none⟩ = some (.int .i64 xh) ∧ W.cell? ⟨b, off + m * 4 + 1, none⟩ = some (.int .i64 xi) ∧ Below wr.heap.size wr W)) (by kernel_rfl) ?_ (fun hHeld => ?_)
                      · try dsimp only
                        first | exact HFF.out | exact hHeld | exact ⟨HFF.out.1, HFF.out.2.1, HFF.out.2.2.1, HFF.out.2.2.2.1, HFF.out.2.2.2.2.1, HFF.out.2.2.2.2.2.1, HBR.out.drew⟩ | (refine ⟨?_, ?_, ?_, ?_, ?_, ?_, ?_⟩ <;> first | exact cellK hHeld.1 (by assumption) | exact cellK hHeld.2.1 (by assumption) | exact cellK hHeld.2.2.1 (by assumption) | exact cellK hHeld.2.2.2.1 (by assumption) | exact cellK hHeld.2.2.2.2.1 (by assumption) | exact cellK hHeld.2.2.2.2.2.1 (by assumption) | exact below_step1 hHeld.2.2.2.2.2.2 (by assumption))
                      change wpAnyH _ _ _ _ _ 18 #[false, false, false, false, false, false, false, false, false, false, false, false, false, false, false, false, false, false] _ _
                      refine wpH_take (i := 0) (v := ?_) rfl (by kernel_rfl) (by kernel_rfl) (by kernel_rfl) (fun _ _ _ h => h) (by rfl) ?_ (by assumption) ?_; rotate_left; (focus (intro w hSw; (try dsimp only at hSw); go_simp; try with_reducible rfl)); try simp only [Act.put, List.setIfInBounds_toArray, List.set_cons_zero, List.set_cons_succ]
                      refine wpH_take (i := 1) (v := ?_) rfl (by kernel_rfl) (by kernel_rfl) (by kernel_rfl) (fun _ _ _ h => h) (by rfl) ?_ (by assumption) ?_; rotate_left; (focus (intro w hSw; (try dsimp only at hSw); go_simp; try with_reducible rfl)); try simp only [Act.put, List.setIfInBounds_toArray, List.set_cons_zero, List.set_cons_succ]
                      refine wpH_take (i := 2) (v := ?_) rfl (by kernel_rfl) (by kernel_rfl) (by kernel_rfl) (fun _ _ _ h => h) (by rfl) ?_ (by assumption) ?_; rotate_left; (focus (intro w hSw; (try dsimp only at hSw); go_simp; try with_reducible rfl)); try simp only [Act.put, List.setIfInBounds_toArray, List.set_cons_zero, List.set_cons_succ]
                      refine wpH_take (i := 3) (v := ?_) rfl (by kernel_rfl) (by kernel_rfl) (by kernel_rfl) (fun _ _ _ h => h) (by rfl) ?_ (by assumption) ?_; rotate_left; (focus (intro w hSw; (try dsimp only at hSw); go_simp; try with_reducible rfl)); try simp only [Act.put, List.setIfInBounds_toArray, List.set_cons_zero, List.set_cons_succ]
                      refine wpH_take (i := 4) (v := ?_) rfl (by kernel_rfl) (by kernel_rfl) (by kernel_rfl) (fun _ _ _ h => h) (by rfl) ?_ (by assumption) ?_; rotate_left; (focus (intro w hSw; (try dsimp only at hSw); go_simp; try with_reducible rfl)); try simp only [Act.put, List.setIfInBounds_toArray, List.set_cons_zero, List.set_cons_succ]
                      refine wpH_take (i := 5) (v := ?_) rfl (by kernel_rfl) (by kernel_rfl) (by kernel_rfl) (fun _ _ _ h => h) (by rfl) ?_ (by assumption) ?_; rotate_left; (focus (intro w hSw; (try dsimp only at hSw); go_simp; try with_reducible rfl)); try simp only [Act.put, List.setIfInBounds_toArray, List.set_cons_zero, List.set_cons_succ]
                      refine wpH_take (i := 6) (v := ?_) rfl (by kernel_rfl) (by kernel_rfl) (by kernel_rfl) (fun _ _ _ h => h) (by rfl) ?_ (by assumption) ?_; rotate_left; (focus (intro w hSw; (try dsimp only at hSw); go_simp; try with_reducible rfl)); try simp only [Act.put, List.setIfInBounds_toArray, List.set_cons_zero, List.set_cons_succ]
                      refine wpH_take (i := 7) (v := ?_) rfl (by kernel_rfl) (by kernel_rfl) (by kernel_rfl) (fun _ _ _ h => h) (by rfl) ?_ (by assumption) ?_; rotate_left; (focus (intro w hSw; (try dsimp only at hSw); go_simp; try with_reducible rfl)); try simp only [Act.put, List.setIfInBounds_toArray, List.set_cons_zero, List.set_cons_succ]
                      refine wpH_take (i := 8) (v := ?_) rfl (by kernel_rfl) (by kernel_rfl) (by kernel_rfl) (fun _ _ _ h => h) (by rfl) ?_ (by assumption) ?_; rotate_left; (focus (intro w hSw; (try dsimp only at hSw); go_simp; try with_reducible rfl)); try simp only [Act.put, List.setIfInBounds_toArray, List.set_cons_zero, List.set_cons_succ]
                      refine wpH_take (i := 9) (v := ?_) rfl (by kernel_rfl) (by kernel_rfl) (by kernel_rfl) (fun _ _ _ h => h) (by rfl) ?_ (by assumption) ?_; rotate_left; (focus (intro w hSw; (try dsimp only at hSw); go_simp; try with_reducible rfl)); try simp only [Act.put, List.setIfInBounds_toArray, List.set_cons_zero, List.set_cons_succ]
                      refine wpH_take (i := 10) (v := ?_) rfl (by kernel_rfl) (by kernel_rfl) (by kernel_rfl) (fun _ _ _ h => h) (by rfl) ?_ (by assumption) ?_; rotate_left; (focus (intro w hSw; (try dsimp only at hSw); go_simp; try with_reducible rfl)); try simp only [Act.put, List.setIfInBounds_toArray, List.set_cons_zero, List.set_cons_succ]
                      refine wpH_take (i := 11) (v := ?_) rfl (by kernel_rfl) (by kernel_rfl) (by kernel_rfl) (fun _ _ _ h => h) (by rfl) ?_ (by assumption) ?_; rotate_left; (focus (intro w hSw; (try dsimp only at hSw); go_simp; try with_reducible rfl)); try simp only [Act.put, List.setIfInBounds_toArray, List.set_cons_zero, List.set_cons_succ]
                      refine wpH_take (i := 12) (v := ?_) rfl (by kernel_rfl) (by kernel_rfl) (by kernel_rfl) (fun _ _ _ h => h) (by rfl) ?_ (by assumption) ?_; rotate_left; (focus (intro w hSw; (try dsimp only at hSw); go_simp; try with_reducible rfl)); try simp only [Act.put, List.setIfInBounds_toArray, List.set_cons_zero, List.set_cons_succ]
                      refine wpH_take (i := 13) (v := ?_) rfl (by kernel_rfl) (by kernel_rfl) (by kernel_rfl) (fun _ _ _ h => h) (by rfl) ?_ (by assumption) ?_; rotate_left; (focus (intro w hSw; (try dsimp only at hSw); go_simp; try with_reducible rfl)); try simp only [Act.put, List.setIfInBounds_toArray, List.set_cons_zero, List.set_cons_succ]
                      refine wpH_take (i := 14) (v := ?_) rfl (by kernel_rfl) (by kernel_rfl) (by kernel_rfl) (fun _ _ _ h => h) (by rfl) ?_ (by assumption) ?_; rotate_left; (focus (intro w hSw; (try dsimp only at hSw); go_simp; try with_reducible rfl)); try simp only [Act.put, List.setIfInBounds_toArray, List.set_cons_zero, List.set_cons_succ]
                      refine wpH_take (i := 15) (v := ?_) rfl (by kernel_rfl) (by kernel_rfl) (by kernel_rfl) (fun _ _ _ h => h) (by rfl) ?_ (by assumption) ?_; rotate_left; (focus (intro w hSw; (try dsimp only at hSw); go_simp; try with_reducible rfl)); try simp only [Act.put, List.setIfInBounds_toArray, List.set_cons_zero, List.set_cons_succ]
                      refine wpAnyH_ready (rs := [16]) (by kernel_rfl) (by simp) ?_
                      refine AllReadyH.cons rfl (fun K hK => ?_) AllReadyH.nil
                      try dsimp only at hHeld
                      go_simp
                      (go_at_call 70; refine (HIB.out _).mono ?_; rintro e w9 ⟨rfl, hbk⟩)
                      refine hK.out _ _ ?_ (fun hHeld2 => ?_)
                      · try dsimp only
                        first | exact HFF.out | exact hHeld | exact ⟨HFF.out.1, HFF.out.2.1, HFF.out.2.2.1, HFF.out.2.2.2.1, HFF.out.2.2.2.2.1, HFF.out.2.2.2.2.2.1, HBR.out.drew⟩ | (refine ⟨?_, ?_, ?_, ?_, ?_, ?_, ?_⟩ <;> first | exact cellK hHeld.1 (by assumption) | exact cellK hHeld.2.1 (by assumption) | exact cellK hHeld.2.2.1 (by assumption) | exact cellK hHeld.2.2.2.1 (by assumption) | exact cellK hHeld.2.2.2.2.1 (by assumption) | exact cellK hHeld.2.2.2.2.2.1 (by assumption) | exact below_step1 hHeld.2.2.2.2.2.2 (by assumption))
                      clear hK K hHeld
                      have hHeld := hHeld2
                      clear hHeld2
                      refine wpH_take (i := 17) (v := ?_) rfl (by kernel_rfl) (by kernel_rfl) (by kernel_rfl) (fun _ _ _ h => h) (by rfl) ?_ (by assumption) ?_; rotate_left; (focus (intro w hSw; (try dsimp only at hSw); go_simp; try with_reducible rfl)); try simp only [Act.put, List.setIfInBounds_toArray, List.set_cons_zero, List.set_cons_succ]
                      refine wpAnyH_done (by kernel_rfl) ?_ _
                      try dsimp only at hHeld
                      have HBX := Lib.hid hHeld.2.2.2.2.2.2
                      clear hHeld
                      have HOX := Lib.hid (HO9.out.kept HBX.out)
                      have HFX := Lib.hid (HF9.out.kept HBX.out)
                      have HTOP : Hid (∀ h : m < l.length, ¬ ahead l[m] ⟨hv, k, s, id⟩) := Lib.hid (HTP.out (by first | rfl | trivial))
                      clear HO9 HF9 HBX
                      have f0 := HFX.out.c0
                      have f1 := HFX.out.c1
                      have f2 := HFX.out.c2
                      have f3 := HFX.out.c3
                      have fl := HFX.out.lt
                      go_wp2_with fail
                      refine (insert_any w.heap.size w _ _ c l m _ ⟨hv, k, s, id⟩ (HOX.out.alloc _) (vlit_new _ _) (fun q hq => by have := (HOX.out.blk q hq).2; omega) (by omega) (by omega)).mono ?_
                      rintro e w10 ⟨a', c', rfl, hrd, hbe, hlo⟩
                      have HRD := Lib.hid hrd
                      have HBE := Lib.hid hbe
                      have HLO := Lib.hid hlo
                      clear hrd hbe hlo
                      go_wp2
                      go_ret2
                      have e9 := addL_len l m (by omega) ⟨hv, k, s, id⟩
                      refine ⟨addL l m ⟨hv, k, s, id⟩, true, a', c', by rw [e9]; rfl, (fun e => by rw [HD.out] at e; cases e), (fun _ => ⟨HA.out.symm, (fun e => by cases e), fun _ => ⟨k, m, hkl, ?_, ?_⟩⟩), by rw [e9]; exact HRD.out, HBE.out, HLO.out⟩
                      · rw [← HHV.out]; exact ⟨by omega, HAH.out, HTOP.out, HFREE.out⟩
                      · rw [← HHV.out]
                  · have hi : ¬ (m : Int) < (l.length : Int) := by omega
                    have HTN : Hid (∀ h : m < l.length, ¬ ahead l[m] ⟨hv, k, s, id⟩) := Lib.hid (fun h => absurd h hlt)
                    go_wp2
                    refine wp_region_held_drew (S := (fun W => Below wr.heap.size wr W)) (by kernel_rfl) ?_ (fun hHeld => ?_)
                    · try dsimp only
                      first | exact HBR.out.drew | exact HBR.out | exact hHeld
                    change wpAnyH _ _ _ _ _ 18 #[false, false, false, false, false, false, false, false, false, false, false, false, false, false, false, false, false, false] _ _
                    refine wpH_take (i := 0) (v := ?_) rfl (by kernel_rfl) (by kernel_rfl) (by kernel_rfl) (fun _ _ _ h => h) (by rfl) ?_ (by assumption) ?_; rotate_left; (focus (intro w hSw; (try dsimp only at hSw); go_simp; try with_reducible rfl)); try simp only [Act.put, List.setIfInBounds_toArray, List.set_cons_zero, List.set_cons_succ]
                    refine wpH_take (i := 1) (v := ?_) rfl (by kernel_rfl) (by kernel_rfl) (by kernel_rfl) (fun _ _ _ h => h) (by rfl) ?_ (by assumption) ?_; rotate_left; (focus (intro w hSw; (try dsimp only at hSw); go_simp; try with_reducible rfl)); try simp only [Act.put, List.setIfInBounds_toArray, List.set_cons_zero, List.set_cons_succ]
                    refine wpH_take (i := 2) (v := ?_) rfl (by kernel_rfl) (by kernel_rfl) (by kernel_rfl) (fun _ _ _ h => h) (by rfl) ?_ (by assumption) ?_; rotate_left; (focus (intro w hSw; (try dsimp only at hSw); go_simp; try with_reducible rfl)); try simp only [Act.put, List.setIfInBounds_toArray, List.set_cons_zero, List.set_cons_succ]
                    refine wpH_take (i := 3) (v := ?_) rfl (by kernel_rfl) (by kernel_rfl) (by kernel_rfl) (fun _ _ _ h => h) (by rfl) ?_ (by assumption) ?_; rotate_left; (focus (intro w hSw; (try dsimp only at hSw); go_simp; try with_reducible rfl)); try simp only [Act.put, List.setIfInBounds_toArray, List.set_cons_zero, List.set_cons_succ]
                    refine wpH_take (i := 4) (v := ?_) rfl (by kernel_rfl) (by kernel_rfl) (by kernel_rfl) (fun _ _ _ h => h) (by rfl) ?_ (by assumption) ?_; rotate_left; (focus (intro w hSw; (try dsimp only at hSw); go_simp; try with_reducible rfl)); try simp only [Act.put, List.setIfInBounds_toArray, List.set_cons_zero, List.set_cons_succ]
                    refine wpH_off (i := 5) rfl (by kernel_rfl) (by kernel_rfl) (by kernel_rfl) (fun _ _ _ h => h) (by rfl) (by assumption) ?_; try simp only [Act.put, List.setIfInBounds_toArray, List.set_cons_zero, List.set_cons_succ]
                    refine wpH_off (i := 6) rfl (by kernel_rfl) (by kernel_rfl) (by kernel_rfl) (fun _ _ _ h => h) (by rfl) (by assumption) ?_; try simp only [Act.put, List.setIfInBounds_toArray, List.set_cons_zero, List.set_cons_succ]
                    refine wpH_off (i := 7) rfl (by kernel_rfl) (by kernel_rfl) (by kernel_rfl) (fun _ _ _ h => h) (by rfl) (by assumption) ?_; try simp only [Act.put, List.setIfInBounds_toArray, List.set_cons_zero, List.set_cons_succ]
                    refine wpH_off (i := 8) rfl (by kernel_rfl) (by kernel_rfl) (by kernel_rfl) (fun _ _ _ h => h) (by rfl) (by assumption) ?_; try simp only [Act.put, List.setIfInBounds_toArray, List.set_cons_zero, List.set_cons_succ]
                    refine wpH_off (i := 9) rfl (by kernel_rfl) (by kernel_rfl) (by kernel_rfl) (fun _ _ _ h => h) (by rfl) (by assumption) ?_; try simp only [Act.put, List.setIfInBounds_toArray, List.set_cons_zero, List.set_cons_succ]
                    refine wpH_off (i := 10) rfl (by kernel_rfl) (by kernel_rfl) (by kernel_rfl) (fun _ _ _ h => h) (by rfl) (by assumption) ?_; try simp only [Act.put, List.setIfInBounds_toArray, List.set_cons_zero, List.set_cons_succ]
                    refine wpH_off (i := 11) rfl (by kernel_rfl) (by kernel_rfl) (by kernel_rfl) (fun _ _ _ h => h) (by rfl) (by assumption) ?_; try simp only [Act.put, List.setIfInBounds_toArray, List.set_cons_zero, List.set_cons_succ]
                    refine wpH_off (i := 12) rfl (by kernel_rfl) (by kernel_rfl) (by kernel_rfl) (fun _ _ _ h => h) (by rfl) (by assumption) ?_; try simp only [Act.put, List.setIfInBounds_toArray, List.set_cons_zero, List.set_cons_succ]
                    refine wpH_off (i := 13) rfl (by kernel_rfl) (by kernel_rfl) (by kernel_rfl) (fun _ _ _ h => h) (by rfl) (by assumption) ?_; try simp only [Act.put, List.setIfInBounds_toArray, List.set_cons_zero, List.set_cons_succ]
                    refine wpH_off (i := 14) rfl (by kernel_rfl) (by kernel_rfl) (by kernel_rfl) (fun _ _ _ h => h) (by rfl) (by assumption) ?_; try simp only [Act.put, List.setIfInBounds_toArray, List.set_cons_zero, List.set_cons_succ]
                    refine wpH_off (i := 15) rfl (by kernel_rfl) (by kernel_rfl) (by kernel_rfl) (fun _ _ _ h => h) (by rfl) (by assumption) ?_; try simp only [Act.put, List.setIfInBounds_toArray, List.set_cons_zero, List.set_cons_succ]
                    refine wpH_off (i := 16) rfl (by kernel_rfl) (by kernel_rfl) (by kernel_rfl) (fun _ _ _ h => h) (by rfl) (by assumption) ?_; try simp only [Act.put, List.setIfInBounds_toArray, List.set_cons_zero, List.set_cons_succ]
                    refine wpH_take (i := 17) (v := ?_) rfl (by kernel_rfl) (by kernel_rfl) (by kernel_rfl) (fun _ _ _ h => h) (by rfl) ?_ (by assumption) ?_; rotate_left; (focus (intro w hSw; (try dsimp only at hSw); go_simp; try with_reducible rfl)); try simp only [Act.put, List.setIfInBounds_toArray, List.set_cons_zero, List.set_cons_succ]
                    refine wpAnyH_done (by kernel_rfl) ?_ _
                    try dsimp only at hHeld
                    have HBX := Lib.hid hHeld
                    clear hHeld f0 f1 f2 f3 fl
                    generalize wr.drew = wd at *
                    have HOX := Lib.hid (HO9.out.kept HBX.out)
                    have HFX := Lib.hid (HF9.out.kept HBX.out)
                    have HTOP : Hid (∀ h : m < l.length, ¬ ahead l[m] ⟨hv, k, s, id⟩) := HTN
                    clear HO9 HF9 HBX
                    have f0 := HFX.out.c0
                    have f1 := HFX.out.c1
                    have f2 := HFX.out.c2
                    have f3 := HFX.out.c3
                    have fl := HFX.out.lt
                    go_wp2_with fail
                    refine (insert_any w.heap.size w _ p c l m _ ⟨hv, k, s, id⟩ (HOX.out.alloc _) (vlit_new _ _) (fun q hq => by have := (HOX.out.blk q hq).2; omega) (by omega) (by omega)).mono ?_
                    rintro e w10 ⟨a', c', rfl, hrd, hbe, hlo⟩
                    have HRD := Lib.hid hrd
                    have HBE := Lib.hid hbe
                    have HLO := Lib.hid hlo
                    clear hrd hbe hlo
                    go_wp2
                    go_ret2
                    have e9 := addL_len l m (by omega) ⟨hv, k, s, id⟩
                    refine ⟨addL l m ⟨hv, k, s, id⟩, true, a', c', by rw [e9]; rfl, (fun e => by rw [HD.out] at e; cases e), (fun _ => ⟨HA.out.symm, (fun e => by cases e), fun _ => ⟨k, m, hkl, ?_, ?_⟩⟩), by rw [e9]; exact HRD.out, HBE.out, HLO.out⟩
                    · rw [← HHV.out]; exact ⟨by omega, HAH.out, HTOP.out, HFREE.out⟩
                    · rw [← HHV.out]
        · have HA : Hid (addable l s id = false) := Lib.hid (addable_no3 (by omega))
          have hid2 : id < 1 ∨ 100000 < id := by omega
          have HID := Lib.hid hid2
          clear hid hid2
          go_wp2_with (go_at_call 69; refine (isId_no id _ HID.out).mono ?_; rintro e w' ⟨rfl, rfl⟩)
          go_ret2
          exact HRF.out _ _ _ HA.out HO4.out
      · have HA := Lib.hid (addable_no2 (id := id) (List.any_eq_true.2 ⟨_, (look_yes HD.out (hlk HD.out)).1, (look_yes HD.out (hlk HD.out)).2⟩))
        have hm0 : (0 : Int) ≤ (m : Int) := by omega
        clear hlk
        go_wp2
        go_ret2
        exact HRF.out _ _ _ HA.out HO4.out
def AddTold (is : Bool) (w : World) (e : Ending) (w' : World) : Prop := ∃ (g : Option Addr) (n c : Nat), e = .returned (.tuple #[.slice g n c, .bool is]) ∧ Below w.heap.size w w'
set_option maxRecDepth 1000000 in
set_option maxHeartbeats 6000000 in
theorem l5AddT_any (B : Nat) (a : Option Addr) (c : Nat) (l : List EntL) (s : ByteArray) (id : Int) (w : World) (h : w.ownsRow B 46 4 (.slice a l.length c) l.length (ens l)) (hB : B ≤ w.heap.size) (hs : ∀ x ∈ l, smallN x) (hss : s.size ≤ 1073741824) (hn : l.length ≤ 100000) :
    Calls Tryd.prog 81 #[.slice a l.length c, .string s, .int .i64 id] w (AddTold (addable l s id) w) := by
  have hO : Own 46 4 B w (.slice a l.length c) l.length (ens l) w := ⟨h, Below.refl _ _, hB⟩
  have HO := Lib.hid hO
  have H := Lib.hid hO.rd
  have HSZ := Lib.hid hs
  have HQ : Hid (∀ W, addable l s id = false → Below w.heap.size w W → AddTold (addable l s id) w (.returned (.tuple #[.slice a l.length c, .bool false])) W) := Lib.hid (fun W h1 h2 => ⟨a, _, c, by rw [h1], h2⟩)
  have HYES : Hid (nameB s = true → (∀ x ∈ l, alikeB x.name s = false) → 1 ≤ id ∧ id ≤ 100000 → l.length < 12 → addable l s id = true) := Lib.hid (fun h1 h2 h3 h4 => (addable_iff l s id).2 ⟨h1, h2, h3, h4⟩)
  have HN1 : Hid (nameB s = false → addable l s id = false) := Lib.hid (fun h => addable_no1 h)
  have HNM : Hid (∀ W, Calls Tryd.prog 17 #[.string s] W fun e w' => e = .returned (.bool (nameB s)) ∧ Below W.heap.size W w') := Lib.hid (fun W => specNameOk_any s W hss)
  clear h hs hO
  generalize nameB s = nb at *
  go_enter Tryd.func81, Tryd.ntmps81
  go_wp2_with fail
  refine (HNM.out _).mono ?_
  rintro e w1 ⟨rfl, hb⟩
  have HB1 := Lib.hid hb
  have HO1 := Lib.hid (HO.out.kept hb)
  clear hb HO
  cases nb with
  | false =>
    go_wp2
    go_ret2
    exact HQ.out _ (HN1.out (by first | rfl | trivial)) HB1.out
  | true =>
    go_wp2_with fail
    refine (l5At_any a _ c l s _ (H.out.below HB1.out (Nat.le_refl _)) HSZ.out hss).mono ?_
    rintro e w2 ⟨r, rfl, hE, hb⟩
    have HB2 := Lib.hid (below_step1 HB1.out hb)
    have HO2 := Lib.hid (HO1.out.kept hb)
    clear hb HO1 HB1
    rcases hE with ⟨rfl, hno⟩ | ⟨m, hlt, rfl, -, hyes⟩
    · have HNO : Hid (∀ x ∈ l, alikeB x.name s = false) := Lib.hid (fun x hx => by simpa using List.any_eq_false.1 hno x hx)
      clear hno
      by_cases hidd : id < 1 ∨ 100000 < id
      · have HA : Hid (addable l s id = false) := Lib.hid (addable_no3 hidd)
        go_wp2_with (first | (go_at_call 50; (first | refine (l1In_yes _ _ _ _ (by omega) (by omega)).mono ?_ | refine (l1In_no _ _ _ _ (by omega)).mono ?_); rintro e w' ⟨rfl, rfl⟩))
        go_ret2
        exact HQ.out _ HA.out HB2.out
      have hid0 : 1 ≤ id := by omega
      have hid1 : id ≤ 100000 := by omega
      clear hidd
      by_cases h12 : (12 : Int) ≤ (l.length : Int)
      · have HA : Hid (addable l s id = false) := Lib.hid (addable_no4 (by omega))
        go_wp2_with (first | (go_at_call 50; (first | refine (l1In_yes _ _ _ _ (by omega) (by omega)).mono ?_ | refine (l1In_no _ _ _ _ (by omega)).mono ?_); rintro e w' ⟨rfl, rfl⟩))
        go_ret2
        exact HQ.out _ HA.out HB2.out
      · have HA := Lib.hid (HYES.out (by first | rfl | trivial) HNO.out ⟨hid0, hid1⟩ (by omega))
        go_wp2_with (first | (go_at_call 50; (first | refine (l1In_yes _ _ _ _ (by omega) (by omega)).mono ?_ | refine (l1In_no _ _ _ _ (by omega)).mono ?_); rintro e w' ⟨rfl, rfl⟩) | fail)
        refine (specHashOf_any s _ hss).mono ?_
        rintro e w3 ⟨rfl, hb⟩
        have HB3 := Lib.hid (below_step1 HB2.out hb)
        clear hb HQ HNM HO2 HYES HN1 HNO
        generalize hashF s = hv at *
        go_wp2
        go_loopg [9, 10] l.length (fun gg q i wr => ∃ (j : Nat) (z : Int), j + gg = l.length ∧ i = .int .i64 (j : Int) ∧ q = .int .i64 z ∧ 0 ≤ z ∧ z ≤ (j : Int) ∧ wr = w3)
        case atStart => exact ⟨0, 0, by omega, rfl, rfl, by omega, by omega, rfl⟩
        case round =>
          obtain ⟨j, z, hj, rfl, rfl, hz0, hz1, rfl⟩ := hrel
          obtain ⟨gg, hgg⟩ : ∃ g, g = gk := ⟨_, rfl⟩
          by_cases hlt : j < l.length
          · obtain ⟨b, off, rfl, hbs, d0, d1, d2, d3⟩ := ens_cells (H.out.below HB3.out (Nat.le_refl _)) j hlt
            have hi : (j : Int) < (l.length : Int) := by omega
            have hi0 : (0 : Int) ≤ (j : Int) := by omega
            generalize l[j] = x at *
            obtain ⟨xh, xi, xn, xd⟩ := x
            try simp only at d0 d1 d2 d3
            clear hlt
            by_cases he : xh = hv
            · subst he
              by_cases he2 : xi = z
              · subst he2
                go_wp2
                go_roundg (gk - 1)
                case measure => omega
                case rel => exact ⟨j + 1, xi + 1, by omega, by go_num, by go_num, by omega, by omega, rfl⟩
              · have hne : (xi == z) = false := by simp [he2]
                clear he2
                go_wp2
                go_roundg (gk - 1)
                case measure => omega
                case rel => exact ⟨j + 1, z, by omega, by go_num, rfl, by omega, by omega, rfl⟩
            · have hne : (xh == hv) = false := by simp [he]
              clear he
              go_wp2
              go_roundg (gk - 1)
              case measure => omega
              case rel => exact ⟨j + 1, z, by omega, by go_num, rfl, by omega, by omega, rfl⟩
          · have hjl : j = l.length := by omega
            subst hjl
            rename World => wo
            have HB3b : Hid (Below w.heap.size w wo) := Lib.hid HB3.out
            have HLit := Lib.hid (Own.lit (e := 46) (size := 4) (n := 0) (Below.refl wo.heap.size wo) (Nat.le_refl _) #[] rfl (by decide))
            clear HB3
            go_wp2
            go_loopg [11, 12, 13] l.length (fun gg o pt i wr => ∃ (j : Nat) (lo : List EntL) (a' : Option Addr) (c' : Nat) (put : Bool), j + gg = l.length ∧ i = .int .i64 (j : Int) ∧ o = .slice a' lo.length c' ∧ pt = .bool put ∧ lo.length ≤ j + (if put = true then 1 else 0) ∧ Hid (∀ x ∈ lo, smallN x) ∧ Hid (Own 46 4 wo.heap.size wo (.slice a' lo.length c') lo.length (ens lo) wr))
            case atStart => exact ⟨0, [], _, _, false, by omega, rfl, rfl, rfl, by simp, Lib.hid (by simp), Lib.hid (by exact HLit.out)⟩
            case round =>
              obtain ⟨j, lo, a', c', put, hj2, rfl, rfl, rfl, hlo, HSM, HOO⟩ := hrel
              have HBW := Lib.hid (below_step1 HB3b.out HOO.out.below)
              by_cases hlt : j < l.length
              · obtain ⟨b, off, rfl, hbs, d0, d1, d2, d3⟩ := ens_cells (H.out.below HBW.out (Nat.le_refl _)) j hlt
                have hi : (j : Int) < (l.length : Int) := by omega
                have hi0 : (0 : Int) ≤ (j : Int) := by omega
                have HSX := Lib.hid (HSZ.out l[j] (List.getElem_mem hlt))
                have HDD : Hid (∀ W, Below w.heap.size w W → W.cell? ⟨b, off + j * 4, none⟩ = some (.int .i64 l[j].hash) ∧ W.cell? ⟨b, off + j * 4 + 1, none⟩ = some (.int .i64 l[j].index) ∧ W.cell? ⟨b, off + j * 4 + 2, none⟩ = some (.string l[j].name) ∧ W.cell? ⟨b, off + j * 4 + 3, none⟩ = some (.int .i64 l[j].id) ∧ b < W.heap.size) := Lib.hid (fun W hW => by
                  obtain ⟨b', off', e', hb', p0, p1, p2, p3⟩ := ens_cells (H.out.below hW (Nat.le_refl _)) j hlt
                  cases e'
                  exact ⟨p0, p1, p2, p3, hb'⟩)
                generalize l[j] = x at *
                obtain ⟨xh, xi, xn, xd⟩ := x
                try simp only at d0 d1 d2 d3 HDD
                have hl12 : l.length < 12 := by omega
                cases put with
                | true =>
                  rw [if_pos rfl] at hlo
                  have HOO2 := Lib.hid HOO.out
                  go_wp2_with (at_builtin; go_loud (refine wp_app1c rfl _ _ 41 rfl 46 (.agg #[.int .i64 0, .int .i64 0, .string ByteArray.empty, .int .i64 0]) 4 40 Tryd.underlying41 info_ent rfl (by decide) _ _ _ _ _ (by rfl) (by exact HOO2.out) _ _ _ (by rfl) (by first | rfl | simp) (by rfl) (by intro u hu; simp at hu; rcases hu with rfl | rfl | rfl | rfl <;> rfl) (by omega) (by unfold maxLen; omega) ?_); intro a9 c9 w9 hO9 hG9 hN9; have HO9 := Lib.hid hO9; clear hG9 hN9 hO9)
                  go_roundg (gk - 1)
                  case measure => omega
                  case rel => exact ⟨j + 1, lo ++ [⟨xh, xi, xn, xd⟩], _, _, true, by omega, by go_num, by rw [List.length_append]; rfl, rfl, by rw [List.length_append, if_pos rfl]; simp; omega, Lib.hid (small_snoc HSM.out HSX.out), Lib.hid (by rw [List.length_append, ens_append]; exact HO9.out)⟩
                | false =>
                  rw [if_neg (by decide)] at hlo
                  have HLS : Hid (∀ W, Calls Tryd.prog 66 #[.agg #[.int .i64 xh, .int .i64 xi, .string xn, .int .i64 xd], .int .i64 hv, .int .i64 z] W fun e w' => e = .returned (.bool (lessH xh xi hv z)) ∧ Below W.heap.size W w') := Lib.hid (fun W => l5Less_any ⟨xh, xi, xn, xd⟩ hv z W)
                  generalize lessH xh xi hv z = bl at *
                  go_wp2_with fail
                  refine (HLS.out _).mono ?_
                  rintro e w5 ⟨rfl, hb⟩
                  have HOO2 := Lib.hid (HOO.out.kept hb)
                  replace d0 := cellK d0 hb
                  replace d1 := cellK d1 hb
                  replace d2 := cellK d2 hb
                  replace d3 := cellK d3 hb
                  have hbs5 : b < w5.heap.size := World.block_lt_of_cell? w5 _ d0
                  clear hb
                  cases bl with
                  | true =>
                    go_wp2_with (at_builtin; go_loud (refine wp_app1c rfl _ _ 41 rfl 46 (.agg #[.int .i64 0, .int .i64 0, .string ByteArray.empty, .int .i64 0]) 4 40 Tryd.underlying41 info_ent rfl (by decide) _ _ _ _ _ (by rfl) (by exact HOO2.out) _ _ _ (by rfl) (by first | rfl | simp) (by rfl) (by intro u hu; simp at hu; rcases hu with rfl | rfl | rfl | rfl <;> rfl) (by omega) (by unfold maxLen; omega) ?_); intro a9 c9 w9 hO9 hG9 hN9; have HO9 := Lib.hid hO9; clear hG9 hN9 hO9)
                    go_roundg (gk - 1)
                    case measure => omega
                    case rel => exact ⟨j + 1, lo ++ [⟨xh, xi, xn, xd⟩], _, _, false, by omega, by go_num, by rw [List.length_append]; rfl, rfl, by rw [List.length_append, if_neg (by decide)]; simp; omega, Lib.hid (small_snoc HSM.out HSX.out), Lib.hid (by rw [List.length_append, ens_append]; exact HO9.out)⟩
                  | false =>
                    have hlo3 : lo.length + 1 ≤ 12 := by omega
                    go_wp2_with (first | (at_builtin; go_loud (refine wp_app1c rfl _ _ 41 rfl 46 (.agg #[.int .i64 0, .int .i64 0, .string ByteArray.empty, .int .i64 0]) 4 40 Tryd.underlying41 info_ent rfl (by decide) _ _ _ _ _ (by rfl) (by exact HOO2.out) _ _ _ (by rfl) (by first | rfl | simp) (by rfl) (by intro u hu; simp at hu; rcases hu with rfl | rfl | rfl | rfl <;> rfl) (by omega) (by unfold maxLen; omega) ?_); intro a9 c9 w9 hO9 hG9 hN9; have HO9 := Lib.hid hO9; clear hG9 hN9 hO9; obtain ⟨e0, e1, e2, e3, e4⟩ := HDD.out w9 (below_step1 HB3b.out HO9.out.below)) | (at_builtin; go_loud (refine wp_app1c rfl _ _ 41 rfl 46 (.agg #[.int .i64 0, .int .i64 0, .string ByteArray.empty, .int .i64 0]) 4 40 Tryd.underlying41 info_ent rfl (by decide) _ _ _ _ _ (by rfl) (by exact HO9.out) _ _ _ (by rfl) (by first | rfl | simp) (by rfl) (by intro u hu; simp at hu; rcases hu with rfl | rfl | rfl | rfl <;> rfl) (by omega) (by unfold maxLen; omega) ?_); intro a8 c8 w8 hO8 hG8 hN8; have HO8 := Lib.hid hO8; clear hG8 hN8 hO8))
                    go_roundg (gk - 1)
                    case measure => omega
                    case rel => exact ⟨j + 1, (lo ++ [⟨hv, z, s, id⟩]) ++ [⟨xh, xi, xn, xd⟩], _, _, true, by omega, by go_num, by rw [List.length_append, List.length_append]; rfl, rfl, by rw [List.length_append, List.length_append, if_pos rfl]; simp; omega, Lib.hid (small_snoc (small_snoc (x := ⟨hv, z, s, id⟩) HSM.out hss) HSX.out), Lib.hid (by rw [List.length_append, List.length_append, ens_append, ens_append]; exact HO8.out)⟩
              · have hjl2 : j = l.length := by omega
                subst hjl2
                have hl12 : l.length < 12 := by omega
                cases put with
                | true =>
                  rw [if_pos rfl] at hlo
                  go_wp2
                  go_ret2
                  exact ⟨a', _, c', by rw [HA.out]; rfl, HBW.out⟩
                | false =>
                  rw [if_neg (by decide)] at hlo
                  have HOO2 := Lib.hid HOO.out
                  go_wp2_with (at_builtin; go_loud (refine wp_app1c rfl _ _ 41 rfl 46 (.agg #[.int .i64 0, .int .i64 0, .string ByteArray.empty, .int .i64 0]) 4 40 Tryd.underlying41 info_ent rfl (by decide) _ _ _ _ _ (by rfl) (by exact HOO2.out) _ _ _ (by rfl) (by first | rfl | simp) (by rfl) (by intro u hu; simp at hu; rcases hu with rfl | rfl | rfl | rfl <;> rfl) (by omega) (by unfold maxLen; omega) ?_); intro a9 c9 w9 hO9 hG9 hN9; have HO9 := Lib.hid hO9; clear hG9 hN9 hO9)
                  go_ret2
                  exact ⟨a9, _, c9, by rw [HA.out]; rfl, below_step1 HB3b.out HO9.out.below⟩
    · have hm0 : (0 : Int) ≤ (m : Int) := by omega
      have HA : Hid (addable l s id = false) := Lib.hid (addable_no2 (List.any_eq_true.2 ⟨_, List.getElem_mem hlt, hyes⟩))
      clear hyes
      go_wp2
      go_ret2
      exact HQ.out _ HA.out HB2.out
set_option maxRecDepth 1000000 in
set_option maxHeartbeats 6000000 in
theorem specAdd_any (a : Option Addr) (n cap : Nat) (l : List EntL) (s : ByteArray) (id : Int) (w : World) (hr : Rd w a n cap 4 (ens l)) (hs : ∀ x ∈ l, x.name.size ≤ 1073741824) (hss : s.size ≤ 1073741824) :
    Calls Tryd.prog 46 #[.slice a n cap, .string s, .int .i64 id] w (AddTold (dirB l && addable l s id) w) := by
  have hl : l.length = n := by have := hr.len; simp at this; omega
  subst hl
  have hm : l.length ≤ maxLen := Nat.le_trans hr.le hr.max
  unfold maxLen at hm
  have H := Lib.hid hr
  have HSZ := Lib.hid hs
  clear hr hs
  go_enter Tryd.func46, Tryd.ntmps46
  go_wp2_with fail
  refine (specDirOk_any a _ cap l _ H.out HSZ.out).mono ?_
  rintro e w1 ⟨rfl, hb⟩
  have HB1 := Lib.hid hb
  clear hb
  cases hd : dirB l with
  | false =>
    have HD := Lib.hid hd
    clear hd
    go_wp2
    go_ret2
    exact ⟨_, _, _, by rw [HD.out]; rfl, HB1.out.alloc (Nat.le_trans HB1.out.size (Nat.le_refl _)) _⟩
  | true =>
    have hl12 := dir_len l hd
    have HD := Lib.hid hd
    clear hd
    go_wp2_with fail
    refine (l5Copy_any a cap l _ (H.out.below HB1.out (Nat.le_refl _)) (by omega)).mono ?_
    rintro e w2 ⟨p, c, rfl, hO⟩
    have HB2 := Lib.hid (below_step1 HB1.out hO.below)
    have HO2 := Lib.hid hO
    clear hO HB1
    go_wp2_with fail
    refine (l5AddT_any w1.heap.size p c l s id _ HO2.out.row HO2.out.base HSZ.out hss (by omega)).mono ?_
    rintro e w3 ⟨g, n, c3, rfl, hb⟩
    have HB3 := Lib.hid (below_step1 HB2.out hb)
    clear hb
    go_wp2
    go_ret2
    exact ⟨_, _, _, by rw [HD.out]; rfl, HB3.out⟩
/-- What is left where a name is dropped. -/
def DropR (l : List EntL) (s : ByteArray) (out : List EntL) (ok : Bool) : Prop :=
  (ok = false ∧ out = l ∧ ∀ x ∈ l, alikeB x.name s = false) ∨ (ok = true ∧ ∃ (m : Nat) (hm : m < l.length), out = l.eraseIdx m ∧ lookF l s = (l[m], true))
def DropPost (l : List EntL) (s : ByteArray) (w : World) (e : Ending) (w' : World) : Prop :=
  ∃ (out : List EntL) (ok : Bool) (a' : Option Addr) (c' : Nat), e = .returned (.tuple #[.slice a' out.length c', .bool ok]) ∧ (dirB l = false → out = [] ∧ ok = false) ∧ (dirB l = true → DropR l s out ok) ∧ Rd w' a' out.length c' 4 (ens out) ∧ Below w.heap.size w w' ∧ ∀ x, a' = some x → w.heap.size ≤ x.block
set_option maxRecDepth 1000000 in
set_option maxHeartbeats 6000000 in
theorem implDrop_any (a : Option Addr) (n cap : Nat) (l : List EntL) (s : ByteArray) (w : World) (hr : Rd w a n cap 4 (ens l)) (hs : ∀ x ∈ l, x.name.size ≤ 1073741824) (hss : s.size ≤ 1073741824) (hT : KTab w) :
    Calls Tryd.prog 47 #[.slice a n cap, .string s] w (DropPost l s w) := by
  have hl : l.length = n := by have := hr.len; simp at this; omega
  subst hl
  have hm : l.length ≤ maxLen := Nat.le_trans hr.le hr.max
  unfold maxLen at hm
  have H := Lib.hid hr
  have HT := Lib.hid hT
  have HSZ := Lib.hid hs
  clear hr hT hs
  go_enter Tryd.func47, Tryd.ntmps47
  go_wp2_with fail
  refine (implDirOk_any a _ cap l _ H.out HSZ.out HT.out).mono ?_
  rintro e w1 ⟨rfl, hb⟩
  have HB1 := Lib.hid hb
  clear hb
  cases hd : dirB l with
  | false =>
    have HD := Lib.hid hd
    clear hd
    go_wp2
    go_ret2
    exact ⟨[], false, none, 0, rfl, (fun _ => ⟨rfl, rfl⟩), (fun e => by rw [HD.out] at e; cases e), rd_nil4 _, HB1.out, (fun x h => by cases h)⟩
  | true =>
    have hl12 := dir_len l hd
    have HD := Lib.hid hd
    clear hd
    go_wp2_with fail
    refine (copyEnts_any a cap l _ (H.out.below HB1.out (Nat.le_refl _)) (by omega)).mono ?_
    rintro e w2 ⟨p, c, rfl, hO⟩
    have HB2 := Lib.hid (below_step1 HB1.out hO.below)
    have HO2 : Hid (Own 46 4 w.heap.size w (.slice p l.length c) l.length (ens l) w2) := Lib.hid ⟨row_mono hO.row HB1.out.size, HB2.out, HB2.out.size⟩
    clear hO HB1
    go_wp2_with fail
    refine (entAt_any a _ cap l s _ (H.out.below HB2.out (Nat.le_refl _)) HSZ.out hss (HT.out.below HB2.out (Nat.le_refl _))).mono ?_
    rintro e w4 ⟨r, rfl, hE, hb⟩
    have HB4 := Lib.hid (below_step1 HB2.out hb)
    have HO4 := Lib.hid (HO2.out.kept hb)
    clear hb HB2 HO2
    rcases hE with ⟨rfl, hlk⟩ | ⟨m, hlt, rfl, hlk⟩
    · have HLK := Lib.hid (look_no HD.out hlk)
      clear hlk
      go_wp2
      go_ret2
      exact ⟨l, false, p, c, rfl, (fun e => by rw [HD.out] at e; cases e), (fun _ => .inl ⟨rfl, rfl, HLK.out⟩), HO4.out.rd, HO4.out.below, HO4.out.low⟩
    · have HLK := Lib.hid (hlk HD.out)
      have hm0 : (0 : Int) ≤ (m : Int) := by omega
      have hmw : IntKind.i64.wrap ((m : Int) + 1) = (m : Int) + 1 := IntWalk.i64_in _ ⟨by omega, by omega⟩
      clear hlk
      go_wp2_with fail
      refine (delete_any w.heap.size w _ p c l m HO4.out hlt (by omega)).mono ?_
      rintro e w5 ⟨a', c', rfl, hrd, hbe, hlo⟩
      have HRD := Lib.hid hrd
      have HBE := Lib.hid hbe
      have HLO := Lib.hid hlo
      clear hrd hbe hlo
      go_wp2
      go_ret2
      have e9 : (l.eraseIdx m).length = l.length - 1 := List.length_eraseIdx_of_lt hlt
      exact ⟨l.eraseIdx m, true, a', c', by rw [e9]; rfl, (fun e => by rw [HD.out] at e; cases e), (fun _ => .inr ⟨rfl, m, hlt, rfl, HLK.out⟩), by rw [e9]; exact HRD.out, HBE.out, HLO.out⟩
def RespR (l : List EntL) (s : ByteArray) (id : Int) (out : List EntL) (ok : Bool) : Prop :=
  (ok = false ∧ out = l ∧ ∀ x ∈ l, alikeB x.name s = false) ∨ (ok = true ∧ ∃ (m : Nat) (hm : m < l.length), out = l.set m ⟨l[m].hash, l[m].index, s, id⟩ ∧ lookF l s = (l[m], true))
def RespPost (l : List EntL) (s : ByteArray) (id : Int) (w : World) (e : Ending) (w' : World) : Prop :=
  ∃ (out : List EntL) (ok : Bool) (a' : Option Addr) (c' : Nat), e = .returned (.tuple #[.slice a' out.length c', .bool ok]) ∧ (dirB l = true → RespR l s id out ok) ∧ Rd w' a' out.length c' 4 (ens out) ∧ Below w.heap.size w w'
set_option maxRecDepth 1000000 in
set_option maxHeartbeats 6000000 in
theorem implRespell_any (a : Option Addr) (n cap : Nat) (l : List EntL) (s : ByteArray) (id : Int) (w : World) (hr : Rd w a n cap 4 (ens l)) (hs : ∀ x ∈ l, x.name.size ≤ 1073741824) (hss : s.size ≤ 1073741824) (hid : 1 ≤ id ∧ id ≤ 100000) (hT : KTab w) :
    Calls Tryd.prog 48 #[.slice a n cap, .string s, .int .i64 id] w (RespPost l s id w) := by
  have hl : l.length = n := by have := hr.len; simp at this; omega
  subst hl
  have hm : l.length ≤ maxLen := Nat.le_trans hr.le hr.max
  unfold maxLen at hm
  have H := Lib.hid hr
  have HT := Lib.hid hT
  have HSZ := Lib.hid hs
  have HID := Lib.hid hid
  clear hr hT hs hid
  go_enter Tryd.func48, Tryd.ntmps48
  go_wp2_with fail
  refine (implDirOk_any a _ cap l _ H.out HSZ.out HT.out).mono ?_
  rintro e w1 ⟨rfl, hb⟩
  have HB1 := Lib.hid hb
  clear hb
  cases hd : dirB l with
  | false =>
    have HD := Lib.hid hd
    clear hd
    go_wp2
    go_ret2
    exact ⟨[], false, none, 0, rfl, (fun e => by rw [HD.out] at e; cases e), rd_nil4 _, HB1.out⟩
  | true =>
    have hl12 := dir_len l hd
    have HD := Lib.hid hd
    clear hd
    go_wp2_with fail
    refine (copyEnts_any a cap l _ (H.out.below HB1.out (Nat.le_refl _)) (by omega)).mono ?_
    rintro e w2 ⟨p, c, rfl, hO⟩
    have HB2 := Lib.hid (below_step1 HB1.out hO.below)
    have HO2 : Hid (Own 46 4 w.heap.size w (.slice p l.length c) l.length (ens l) w2) := Lib.hid ⟨row_mono hO.row HB1.out.size, HB2.out, HB2.out.size⟩
    clear hO HB1
    go_wp2_with fail
    refine (entAt_any a _ cap l s _ (H.out.below HB2.out (Nat.le_refl _)) HSZ.out hss (HT.out.below HB2.out (Nat.le_refl _))).mono ?_
    rintro e w4 ⟨r, rfl, hE, hb⟩
    have HB4 := Lib.hid (below_step1 HB2.out hb)
    have HO4 := Lib.hid (HO2.out.kept hb)
    clear hb HB2 HO2
    rcases hE with ⟨rfl, hlk⟩ | ⟨m, hlt, rfl, hlk⟩
    · have HLK := Lib.hid (look_no HD.out hlk)
      clear hlk
      go_wp2
      go_ret2
      exact ⟨l, false, p, c, rfl, (fun _ => .inl ⟨rfl, rfl, HLK.out⟩), HO4.out.rd, HO4.out.below⟩
    · have HLK := Lib.hid (hlk HD.out)
      have hm0 : (0 : Int) ≤ (m : Int) := by omega
      have hml : (m : Int) < (l.length : Int) := by omega
      obtain ⟨g, c2, he, -⟩ := HO4.out.shape1 (by omega)
      cases he
      have h2 := HO4.out.cell (m * 4 + 2) (by simp; omega)
      have h3 := HO4.out.cell (m * 4 + 3) (by simp; omega)
      have z2 := HO4.out.free (m * 4 + 2)
      have z3 := HO4.out.free (m * 4 + 3)
      have hgl := World.block_lt_of_cell? _ _ h2
      have e1 : (ens l).set (m * 4 + 2) (.string s) = ens (l.set m ⟨l[m].hash, l[m].index, s, l[m].id⟩) := ens_set l m hlt 2 (by decide) _ _ rfl
      have hlt' : m < (l.set m ⟨l[m].hash, l[m].index, s, l[m].id⟩).length := by rw [List.length_set]; exact hlt
      have e2 : (ens (l.set m ⟨l[m].hash, l[m].index, s, l[m].id⟩)).set (m * 4 + 3) (.int .i64 id) = ens (l.set m ⟨l[m].hash, l[m].index, s, id⟩) := by
        rw [ens_set _ m hlt' 3 (by decide) (.int .i64 id) ⟨l[m].hash, l[m].index, s, id⟩ (by rw [List.getElem_set_self]; rfl), List.set_set]
      have HS : Hid (Own 46 4 w.heap.size w (.slice (some ⟨g, 0, none⟩) l.length c) l.length (ens (l.set m ⟨l[m].hash, l[m].index, s, id⟩)) ((w4.setCell ⟨g, m * 4 + 2, none⟩ (.string s)).setCell ⟨g, m * 4 + 3, none⟩ (.int .i64 id))) := Lib.hid (by
        have := (HO4.out.set (m * 4 + 2) (.string s)).set (m * 4 + 3) (.int .i64 id)
        rw [e1, e2] at this
        exact this)
      generalize (ens l)[m * 4 + 2]'_ = v2 at h2
      generalize (ens l)[m * 4 + 3]'_ = v3 at h3
      clear hlk e1 e2 hlt' HB4 HO4
      go_wp2_with (go_at_call 69; refine (isId_yes id _ HID.out).mono ?_; rintro e w' ⟨rfl, rfl⟩)
      go_ret2
      have e9 : (l.set m ⟨l[m].hash, l[m].index, s, id⟩).length = l.length := List.length_set
      exact ⟨l.set m ⟨l[m].hash, l[m].index, s, id⟩, true, _, c, by rw [e9]; rfl, (fun _ => .inr ⟨rfl, m, hlt, rfl, HLK.out⟩), by rw [e9]; exact HS.out.rd, HS.out.below⟩
def DrewAdd (w : World) (e : Ending) (w' : World) : Prop :=
  ∃ (l : List EntL) (p : Option Addr) (c : Nat) (s : ByteArray) (id : Int), e = .returned (.tuple #[.slice p l.length c, .string s, .int .i64 id]) ∧ l.length ≤ 1000 ∧ (∀ x ∈ l, smallN x) ∧ s.size ≤ 1073741824 ∧ Rd w' p l.length c 4 (ens l) ∧ Below w.heap.size w w'
set_option maxRecDepth 1000000 in
set_option maxHeartbeats 6000000 in
theorem drawAdd_any (a : Option Addr) (n cap : Nat) (bs : List Int) (w : World) (h : Rd w a n cap 1 (bs.map (Value.int .u8))) (hb : ∀ z ∈ bs, 0 ≤ z ∧ z ≤ 255) (hn : n ≤ 1048576) :
    Calls Tryd.prog 44 #[.slice a n cap] w (DrewAdd w) := by
  go_enter Tryd.func44, Tryd.ntmps44
  go_wp2_with fail
  refine (l1New_any a n cap bs _ h hb hn).mono ?_
  rintro e w1 ⟨rfl, hC, hB⟩
  have HC1 := Lib.hid hC
  have HB1 := Lib.hid hB
  have hw1 := hC.lt
  clear hC hB h hb
  generalize (⟨0, newH bs⟩ : CS) = s0 at *
  go_wp2_with fail
  refine (l4Name_any a n cap bs _ s0 _ HC1.out).mono ?_
  rintro e w2 ⟨⟨nm, s2⟩, hnm, rfl, hC, hG⟩
  have HC2 := Lib.hid hC
  have HG2 := Lib.hid hG
  have HB2 := Lib.hid (HB1.out.grown hG HB1.out.size (fun q hq => by cases hq; exact Nat.le_refl _))
  clear hC hG HC1 HB1
  simp only at HC2 hnm ⊢
  go_wp2_with fail
  refine (l1PickInt_any a n cap bs _ s2 _ 6 6 [1, 2, 7, 0, 100000, 100001] _ (HC2.out.alloc _) (by exact lit_rd (news := (ints [1, 2, 7, 0, 100000, 100001]).toArray) rfl (by decide)) (fun x hx => by cases hx; have := HC2.out.lt; show w2.heap.size ≠ w.heap.size; omega) (by omega) (by omega)).mono ?_
  rintro e w3 ⟨rfl, hC, hG⟩
  have hbA := boxA w2 (.cells #[.int .i64 1, .int .i64 2, .int .i64 7, .int .i64 0, .int .i64 100000, .int .i64 100001] 3)
  have HC3 := Lib.hid hC
  have HB3 := Lib.hid ((below_step1 HB2.out hbA).grown hG (below_step1 HB2.out hbA).size (fun q hq => by cases hq; exact Nat.le_refl _))
  clear hC hG HC2 HB2 hbA HG2
  simp only at HC3 ⊢
  generalize (belowF bs 6 s2).2 = s3 at *
  generalize List.getD [(1 : Int), 2, 7, 0, 100000, 100001] (belowF bs 6 s2).1.toNat 0 = id at *
  go_wp2_with fail
  refine (l1Size_any a n cap 25 _ (by omega) (by omega) hn).mono ?_
  rintro e w' ⟨x, rfl, hx0, hx1, rfl⟩
  go_wp2_with fail
  refine (l5Any_any a n cap bs _ _ x _ HC3.out hx0 (by omega)).mono ?_
  rintro e w4 ⟨l, s4, p, c, rfl, hl, hP, hO, hC, hG⟩
  have HBF := Lib.hid (HB3.out.grown hG HB3.out.size (fun q hq => by cases hq; exact Nat.le_refl _))
  have HRD := Lib.hid (Own.rd (W0 := w4) ⟨hO, Below.refl _ _, hG.size⟩)
  clear hO hC hG
  go_wp2
  refine bodyPost_ret (v := .tuple #[.slice p l.length c, .string nm, .int .i64 id]) (by simp [results, Tryd.results44, go_sem]) rfl ?_
  exact ⟨l, p, c, nm, id, rfl, by omega, hP, by omega, HRD.out, HBF.out⟩
theorem dir_law {l : List EntL} {s : ByteArray} {id : Int} {out : List EntL} (hd : dirB l = true) (h : AddR l s id out true) :
    ∃ (eh ei : Int), out.length = l.length + 1 ∧ dirB out = true ∧ (∀ t, alikeB t s = true → lookF out t = (⟨eh, ei, s, id⟩, true)) ∧ lookF out s = (⟨eh, ei, s, id⟩, true) ∧
      (∀ y ok, DropR out s y ok → ok = true ∧ y = l) ∧ (∀ z ok, RespR out s 5 z ok → ok = true ∧ dirB z = true ∧ lookF z s = (⟨eh, ei, s, 5⟩, true)) := by
  have hnm : nameB s = true := ((addable_iff l s id).1 h.1.symm).1
  obtain ⟨k, ⟨eh, ei, en, ed⟩, hk, hen, hed, rfl, hall, hdo, hno⟩ := addR_all hd h
  simp only at hen hed hall
  subst hen
  subst hed
  have hself : alikeB en en = true := by rw [alike_self]; exact hnm
  have hlk : ∀ t, alikeB t en = true → lookF (addL l k ⟨eh, ei, en, ed⟩) t = (⟨eh, ei, en, ed⟩, true) := fun t ht => add_look hk hdo hno t ht
  have hkl : k < (addL l k ⟨eh, ei, en, ed⟩).length := by rw [addL_len l k hk]; omega
  have hat := addL_at l k hk ⟨eh, ei, en, ed⟩
  have hone : ∀ (m : Nat) (hm : m < (addL l k ⟨eh, ei, en, ed⟩).length), lookF (addL l k ⟨eh, ei, en, ed⟩) en = ((addL l k ⟨eh, ei, en, ed⟩)[m], true) → m = k := fun m hm e => by
    rw [hlk en hself, Prod.mk.injEq] at e
    exact dir_once hdo m k hm hkl (e.1.symm.trans hat.symm)
  refine ⟨eh, ei, addL_len l k hk _, hdo, hlk, hlk en hself, ?_, ?_⟩
  · rintro y ok (⟨_, _, h3⟩ | ⟨rfl, m, hm, rfl, he⟩)
    · have := h3 _ (List.getElem_mem hkl)
      rw [hat] at this
      simp only at this
      rw [hself] at this
      cases this
    · obtain rfl := hone m hm he
      exact ⟨rfl, addL_erase l m hk _⟩
  · rintro z ok (⟨_, _, h3⟩ | ⟨rfl, m, hm, rfl, he⟩)
    · have := h3 _ (List.getElem_mem hkl)
      rw [hat] at this
      simp only at this
      rw [hself] at this
      cases this
    · obtain rfl := hone m hm he
      rw [hat, addL_set l m hk]
      have hd5 := hall 5 (by decide) (by decide)
      exact ⟨rfl, hd5, add_look hk hd5 hno en hself⟩
theorem dir_small {l : List EntL} (hd : dirB l = true) : ∀ x ∈ l, x.name.size ≤ 1073741824 := fun x hx => by
  have := nameB_size _ (dir_names l hd x hx)
  omega
theorem Four.cells {w : World} {b : Nat} {u0 u1 u2 u3 : Value} (h : Four w b u0 u1 u2 u3) : w.cell? ⟨b, 0, none⟩ = some u0 ∧ w.cell? ⟨b, 1, none⟩ = some u1 ∧ w.cell? ⟨b, 2, none⟩ = some u2 ∧ w.cell? ⟨b, 3, none⟩ = some u3 := ⟨h.c0, h.c1, h.c2, h.c3⟩
set_option maxRecDepth 1000000 in
set_option maxHeartbeats 6000000 in
theorem lawFnDir_walk (a : Option Addr) (len cap : Nat) (zs0 : List Int) (w : World) (hrow : IsRow .u8 w a len cap zs0) (hT : KTab w) : Calls Tryd.prog 13 #[.slice a len cap] w fun e w' => e = .returned (.bool true) ∧ Below w.heap.size w w' := by
  have hm : len ≤ maxLen := by have h := hrow.rd.1; exact Nat.le_trans h.le h.max
  have HT := Lib.hid hT
  clear hT
  by_cases hs : 1048576 < len
  · clear hrow
    go_enter Tryd.func13, Tryd.ntmps13
    go_wp2_with fail
    refine (big_any_any _ _ _ _ hs hm).mono ?_
    rintro e w' ⟨rfl, rfl⟩
    go_wp2
    go_ret
    exact ⟨rfl, Below.refl _ _⟩
  · obtain ⟨hR, hz⟩ := hrow.rd
    have HR := Lib.hid hR
    have HZ2 : Hid (∀ z ∈ zs0.take len, 0 ≤ z ∧ z ≤ 255) := Lib.hid (fun z hz' => by have := hz z hz'; simpa [Lit.wf, IntKind.min, IntKind.max, IntKind.signed, IntKind.bits] using this)
    have hn : len ≤ 1048576 := by omega
    clear hrow hR hz hs hm
    generalize zs0.take len = zs at *
    go_enter Tryd.func13, Tryd.ntmps13
    go_wp2_with fail
    refine (big_no_any _ _ _ _ hn).mono ?_
    rintro e w' ⟨rfl, rfl⟩
    go_wp2_with fail
    refine (drawAdd_any _ _ _ _ _ HR.out HZ2.out hn).mono ?_
    rintro e w1 ⟨l, p, c, s, id, rfl, hl, hns, hss, hr, hb⟩
    have HB := Lib.hid hb
    have HL := Lib.hid hr
    have HNS : Hid (∀ x ∈ l, x.name.size ≤ 1073741824) := Lib.hid (fun x hx => hns x hx)
    clear hb hr hns
    go_wp2_with fail
    refine (implAdd_any p _ c l s id _ HL.out HNS.out hss (HT.out.step HB.out)).mono ?_
    rintro e w2 ⟨out, ok, pa, ca, rfl, hno, hyes, hrd, hb, -⟩
    have hok : ok = (dirB l && addable l s id) := by
      cases hd : dirB l with
      | false => exact (hno hd).2
      | true => exact (hyes hd).1
    have HSA : Hid (∀ W, Rd W p l.length c 4 (ens l) → Calls Tryd.prog 46 #[.slice p l.length c, .string s, .int .i64 id] W (AddTold ok W)) := Lib.hid (fun W h => by rw [hok]; exact specAdd_any p _ c l s id W h HNS.out hss)
    replace HB := Lib.hid (below_step1 HB.out hb)
    replace HL := Lib.hid (HL.out.below hb (Nat.le_refl _))
    have HX := Lib.hid hrd
    have HNO := Lib.hid hno
    have HYES := Lib.hid hyes
    clear hb hrd hno hyes hok
    go_wp2_with fail
    refine (HSA.out _ HL.out).mono ?_
    rintro e w3 ⟨g, n, c3, rfl, hb⟩
    replace HB := Lib.hid (below_step1 HB.out hb)
    replace HL := Lib.hid (HL.out.below hb (Nat.le_refl _))
    replace HX := Lib.hid (HX.out.below hb (Nat.le_refl _))
    clear hb HSA
    have hne : (ok != ok) = false := by simp
    go_wp2_with fail
    refine (specDirOk_any p _ c l _ HL.out HNS.out).mono ?_
    rintro e w4 ⟨rfl, hb⟩
    replace HB := Lib.hid (below_step1 HB.out hb)
    replace HL := Lib.hid (HL.out.below hb (Nat.le_refl _))
    replace HX := Lib.hid (HX.out.below hb (Nat.le_refl _))
    clear hb hne
    cases hd : dirB l with
    | false =>
      obtain ⟨rfl, rfl⟩ := HNO.out hd
      clear hd
      simp only [List.length_nil]
      go_wp2
      go_ret
      exact ⟨rfl, HB.out⟩
    | true =>
      have hA := HYES.out hd
      cases ok with
      | false =>
        have e0 := hA.2.1 rfl
        subst e0
        clear hd hA HNO HYES
        go_wp2_with fail
        refine (sameDir_yes pa p ca c out _ HX.out HL.out (by omega)).mono ?_
        rintro e w5 ⟨rfl, hb⟩
        replace HB := Lib.hid (below_step1 HB.out hb)
        clear hb
        go_wp2
        go_ret
        exact ⟨rfl, HB.out⟩
      | true =>
        obtain ⟨eh, ei, hlen, hdo, hall, hlk, hdr, hre⟩ := dir_law hd hA
        have HDO := Lib.hid hdo
        have HALL := Lib.hid hall
        have HDR := Lib.hid hdr
        have HRE := Lib.hid hre
        have HNX := Lib.hid (dir_small hdo)
        have HLK : Hid (∀ W, Rd W pa out.length ca 4 (ens out) → KTab W → Calls Tryd.prog 41 #[.slice pa out.length ca, .string s] W fun e w' => e = .returned (.tuple #[.agg #[.int .i64 eh, .int .i64 ei, .string s, .int .i64 id], .bool true]) ∧ Below W.heap.size W w') := Lib.hid (fun W h k => by have := implLook_any pa _ ca out s W h HNX.out hss k; rw [hlk] at this; exact this)
        have HDX : Hid (∀ W, Rd W pa out.length ca 4 (ens out) → Calls Tryd.prog 33 #[.slice pa out.length ca] W fun e w' => e = .returned (.bool true) ∧ Below W.heap.size W w') := Lib.hid (fun W h => by have := specDirOk_any pa _ ca out W h HNX.out; rw [hdo] at this; exact this)
        have HLT : Hid (∀ W t, t.size ≤ 1073741824 → Rd W pa out.length ca 4 (ens out) → KTab W → Calls Tryd.prog 41 #[.slice pa out.length ca, .string t] W fun e w' => e = .returned (.tuple #[enV (lookF out t).1, .bool (lookF out t).2]) ∧ Below W.heap.size W w') := Lib.hid (fun W t ht h k => implLook_any pa _ ca out t W h HNX.out ht k)
        have HDP : Hid (∀ W, Rd W pa out.length ca 4 (ens out) → KTab W → Calls Tryd.prog 47 #[.slice pa out.length ca, .string s] W (DropPost out s W)) := Lib.hid (fun W h k => implDrop_any pa _ ca out s W h HNX.out hss k)
        have HRP : Hid (∀ W, Rd W pa out.length ca 4 (ens out) → KTab W → Calls Tryd.prog 48 #[.slice pa out.length ca, .string s, .int .i64 5] W (RespPost out s 5 W)) := Lib.hid (fun W h k => implRespell_any pa _ ca out s 5 W h HNX.out hss (by decide) k)
        clear hd hA HNO HYES hdo hall hlk hdr hre
        generalize hq : out.length = q at *
        subst hlen
        clear hq
        have hlw : IntKind.i64.wrap ((l.length : Int) + 1) = (l.length : Int) + 1 := IntWalk.i64_in _ ⟨by omega, by omega⟩
        go_wp2_with fail
        refine (drawAlike_any _ _ _ _ _ (HR.out.below HB.out (Nat.le_refl _)) HZ2.out hn).mono ?_
        rintro e w5 ⟨t0, t, rfl, -, hts, hb⟩
        replace HB := Lib.hid (below_step1 HB.out hb)
        replace HL := Lib.hid (HL.out.below hb (Nat.le_refl _))
        replace HX := Lib.hid (HX.out.below hb (Nat.le_refl _))
        clear hb
        go_wp2_with fail
        refine (HLK.out _ HX.out (HT.out.step HB.out)).mono ?_
        rintro e w6 ⟨rfl, hb⟩
        replace HB := Lib.hid (below_step1 HB.out hb)
        replace HL := Lib.hid (HL.out.below hb (Nat.le_refl _))
        replace HX := Lib.hid (HX.out.below hb (Nat.le_refl _))
        clear hb
        have HE := Lib.hid (four_new w6 46 (.int .i64 eh) (.int .i64 ei) (.string s) (.int .i64 id))
        have HBX := Lib.hid (boxA w6 (.cells #[.int .i64 eh, .int .i64 ei, .string s, .int .i64 id] 46))
        go_wp2_with fail
        refine (HDX.out _ (HX.out.below HBX.out (Nat.le_refl _))).mono ?_
        rintro e w7 ⟨rfl, hb⟩
        replace HE := Lib.hid (HE.out.kept hb)
        replace HB := Lib.hid (below_step1 (below_step1 HB.out HBX.out) hb)
        replace HL := Lib.hid (HL.out.below (below_step1 HBX.out hb) (Nat.le_refl _))
        replace HX := Lib.hid (HX.out.below (below_step1 HBX.out hb) (Nat.le_refl _))
        clear hb HBX
        generalize w6.heap.size = E0 at *
        obtain ⟨c0, c1, c2, c3⟩ := HE.out.cells
        have el := HE.out.lt
        cases hal : alikeB t s with
        | true =>
          have HAL := Lib.hid hal
          have HLO : Hid (∀ W, Rd W pa (l.length + 1) ca 4 (ens out) → KTab W → Calls Tryd.prog 41 #[.slice pa (l.length + 1) ca, .string t] W fun e w' => e = .returned (.tuple #[.agg #[.int .i64 eh, .int .i64 ei, .string s, .int .i64 id], .bool true]) ∧ Below W.heap.size W w') := Lib.hid (fun W h k => by have := HLT.out W t (by omega) h k; rw [HALL.out t hal] at this; exact this)
          clear hal HLT HALL
          go_wp2_with fail
          refine (HLO.out _ HX.out (HT.out.step HB.out)).mono ?_
          rintro e w8 ⟨rfl, hb⟩
          replace HE := Lib.hid (HE.out.kept hb)
          replace HB := Lib.hid (below_step1 HB.out hb)
          replace HL := Lib.hid (HL.out.below hb (Nat.le_refl _))
          replace HX := Lib.hid (HX.out.below hb (Nat.le_refl _))
          clear hb c0 c1 c2 c3 el
          have HF := Lib.hid (four_new w8 46 (.int .i64 eh) (.int .i64 ei) (.string s) (.int .i64 id))
          have HBX := Lib.hid (boxA w8 (.cells #[.int .i64 eh, .int .i64 ei, .string s, .int .i64 id] 46))
          go_wp2_with fail
          refine (specAlike_any t s _ (by omega) hss).mono ?_
          rintro e w9 ⟨rfl, hb⟩
          rw [HAL.out]
          replace HF := Lib.hid (HF.out.kept hb)
          replace HE := Lib.hid ((HE.out.kept HBX.out).kept hb)
          replace HB := Lib.hid (below_step1 (below_step1 HB.out HBX.out) hb)
          replace HL := Lib.hid (HL.out.below (below_step1 HBX.out hb) (Nat.le_refl _))
          replace HX := Lib.hid (HX.out.below (below_step1 HBX.out hb) (Nat.le_refl _))
          clear hb HBX
          generalize w8.heap.size = F0 at *
          obtain ⟨c0, c1, c2, c3⟩ := HE.out.cells
          have el := HE.out.lt
          obtain ⟨f0, f1, f2, f3⟩ := HF.out.cells
          have fl := HF.out.lt
          go_wp2_with fail
          refine (HDP.out _ HX.out (HT.out.step HB.out)).mono ?_
          rintro e w10 ⟨y, ok2, py, cy, rfl, -, hy, hrd, hb, -⟩
          obtain ⟨rfl, rfl⟩ := HDR.out y ok2 (hy HDO.out)
          have HY := Lib.hid hrd
          replace HE := Lib.hid (HE.out.kept hb)
          replace HB := Lib.hid (below_step1 HB.out hb)
          replace HL := Lib.hid (HL.out.below hb (Nat.le_refl _))
          replace HX := Lib.hid (HX.out.below hb (Nat.le_refl _))
          clear f0 f1 f2 f3 fl HF
          clear hb hrd hy c0 c1 c2 c3 el HDP HDR
          go_wp2_with fail
          refine (HRP.out _ HX.out (HT.out.step HB.out)).mono ?_
          rintro e w11 ⟨z, ok3, pz, cz, rfl, hz, hrd, hb⟩
          obtain ⟨rfl, hdz, hlz⟩ := HRE.out z ok3 (hz HDO.out)
          have HZR := Lib.hid hrd
          have HNZ := Lib.hid (dir_small hdz)
          have HLZ : Hid (∀ W, Rd W pz z.length cz 4 (ens z) → KTab W → Calls Tryd.prog 41 #[.slice pz z.length cz, .string s] W fun e w' => e = .returned (.tuple #[.agg #[.int .i64 eh, .int .i64 ei, .string s, .int .i64 5], .bool true]) ∧ Below W.heap.size W w') := Lib.hid (fun W h k => by have := implLook_any pz _ cz z s W h HNZ.out hss k; rw [hlz] at this; exact this)
          have HDZ : Hid (∀ W, Rd W pz z.length cz 4 (ens z) → Calls Tryd.prog 33 #[.slice pz z.length cz] W fun e w' => e = .returned (.bool true) ∧ Below W.heap.size W w') := Lib.hid (fun W h => by have := specDirOk_any pz _ cz z W h HNZ.out; rw [hdz] at this; exact this)
          replace HE := Lib.hid (HE.out.kept hb)
          replace HB := Lib.hid (below_step1 HB.out hb)
          replace HL := Lib.hid (HL.out.below hb (Nat.le_refl _))
          replace HY := Lib.hid (HY.out.below hb (Nat.le_refl _))
          clear hb hrd hz hdz hlz HRP HRE HX
          go_wp2_with fail
          refine (HLZ.out _ HZR.out (HT.out.step HB.out)).mono ?_
          rintro e w12 ⟨rfl, hb⟩
          replace HE := Lib.hid (HE.out.kept hb)
          replace HB := Lib.hid (below_step1 HB.out hb)
          replace HL := Lib.hid (HL.out.below hb (Nat.le_refl _))
          replace HY := Lib.hid (HY.out.below hb (Nat.le_refl _))
          replace HZR := Lib.hid (HZR.out.below hb (Nat.le_refl _))
          clear hb
          have HG := Lib.hid (four_new w12 46 (.int .i64 eh) (.int .i64 ei) (.string s) (.int .i64 5))
          have HBX := Lib.hid (boxA w12 (.cells #[.int .i64 eh, .int .i64 ei, .string s, .int .i64 5] 46))
          go_wp2_with fail
          refine (sameDir_yes py p cy c y _ (HY.out.below HBX.out (Nat.le_refl _)) (HL.out.below HBX.out (Nat.le_refl _)) (by omega)).mono ?_
          rintro e w13 ⟨rfl, hb⟩
          replace HG := Lib.hid (HG.out.kept hb)
          replace HE := Lib.hid ((HE.out.kept HBX.out).kept hb)
          replace HB := Lib.hid (below_step1 (below_step1 HB.out HBX.out) hb)
          replace HZR := Lib.hid (HZR.out.below (below_step1 HBX.out hb) (Nat.le_refl _))
          clear hb HBX HY HL
          generalize w12.heap.size = G0 at *
          go_wp2_with fail
          refine (HDZ.out _ HZR.out).mono ?_
          rintro e w14 ⟨rfl, hb⟩
          replace HG := Lib.hid (HG.out.kept hb)
          replace HE := Lib.hid (HE.out.kept hb)
          replace HB := Lib.hid (below_step1 HB.out hb)
          clear hb
          obtain ⟨c0, c1, c2, c3⟩ := HE.out.cells
          have el := HE.out.lt
          obtain ⟨g0, g1, g2, g3⟩ := HG.out.cells
          have gl := HG.out.lt
          go_wp2
          go_ret
          exact ⟨rfl, HB.out⟩
        | false =>
          have HAL := Lib.hid hal
          obtain ⟨R, hR⟩ : ∃ R, R = lookF out t := ⟨_, rfl⟩
          obtain ⟨⟨xh, xi, xn, xd⟩, okx⟩ := R
          have HLO : Hid (∀ W, Rd W pa (l.length + 1) ca 4 (ens out) → KTab W → Calls Tryd.prog 41 #[.slice pa (l.length + 1) ca, .string t] W fun e w' => e = .returned (.tuple #[.agg #[.int .i64 xh, .int .i64 xi, .string xn, .int .i64 xd], .bool okx]) ∧ Below W.heap.size W w') := Lib.hid (fun W h k => by have := HLT.out W t (by omega) h k; rw [← hR] at this; exact this)
          clear hal HLT HALL hR
          go_wp2_with fail
          refine (HLO.out _ HX.out (HT.out.step HB.out)).mono ?_
          rintro e w8 ⟨rfl, hb⟩
          replace HE := Lib.hid (HE.out.kept hb)
          replace HB := Lib.hid (below_step1 HB.out hb)
          replace HL := Lib.hid (HL.out.below hb (Nat.le_refl _))
          replace HX := Lib.hid (HX.out.below hb (Nat.le_refl _))
          clear hb c0 c1 c2 c3 el
          have HBX := Lib.hid (boxA w8 (.cells #[.int .i64 xh, .int .i64 xi, .string xn, .int .i64 xd] 46))
          go_wp2_with fail
          refine (specAlike_any t s _ (by omega) hss).mono ?_
          rintro e w9 ⟨rfl, hb⟩
          rw [HAL.out]
          replace HE := Lib.hid ((HE.out.kept HBX.out).kept hb)
          replace HB := Lib.hid (below_step1 (below_step1 HB.out HBX.out) hb)
          replace HL := Lib.hid (HL.out.below (below_step1 HBX.out hb) (Nat.le_refl _))
          replace HX := Lib.hid (HX.out.below (below_step1 HBX.out hb) (Nat.le_refl _))
          clear hb HBX
          obtain ⟨c0, c1, c2, c3⟩ := HE.out.cells
          have el := HE.out.lt
          go_wp2_with fail
          refine (HDP.out _ HX.out (HT.out.step HB.out)).mono ?_
          rintro e w10 ⟨y, ok2, py, cy, rfl, -, hy, hrd, hb, -⟩
          obtain ⟨rfl, rfl⟩ := HDR.out y ok2 (hy HDO.out)
          have HY := Lib.hid hrd
          replace HE := Lib.hid (HE.out.kept hb)
          replace HB := Lib.hid (below_step1 HB.out hb)
          replace HL := Lib.hid (HL.out.below hb (Nat.le_refl _))
          replace HX := Lib.hid (HX.out.below hb (Nat.le_refl _))
          skip
          clear hb hrd hy c0 c1 c2 c3 el HDP HDR
          go_wp2_with fail
          refine (HRP.out _ HX.out (HT.out.step HB.out)).mono ?_
          rintro e w11 ⟨z, ok3, pz, cz, rfl, hz, hrd, hb⟩
          obtain ⟨rfl, hdz, hlz⟩ := HRE.out z ok3 (hz HDO.out)
          have HZR := Lib.hid hrd
          have HNZ := Lib.hid (dir_small hdz)
          have HLZ : Hid (∀ W, Rd W pz z.length cz 4 (ens z) → KTab W → Calls Tryd.prog 41 #[.slice pz z.length cz, .string s] W fun e w' => e = .returned (.tuple #[.agg #[.int .i64 eh, .int .i64 ei, .string s, .int .i64 5], .bool true]) ∧ Below W.heap.size W w') := Lib.hid (fun W h k => by have := implLook_any pz _ cz z s W h HNZ.out hss k; rw [hlz] at this; exact this)
          have HDZ : Hid (∀ W, Rd W pz z.length cz 4 (ens z) → Calls Tryd.prog 33 #[.slice pz z.length cz] W fun e w' => e = .returned (.bool true) ∧ Below W.heap.size W w') := Lib.hid (fun W h => by have := specDirOk_any pz _ cz z W h HNZ.out; rw [hdz] at this; exact this)
          replace HE := Lib.hid (HE.out.kept hb)
          replace HB := Lib.hid (below_step1 HB.out hb)
          replace HL := Lib.hid (HL.out.below hb (Nat.le_refl _))
          replace HY := Lib.hid (HY.out.below hb (Nat.le_refl _))
          clear hb hrd hz hdz hlz HRP HRE HX
          go_wp2_with fail
          refine (HLZ.out _ HZR.out (HT.out.step HB.out)).mono ?_
          rintro e w12 ⟨rfl, hb⟩
          replace HE := Lib.hid (HE.out.kept hb)
          replace HB := Lib.hid (below_step1 HB.out hb)
          replace HL := Lib.hid (HL.out.below hb (Nat.le_refl _))
          replace HY := Lib.hid (HY.out.below hb (Nat.le_refl _))
          replace HZR := Lib.hid (HZR.out.below hb (Nat.le_refl _))
          clear hb
          have HG := Lib.hid (four_new w12 46 (.int .i64 eh) (.int .i64 ei) (.string s) (.int .i64 5))
          have HBX := Lib.hid (boxA w12 (.cells #[.int .i64 eh, .int .i64 ei, .string s, .int .i64 5] 46))
          go_wp2_with fail
          refine (sameDir_yes py p cy c y _ (HY.out.below HBX.out (Nat.le_refl _)) (HL.out.below HBX.out (Nat.le_refl _)) (by omega)).mono ?_
          rintro e w13 ⟨rfl, hb⟩
          replace HG := Lib.hid (HG.out.kept hb)
          replace HE := Lib.hid ((HE.out.kept HBX.out).kept hb)
          replace HB := Lib.hid (below_step1 (below_step1 HB.out HBX.out) hb)
          replace HZR := Lib.hid (HZR.out.below (below_step1 HBX.out hb) (Nat.le_refl _))
          clear hb HBX HY HL
          generalize w12.heap.size = G0 at *
          go_wp2_with fail
          refine (HDZ.out _ HZR.out).mono ?_
          rintro e w14 ⟨rfl, hb⟩
          replace HG := Lib.hid (HG.out.kept hb)
          replace HE := Lib.hid (HE.out.kept hb)
          replace HB := Lib.hid (below_step1 HB.out hb)
          clear hb
          obtain ⟨c0, c1, c2, c3⟩ := HE.out.cells
          have el := HE.out.lt
          obtain ⟨g0, g1, g2, g3⟩ := HG.out.cells
          have gl := HG.out.lt
          go_wp2
          go_ret
          exact ⟨rfl, HB.out⟩
end Go.Proofs.YtgoodpphinakaaaDoor
