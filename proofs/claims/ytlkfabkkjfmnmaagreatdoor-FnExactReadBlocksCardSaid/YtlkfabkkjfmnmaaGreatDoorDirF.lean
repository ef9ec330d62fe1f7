/- A right directory, in plain Lean. -/
import Derived.Test.YtlkfabkkjfmnmaaGreatDoorBehind
namespace Go.Proofs.YtlkfabkkjfmnmaaGreatDoor
open Go.RowKit

def EntL.row (x : EntL) : Bool := nameB x.name && decide (hashF x.name = x.hash) && decide (0 ≤ x.index ∧ x.index ≤ 12) && decide (1 ≤ x.id ∧ x.id ≤ 100000)
def apartB (l : List EntL) (i : Nat) (x : EntL) : Bool := !(l.take i).any (fun d => alikeB d.name x.name)
def afterB (l : List EntL) (i : Nat) (x : EntL) : Bool := i == 0 || lessH (l.getD (i - 1) zEnt).hash (l.getD (i - 1) zEnt).index x.hash x.index
def entOk (l : List EntL) (i : Nat) : Bool := (l.getD i zEnt).row && afterB l i (l.getD i zEnt) && apartB l i (l.getD i zEnt)
def dirUp (l : List EntL) (i : Nat) : Bool := (List.range i).all (entOk l)
def dirB (l : List EntL) : Bool := decide (l.length ≤ 12) && dirUp l l.length
theorem getD_ent (l : List EntL) (i : Nat) (h : i < l.length) : l.getD i zEnt = l[i] := by rw [List.getD_eq_getElem?_getD, List.getElem?_eq_getElem h]; rfl
theorem dirUp_succ (l : List EntL) (i : Nat) : dirUp l (i + 1) = (dirUp l i && entOk l i) := by unfold dirUp; rw [List.range_succ, List.all_append]; simp
theorem dirUp_no (l : List EntL) (i n : Nat) (h : i < n) (he : entOk l i = false) : dirUp l n = false := by
  unfold dirUp
  rw [List.all_eq_false]
  exact ⟨i, List.mem_range.2 h, by rw [he]; decide⟩
theorem dirB_no (l : List EntL) (i : Nat) (h : i < l.length) (he : entOk l i = false) : dirB l = false := by unfold dirB; rw [dirUp_no l i _ h he, Bool.and_false]
theorem dirUp_at (l : List EntL) (n : Nat) (h : dirUp l n = true) (i : Nat) (hi : i < n) : entOk l i = true := by
  unfold dirUp at h
  exact List.all_eq_true.1 h i (List.mem_range.2 hi)
theorem row_name {x : EntL} (h : x.row = true) : nameB x.name = true := by unfold EntL.row at h; simp only [Bool.and_eq_true] at h; exact h.1.1.1
theorem entOk_row {l : List EntL} {i : Nat} (h : entOk l i = true) : (l.getD i zEnt).row = true := by unfold entOk at h; simp only [Bool.and_eq_true] at h; exact h.1.1
/-- The names ahead are right names: so are their keys the keys that the program keeps. -/
theorem keys_among (l : List EntL) (i : Nat) (hi : i ≤ l.length) (h : dirUp l i = true) (x : EntL) (hx : nameB x.name = true) :
    amongB ((l.take i).map fun d => keyS d.name) (keyS x.name) = (l.take i).any (fun d => alikeB d.name x.name) := by
  have hall : ∀ d ∈ l.take i, nameB d.name = true := by
    intro d hd
    obtain ⟨j, hj, e⟩ := List.mem_iff_getElem.1 hd
    have hji : j < i := by have := hj; rw [List.length_take] at this; omega
    have h1 := entOk_row (dirUp_at l i h j hji)
    rw [getD_ent l j (by omega)] at h1
    rw [List.getElem_take] at e
    rw [← e]
    exact row_name h1
  unfold amongB
  rw [List.any_map]
  generalize l.take i = m at hall
  induction m with
  | nil => rfl
  | cons d m ih =>
    rw [List.any_cons, List.any_cons, ih (fun d hd => hall d (List.mem_cons_of_mem _ hd))]
    congr 1
    show ((keyS x.name).toList == (keyS d.name).toList) = alikeB d.name x.name
    unfold alikeB
    rw [hall d (List.mem_cons_self ..), hx]
    simp only [Bool.true_and]
    exact Bool.eq_iff_iff.2 (by simp only [beq_iff_eq]; exact eq_comm)
theorem entOk_eq (l : List EntL) (i : Nat) (h : i < l.length) : entOk l i = (l[i].row && afterB l i l[i] && apartB l i l[i]) := by unfold entOk; rw [getD_ent l i h]
theorem entOk_row_no (l : List EntL) (i : Nat) (h : i < l.length) (e : l[i].row = false) : entOk l i = false := by rw [entOk_eq l i h, e]; rfl
theorem entOk_after_no (l : List EntL) (i : Nat) (h : i < l.length) (e : afterB l i l[i] = false) : entOk l i = false := by rw [entOk_eq l i h, e]; simp
theorem entOk_apart_no (l : List EntL) (i : Nat) (h : i < l.length) (e : apartB l i l[i] = false) : entOk l i = false := by rw [entOk_eq l i h, e]; simp
set_option maxRecDepth 1000000 in
set_option maxHeartbeats 6000000 in
theorem entOk_yes (l : List EntL) (i : Nat) (h : i < l.length) (e1 : l[i].row = true) (e2 : afterB l i l[i] = true) (e3 : apartB l i l[i] = true) : entOk l i = true := by rw [entOk_eq l i h, e1, e2, e3]; rfl
theorem afterB_succ (l : List EntL) (i : Nat) (h : i < l.length) (x : EntL) : afterB l (i + 1) x = lessH l[i].hash l[i].index x.hash x.index := by
  unfold afterB
  rw [Nat.add_sub_cancel, getD_ent l i h]
  rfl
theorem row_no1 {x : EntL} (h : nameB x.name = false) : x.row = false := by unfold EntL.row; rw [h]; rfl
theorem row_no2 {x : EntL} (h : ¬ hashF x.name = x.hash) : x.row = false := by unfold EntL.row; rw [decide_eq_false h]; simp
theorem row_no3 {x : EntL} (h : x.index < 0 ∨ 12 < x.index) : x.row = false := by unfold EntL.row; rw [decide_eq_false (show ¬ (0 ≤ x.index ∧ x.index ≤ 12) by omega)]; simp
theorem row_no4 {x : EntL} (h : x.id < 1 ∨ 100000 < x.id) : x.row = false := by unfold EntL.row; rw [decide_eq_false (show ¬ (1 ≤ x.id ∧ x.id ≤ 100000) by omega)]; simp
set_option maxRecDepth 1000000 in
set_option maxHeartbeats 6000000 in
theorem row_yes {x : EntL} (h1 : nameB x.name = true) (h2 : hashF x.name = x.hash) (h3 : 0 ≤ x.index ∧ x.index ≤ 12) (h4 : 1 ≤ x.id ∧ x.id ≤ 100000) : x.row = true := by unfold EntL.row; rw [h1, decide_eq_true h2, decide_eq_true h3, decide_eq_true h4]; rfl
theorem apart_no (l : List EntL) (k m : Nat) (hm : m < k) (hk : k ≤ l.length) (x : EntL) (e : alikeB (l[m]'(by omega)).name x.name = true) : apartB l k x = false := by
  unfold apartB
  rw [List.any_eq_true.2 ⟨l[m]'(by omega), ?_, e⟩]
  · rfl
  · rw [List.mem_iff_getElem]
    exact ⟨m, by rw [List.length_take]; omega, by rw [List.getElem_take]⟩
set_option maxRecDepth 1000000 in
set_option maxHeartbeats 6000000 in
theorem apart_yes (l : List EntL) (k : Nat) (x : EntL) (e : (l.take k).any (fun d => alikeB d.name x.name) = false) : apartB l k x = true := by unfold apartB; rw [e]; rfl
theorem any_next (l : List EntL) (m : Nat) (hm : m < l.length) (p : EntL → Bool) (h : (l.take m).any p = false) (e : p l[m] = false) : (l.take (m + 1)).any p = false := by
  rw [List.take_succ_eq_append_getElem hm, List.any_append, h, List.any_cons, e]; rfl
end Go.Proofs.YtlkfabkkjfmnmaaGreatDoor
