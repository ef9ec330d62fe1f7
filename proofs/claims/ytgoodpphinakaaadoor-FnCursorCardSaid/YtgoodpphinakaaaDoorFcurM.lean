/- One text of CurF CurW Fcur. (Printed by merge.py.) -/
import Derived.Test.YtgoodpphinakaaaDoorFdB
import Derived.Laws.StructEq
import Derived.Deep.CutBlock
namespace Go.Proofs.YtgoodpphinakaaaDoor
open Go.RowKit

def sameE (x y : EntL) : Bool := x.hash == y.hash && x.index == y.index && x.name.toList == y.name.toList && x.id == y.id
theorem sameE_iff (x y : EntL) : sameE x y = true ↔ x = y := by
  obtain ⟨a, b, c, d⟩ := x
  obtain ⟨a', b', c', d'⟩ := y
  unfold sameE
  simp only [Bool.and_eq_true, beq_iff_eq, EntL.mk.injEq]
  constructor
  · rintro ⟨⟨⟨h1, h2⟩, h3⟩, h4⟩
    exact ⟨h1, h2, toList_inj h3, h4⟩
  · rintro ⟨rfl, rfl, rfl, rfl⟩
    exact ⟨⟨⟨rfl, rfl⟩, rfl⟩, rfl⟩
theorem sameE_self (x : EntL) : sameE x x = true := (sameE_iff x x).2 rfl
set_option maxRecDepth 1000000 in
set_option maxHeartbeats 6000000 in
/-- What a look finds is an entry of the directory. -/
theorem pickF_yes {l : List EntL} {p : EntL → Bool} {x : EntL} (h : pickF l p = (x, true)) : dirB l = true ∧ ∃ (m : Nat) (hm : m < l.length), x = l[m] ∧ p l[m] = true ∧ (l.take m).any p = false := by
  cases hd : dirB l with
  | false => rw [pickF_no l p hd, Prod.mk.injEq] at h; exact absurd h.2 (by decide)
  | true =>
    refine ⟨rfl, ?_⟩
    unfold pickF at h
    rw [if_pos hd] at h
    cases hf : l.find? p with
    | none => rw [hf] at h; simp only [Prod.mk.injEq] at h; exact absurd h.2 (by decide)
    | some y =>
      rw [hf] at h
      simp only [Prod.mk.injEq] at h
      obtain ⟨rfl, -⟩ := h
      obtain ⟨hy, xs, ys, rfl, hno⟩ := List.find?_eq_some_iff_append.1 hf
      refine ⟨xs.length, by simp, by simp, by simpa using hy, ?_⟩
      rw [List.take_left, List.any_eq_false]
      intro a ha
      have := hno a ha
      simpa using this
theorem pickF_un {l : List EntL} {p : EntL → Bool} {x : EntL} (hd : dirB l = true) (h : pickF l p = (x, false)) : x = zEnt ∧ l.any p = false := by
  unfold pickF at h
  rw [if_pos hd] at h
  cases hf : l.find? p with
  | none =>
    rw [hf] at h
    simp only [Prod.mk.injEq] at h
    refine ⟨h.1.symm, ?_⟩
    rw [List.any_eq_false]
    exact List.find?_eq_none.1 hf
  | some y => rw [hf] at h; simp only [Prod.mk.injEq] at h; exact absurd h.2 (by decide)
/-- What is known of the one who goes through. -/
structure CurI (d all ever seen : List EntL) (H K : Int) : Prop where
  dir : dirB d = true
  allD : ∀ x ∈ all, x ∈ d
  dEver : ∀ x ∈ d, x ∈ ever
  up : seen.Pairwise ahead
  pass : ∀ x ∈ seen, lessH H K x.hash x.index = false
  met : ∀ x ∈ all, lessH H K x.hash x.index = false → x ∈ seen
  was : ∀ x ∈ seen, x ∈ ever
theorem curI_start {d : List EntL} (hd : dirB d = true) : CurI d d d [] (-1) (-1) := by
  refine ⟨hd, fun x h => h, fun x h => h, List.Pairwise.nil, fun x h => (by cases h), ?_, fun x h => (by cases h)⟩
  intro x hx h
  obtain ⟨j, hj, rfl⟩ := List.mem_iff_getElem.1 hx
  have := dir_hash d hd j hj
  rw [lessH_lt (by omega)] at h
  exact absurd h (by decide)
theorem CurI.next {d all ever seen : List EntL} {H K : Int} (h : CurI d all ever seen H K) {x : EntL} (hx : nextF d H K = (x, true)) :
    CurI d all ever (seen ++ [x]) x.hash x.index ∧ lessH H K x.hash x.index = true ∧ x ∈ d := by
  obtain ⟨hd, m, hm, rfl, hp, hno⟩ := pickF_yes hx
  have hp : lessH H K d[m].hash d[m].index = true := hp
  have hmem : d[m] ∈ d := List.getElem_mem hm
  have hup : ∀ y, lessH H K y.hash y.index = false → ahead y d[m] := by
    intro y hy
    unfold ahead
    rw [← Bool.not_eq_true, lessH_iff] at hy
    rw [lessH_iff] at hp ⊢
    omega
  have hirr : ∀ y, ahead y d[m] → lessH d[m].hash d[m].index y.hash y.index = false := by
    intro y hy
    unfold ahead at hy
    rw [← Bool.not_eq_true, lessH_iff]
    rw [lessH_iff] at hy
    omega
  refine ⟨⟨hd, h.allD, h.dEver, ?_, ?_, ?_, ?_⟩, hp, hmem⟩
  · rw [List.pairwise_append]
    refine ⟨h.up, List.pairwise_singleton .., ?_⟩
    intro a ha b hb
    rw [List.mem_singleton] at hb
    subst hb
    exact hup a (h.pass a ha)
  · intro y hy
    rcases List.mem_append.1 hy with hy | hy
    · exact hirr y (hup y (h.pass y hy))
    · rw [List.mem_singleton] at hy
      subst hy
      rw [← Bool.not_eq_true, lessH_iff]
      omega
  · intro y hy hpass
    rw [List.mem_append]
    cases hq : lessH H K y.hash y.index with
    | false => exact .inl (h.met y hy hq)
    | true =>
      obtain ⟨j, hj, rfl⟩ := List.mem_iff_getElem.1 (h.allD y hy)
      rcases Nat.lt_trichotomy j m with hjm | hjm | hjm
      · rw [List.any_eq_false] at hno
        exact absurd hq (hno d[j] (List.mem_iff_getElem.2 ⟨j, by rw [List.length_take]; omega, by rw [List.getElem_take]⟩))
      · subst hjm
        exact .inr (List.mem_singleton.2 rfl)
      · obtain ⟨q, rfl⟩ : ∃ q, j = m + q + 1 := ⟨j - m - 1, by omega⟩
        rw [dir_lt d hd m q hj] at hpass
        exact absurd hpass (by decide)
  · intro y hy
    rcases List.mem_append.1 hy with hy | hy
    · exact h.was y hy
    · rw [List.mem_singleton] at hy
      subst hy
      exact h.dEver _ hmem
/-- Those that are still found as they were. -/
def keepE (d : List EntL) (x : EntL) : Bool := (lookF d x.name).2 && sameE (lookF d x.name).1 x
theorem keepE_mem {d : List EntL} {x : EntL} (h : keepE d x = true) : x ∈ d := by
  unfold keepE at h
  rw [Bool.and_eq_true, sameE_iff] at h
  obtain ⟨h1, h2⟩ := h
  obtain ⟨_, m, hm, e, _⟩ := pickF_yes (l := d) (p := fun y => alikeB y.name x.name) (x := x) (by
    show lookF d x.name = (x, true)
    rw [← h1]
    exact Prod.ext h2 rfl)
  rw [e]
  exact List.getElem_mem hm
theorem CurI.turn {d all ever seen : List EntL} {H K : Int} (h : CurI d all ever seen H K) (out ever' : List EntL) (ho : dirB out = true) (h1 : ∀ x ∈ out, x ∈ ever') (h2 : ∀ x ∈ ever, x ∈ ever') :
    CurI out (all.filter (keepE out)) ever' seen H K := by
  refine ⟨ho, ?_, h1, h.up, h.pass, ?_, fun x hx => h2 x (h.was x hx)⟩
  · intro x hx
    exact keepE_mem (List.mem_filter.1 hx).2
  · intro x hx
    exact h.met x (List.mem_filter.1 hx).1
theorem CurI.add {d all ever seen : List EntL} {H K : Int} (h : CurI d all ever seen H K) {s : ByteArray} {id : Int} {out : List EntL} (ha : AddR d s id out true) :
    dirB out = true ∧ ∃ e : EntL, lookF out s = (e, true) ∧ e ∈ out ∧ e.name = s ∧ CurI out (all.filter (keepE out)) (ever ++ [e]) seen H K := by
  have hnm : nameB s = true := ((addable_iff d s id).1 ha.1.symm).1
  obtain ⟨k, e, hk, hen, hed, rfl, hall, hdo, hno⟩ := addR_all h.dir ha
  have hself : alikeB s e.name = true := by rw [hen, alike_self]; exact hnm
  refine ⟨hdo, e, add_look hk hdo (by rw [hen]; exact hno) s hself, ?_, hen, h.turn _ _ hdo ?_ (fun x hx => List.mem_append.2 (.inl hx))⟩
  · unfold addL
    exact List.mem_append.2 (.inr (List.mem_cons_self ..))
  · intro x hx
    unfold addL at hx
    rw [List.mem_append]
    rcases List.mem_append.1 hx with hx | hx
    · exact .inl (h.dEver x (List.mem_of_mem_take hx))
    · rcases List.mem_cons.1 hx with rfl | hx
      · exact .inr (List.mem_singleton.2 rfl)
      · exact .inl (h.dEver x (List.mem_of_mem_drop hx))
theorem CurI.same {d all ever seen : List EntL} {H K : Int} (h : CurI d all ever seen H K) : CurI d (all.filter (keepE d)) ever seen H K :=
  h.turn d ever h.dir h.dEver (fun x hx => hx)
theorem dirB_sub {l m : List EntL} (hd : dirB l = true) (h : m.Sublist l) : dirB m = true := by
  obtain ⟨h1, h2, h3⟩ := (dir_iff l).1 hd
  rw [dir_iff]
  exact ⟨Nat.le_trans h.length_le h1, fun x hx => h2 x (h.subset hx), h3.sublist h⟩
theorem dropR_sub {l : List EntL} {s : ByteArray} {out : List EntL} {ok : Bool} (h : DropR l s out ok) : out.Sublist l := by
  rcases h with ⟨_, rfl, _⟩ | ⟨_, m, hm, rfl, _⟩
  · exact List.Sublist.refl _
  · exact List.eraseIdx_sublist ..
theorem CurI.drop {d all ever seen : List EntL} {H K : Int} (h : CurI d all ever seen H K) {s : ByteArray} {out : List EntL} {ok : Bool} (ha : DropR d s out ok) : CurI out (all.filter (keepE out)) ever seen H K :=
  h.turn out ever (dirB_sub h.dir (dropR_sub ha)) (fun x hx => h.dEver x ((dropR_sub ha).subset hx)) (fun x hx => hx)
/-- How many are still behind the cursor. -/
def behindN (d : List EntL) (H K : Int) : Nat := d.countP (fun x => lessH H K x.hash x.index)
theorem behindN_le {d : List EntL} (hd : dirB d = true) (H K : Int) : behindN d H K ≤ 12 := Nat.le_trans List.countP_le_length (dir_len d hd)
theorem countP_lt (l : List EntL) (p q : EntL → Bool) (hpq : ∀ x ∈ l, q x = true → p x = true) (x : EntL) (hx : x ∈ l) (h1 : p x = true) (h2 : q x = false) : l.countP q + 1 ≤ l.countP p := by
  induction l with
  | nil => cases hx
  | cons y l ih =>
    have hle : l.countP q ≤ l.countP p := List.countP_mono_left (fun z hz => hpq z (List.mem_cons_of_mem _ hz))
    rw [List.countP_cons, List.countP_cons]
    rcases List.mem_cons.1 hx with rfl | hx
    · rw [if_pos h1, if_neg (by rw [h2]; decide)]
      omega
    · have := ih (fun z hz => hpq z (List.mem_cons_of_mem _ hz)) hx
      by_cases hq : q y = true
      · rw [if_pos hq, if_pos (hpq y (List.mem_cons_self ..) hq)]
        omega
      · rw [if_neg hq]
        split <;> omega
theorem behind_hit {d : List EntL} {H K : Int} {x : EntL} (hx : x ∈ d) (h : lessH H K x.hash x.index = true) : behindN d x.hash x.index + 1 ≤ behindN d H K := by
  refine countP_lt d _ _ ?_ x hx h ?_
  · intro y _ hy
    have hy : lessH x.hash x.index y.hash y.index = true := hy
    show lessH H K y.hash y.index = true
    rw [lessH_iff] at *
    omega
  · rw [← Bool.not_eq_true, lessH_iff]
    omega
theorem behind_none {d : List EntL} {H K : Int} (h : behindN d H K = 0) : nextF d H K = (zEnt, false) := by
  refine pickF_none d _ ?_
  unfold behindN at h
  rw [List.countP_eq_zero] at h
  rw [List.any_eq_false]
  exact h
theorem none_behind {d : List EntL} {H K : Int} (hd : dirB d = true) {x : EntL} (h : nextF d H K = (x, false)) : x = zEnt ∧ behindN d H K = 0 := by
  obtain ⟨h1, h2⟩ := pickF_un hd h
  refine ⟨h1, ?_⟩
  unfold behindN
  rw [List.countP_eq_zero]
  rw [List.any_eq_false] at h2
  exact h2
theorem count_one (l : List EntL) (h : l.Pairwise ahead) (x : EntL) (hx : x ∈ l) : l.countP (fun s => sameE s x) = 1 := by
  induction l with
  | nil => cases hx
  | cons y l ih =>
    rw [List.pairwise_cons] at h
    rw [List.countP_cons]
    rcases List.mem_cons.1 hx with rfl | hx
    · rw [if_pos (sameE_self x)]
      have : l.countP (fun s => sameE s x) = 0 := by
        rw [List.countP_eq_zero]
        intro s hs e
        rw [sameE_iff] at e
        subst e
        exact ahead_irr _ (h.1 s hs)
      omega
    · rw [ih h.2 hx, if_neg]
      intro e
      rw [sameE_iff] at e
      subst e
      exact ahead_irr _ (h.1 y hx)
/-- At the end each that was there all the time is met once. -/
theorem CurI.once {d all ever seen : List EntL} {H K : Int} (h : CurI d all ever seen H K) (h0 : behindN d H K = 0) (x : EntL) (hx : x ∈ all) : seen.countP (fun s => sameE s x) = 1 := by
  refine count_one seen h.up x (h.met x hx ?_)
  unfold behindN at h0
  rw [List.countP_eq_zero] at h0
  have := h0 x (h.allD x hx)
  simpa using this
theorem CurI.ever {d all ever seen : List EntL} {H K : Int} (h : CurI d all ever seen H K) (x : EntL) (hx : x ∈ seen) : ever.any (fun e => sameE e x) = true :=
  List.any_eq_true.2 ⟨x, h.was x hx, sameE_self x⟩
theorem CurI.row {d all ever seen : List EntL} {H K : Int} (h : CurI d all ever seen H K) (x : EntL) (hx : x ∈ d) : 0 ≤ x.hash ∧ x.hash ≤ 15 ∧ 0 ≤ x.index ∧ x.index ≤ 12 := by
  have hr := ((dir_iff d).1 h.dir).2.1 x hx
  unfold EntL.row at hr
  simp only [Bool.and_eq_true, decide_eq_true_eq] at hr
  have h2 := hash_rangeF x.name hr.1.1.1
  omega
theorem filter_next (l : List EntL) (p : EntL → Bool) (m : Nat) (h : m < l.length) : (l.take (m + 1)).filter p = (l.take m).filter p ++ (if p l[m] then [l[m]] else []) := by
  rw [List.take_succ_eq_append_getElem h, List.filter_append]
  congr 1
  rw [List.filter_cons]
  split <;> rfl
theorem countP_next (l : List EntL) (p : EntL → Bool) (m : Nat) (h : m < l.length) : (l.take (m + 1)).countP p = (l.take m).countP p + (if p l[m] then 1 else 0) := by
  rw [List.take_succ_eq_append_getElem h, List.countP_append]
  congr 1
  rw [List.countP_cons]
  simp
theorem anyE_next (l : List EntL) (p : EntL → Bool) (m : Nat) (h : m < l.length) : (l.take (m + 1)).any p = ((l.take m).any p || p l[m]) := by
  rw [List.take_succ_eq_append_getElem h, List.any_append]
  simp
theorem eqlin_ent (x y : EntL) (w : World) : (Op.equalIn 10000 46 (.agg #[.int .i64 x.hash, .int .i64 x.index, .string x.name, .int .i64 x.id]) (.agg #[.int .i64 y.hash, .int .i64 y.index, .string y.name, .int .i64 y.id])).run Tryd.prog w = .ok (sameE x y) w := by
  obtain ⟨a, b, c, d⟩ := x
  obtain ⟨a', b', c', d'⟩ := y
  simp only
  have u3 := Tryd.underlying3
  have a3 := Tryd.isAgg3
  have z3 := Tryd.sizeOf3
  have u9 := Tryd.underlying9
  have a9 := Tryd.isAgg9
  have z9 := Tryd.sizeOf9
  have hS : Tryd.prog.underlying 46 = some (.struct (Tryd.prog.fieldsOf 46)) := by kernel_rfl
  have hp : Tryd.prog.stoodInHeld 46 = false := by kernel_rfl
  rw [show (10000 : Nat) = 9999 + 1 from rfl, run_equalIn_agg (w := w) 9999 46 _ _ hS hp]
  simp only [Program.fieldsOf, Tryd.underlying46]
  unfold sameE
  go_simp
  by_cases h1 : a = a' <;> by_cases h2 : b = b' <;> by_cases h3 : c.toList = c'.toList <;> by_cases h4 : d = d' <;> simp [h1, h2, h3, h4]

/-- What lies in memory of the one who goes through. -/
structure CurW (B : Nat) (W0 : World) (d all ever seen : List EntL) (pd pa pe ps : Option Addr) (cd ca ce cs : Nat) (w : World) : Prop where
  dR : Rd w pd d.length cd 4 (ens d)
  aR : Rd w pa all.length ca 4 (ens all)
  eO : Own 46 4 B W0 (.slice pe ever.length ce) ever.length (ens ever) w
  sO : Own 46 4 B W0 (.slice ps seen.length cs) seen.length (ens seen) w
  de : ∀ x, pd = some x → 0 < d.length → (Value.slice pe ever.length ce).ownBlock ≠ some x.block
  ds : ∀ x, pd = some x → 0 < d.length → (Value.slice ps seen.length cs).ownBlock ≠ some x.block
  ae : ∀ x, pa = some x → 0 < all.length → (Value.slice pe ever.length ce).ownBlock ≠ some x.block
  as' : ∀ x, pa = some x → 0 < all.length → (Value.slice ps seen.length cs).ownBlock ≠ some x.block
  es : ∀ k, (Value.slice pe ever.length ce).ownBlock = some k → (Value.slice ps seen.length cs).ownBlock ≠ some k
section
variable {B : Nat} {W0 w : World} {d all ever seen : List EntL} {pd pa pe ps : Option Addr} {cd ca ce cs : Nat}
theorem CurW.kept (h : CurW B W0 d all ever seen pd pa pe ps cd ca ce cs w) {w' : World} (hb : Below w.heap.size w w') : CurW B W0 d all ever seen pd pa pe ps cd ca ce cs w' :=
  ⟨h.dR.below hb (Nat.le_refl _), h.aR.below hb (Nat.le_refl _), h.eO.kept hb, h.sO.kept hb, h.de, h.ds, h.ae, h.as', h.es⟩
theorem rd_low {a : Option Addr} {n c size : Nat} {xs : List Value} (h : Rd w a n c size xs) : ∀ x, a = some x → 0 < n → x.block < w.heap.size := by
  intro x hx h0
  obtain ⟨b, off, rfl, hlt, _⟩ := h.at' h0
  cases hx
  exact hlt
theorem CurW.seenApp (h : CurW B W0 d all ever seen pd pa pe ps cd ca ce cs w) {w' : World} {x : EntL} {a' : Option Addr} {c' : Nat}
    (hO : Own 46 4 B W0 (.slice a' (seen.length + 1) c') (seen.length + 1) (ens seen ++ en1 x) w') (hG : w.grownBy w' (Value.slice ps seen.length cs).ownBlock)
    (hN : (Value.slice a' (seen.length + 1) c').ownBlock = (Value.slice ps seen.length cs).ownBlock ∨ ∃ k, (Value.slice a' (seen.length + 1) c').ownBlock = some k ∧ w.heap.size ≤ k) :
    CurW B W0 d all ever (seen ++ [x]) pd pa pe a' cd ca ce c' w' := by
  have hl : (seen ++ [x]).length = seen.length + 1 := by simp
  have hens : ens (seen ++ [x]) = ens seen ++ en1 x := by rw [ens_append]; simp [ens]
  refine ⟨h.dR.grown hG h.ds, h.aR.grown hG h.as', h.eO.other hG (fun k hk => (h.sO.blk k hk).1) (fun k hk => h.es k hk), by rw [hl, hens]; exact hO, h.de, ?_, h.ae, ?_, ?_⟩
  · intro y hy h0
    rw [hl]
    rcases hN with e | ⟨k, e, hk⟩
    · rw [e]; exact h.ds y hy h0
    · rw [e]
      have := rd_low h.dR y hy h0
      intro e2
      cases e2
      omega
  · intro y hy h0
    rw [hl]
    rcases hN with e | ⟨k, e, hk⟩
    · rw [e]; exact h.as' y hy h0
    · rw [e]
      have := rd_low h.aR y hy h0
      intro e2
      cases e2
      omega
  · intro q hq
    rw [hl]
    rcases hN with e | ⟨k, e, hk⟩
    · rw [e]; exact h.es q hq
    · rw [e]
      have := (h.eO.blk q hq).2
      intro e2
      cases e2
      omega
theorem CurW.everApp (h : CurW B W0 d all ever seen pd pa pe ps cd ca ce cs w) {w' : World} {x : EntL} {a' : Option Addr} {c' : Nat}
    (hO : Own 46 4 B W0 (.slice a' (ever.length + 1) c') (ever.length + 1) (ens ever ++ en1 x) w') (hG : w.grownBy w' (Value.slice pe ever.length ce).ownBlock)
    (hN : (Value.slice a' (ever.length + 1) c').ownBlock = (Value.slice pe ever.length ce).ownBlock ∨ ∃ k, (Value.slice a' (ever.length + 1) c').ownBlock = some k ∧ w.heap.size ≤ k) :
    CurW B W0 d all (ever ++ [x]) seen pd pa a' ps cd ca c' cs w' := by
  have hl : (ever ++ [x]).length = ever.length + 1 := by simp
  have hens : ens (ever ++ [x]) = ens ever ++ en1 x := by rw [ens_append]; simp [ens]
  refine ⟨h.dR.grown hG h.de, h.aR.grown hG h.ae, by rw [hl, hens]; exact hO, h.sO.other hG (fun k hk => (h.eO.blk k hk).1) (fun k hk e => h.es k e hk), ?_, h.ds, ?_, h.as', ?_⟩
  · intro y hy h0
    rw [hl]
    rcases hN with e | ⟨k, e, hk⟩
    · rw [e]; exact h.de y hy h0
    · rw [e]
      have := rd_low h.dR y hy h0
      intro e2
      cases e2
      omega
  · intro y hy h0
    rw [hl]
    rcases hN with e | ⟨k, e, hk⟩
    · rw [e]; exact h.ae y hy h0
    · rw [e]
      have := rd_low h.aR y hy h0
      intro e2
      cases e2
      omega
  · intro q hq
    rw [hl] at hq
    rcases hN with e | ⟨k, e, hk⟩
    · rw [e] at hq; exact h.es q hq
    · rw [e] at hq
      have hq2 : k = q := by simpa using hq
      intro e2
      have := (h.sO.blk q e2).2
      omega
theorem CurW.newD (h : CurW B W0 d all ever seen pd pa pe ps cd ca ce cs w) {w' : World} (hb : Below w.heap.size w w') {d' : List EntL} {a' : Option Addr} {c' : Nat} (hR : Rd w' a' d'.length c' 4 (ens d')) (hlo : ∀ x, a' = some x → w.heap.size ≤ x.block) :
    CurW B W0 d' all ever seen a' pa pe ps c' ca ce cs w' := by
  have k := h.kept hb
  refine ⟨hR, k.aR, k.eO, k.sO, ?_, ?_, k.ae, k.as', k.es⟩
  · intro x hx _ e
    have h1 := (h.eO.blk _ e).2
    have h2 := hlo x hx
    omega
  · intro x hx _ e
    have h1 := (h.sO.blk _ e).2
    have h2 := hlo x hx
    omega
theorem CurW.newA (h : CurW B W0 d all ever seen pd pa pe ps cd ca ce cs w) {w' : World} (hb : Below w.heap.size w w') {d' : List EntL} {a' : Option Addr} {c' : Nat} (hR : Rd w' a' d'.length c' 4 (ens d')) (hlo : ∀ x, a' = some x → w.heap.size ≤ x.block) :
    CurW B W0 d d' ever seen pd a' pe ps cd c' ce cs w' := by
  have k := h.kept hb
  refine ⟨k.dR, hR, k.eO, k.sO, k.de, k.ds, ?_, ?_, k.es⟩
  · intro x hx _ e
    have h1 := (h.eO.blk _ e).2
    have h2 := hlo x hx
    omega
  · intro x hx _ e
    have h1 := (h.sO.blk _ e).2
    have h2 := hlo x hx
    omega
end
/-- The start: the directory, and three lists laid one behind the other. -/
theorem curW_start {w w1 w2 : World} {d : List EntL} {pd pe pa : Option Addr} {cd ce ca : Nat} (hd : Rd w pd d.length cd 4 (ens d))
    (hE : Own 46 4 w.heap.size w (.slice pe d.length ce) d.length (ens d) w1) (hA : Own 46 4 w1.heap.size w1 (.slice pa d.length ca) d.length (ens d) w2) :
    CurW w.heap.size w d d d [] pd pa pe (some ⟨w2.heap.size, 0, none⟩) cd ca ce 0 (w2.alloc (.cells #[] 46)) := by
  have hb1 := hE.below
  have hb2 := hA.below
  have hl : Below w.heap.size w w2 := below_step1 hb1 hb2
  have hX : Own 46 4 w.heap.size w (.slice (some ⟨w2.heap.size, 0, none⟩) 0 0) 0 [] (w2.alloc (.cells #[] 46)) := Own.lit (e := 46) (size := 4) (n := 0) hl hl.size #[] rfl (by decide)
  refine ⟨(hd.below hl (Nat.le_refl _)).alloc _, hA.rd.alloc _, (hE.kept hb2).alloc _, hX, ?_, ?_, ?_, ?_, ?_⟩
  · intro x hx h0 e
    have h1 := rd_low hd x hx h0
    have h2 := (hE.blk _ e).1
    omega
  · intro x hx h0 e
    have h1 := rd_low hd x hx h0
    have h2 : w2.heap.size = x.block := by simpa [Value.ownBlock] using e
    have h3 := hl.size
    omega
  · intro x hx h0 e
    have h1 := hA.low x hx
    have h2 := (hE.blk _ e).2
    omega
  · intro x hx h0 e
    have h1 := rd_low hA.rd x hx h0
    have h2 : w2.heap.size = x.block := by simpa [Value.ownBlock] using e
    omega
  · intro k hk e
    have h1 := ((hE.kept hb2).blk k hk).2
    have h2 : w2.heap.size = k := by simpa [Value.ownBlock] using e
    omega
set_option maxRecDepth 1000000 in
set_option maxHeartbeats 6000000 in
theorem freshK_any (q : Nat) (hq : q < 256) (a : Option Addr) (n cap : Nat) (bs : List Int) (w : World) (h : Rd w a n cap 1 (bs.map (Value.int .u8))) (hb : ∀ z ∈ bs, 0 ≤ z ∧ z ≤ 255) (hn : n ≤ 1048576) :
    Calls Tryd.prog 27 #[.slice a n cap, .int .i64 (q : Int)] w (FreshPost w) := by
  have hl : bs.length = n := by have := h.len; simpa using this
  subst hl
  have H := Lib.hid h
  have HB := Lib.hid hb
  have hq8 : IntKind.u8.wrap (q : Int) = (q : Int) := by rw [IntKind.wrap_u8]; omega
  have hqm : (q : Int) % 256 = (q : Int) := by omega
  have HO0 := Lib.hid (Own.lit (e := 5) (size := 1) (n := 1) (Below.refl w.heap.size w) (Nat.le_refl _) #[.int .u8 (q : Int)] rfl (by decide))
  clear h hb
  go_enter Tryd.func27, Tryd.ntmps27
  go_wp2
  go_loopg [5, 6] bs.length (fun gg o i wr => ∃ (k n : Nat) (g : Option Addr) (c : Nat) (zs : List Int), k + gg = bs.length ∧ i = .int .i64 (k : Int) ∧ o = .slice g n c ∧ Hid (zs.length = n ∧ n = k + 1) ∧ n ≤ 601 ∧ k ≤ 600 ∧ Hid (∀ z ∈ zs, 0 ≤ z ∧ z ≤ 255) ∧ Hid (Own 5 1 w.heap.size w (.slice g n c) n (zs.map (Value.int .u8)) wr))
  case atStart => exact ⟨0, 1, _, _, [(q : Int)], by omega, rfl, rfl, Lib.hid ⟨rfl, rfl⟩, by omega, by omega, Lib.hid (by simp; omega), Lib.hid (by exact HO0.out)⟩
  case round =>
    obtain ⟨k, n, g, c, zs, hk, rfl, rfl, HZL, hzl, hk6, HZ, HO⟩ := hrel
    have hr := H.out.below HO.out.below (Nat.le_refl _)
    by_cases hlt : k < bs.length
    · by_cases hk600 : k < 600
      · obtain ⟨b, off, rfl, hbs, hc⟩ := hr.at' (by omega)
        have hc1 := hc k (by simpa using hlt)
        simp only [List.getElem_map] at hc1
        have hbr := HB.out bs[k] (List.getElem_mem hlt)
        have hi : (k : Int) < (bs.length : Int) := by omega
        have hi2 : (k : Int) < 600 := by omega
        have hn1 : n + 1 ≤ 601 := by have := HZL.out; omega
        obtain ⟨p, hp⟩ : ∃ p : Int, (q : Int) * ((k : Int) % 7 + 1) = p := ⟨_, rfl⟩
        have hp0 : 0 ≤ p ∧ p ≤ 2048 := by
          rw [← hp]
          have h1 : (k : Int) % 7 + 1 ≤ 8 := by omega
          have h2 : 0 ≤ (k : Int) % 7 + 1 := by omega
          have h3 : (q : Int) ≤ 256 := by omega
          refine ⟨Int.mul_nonneg (by omega) h2, ?_⟩
          calc (q : Int) * ((k : Int) % 7 + 1) ≤ 256 * ((k : Int) % 7 + 1) := Int.mul_le_mul_of_nonneg_right h3 h2
            _ ≤ 256 * 8 := Int.mul_le_mul_of_nonneg_left h1 (by omega)
            _ = 2048 := by decide
        have hpt : (q : Int) * ((k : Int).tmod 7 + 1) = p := by rw [Int.tmod_eq_emod_of_nonneg (by omega)]; exact hp
        obtain ⟨hp1, hp2⟩ := hp0
        clear hc hr hbs
        generalize bs[k] = y at *
        go_wp2_with (at_builtin; go_loud (refine wp_app1g rfl _ _ 28 rfl 5 (.int .u8 0) 1 1 Tryd.underlying28 info_u8 rfl (by decide) _ _ _ _ _ (by rfl) (by exact HO.out) _ _ (by rfl) (by rfl) (by intro u hu; simp at hu; first | (subst hu; rfl) | (rcases hu with rfl | rfl <;> rfl) | (rcases hu with rfl | rfl | rfl <;> rfl) | (rcases hu with rfl | rfl | rfl | rfl <;> rfl)) (by omega) (by unfold maxLen; omega) ?_); intro a2 c2 w2 hO2 hG2 hN2)
        have HO2 := Lib.hid hO2
        clear hG2 hN2 hO2
        go_roundg (gk - 1)
        case measure => omega
        case rel => exact ⟨k + 1, n + 1, _, _, zs ++ [(y * 3 + p) % 256], by omega, by go_num, rfl, Lib.hid (by have := HZL.out; simp; omega), hn1, by omega, Lib.hid (fun z hz => by
          rcases List.mem_append.1 hz with hz | hz
          · exact HZ.out z hz
          · obtain rfl : z = _ := List.mem_singleton.1 hz
            omega), Lib.hid (by have h := HO2.out; rw [List.map_append]; exact h)⟩
      · have hi : (k : Int) < (bs.length : Int) := by omega
        have hi2 : ¬ (k : Int) < 600 := by omega
        clear hr
        go_wp2
        go_ret
        obtain ⟨rfl, -⟩ := HZL.out
        exact ⟨_, _, zs, rfl, hzl, HZ.out, HO.out.rd, HO.out.below⟩
    · have hi : ¬ (k : Int) < (bs.length : Int) := by omega
      clear hr
      go_wp2
      go_ret
      obtain ⟨rfl, -⟩ := HZL.out
      exact ⟨_, _, zs, rfl, hzl, HZ.out, HO.out.rd, HO.out.below⟩
set_option maxRecDepth 1000000 in
set_option maxHeartbeats 6000000 in
theorem lawFnCursor_walk (a : Option Addr) (len cap : Nat) (zs0 : List Int) (w : World) (hrow : IsRow .u8 w a len cap zs0) (hT : KTab w) : Calls Tryd.prog 14 #[.slice a len cap] w fun e w' => e = .returned (.bool true) ∧ Below w.heap.size w w' := by
  have hm : len ≤ maxLen := by have h := hrow.rd.1; exact Nat.le_trans h.le h.max
  have HT := Lib.hid hT
  clear hT
  by_cases hs : 1048576 < len
  · clear hrow
    go_enter Tryd.func14, Tryd.ntmps14
    go_wp2_with fail
    refine (big_any_any _ _ _ _ hs hm).mono ?_
    rintro e w' ⟨rfl, rfl⟩
    go_wp2
    go_ret
    exact ⟨rfl, Below.refl _ _⟩
  · obtain ⟨hR, hz⟩ := hrow.rd
    have HR := Lib.hid hR
    have HZ := Lib.hid hz
    have HZ2 : Hid (∀ z ∈ zs0.take len, 0 ≤ z ∧ z ≤ 255) := Lib.hid (fun z hz' => by have := hz z hz'; simpa [Lit.wf, IntKind.min, IntKind.max, IntKind.signed, IntKind.bits] using this)
    have hn : len ≤ 1048576 := by omega
    clear hrow hR hz hs hm
    generalize zs0.take len = zs at *
    go_enter Tryd.func14, Tryd.ntmps14
    go_wp2_with fail
    refine (big_no_any _ _ _ _ hn).mono ?_
    rintro e w' ⟨rfl, rfl⟩
    go_wp2_with fail
    refine (drawAdd_any _ _ _ _ _ HR.out HZ2.out hn).mono ?_
    rintro e w1 ⟨l, p, c, s, id, rfl, hl, hns, hss, hr, hb⟩
    have HB := Lib.hid hb
    have HL := Lib.hid hr
    have HNS : Hid (∀ x ∈ l, x.name.size ≤ 1073741824) := Lib.hid (fun x hx => hns x hx)
    clear hb hr hns hss
    go_wp2_with fail
    refine (specDirOk_any p _ c l _ HL.out HNS.out).mono ?_
    rintro e w2 ⟨rfl, hb⟩
    have HB2 := Lib.hid (below_step1 HB.out hb)
    have HL2 := Lib.hid (HL.out.below hb (Nat.le_refl _))
    clear hb
    obtain ⟨bd, hbd⟩ : ∃ bd, bd = dirB l := ⟨_, rfl⟩
    rw [← hbd]
    have HBD := Lib.hid hbd.symm
    clear hbd
    go_upto_if 45 with fail
    go_cut [3] (fun v wx => ∃ (d : List EntL) (pd : Option Addr) (cd : Nat), v = .slice pd d.length cd ∧ Hid (dirB d = true) ∧ Hid (Rd wx pd d.length cd 4 (ens d)) ∧ Hid (Below w.heap.size w wx))
    case first => as_aux_lemma =>
      cases bd with
      | true =>
        go_wp2
        go_meet
        exact ⟨l, p, c, rfl, HBD, HL2, HB2⟩
      | false =>
        have HLit := Lib.hid (Own.lit (e := 46) (size := 4) (n := 0) HB2.out HB2.out.size #[] rfl (by decide))
        go_wp2
        go_meet
        exact ⟨[], _, _, rfl, Lib.hid rfl, Lib.hid (by exact HLit.out.rd), Lib.hid (by exact HLit.out.below)⟩
    case rest => as_aux_lemma =>
      obtain ⟨d0, pd0, cd0, rfl, HD, HRD, HBC⟩ := hcut
      obtain ⟨V, hV⟩ : ∃ x : World, x = wc := ⟨_, rfl⟩
      subst hV
      have h12 := dir_len d0 HD.out
      have HLit := Lib.hid (Own.lit (e := 46) (size := 4) (n := 0) (Below.refl V.heap.size V) (Nat.le_refl _) #[] rfl (by decide))
      have HR0 := Lib.hid (HRD.out.alloc (.cells #[] 46))
      clear HB HL HNS
      go_upto_region 8 with (first | ((at_builtin; go_loud (refine wp_app rfl _ _ 41 rfl 46 (.agg #[.int .i64 0, .int .i64 0, .string ByteArray.empty, .int .i64 0]) 4 40 Tryd.underlying41 info_ent rfl (by decide) _ _ _ _ _ (by rfl) (by exact HLit.out) _ _ _ _ (by rfl) (by exact HR0.out) (ens_one _) (by omega) (by unfold maxLen; omega) ?_); intro a2 c2 w2 hO2); rw [Nat.zero_add, List.nil_append] at hO2; have HO2 := Lib.hid hO2; have HLit2 := Lib.hid (Own.lit (e := 46) (size := 4) (n := 0) (Below.refl w2.heap.size w2) (Nat.le_refl _) #[] rfl (by decide)); have HR2 := Lib.hid ((HRD.out.below hO2.below (Nat.le_refl _)).alloc (.cells #[] 46)); clear hO2 HLit HR0) | ((at_builtin; go_loud (refine wp_app rfl _ _ 41 rfl 46 (.agg #[.int .i64 0, .int .i64 0, .string ByteArray.empty, .int .i64 0]) 4 40 Tryd.underlying41 info_ent rfl (by decide) _ _ _ _ _ (by rfl) (by exact HLit2.out) _ _ _ _ (by rfl) (by exact HR2.out) (ens_one _) (by omega) (by unfold maxLen; omega) ?_); intro a3 c3 w3 hO3); rw [Nat.zero_add, List.nil_append] at hO3; have HO3 := Lib.hid hO3; clear hO3 HLit2 HR2) | fail)
      have HCS := Lib.hid (curW_start HRD.out HO2.out HO3.out)
      have HI0 := Lib.hid (curI_start HD.out)
      clear HO2 HO3 HRD
      go_upto_block 0 with fail
      go_cut [3, 6, 7, 8, 9, 10] (fun v3 v6 v7 v8 v9 v10 wx => ∃ (d all ever seen : List EntL) (H K : Int) (pd pa pe ps : Option Addr) (cd ca ce cs : Nat), v3 = .slice pd d.length cd ∧ v6 = .slice pe ever.length ce ∧ v7 = .slice pa all.length ca ∧ v8 = .slice ps seen.length cs ∧ v9 = .int .i64 H ∧ v10 = .int .i64 K ∧ Hid (CurI d all ever seen H K) ∧ Hid (CurW V.heap.size V d all ever seen pd pa pe ps cd ca ce cs wx) ∧ seen.length ≤ 60 ∧ ever.length ≤ 72 ∧ all.length ≤ 12)
      case first => as_aux_lemma =>
        go_wp2
        go_loopg [3, 6, 7, 8, 9, 10, 11] 60 (fun gg v3 v6 v7 v8 v9 v10 i wr => ∃ (k : Nat) (d all ever seen : List EntL) (H K : Int) (pd pa pe ps : Option Addr) (cd ca ce cs : Nat), k + gg = 60 ∧ i = .int .i64 (k : Int) ∧ v3 = .slice pd d.length cd ∧ v6 = .slice pe ever.length ce ∧ v7 = .slice pa all.length ca ∧ v8 = .slice ps seen.length cs ∧ v9 = .int .i64 H ∧ v10 = .int .i64 K ∧ Hid (CurI d all ever seen H K) ∧ Hid (CurW V.heap.size V d all ever seen pd pa pe ps cd ca ce cs wr) ∧ seen.length ≤ k ∧ ever.length ≤ 12 + k ∧ all.length ≤ 12)
        case atStart => exact ⟨0, d0, d0, d0, [], -1, -1, _, _, _, _, _, _, _, _, by omega, rfl, rfl, rfl, rfl, rfl, rfl, rfl, HI0, HCS, Nat.le_refl _, by omega, h12⟩
        case round => as_aux_lemma =>
          obtain ⟨k, d, all, ever, seen, H, K, pd, pa, pe, ps, cd, ca, ce, cs, hk, rfl, rfl, rfl, rfl, rfl, rfl, rfl, HI, HW, hl1, hl2, hl3⟩ := hrel
          obtain ⟨G1, hG1⟩ : ∃ x : Nat, x = gk := ⟨_, rfl⟩
          subst hG1
          have HBX := Lib.hid (HBC.out.trans (HW.out.eO.below.mono HBC.out.size))
          by_cases hk60 : k < 60
          · have hki : (k : Int) < 60 := by omega
            go_wp2_with fail
            refine (at_any _ _ _ _ k _ (HR.out.below HBX.out (Nat.le_refl _)) HZ.out hn (by omega)).mono ?_
            rintro e w' ⟨⟨y, ⟨hy0, hy1⟩, rfl⟩, rfl⟩
            have hqt : y.tmod 3 = y % 3 := Int.tmod_eq_emod_of_nonneg hy0
            have hdl := dir_len d HI.out.dir
            have HSM := Lib.hid (dir_small HI.out.dir)
            by_cases h3 : y % 3 = 0
            · have h3b : (y % 3 == 0) = true := by simp [h3]
              have h3t : y.tmod 3 = 0 := by omega
              clear hqt
              go_wp2_with fail
              refine (freshK_any k (by omega) _ _ _ _ _ (HR.out.below HBX.out (Nat.le_refl _)) HZ2.out hn).mono ?_
              rintro e w2 ⟨g, c2, zs2, rfl, hz2, hzr, hrd, hb⟩
              have HW2 := Lib.hid (HW.out.kept hb)
              have HB2 := Lib.hid (below_step1 HBX.out hb)
              have HRZ := Lib.hid hrd
              have HZR := Lib.hid hzr
              clear hrd hzr hb HW h3b h3t h3
              go_wp2_with fail
              refine (drawAlike_any _ _ _ _ _ HRZ.out HZR.out (by omega)).mono ?_
              rintro e w3 ⟨t, u, rfl, ht, hu, hb⟩
              have HW3 := Lib.hid (HW2.out.kept hb)
              have HB3 := Lib.hid (below_step1 HB2.out hb)
              clear hb HW2 HB2 HRZ HZR hz2 hu
              go_wp2_with fail
              refine (at_any _ _ _ _ (k + 1) _ (HR.out.below HB3.out (Nat.le_refl _)) HZ.out hn (by omega)).mono ?_
              rintro e w' ⟨⟨z, ⟨hz0, hz1⟩, rfl⟩, rfl⟩
              go_upto_if 75 with fail
              go_cut [3, 6] (fun v3 v6 wx => ∃ (d' ever' : List EntL) (pd' pe' : Option Addr) (cd' ce' : Nat), v3 = .slice pd' d'.length cd' ∧ v6 = .slice pe' ever'.length ce' ∧ Hid (CurI d' (all.filter (keepE d')) ever' seen H K) ∧ Hid (CurW V.heap.size V d' all ever' seen pd' pa pe' ps cd' ca ce' cs wx) ∧ ever'.length ≤ 13 + k)
              case first => as_aux_lemma =>
                have hqt : z.tmod 2 = z % 2 := Int.tmod_eq_emod_of_nonneg hz0
                by_cases h2 : z % 2 = 0
                · have h2b : (z % 2 == 0) = true := by simp [h2]
                  have h2t : z.tmod 2 = 0 := by omega
                  clear hqt
                  go_wp2_with fail
                  refine (implAdd_any pd _ cd d t 3 _ HW3.out.dR HSM.out (by omega) (HT.out.below HB3.out (Nat.le_refl _))).mono ?_
                  rintro e w4 ⟨out, ok, pa4, ca4, rfl, -, hyes, hrd, hb, hlo⟩
                  have HAR := Lib.hid (hyes HI.out.dir)
                  have HW4 := Lib.hid (HW3.out.newD hb hrd hlo)
                  clear hb hrd hlo hyes h2b h2t h2
                  cases ok with
                  | false =>
                    obtain rfl : out = d := HAR.out.2.1 rfl
                    have HI4 := Lib.hid HI.out.same
                    go_wp2
                    go_meet
                    exact ⟨out, ever, pa4, pe, ca4, ce, rfl, rfl, HI4, HW4, by omega⟩
                  | true =>
                    obtain ⟨hdo, ⟨eh, ei, en, ed⟩, hlk, hmem, hen, hci⟩ := HI.out.add HAR.out
                    have HI4 := Lib.hid hci
                    have HLK : Hid (∀ W, Rd W pa4 out.length ca4 4 (ens out) → Calls Tryd.prog 40 #[.slice pa4 out.length ca4, .string t] W fun e w' => e = .returned (.tuple #[.agg #[.int .i64 eh, .int .i64 ei, .string en, .int .i64 ed], .bool true]) ∧ Below W.heap.size W w') := Lib.hid (fun W h => by have := specLook_any pa4 _ ca4 out t W h (dir_small hdo) (by omega); rw [hlk] at this; exact this)
                    clear hlk hmem hen hci HAR hdo
                    go_wp2_with fail
                    refine (HLK.out _ HW4.out.dR).mono ?_
                    rintro e w5 ⟨rfl, hb⟩
                    have HW5 := Lib.hid ((HW4.out.kept hb).kept (boxA w5 (.cells #[.int .i64 eh, .int .i64 ei, .string en, .int .i64 ed] 46)))
                    obtain ⟨b0, b1, b2, b3⟩ := box4 w5 46 (.int .i64 eh) (.int .i64 ei) (.string en) (.int .i64 ed)
                    clear hb HW4 HLK
                    go_wp2_with (at_builtin; go_loud (refine wp_app1c rfl _ _ 41 rfl 46 (.agg #[.int .i64 0, .int .i64 0, .string ByteArray.empty, .int .i64 0]) 4 40 Tryd.underlying41 info_ent rfl (by decide) _ _ _ _ _ (by rfl) (by exact HW5.out.eO) _ _ _ (by rfl) (by first | rfl | simp) (by rfl) (by intro u hu; simp at hu; rcases hu with rfl | rfl | rfl | rfl <;> rfl) (by omega) (by unfold maxLen; omega) ?_); intro a9 c9 w9 hO9 hG9 hN9; have HO9 := Lib.hid hO9; have HG9 := Lib.hid hG9; have HN9 := Lib.hid hN9; clear hG9 hN9 hO9)
                    go_meet
                    exact ⟨out, ever ++ [⟨eh, ei, en, ed⟩], pa4, a9, ca4, c9, rfl, by rw [List.length_append]; rfl, HI4, Lib.hid (HW5.out.everApp (x := ⟨eh, ei, en, ed⟩) HO9.out HG9.out HN9.out), by rw [List.length_append]; simp; omega⟩
                · have h2b : (z % 2 == 0) = false := by simp [h2]
                  have h2c : z % 2 = 1 := by omega
                  have h2t : z.tmod 2 = 1 := by omega
                  clear hqt
                  go_wp2_with fail
                  refine (implDrop_any pd _ cd d t _ HW3.out.dR HSM.out (by omega) (HT.out.below HB3.out (Nat.le_refl _))).mono ?_
                  rintro e w4 ⟨out, ok, pa4, ca4, rfl, -, hyes, hrd, hb, hlo⟩
                  have HAR := Lib.hid (hyes HI.out.dir)
                  have HW4 := Lib.hid (HW3.out.newD hb hrd hlo)
                  have HI4 := Lib.hid (HI.out.drop HAR.out)
                  clear hb hrd hlo hyes h2b h2t h2 h2c
                  go_wp2
                  go_meet
                  exact ⟨out, ever, pa4, pe, ca4, ce, rfl, rfl, HI4, HW4, by omega⟩
              case rest => as_aux_lemma =>
                obtain ⟨d', ever', pd', pe', cd', ce', rfl, rfl, HI4, HW4, hle⟩ := hcut
                have HSA : Hid (∀ x ∈ all, x.name.size ≤ 1073741824) := Lib.hid (fun x hx => HSM.out x (HI.out.allD x hx))
                have HSD := Lib.hid (dir_small HI4.out.dir)
                have HLit := Lib.hid (Own.lit (e := 46) (size := 4) (n := 0) (Below.refl wc.heap.size wc) (Nat.le_refl _) #[] rfl (by decide))
                clear HW3 HB3 HSM HI
                go_wp2
                go_loopg [18, 19] all.length (fun gg o i wr => ∃ (m : Nat) (left : List EntL) (pl : Option Addr) (cl : Nat), m + gg = all.length ∧ i = .int .i64 (m : Int) ∧ o = .slice pl left.length cl ∧ Hid (left = (all.take m).filter (keepE d')) ∧ left.length ≤ m ∧ Hid (Own 46 4 wc.heap.size wc (.slice pl left.length cl) left.length (ens left) wr))
                case atStart => exact ⟨0, [], _, _, by omega, rfl, rfl, Lib.hid rfl, Nat.le_refl _, Lib.hid (by exact HLit.out)⟩
                case round => as_aux_lemma =>
                  obtain ⟨m, left, pl, cl, hm1, rfl, rfl, HLF, hlm, HOL⟩ := hrel
                  have HW6 := Lib.hid (HW4.out.kept HOL.out.below)
                  by_cases hlt : m < all.length
                  · obtain ⟨b, off, rfl, hbs, q0, q1, q2, q3⟩ := ens_cells HW6.out.aR m hlt
                    have hsx := HSA.out all[m] (List.getElem_mem hlt)
                    have hmi : (m : Int) < (all.length : Int) := by omega
                    have hm0 : (0 : Int) ≤ (m : Int) := by omega
                    have HFN : Hid ((all.take (m + 1)).filter (keepE d') = left ++ (if keepE d' all[m] then [all[m]] else [])) := Lib.hid (by rw [filter_next all _ m hlt, ← HLF.out])
                    have HKE : Hid (keepE d' all[m] = ((lookF d' all[m].name).2 && sameE (lookF d' all[m].name).1 all[m])) := Lib.hid rfl
                    have HEQ : ∀ (x : EntL) W, (Op.equalIn 10000 46 (.agg #[.int .i64 x.hash, .int .i64 x.index, .string x.name, .int .i64 x.id]) (.agg #[.int .i64 all[m].hash, .int .i64 all[m].index, .string all[m].name, .int .i64 all[m].id])).run Tryd.prog W = .ok (sameE x all[m]) W := fun x W => eqlin_ent x all[m] W
                    have HEQ := Lib.hid HEQ
                    generalize all[m] = x at *
                    clear hlt
                    obtain ⟨xh, xi, xn, xd⟩ := x
                    simp only at q0 q1 q2 q3 hsx HEQ HKE
                    have HLK : Hid (∀ W, Rd W pd' d'.length cd' 4 (ens d') → Calls Tryd.prog 40 #[.slice pd' d'.length cd', .string xn] W fun e w' => e = .returned (.tuple #[enV (lookF d' xn).1, .bool (lookF d' xn).2]) ∧ Below W.heap.size W w') := Lib.hid (fun W h => specLook_any pd' _ cd' d' xn W h HSD.out hsx)
                    generalize lookF d' xn = r at *
                    obtain ⟨⟨yh, yi, yn, yd⟩, ok⟩ := r
                    unfold enV at HLK
                    simp only at HLK HKE
                    go_wp2_with fail
                    refine (HLK.out _ HW6.out.dR).mono ?_
                    rintro e w7 ⟨rfl, hb⟩
                    obtain ⟨b0, b1, b2, b3⟩ := box4 w7 46 (.int .i64 yh) (.int .i64 yi) (.string yn) (.int .i64 yd)
                    have hbx := boxA w7 (.cells #[.int .i64 yh, .int .i64 yi, .string yn, .int .i64 yd] 46)
                    replace q0 := cellK (cellK q0 hb) hbx
                    replace q1 := cellK (cellK q1 hb) hbx
                    replace q2 := cellK (cellK q2 hb) hbx
                    replace q3 := cellK (cellK q3 hb) hbx
                    have HOL7 := Lib.hid ((HOL.out.kept hb).kept hbx)
                    have hz7 : w7.heap.size < (w7.alloc (.cells #[.int .i64 yh, .int .i64 yi, .string yn, .int .i64 yd] 46)).heap.size := World.block_lt_of_cell? _ _ b0
                    clear hb hbx HLK HOL HW6
                    go_wp2
                    generalize w7.alloc (.cells #[.int .i64 yh, .int .i64 yi, .string yn, .int .i64 yd] 46) = W7 at *
                    generalize w7.heap.size = X at *
                    have HF := Lib.hid (And.intro b0 (And.intro b1 (And.intro b2 (And.intro b3 (And.intro q0 (And.intro q1 (And.intro q2 q3)))))))
                    cases ok with
                    | false =>
                      have HKF : Hid (keepE d' ⟨xh, xi, xn, xd⟩ = false) := Lib.hid (by rw [HKE.out]; rfl)
                      have HFN2 : Hid (left = (all.take (m + 1)).filter (keepE d')) := Lib.hid (by rw [HFN.out, HKF.out]; simp)
                      clear HFN HKE HKF HEQ b0 b1 b2 b3 q0 q1 q2 q3
                      refine wp_region_held_drew (S := (fun W => W.cell? ⟨X, 0, none⟩ = some (.int .i64 yh) ∧ W.cell? ⟨X, 1, none⟩ = some (.int .i64 yi) ∧ W.cell? ⟨X, 2, none⟩ = some (.string yn) ∧ W.cell? ⟨X, 3, none⟩ = some (.int .i64 yd) ∧ W.cell? ⟨b, off + m * 4, none⟩ = some (.int .i64 xh) ∧ W.cell? ⟨b, off + m * 4 + 1, none⟩ = some (.int .i64 xi) ∧ W.cell? ⟨b, off + m * 4 + 2, none⟩ = some (.string xn) ∧ W.cell? ⟨b, off + m * 4 + 3, none⟩ = some (.int .i64 xd))) (by kernel_rfl) ?_ (fun hHeld => ?_)
                      · try dsimp only
                        exact HF.out
                      change wpAnyH _ _ _ _ _ 9 #[false, false, false, false, false, false, false, false, false] _ _
                      refine wpH_take (i := 0) (v := ?_) rfl (by kernel_rfl) (by kernel_rfl) (by kernel_rfl) (fun _ _ _ h => h) (by rfl) ?_ (by assumption) ?_; rotate_left; (focus (intro w hSw; (try dsimp only at hSw); go_simp; try with_reducible rfl)); try simp only [Act.put, List.setIfInBounds_toArray, List.set_cons_zero, List.set_cons_succ]
                      refine wpH_take (i := 1) (v := ?_) rfl (by kernel_rfl) (by kernel_rfl) (by kernel_rfl) (fun _ _ _ h => h) (by rfl) ?_ (by assumption) ?_; rotate_left; (focus (intro w hSw; (try dsimp only at hSw); go_simp; try with_reducible rfl)); try simp only [Act.put, List.setIfInBounds_toArray, List.set_cons_zero, List.set_cons_succ]
                      refine wpH_off (i := 2) rfl (by kernel_rfl) (by kernel_rfl) (by kernel_rfl) (fun _ _ _ h => h) (by rfl) (by assumption) ?_; try simp only [Act.put, List.setIfInBounds_toArray, List.set_cons_zero, List.set_cons_succ]
                      refine wpH_off (i := 3) rfl (by kernel_rfl) (by kernel_rfl) (by kernel_rfl) (fun _ _ _ h => h) (by rfl) (by assumption) ?_; try simp only [Act.put, List.setIfInBounds_toArray, List.set_cons_zero, List.set_cons_succ]
                      refine wpH_off (i := 4) rfl (by kernel_rfl) (by kernel_rfl) (by kernel_rfl) (fun _ _ _ h => h) (by rfl) (by assumption) ?_; try simp only [Act.put, List.setIfInBounds_toArray, List.set_cons_zero, List.set_cons_succ]
                      refine wpH_off (i := 5) rfl (by kernel_rfl) (by kernel_rfl) (by kernel_rfl) (fun _ _ _ h => h) (by rfl) (by assumption) ?_; try simp only [Act.put, List.setIfInBounds_toArray, List.set_cons_zero, List.set_cons_succ]
                      refine wpH_off (i := 6) rfl (by kernel_rfl) (by kernel_rfl) (by kernel_rfl) (fun _ _ _ h => h) (by rfl) (by assumption) ?_; try simp only [Act.put, List.setIfInBounds_toArray, List.set_cons_zero, List.set_cons_succ]
                      refine wpH_off (i := 7) rfl (by kernel_rfl) (by kernel_rfl) (by kernel_rfl) (fun _ _ _ h => h) (by rfl) (by assumption) ?_; try simp only [Act.put, List.setIfInBounds_toArray, List.set_cons_zero, List.set_cons_succ]
                      refine wpH_take (i := 8) (v := ?_) rfl (by kernel_rfl) (by kernel_rfl) (by kernel_rfl) (fun _ _ _ h => h) (by rfl) ?_ (by assumption) ?_; rotate_left; (focus (intro w hSw; (try dsimp only at hSw); go_simp; try with_reducible rfl)); try simp only [Act.put, List.setIfInBounds_toArray, List.set_cons_zero, List.set_cons_succ]
                      refine wpAnyH_done (by kernel_rfl) ?_ _
                      try dsimp only at hHeld
                      clear hHeld
                      have HOL8 := Lib.hid HOL7.out.drew
                      go_wp2
                      go_roundg (gk - 1)
                      case measure => omega
                      case rel => exact ⟨m + 1, left, _, _, by omega, by go_num, rfl, HFN2, by omega, HOL8⟩
                    | true =>
                      by_cases hq : sameE ⟨yh, yi, yn, yd⟩ ⟨xh, xi, xn, xd⟩ = true
                      · have hyx := (sameE_iff _ _).1 hq
                        cases hyx
                        have HKF : Hid (keepE d' ⟨xh, xi, xn, xd⟩ = true) := Lib.hid (by rw [HKE.out]; exact hq)
                        have HFN2 : Hid (left ++ [⟨xh, xi, xn, xd⟩] = (all.take (m + 1)).filter (keepE d')) := Lib.hid (by rw [HFN.out, HKF.out]; rfl)
                        have heq : ∀ W, (Op.equalIn 10000 46 (.agg #[.int .i64 xh, .int .i64 xi, .string xn, .int .i64 xd]) (.agg #[.int .i64 xh, .int .i64 xi, .string xn, .int .i64 xd])).run Tryd.prog W = .ok true W := fun W => by have := HEQ.out ⟨xh, xi, xn, xd⟩ W; rw [hq] at this; exact this
                        clear HFN HKE HKF HEQ hq b0 b1 b2 b3 q0 q1 q2 q3
                        refine wp_region_held_drew (S := (fun W => W.cell? ⟨X, 0, none⟩ = some (.int .i64 xh) ∧ W.cell? ⟨X, 1, none⟩ = some (.int .i64 xi) ∧ W.cell? ⟨X, 2, none⟩ = some (.string xn) ∧ W.cell? ⟨X, 3, none⟩ = some (.int .i64 xd) ∧ W.cell? ⟨b, off + m * 4, none⟩ = some (.int .i64 xh) ∧ W.cell? ⟨b, off + m * 4 + 1, none⟩ = some (.int .i64 xi) ∧ W.cell? ⟨b, off + m * 4 + 2, none⟩ = some (.string xn) ∧ W.cell? ⟨b, off + m * 4 + 3, none⟩ = some (.int .i64 xd))) (by kernel_rfl) ?_ (fun hHeld => ?_)
                        · try dsimp only
                          exact HF.out
                        change wpAnyH _ _ _ _ _ 9 #[false, false, false, false, false, false, false, false, false] _ _
                        refine wpH_take (i := 0) (v := ?_) rfl (by kernel_rfl) (by kernel_rfl) (by kernel_rfl) (fun _ _ _ h => h) (by rfl) ?_ (by assumption) ?_; rotate_left; (focus (intro w hSw; (try dsimp only at hSw); go_simp; try with_reducible rfl)); try simp only [Act.put, List.setIfInBounds_toArray, List.set_cons_zero, List.set_cons_succ]
                        refine wpH_take (i := 1) (v := ?_) rfl (by kernel_rfl) (by kernel_rfl) (by kernel_rfl) (fun _ _ _ h => h) (by rfl) ?_ (by assumption) ?_; rotate_left; (focus (intro w hSw; (try dsimp only at hSw); go_simp; try with_reducible rfl)); try simp only [Act.put, List.setIfInBounds_toArray, List.set_cons_zero, List.set_cons_succ]
                        refine wpH_take (i := 2) (v := ?_) rfl (by kernel_rfl) (by kernel_rfl) (by kernel_rfl) (fun _ _ _ h => h) (by rfl) ?_ (by assumption) ?_; rotate_left; (focus (intro w hSw; (try dsimp only at hSw); go_simp; try with_reducible rfl)); try simp only [Act.put, List.setIfInBounds_toArray, List.set_cons_zero, List.set_cons_succ]
                        refine wpH_take (i := 3) (v := ?_) rfl (by kernel_rfl) (by kernel_rfl) (by kernel_rfl) (fun _ _ _ h => h) (by rfl) ?_ (by assumption) ?_; rotate_left; (focus (intro w hSw; (try dsimp only at hSw); go_simp; try with_reducible rfl)); try simp only [Act.put, List.setIfInBounds_toArray, List.set_cons_zero, List.set_cons_succ]
                        refine wpH_take (i := 4) (v := ?_) rfl (by kernel_rfl) (by kernel_rfl) (by kernel_rfl) (fun _ _ _ h => h) (by rfl) ?_ (by assumption) ?_; rotate_left; (focus (intro w hSw; (try dsimp only at hSw); go_simp; try with_reducible rfl)); try simp only [Act.put, List.setIfInBounds_toArray, List.set_cons_zero, List.set_cons_succ]
                        refine wpH_take (i := 5) (v := ?_) rfl (by kernel_rfl) (by kernel_rfl) (by kernel_rfl) (fun _ _ _ h => h) (by rfl) ?_ (by assumption) ?_; rotate_left; (focus (intro w hSw; (try dsimp only at hSw); go_simp; try with_reducible rfl)); try simp only [Act.put, List.setIfInBounds_toArray, List.set_cons_zero, List.set_cons_succ]
                        refine wpH_take (i := 6) (v := ?_) rfl (by kernel_rfl) (by kernel_rfl) (by kernel_rfl) (fun _ _ _ h => h) (by rfl) ?_ (by assumption) ?_; rotate_left; (focus (intro w hSw; (try dsimp only at hSw); go_simp; try with_reducible rfl)); try simp only [Act.put, List.setIfInBounds_toArray, List.set_cons_zero, List.set_cons_succ]
                        refine wpH_take (i := 7) (v := ?_) rfl (by kernel_rfl) (by kernel_rfl) (by kernel_rfl) (fun _ _ _ h => h) (by rfl) ?_ (by assumption) ?_; rotate_left; (focus (intro w hSw; (try dsimp only at hSw); go_simp; try with_reducible rfl)); try simp only [Act.put, List.setIfInBounds_toArray, List.set_cons_zero, List.set_cons_succ]
                        refine wpH_take (i := 8) (v := ?_) rfl (by kernel_rfl) (by kernel_rfl) (by kernel_rfl) (fun _ _ _ h => h) (by rfl) ?_ (by assumption) ?_; rotate_left; (focus (intro w hSw; (try dsimp only at hSw); go_simp; try with_reducible rfl)); try simp only [Act.put, List.setIfInBounds_toArray, List.set_cons_zero, List.set_cons_succ]
                        refine wpAnyH_done (by kernel_rfl) ?_ _
                        try dsimp only at hHeld
                        clear heq
                        obtain ⟨b0, b1, b2, b3, q0, q1, q2, q3⟩ := hHeld
                        clear q0 q1 q2 q3
                        have HOL8 := Lib.hid HOL7.out.drew
                        generalize W7.drew = W8 at *
                        go_wp2_with (at_builtin; go_loud (refine wp_app1c rfl _ _ 41 rfl 46 (.agg #[.int .i64 0, .int .i64 0, .string ByteArray.empty, .int .i64 0]) 4 40 Tryd.underlying41 info_ent rfl (by decide) _ _ _ _ _ (by rfl) (by exact HOL8.out) _ _ _ (by rfl) (by first | rfl | simp) (by rfl) (by intro u hu; simp at hu; rcases hu with rfl | rfl | rfl | rfl <;> rfl) (by omega) (by unfold maxLen; omega) ?_); intro a9 c9 w9 hO9 hG9 hN9; have HO9 := Lib.hid hO9; have HG9 := Lib.hid hG9; have HN9 := Lib.hid hN9; clear hG9 hN9 hO9)
                        go_roundg (gk - 1)
                        case measure => omega
                        case rel => exact ⟨m + 1, left ++ [⟨xh, xi, xn, xd⟩], _, _, by omega, by go_num, by rw [List.length_append]; rfl, HFN2, by rw [List.length_append]; simp; omega, Lib.hid (by rw [List.length_append, ens_append]; exact HO9.out)⟩
                      · have hq2 : sameE ⟨yh, yi, yn, yd⟩ ⟨xh, xi, xn, xd⟩ = false := by simpa using hq
                        have HKF : Hid (keepE d' ⟨xh, xi, xn, xd⟩ = false) := Lib.hid (by rw [HKE.out]; exact hq2)
                        have HFN2 : Hid (left = (all.take (m + 1)).filter (keepE d')) := Lib.hid (by rw [HFN.out, HKF.out]; simp)
                        have heq : ∀ W, (Op.equalIn 10000 46 (.agg #[.int .i64 yh, .int .i64 yi, .string yn, .int .i64 yd]) (.agg #[.int .i64 xh, .int .i64 xi, .string xn, .int .i64 xd])).run Tryd.prog W = .ok false W := fun W => by have := HEQ.out ⟨yh, yi, yn, yd⟩ W; rw [hq2] at this; exact this
                        clear HFN HKE HKF HEQ hq hq2 b0 b1 b2 b3 q0 q1 q2 q3
                        refine wp_region_held_drew (S := (fun W => W.cell? ⟨X, 0, none⟩ = some (.int .i64 yh) ∧ W.cell? ⟨X, 1, none⟩ = some (.int .i64 yi) ∧ W.cell? ⟨X, 2, none⟩ = some (.string yn) ∧ W.cell? ⟨X, 3, none⟩ = some (.int .i64 yd) ∧ W.cell? ⟨b, off + m * 4, none⟩ = some (.int .i64 xh) ∧ W.cell? ⟨b, off + m * 4 + 1, none⟩ = some (.int .i64 xi) ∧ W.cell? ⟨b, off + m * 4 + 2, none⟩ = some (.string xn) ∧ W.cell? ⟨b, off + m * 4 + 3, none⟩ = some (.int .i64 xd))) (by kernel_rfl) ?_ (fun hHeld => ?_)
                        · try dsimp only
                          exact HF.out
                        change wpAnyH _ _ _ _ _ 9 #[false, false, false, false, false, false, false, false, false] _ _
                        refine wpH_take (i := 0) (v := ?_) rfl (by kernel_rfl) (by kernel_rfl) (by kernel_rfl) (fun _ _ _ h => h) (by rfl) ?_ (by assumption) ?_; rotate_left; (focus (intro w hSw; (try dsimp only at hSw); go_simp; try with_reducible rfl)); try simp only [Act.put, List.setIfInBounds_toArray, List.set_cons_zero, List.set_cons_succ]
                        refine wpH_take (i := 1) (v := ?_) rfl (by kernel_rfl) (by kernel_rfl) (by kernel_rfl) (fun _ _ _ h => h) (by rfl) ?_ (by assumption) ?_; rotate_left; (focus (intro w hSw; (try dsimp only at hSw); go_simp; try with_reducible rfl)); try simp only [Act.put, List.setIfInBounds_toArray, List.set_cons_zero, List.set_cons_succ]
                        refine wpH_take (i := 2) (v := ?_) rfl (by kernel_rfl) (by kernel_rfl) (by kernel_rfl) (fun _ _ _ h => h) (by rfl) ?_ (by assumption) ?_; rotate_left; (focus (intro w hSw; (try dsimp only at hSw); go_simp; try with_reducible rfl)); try simp only [Act.put, List.setIfInBounds_toArray, List.set_cons_zero, List.set_cons_succ]
                        refine wpH_take (i := 3) (v := ?_) rfl (by kernel_rfl) (by kernel_rfl) (by kernel_rfl) (fun _ _ _ h => h) (by rfl) ?_ (by assumption) ?_; rotate_left; (focus (intro w hSw; (try dsimp only at hSw); go_simp; try with_reducible rfl)); try simp only [Act.put, List.setIfInBounds_toArray, List.set_cons_zero, List.set_cons_succ]
                        refine wpH_take (i := 4) (v := ?_) rfl (by kernel_rfl) (by kernel_rfl) (by kernel_rfl) (fun _ _ _ h => h) (by rfl) ?_ (by assumption) ?_; rotate_left; (focus (intro w hSw; (try dsimp only at hSw); go_simp; try with_reducible rfl)); try simp only [Act.put, List.setIfInBounds_toArray, List.set_cons_zero, List.set_cons_succ]
                        refine wpH_take (i := 5) (v := ?_) rfl (by kernel_rfl) (by kernel_rfl) (by kernel_rfl) (fun _ _ _ h => h) (by rfl) ?_ (by assumption) ?_; rotate_left; (focus (intro w hSw; (try dsimp only at hSw); go_simp; try with_reducible rfl)); try simp only [Act.put, List.setIfInBounds_toArray, List.set_cons_zero, List.set_cons_succ]
                        refine wpH_take (i := 6) (v := ?_) rfl (by kernel_rfl) (by kernel_rfl) (by kernel_rfl) (fun _ _ _ h => h) (by rfl) ?_ (by assumption) ?_; rotate_left; (focus (intro w hSw; (try dsimp only at hSw); go_simp; try with_reducible rfl)); try simp only [Act.put, List.setIfInBounds_toArray, List.set_cons_zero, List.set_cons_succ]
                        refine wpH_take (i := 7) (v := ?_) rfl (by kernel_rfl) (by kernel_rfl) (by kernel_rfl) (fun _ _ _ h => h) (by rfl) ?_ (by assumption) ?_; rotate_left; (focus (intro w hSw; (try dsimp only at hSw); go_simp; try with_reducible rfl)); try simp only [Act.put, List.setIfInBounds_toArray, List.set_cons_zero, List.set_cons_succ]
                        refine wpH_take (i := 8) (v := ?_) rfl (by kernel_rfl) (by kernel_rfl) (by kernel_rfl) (fun _ _ _ h => h) (by rfl) ?_ (by assumption) ?_; rotate_left; (focus (intro w hSw; (try dsimp only at hSw); go_simp; try with_reducible rfl)); try simp only [Act.put, List.setIfInBounds_toArray, List.set_cons_zero, List.set_cons_succ]
                        refine wpAnyH_done (by kernel_rfl) ?_ _
                        try dsimp only at hHeld
                        clear heq hHeld
                        have HOL8 := Lib.hid HOL7.out.drew
                        go_wp2
                        go_roundg (gk - 1)
                        case measure => omega
                        case rel => exact ⟨m + 1, left, _, _, by omega, by go_num, rfl, HFN2, by omega, HOL8⟩
                  · have hml : m = all.length := by omega
                    subst hml
                    rw [List.take_length] at HLF
                    have HI5 : Hid (CurI d' left ever' seen H K) := Lib.hid (by rw [HLF.out]; exact HI4.out)
                    have HW5 := Lib.hid (HW4.out.newA HOL.out.below HOL.out.rd HOL.out.low)
                    go_wp2
                    go_roundg (G1 - 1)
                    case measure => omega
                    case rel => exact ⟨k + 1, d', left, ever', seen, H, K, _, _, _, _, _, _, _, _, by omega, by go_num, rfl, rfl, rfl, rfl, rfl, rfl, HI5, HW5, by omega, by omega, by omega⟩
            · have h3b : (y % 3 == 0) = false := by simp [h3]
              have h3t : (y.tmod 3 == 0) = false := by rw [hqt]; exact h3b
              clear hqt
              obtain ⟨R, hR⟩ : ∃ R, R = nextF d H K := ⟨_, rfl⟩
              obtain ⟨⟨xh, xi, xn, xd⟩, ok⟩ := R
              have HNX : Hid (Calls Tryd.prog 38 #[.slice pd d.length cd, .int .i64 H, .int .i64 K] wr fun e w' => e = .returned (.tuple #[.agg #[.int .i64 xh, .int .i64 xi, .string xn, .int .i64 xd], .bool ok]) ∧ Below wr.heap.size wr w') := Lib.hid (by have := implNext_any pd _ cd d H K wr HW.out.dR HSM.out (HT.out.below HBX.out (Nat.le_refl _)); rw [← hR] at this; exact this)
              have HNH : Hid (ok = true → CurI d all ever (seen ++ [⟨xh, xi, xn, xd⟩]) xh xi ∧ lessH H K xh xi = true ∧ (⟨xh, xi, xn, xd⟩ : EntL) ∈ d) := Lib.hid (fun e => by subst e; exact HI.out.next hR.symm)
              clear hR
              go_wp2_with fail
              refine HNX.out.mono ?_
              rintro e w5 ⟨rfl, hb⟩
              obtain ⟨b0, b1, b2, b3⟩ := box4 w5 46 (.int .i64 xh) (.int .i64 xi) (.string xn) (.int .i64 xd)
              have HW5 := Lib.hid ((HW.out.kept hb).kept (boxA w5 (.cells #[.int .i64 xh, .int .i64 xi, .string xn, .int .i64 xd] 46)))
              clear hb HW HNX
              cases ok with
              | false =>
                clear b0 b1 b2 b3
                go_wp2
                go_meet
                exact ⟨d, all, ever, seen, H, K, _, _, _, _, _, _, _, _, rfl, rfl, rfl, rfl, rfl, rfl, HI, HW5, by omega, by omega, hl3⟩
              | true =>
                obtain ⟨hci, hls, -⟩ := HNH.out rfl
                have HI6 := Lib.hid hci
                rw [lessH_iff] at hls
                clear hci HNH
                by_cases hhx : H < xh
                · have e1 : ¬ xh < H := by omega
                  have e2 : (xh == H) = false := by simp; omega
                  have e3 : ¬ xh = H := by omega
                  clear hls
                  go_wp2_with (at_builtin; go_loud (refine wp_app1c rfl _ _ 41 rfl 46 (.agg #[.int .i64 0, .int .i64 0, .string ByteArray.empty, .int .i64 0]) 4 40 Tryd.underlying41 info_ent rfl (by decide) _ _ _ _ _ (by rfl) (by exact HW5.out.sO) _ _ _ (by rfl) (by first | rfl | simp) (by rfl) (by intro u hu; simp at hu; rcases hu with rfl | rfl | rfl | rfl <;> rfl) (by omega) (by unfold maxLen; omega) ?_); intro a9 c9 w9 hO9 hG9 hN9; have HO9 := Lib.hid hO9; have HG9 := Lib.hid hG9; have HN9 := Lib.hid hN9; clear hG9 hN9 hO9)
                  go_roundg (G1 - 1)
                  case measure => omega
                  case rel => exact ⟨k + 1, d, all, ever, seen ++ [⟨xh, xi, xn, xd⟩], xh, xi, _, _, _, _, _, _, _, _, by omega, by go_num, rfl, rfl, rfl, by rw [List.length_append]; rfl, rfl, rfl, HI6, Lib.hid (HW5.out.seenApp (x := ⟨xh, xi, xn, xd⟩) HO9.out HG9.out HN9.out), by rw [List.length_append]; simp; omega, by omega, hl3⟩
                · obtain rfl : xh = H := by omega
                  have e1 : ¬ xi ≤ K := by omega
                  clear hls hhx
                  go_wp2_with (at_builtin; go_loud (refine wp_app1c rfl _ _ 41 rfl 46 (.agg #[.int .i64 0, .int .i64 0, .string ByteArray.empty, .int .i64 0]) 4 40 Tryd.underlying41 info_ent rfl (by decide) _ _ _ _ _ (by rfl) (by exact HW5.out.sO) _ _ _ (by rfl) (by first | rfl | simp) (by rfl) (by intro u hu; simp at hu; rcases hu with rfl | rfl | rfl | rfl <;> rfl) (by omega) (by unfold maxLen; omega) ?_); intro a9 c9 w9 hO9 hG9 hN9; have HO9 := Lib.hid hO9; have HG9 := Lib.hid hG9; have HN9 := Lib.hid hN9; clear hG9 hN9 hO9)
                  go_roundg (G1 - 1)
                  case measure => omega
                  case rel => exact ⟨k + 1, d, all, ever, seen ++ [⟨xh, xi, xn, xd⟩], xh, xi, _, _, _, _, _, _, _, _, by omega, by go_num, rfl, rfl, rfl, by rw [List.length_append]; rfl, rfl, rfl, HI6, Lib.hid (HW5.out.seenApp (x := ⟨xh, xi, xn, xd⟩) HO9.out HG9.out HN9.out), by rw [List.length_append]; simp; omega, by omega, hl3⟩
          · have hke : ¬ (k : Int) < 60 := by omega
            go_wp2
            go_meet
            exact ⟨d, all, ever, seen, H, K, _, _, _, _, _, _, _, _, rfl, rfl, rfl, rfl, rfl, rfl, HI, HW, by omega, by omega, hl3⟩
      case rest => as_aux_lemma =>
        obtain ⟨d, all, ever, seen0, H0, K0, pd, pa, pe, ps0, cd, ca, ce, cs0, rfl, rfl, rfl, rfl, rfl, rfl, HI0, HW0, hl1, hl2, hl3⟩ := hcut
        have hbn := behindN_le HI0.out.dir H0 K0
        have HSM := Lib.hid (dir_small HI0.out.dir)
        have hdl := dir_len d HI0.out.dir
        go_wp2
        go_loopg [8, 9, 10, 24] 14 (fun gg v8 v9 v10 i wr => ∃ (k : Nat) (seen : List EntL) (H K : Int) (ps : Option Addr) (cs : Nat), k + gg = 14 ∧ i = .int .i64 (k : Int) ∧ v8 = .slice ps seen.length cs ∧ v9 = .int .i64 H ∧ v10 = .int .i64 K ∧ Hid (CurI d all ever seen H K) ∧ Hid (CurW V.heap.size V d all ever seen pd pa pe ps cd ca ce cs wr) ∧ seen.length ≤ 60 + k ∧ behindN d H K + k ≤ 14)
        case atStart => exact ⟨0, seen0, H0, K0, _, _, by omega, rfl, rfl, rfl, rfl, HI0, HW0, by omega, by omega⟩
        case round => as_aux_lemma =>
          obtain ⟨k, seen, H, K, ps, cs, hk, rfl, rfl, rfl, rfl, HI, HW, hls, hbk⟩ := hrel
          have HBX := Lib.hid (HBC.out.trans (HW.out.eO.below.mono HBC.out.size))
          clear HW0 HI0
          by_cases hk14 : k < 14
          · have hki : (k : Int) < 14 := by omega
            obtain ⟨R, hR⟩ : ∃ R, R = nextF d H K := ⟨_, rfl⟩
            obtain ⟨⟨xh, xi, xn, xd⟩, ok⟩ := R
            have HNX : Hid (Calls Tryd.prog 38 #[.slice pd d.length cd, .int .i64 H, .int .i64 K] wr fun e w' => e = .returned (.tuple #[.agg #[.int .i64 xh, .int .i64 xi, .string xn, .int .i64 xd], .bool ok]) ∧ Below wr.heap.size wr w') := Lib.hid (by have := implNext_any pd _ cd d H K wr HW.out.dR HSM.out (HT.out.below HBX.out (Nat.le_refl _)); rw [← hR] at this; exact this)
            have HNH : Hid (ok = true → CurI d all ever (seen ++ [⟨xh, xi, xn, xd⟩]) xh xi ∧ lessH H K xh xi = true ∧ (⟨xh, xi, xn, xd⟩ : EntL) ∈ d) := Lib.hid (fun e => by subst e; exact HI.out.next hR.symm)
            have HNN : Hid (ok = false → behindN d H K = 0) := Lib.hid (fun e => by subst e; exact (none_behind HI.out.dir hR.symm).2)
            clear hR
            go_wp2_with fail
            refine HNX.out.mono ?_
            rintro e w5 ⟨rfl, hb⟩
            obtain ⟨b0, b1, b2, b3⟩ := box4 w5 46 (.int .i64 xh) (.int .i64 xi) (.string xn) (.int .i64 xd)
            have HW5 := Lib.hid ((HW.out.kept hb).kept (boxA w5 (.cells #[.int .i64 xh, .int .i64 xi, .string xn, .int .i64 xd] 46)))
            clear hb HW HNX
            cases ok with
            | false =>
              have HN0 := HNN.out rfl
              clear b0 b1 b2 b3 HNN HNH
              go_wp2
              go_roundg (gk - 1)
              case measure => omega
              case rel => exact ⟨k + 1, seen, H, K, _, _, by omega, by go_num, rfl, rfl, rfl, HI, HW5, by omega, by omega⟩
            | true =>
              obtain ⟨hci, hls, hmem⟩ := HNH.out rfl
              have HI6 := Lib.hid hci
              have hbh := behind_hit hmem hls
              simp only at hbh
              clear hci HNH HNN hls hmem
              go_wp2_with (at_builtin; go_loud (refine wp_app1c rfl _ _ 41 rfl 46 (.agg #[.int .i64 0, .int .i64 0, .string ByteArray.empty, .int .i64 0]) 4 40 Tryd.underlying41 info_ent rfl (by decide) _ _ _ _ _ (by rfl) (by exact HW5.out.sO) _ _ _ (by rfl) (by first | rfl | simp) (by rfl) (by intro u hu; simp at hu; rcases hu with rfl | rfl | rfl | rfl <;> rfl) (by omega) (by unfold maxLen; omega) ?_); intro a9 c9 w9 hO9 hG9 hN9; have HO9 := Lib.hid hO9; have HG9 := Lib.hid hG9; have HN9 := Lib.hid hN9; clear hG9 hN9 hO9)
              go_roundg (gk - 1)
              case measure => omega
              case rel => exact ⟨k + 1, seen ++ [⟨xh, xi, xn, xd⟩], xh, xi, _, _, by omega, by go_num, by rw [List.length_append]; rfl, rfl, rfl, HI6, Lib.hid (HW5.out.seenApp (x := ⟨xh, xi, xn, xd⟩) HO9.out HG9.out HN9.out), by rw [List.length_append]; simp; omega, by omega⟩
          · have hke : ¬ (k : Int) < 14 := by omega
            have hb0 : behindN d H K = 0 := by omega
            have HON : Hid (∀ x ∈ all, seen.countP (fun s => sameE s x) = 1) := Lib.hid (fun x hx => HI.out.once hb0 x hx)
            have HEV : Hid (∀ x ∈ seen, ever.any (fun e => sameE e x) = true) := Lib.hid (fun x hx => HI.out.ever x hx)
            have HNX : Hid (∀ W, Rd W pd d.length cd 4 (ens d) → KTab W → Calls Tryd.prog 38 #[.slice pd d.length cd, .int .i64 H, .int .i64 K] W fun e w' => e = .returned (.tuple #[.agg #[.int .i64 0, .int .i64 0, .string ByteArray.empty, .int .i64 0], .bool false]) ∧ Below W.heap.size W w') := Lib.hid (fun W h hk => by have := implNext_any pd _ cd d H K W h HSM.out hk; rw [behind_none hb0] at this; exact this)
            obtain ⟨V3, hV3⟩ : ∃ x : World, x = wr := ⟨_, rfl⟩
            subst hV3
            have HS3 := Lib.hid HW.out.sO.rd
            have HE3 := Lib.hid HW.out.eO.rd
            have HA3 := Lib.hid HW.out.aR
            have HD3 := Lib.hid HW.out.dR
            clear HI HW hb0 hbk hl1 hbn
            go_wp2
            go_loopg [27] all.length (fun gg i w9 => ∃ m : Nat, m + gg = all.length ∧ i = .int .i64 (m : Int) ∧ Hid (Below V3.heap.size V3 w9))
            case atStart => exact ⟨0, by omega, rfl, Lib.hid (Below.refl _ _)⟩
            case round => as_aux_lemma =>
              obtain ⟨m, hm1, rfl, HB4⟩ := hrel
              obtain ⟨V4, hV4⟩ : ∃ x : World, x = wr := ⟨_, rfl⟩
              subst hV4
              obtain ⟨G4, hG4⟩ : ∃ x : Nat, x = gk := ⟨_, rfl⟩
              subst hG4
              by_cases hlt : m < all.length
              · obtain ⟨ba, oa, rfl, hba, p0, p1, p2, p3⟩ := ens_cells (HA3.out.below HB4.out (Nat.le_refl _)) m hlt
                have hon := HON.out all[m] (List.getElem_mem hlt)
                have HEQ : Hid (∀ (x : EntL) W, (Op.equalIn 10000 46 (.agg #[.int .i64 x.hash, .int .i64 x.index, .string x.name, .int .i64 x.id]) (.agg #[.int .i64 all[m].hash, .int .i64 all[m].index, .string all[m].name, .int .i64 all[m].id])).run Tryd.prog W = .ok (sameE x all[m]) W) := Lib.hid (fun x W => eqlin_ent x all[m] W)
                have HPF := Lib.hid (And.intro p0 (And.intro p1 (And.intro p2 p3)))
                have hmi : (m : Int) < (all.length : Int) := by omega
                have hm0 : (0 : Int) ≤ (m : Int) := by omega
                clear p0 p1 p2 p3
                generalize all[m] = x at *
                clear hlt
                obtain ⟨xh, xi, xn, xd⟩ := x
                simp only at HEQ HPF
                go_wp2
                go_loopg [28, 29] seen.length (fun gg n i w9 => ∃ q : Nat, q + gg = seen.length ∧ i = .int .i64 (q : Int) ∧ n = .int .i64 (((seen.take q).countP (fun s => sameE s ⟨xh, xi, xn, xd⟩) : Nat) : Int) ∧ Hid (Below V4.heap.size V4 w9))
                case atStart => exact ⟨0, by omega, rfl, rfl, Lib.hid (Below.refl _ _)⟩
                case round => as_aux_lemma =>
                  obtain ⟨q, hq1, rfl, rfl, HB5⟩ := hrel
                  by_cases hqlt : q < seen.length
                  · have hbq := below_step1 HB4.out HB5.out
                    obtain ⟨bs, os, rfl, hbs, s0, s1, s2, s3⟩ := ens_cells (HS3.out.below hbq (Nat.le_refl _)) q hqlt
                    obtain ⟨p0, p1, p2, p3⟩ := HPF.out
                    have HF := Lib.hid (And.intro s0 (And.intro s1 (And.intro s2 (And.intro s3 (And.intro (cellK p0 HB5.out) (And.intro (cellK p1 HB5.out) (And.intro (cellK p2 HB5.out) (cellK p3 HB5.out))))))))
                    have hcn := countP_next seen (fun s => sameE s ⟨xh, xi, xn, xd⟩) q hqlt
                    have hcl : (seen.take q).countP (fun s => sameE s ⟨xh, xi, xn, xd⟩) ≤ q := Nat.le_trans List.countP_le_length (by rw [List.length_take]; omega)
                    have hqi : (q : Int) < (seen.length : Int) := by omega
                    have hq0 : (0 : Int) ≤ (q : Int) := by omega
                    have heq := fun W => HEQ.out seen[q] W
                    have hwq : IntKind.i64.wrap ((((seen.take q).countP (fun s => sameE s ⟨xh, xi, xn, xd⟩) : Nat) : Int) + 1) = (((seen.take q).countP (fun s => sameE s ⟨xh, xi, xn, xd⟩) : Nat) : Int) + 1 := IntWalk.i64_in _ ⟨by omega, by omega⟩
                    have HCN := Lib.hid hcn
                    have hba2 : ba < wr.heap.size := Nat.lt_of_lt_of_le hba HB5.out.size
                    clear s0 s1 s2 s3 p0 p1 p2 p3 hbq hcn
                    generalize (seen.take q).countP (fun s => sameE s ⟨xh, xi, xn, xd⟩) = cn at *
                    generalize seen[q] = y at *
                    clear hqlt
                    obtain ⟨yh, yi, yn, yd⟩ := y
                    simp only at HF heq HCN
                    have HB6 := Lib.hid HB5.out.drew
                    cases hsq : sameE ⟨yh, yi, yn, yd⟩ ⟨xh, xi, xn, xd⟩ with
                    | true =>
                      rw [hsq] at heq HCN
                      clear hsq
                      go_wp2
                      refine wp_region_held_drew (S := (fun W => W.cell? ⟨bs, os + q * 4, none⟩ = some (.int .i64 yh) ∧ W.cell? ⟨bs, os + q * 4 + 1, none⟩ = some (.int .i64 yi) ∧ W.cell? ⟨bs, os + q * 4 + 2, none⟩ = some (.string yn) ∧ W.cell? ⟨bs, os + q * 4 + 3, none⟩ = some (.int .i64 yd) ∧ W.cell? ⟨ba, oa + m * 4, none⟩ = some (.int .i64 xh) ∧ W.cell? ⟨ba, oa + m * 4 + 1, none⟩ = some (.int .i64 xi) ∧ W.cell? ⟨ba, oa + m * 4 + 2, none⟩ = some (.string xn) ∧ W.cell? ⟨ba, oa + m * 4 + 3, none⟩ = some (.int .i64 xd))) (by kernel_rfl) ?_ (fun hHeld => ?_)
                      · try dsimp only
                        exact HF.out
                      change wpAnyH _ _ _ _ _ 9 #[false, false, false, false, false, false, false, false, false] _ _
                      refine wpH_take (i := 0) (v := ?_) rfl (by kernel_rfl) (by kernel_rfl) (by kernel_rfl) (fun _ _ _ h => h) (by rfl) ?_ (by assumption) ?_; rotate_left; (focus (intro w hSw; (try dsimp only at hSw); go_simp; try with_reducible rfl)); try simp only [Act.put, List.setIfInBounds_toArray, List.set_cons_zero, List.set_cons_succ]
                      refine wpH_take (i := 1) (v := ?_) rfl (by kernel_rfl) (by kernel_rfl) (by kernel_rfl) (fun _ _ _ h => h) (by rfl) ?_ (by assumption) ?_; rotate_left; (focus (intro w hSw; (try dsimp only at hSw); go_simp; try with_reducible rfl)); try simp only [Act.put, List.setIfInBounds_toArray, List.set_cons_zero, List.set_cons_succ]
                      refine wpH_take (i := 2) (v := ?_) rfl (by kernel_rfl) (by kernel_rfl) (by kernel_rfl) (fun _ _ _ h => h) (by rfl) ?_ (by assumption) ?_; rotate_left; (focus (intro w hSw; (try dsimp only at hSw); go_simp; try with_reducible rfl)); try simp only [Act.put, List.setIfInBounds_toArray, List.set_cons_zero, List.set_cons_succ]
                      refine wpH_take (i := 3) (v := ?_) rfl (by kernel_rfl) (by kernel_rfl) (by kernel_rfl) (fun _ _ _ h => h) (by rfl) ?_ (by assumption) ?_; rotate_left; (focus (intro w hSw; (try dsimp only at hSw); go_simp; try with_reducible rfl)); try simp only [Act.put, List.setIfInBounds_toArray, List.set_cons_zero, List.set_cons_succ]
                      refine wpH_take (i := 4) (v := ?_) rfl (by kernel_rfl) (by kernel_rfl) (by kernel_rfl) (fun _ _ _ h => h) (by rfl) ?_ (by assumption) ?_; rotate_left; (focus (intro w hSw; (try dsimp only at hSw); go_simp; try with_reducible rfl)); try simp only [Act.put, List.setIfInBounds_toArray, List.set_cons_zero, List.set_cons_succ]
                      refine wpH_take (i := 5) (v := ?_) rfl (by kernel_rfl) (by kernel_rfl) (by kernel_rfl) (fun _ _ _ h => h) (by rfl) ?_ (by assumption) ?_; rotate_left; (focus (intro w hSw; (try dsimp only at hSw); go_simp; try with_reducible rfl)); try simp only [Act.put, List.setIfInBounds_toArray, List.set_cons_zero, List.set_cons_succ]
                      refine wpH_take (i := 6) (v := ?_) rfl (by kernel_rfl) (by kernel_rfl) (by kernel_rfl) (fun _ _ _ h => h) (by rfl) ?_ (by assumption) ?_; rotate_left; (focus (intro w hSw; (try dsimp only at hSw); go_simp; try with_reducible rfl)); try simp only [Act.put, List.setIfInBounds_toArray, List.set_cons_zero, List.set_cons_succ]
                      refine wpH_take (i := 7) (v := ?_) rfl (by kernel_rfl) (by kernel_rfl) (by kernel_rfl) (fun _ _ _ h => h) (by rfl) ?_ (by assumption) ?_; rotate_left; (focus (intro w hSw; (try dsimp only at hSw); go_simp; try with_reducible rfl)); try simp only [Act.put, List.setIfInBounds_toArray, List.set_cons_zero, List.set_cons_succ]
                      refine wpH_take (i := 8) (v := ?_) rfl (by kernel_rfl) (by kernel_rfl) (by kernel_rfl) (fun _ _ _ h => h) (by rfl) ?_ (by assumption) ?_; rotate_left; (focus (intro w hSw; (try dsimp only at hSw); go_simp; try with_reducible rfl)); try simp only [Act.put, List.setIfInBounds_toArray, List.set_cons_zero, List.set_cons_succ]
                      refine wpAnyH_done (by kernel_rfl) ?_ _
                      try dsimp only at hHeld
                      clear hHeld heq
                      go_wp2
                      go_roundg (gk - 1)
                      case measure => omega
                      case rel => exact ⟨q + 1, by omega, by go_num, by rw [HCN.out]; rfl, HB6⟩
                    | false =>
                      rw [hsq] at heq HCN
                      clear hsq
                      go_wp2
                      refine wp_region_held_drew (S := (fun W => W.cell? ⟨bs, os + q * 4, none⟩ = some (.int .i64 yh) ∧ W.cell? ⟨bs, os + q * 4 + 1, none⟩ = some (.int .i64 yi) ∧ W.cell? ⟨bs, os + q * 4 + 2, none⟩ = some (.string yn) ∧ W.cell? ⟨bs, os + q * 4 + 3, none⟩ = some (.int .i64 yd) ∧ W.cell? ⟨ba, oa + m * 4, none⟩ = some (.int .i64 xh) ∧ W.cell? ⟨ba, oa + m * 4 + 1, none⟩ = some (.int .i64 xi) ∧ W.cell? ⟨ba, oa + m * 4 + 2, none⟩ = some (.string xn) ∧ W.cell? ⟨ba, oa + m * 4 + 3, none⟩ = some (.int .i64 xd))) (by kernel_rfl) ?_ (fun hHeld => ?_)
                      · try dsimp only
                        exact HF.out
                      change wpAnyH _ _ _ _ _ 9 #[false, false, false, false, false, false, false, false, false] _ _
                      refine wpH_take (i := 0) (v := ?_) rfl (by kernel_rfl) (by kernel_rfl) (by kernel_rfl) (fun _ _ _ h => h) (by rfl) ?_ (by assumption) ?_; rotate_left; (focus (intro w hSw; (try dsimp only at hSw); go_simp; try with_reducible rfl)); try simp only [Act.put, List.setIfInBounds_toArray, List.set_cons_zero, List.set_cons_succ]
                      refine wpH_take (i := 1) (v := ?_) rfl (by kernel_rfl) (by kernel_rfl) (by kernel_rfl) (fun _ _ _ h => h) (by rfl) ?_ (by assumption) ?_; rotate_left; (focus (intro w hSw; (try dsimp only at hSw); go_simp; try with_reducible rfl)); try simp only [Act.put, List.setIfInBounds_toArray, List.set_cons_zero, List.set_cons_succ]
                      refine wpH_take (i := 2) (v := ?_) rfl (by kernel_rfl) (by kernel_rfl) (by kernel_rfl) (fun _ _ _ h => h) (by rfl) ?_ (by assumption) ?_; rotate_left; (focus (intro w hSw; (try dsimp only at hSw); go_simp; try with_reducible rfl)); try simp only [Act.put, List.setIfInBounds_toArray, List.set_cons_zero, List.set_cons_succ]
                      refine wpH_take (i := 3) (v := ?_) rfl (by kernel_rfl) (by kernel_rfl) (by kernel_rfl) (fun _ _ _ h => h) (by rfl) ?_ (by assumption) ?_; rotate_left; (focus (intro w hSw; (try dsimp only at hSw); go_simp; try with_reducible rfl)); try simp only [Act.put, List.setIfInBounds_toArray, List.set_cons_zero, List.set_cons_succ]
                      refine wpH_take (i := 4) (v := ?_) rfl (by kernel_rfl) (by kernel_rfl) (by kernel_rfl) (fun _ _ _ h => h) (by rfl) ?_ (by assumption) ?_; rotate_left; (focus (intro w hSw; (try dsimp only at hSw); go_simp; try with_reducible rfl)); try simp only [Act.put, List.setIfInBounds_toArray, List.set_cons_zero, List.set_cons_succ]
                      refine wpH_take (i := 5) (v := ?_) rfl (by kernel_rfl) (by kernel_rfl) (by kernel_rfl) (fun _ _ _ h => h) (by rfl) ?_ (by assumption) ?_; rotate_left; (focus (intro w hSw; (try dsimp only at hSw); go_simp; try with_reducible rfl)); try simp only [Act.put, List.setIfInBounds_toArray, List.set_cons_zero, List.set_cons_succ]
                      refine wpH_take (i := 6) (v := ?_) rfl (by kernel_rfl) (by kernel_rfl) (by kernel_rfl) (fun _ _ _ h => h) (by rfl) ?_ (by assumption) ?_; rotate_left; (focus (intro w hSw; (try dsimp only at hSw); go_simp; try with_reducible rfl)); try simp only [Act.put, List.setIfInBounds_toArray, List.set_cons_zero, List.set_cons_succ]
                      refine wpH_take (i := 7) (v := ?_) rfl (by kernel_rfl) (by kernel_rfl) (by kernel_rfl) (fun _ _ _ h => h) (by rfl) ?_ (by assumption) ?_; rotate_left; (focus (intro w hSw; (try dsimp only at hSw); go_simp; try with_reducible rfl)); try simp only [Act.put, List.setIfInBounds_toArray, List.set_cons_zero, List.set_cons_succ]
                      refine wpH_take (i := 8) (v := ?_) rfl (by kernel_rfl) (by kernel_rfl) (by kernel_rfl) (fun _ _ _ h => h) (by rfl) ?_ (by assumption) ?_; rotate_left; (focus (intro w hSw; (try dsimp only at hSw); go_simp; try with_reducible rfl)); try simp only [Act.put, List.setIfInBounds_toArray, List.set_cons_zero, List.set_cons_succ]
                      refine wpAnyH_done (by kernel_rfl) ?_ _
                      try dsimp only at hHeld
                      clear hHeld heq
                      go_wp2
                      go_roundg (gk - 1)
                      case measure => omega
                      case rel => exact ⟨q + 1, by omega, by go_num, by rw [HCN.out]; rfl, HB6⟩
                  · have hql : q = seen.length := by omega
                    subst hql
                    rw [List.take_length, hon]
                    have HB7 := Lib.hid (below_step1 HB4.out HB5.out)
                    have hqi : ¬ (seen.length : Int) < (seen.length : Int) := by omega
                    go_wp2
                    go_roundg (G4 - 1)
                    case measure => omega
                    case rel => exact ⟨m + 1, by omega, by go_num, HB7⟩
              · have hml : ¬ (m : Int) < (all.length : Int) := by omega
                clear HON
                go_wp2
                go_loopg [30] seen.length (fun gg i w9 => ∃ m : Nat, m + gg = seen.length ∧ i = .int .i64 (m : Int) ∧ Hid (Below V4.heap.size V4 w9))
                case atStart => exact ⟨0, by omega, rfl, Lib.hid (Below.refl _ _)⟩
                case round => as_aux_lemma =>
                  obtain ⟨q, hq1, rfl, HB5⟩ := hrel
                  have HB5' := Lib.hid (below_step1 HB4.out HB5.out)
                  obtain ⟨V5, hV5⟩ : ∃ x : World, x = wr := ⟨_, rfl⟩
                  subst hV5
                  obtain ⟨G5, hG5⟩ : ∃ x : Nat, x = gk := ⟨_, rfl⟩
                  subst hG5
                  by_cases hqlt : q < seen.length
                  · obtain ⟨bs, os, rfl, hbs, s0, s1, s2, s3⟩ := ens_cells (HS3.out.below HB5'.out (Nat.le_refl _)) q hqlt
                    have hev := HEV.out seen[q] (List.getElem_mem hqlt)
                    have HEQ : Hid (∀ (x : EntL) W, (Op.equalIn 10000 46 (.agg #[.int .i64 x.hash, .int .i64 x.index, .string x.name, .int .i64 x.id]) (.agg #[.int .i64 seen[q].hash, .int .i64 seen[q].index, .string seen[q].name, .int .i64 seen[q].id])).run Tryd.prog W = .ok (sameE x seen[q]) W) := Lib.hid (fun x W => eqlin_ent x seen[q] W)
                    have HSF := Lib.hid (And.intro s0 (And.intro s1 (And.intro s2 s3)))
                    have hqi : (q : Int) < (seen.length : Int) := by omega
                    have hq0 : (0 : Int) ≤ (q : Int) := by omega
                    clear s0 s1 s2 s3
                    generalize seen[q] = x at *
                    clear hqlt
                    obtain ⟨xh, xi, xn, xd⟩ := x
                    simp only at HEQ HSF
                    go_wp2
                    go_loopg [31, 32] ever.length (fun gg n i w9 => ∃ j : Nat, j + gg = ever.length ∧ i = .int .i64 (j : Int) ∧ n = .bool ((ever.take j).any (fun e => sameE e ⟨xh, xi, xn, xd⟩)) ∧ Hid (Below V5.heap.size V5 w9))
                    case atStart => exact ⟨0, by omega, rfl, rfl, Lib.hid (Below.refl _ _)⟩
                    case round => as_aux_lemma =>
                      obtain ⟨j, hj1, rfl, rfl, HB6⟩ := hrel
                      by_cases hjlt : j < ever.length
                      · have hbq := below_step1 HB5'.out HB6.out
                        obtain ⟨be, oe, rfl, hbe, t0, t1, t2, t3⟩ := ens_cells (HE3.out.below hbq (Nat.le_refl _)) j hjlt
                        obtain ⟨p0, p1, p2, p3⟩ := HSF.out
                        have HF := Lib.hid (And.intro t0 (And.intro t1 (And.intro t2 (And.intro t3 (And.intro (cellK p0 HB6.out) (And.intro (cellK p1 HB6.out) (And.intro (cellK p2 HB6.out) (cellK p3 HB6.out))))))))
                        have HCN := Lib.hid (anyE_next ever (fun e => sameE e ⟨xh, xi, xn, xd⟩) j hjlt)
                        have hji : (j : Int) < (ever.length : Int) := by omega
                        have hj0 : (0 : Int) ≤ (j : Int) := by omega
                        have heq := fun W => HEQ.out ever[j] W
                        have hbs2 : bs < wr.heap.size := Nat.lt_of_lt_of_le hbs HB6.out.size
                        clear t0 t1 t2 t3 p0 p1 p2 p3 hbq
                        generalize (ever.take j).any (fun e => sameE e ⟨xh, xi, xn, xd⟩) = an at *
                        generalize ever[j] = y at *
                        clear hjlt
                        obtain ⟨yh, yi, yn, yd⟩ := y
                        simp only at HF heq HCN
                        have HB7 := Lib.hid HB6.out.drew
                        cases an with
                        | true =>
                          clear heq
                          go_wp2
                          refine wp_region_held_drew (S := (fun W => W.cell? ⟨be, oe + j * 4, none⟩ = some (.int .i64 yh) ∧ W.cell? ⟨be, oe + j * 4 + 1, none⟩ = some (.int .i64 yi) ∧ W.cell? ⟨be, oe + j * 4 + 2, none⟩ = some (.string yn) ∧ W.cell? ⟨be, oe + j * 4 + 3, none⟩ = some (.int .i64 yd) ∧ W.cell? ⟨bs, os + q * 4, none⟩ = some (.int .i64 xh) ∧ W.cell? ⟨bs, os + q * 4 + 1, none⟩ = some (.int .i64 xi) ∧ W.cell? ⟨bs, os + q * 4 + 2, none⟩ = some (.string xn) ∧ W.cell? ⟨bs, os + q * 4 + 3, none⟩ = some (.int .i64 xd))) (by kernel_rfl) ?_ (fun hHeld => ?_)
                          · try dsimp only
                            exact HF.out
                          change wpAnyH _ _ _ _ _ 13 #[false, false, false, false, false, false, false, false, false, false, false, false, false] _ _
                          refine wpH_take (i := 0) (v := ?_) rfl (by kernel_rfl) (by kernel_rfl) (by kernel_rfl) (fun _ _ _ h => h) (by rfl) ?_ (by assumption) ?_; rotate_left; (focus (intro w hSw; (try dsimp only at hSw); go_simp; try with_reducible rfl)); try simp only [Act.put, List.setIfInBounds_toArray, List.set_cons_zero, List.set_cons_succ]
                          refine wpH_take (i := 1) (v := ?_) rfl (by kernel_rfl) (by kernel_rfl) (by kernel_rfl) (fun _ _ _ h => h) (by rfl) ?_ (by assumption) ?_; rotate_left; (focus (intro w hSw; (try dsimp only at hSw); go_simp; try with_reducible rfl)); try simp only [Act.put, List.setIfInBounds_toArray, List.set_cons_zero, List.set_cons_succ]
                          refine wpH_off (i := 2) rfl (by kernel_rfl) (by kernel_rfl) (by kernel_rfl) (fun _ _ _ h => h) (by rfl) (by assumption) ?_; try simp only [Act.put, List.setIfInBounds_toArray, List.set_cons_zero, List.set_cons_succ]
                          refine wpH_off (i := 3) rfl (by kernel_rfl) (by kernel_rfl) (by kernel_rfl) (fun _ _ _ h => h) (by rfl) (by assumption) ?_; try simp only [Act.put, List.setIfInBounds_toArray, List.set_cons_zero, List.set_cons_succ]
                          refine wpH_off (i := 4) rfl (by kernel_rfl) (by kernel_rfl) (by kernel_rfl) (fun _ _ _ h => h) (by rfl) (by assumption) ?_; try simp only [Act.put, List.setIfInBounds_toArray, List.set_cons_zero, List.set_cons_succ]
                          refine wpH_off (i := 5) rfl (by kernel_rfl) (by kernel_rfl) (by kernel_rfl) (fun _ _ _ h => h) (by rfl) (by assumption) ?_; try simp only [Act.put, List.setIfInBounds_toArray, List.set_cons_zero, List.set_cons_succ]
                          refine wpH_off (i := 6) rfl (by kernel_rfl) (by kernel_rfl) (by kernel_rfl) (fun _ _ _ h => h) (by rfl) (by assumption) ?_; try simp only [Act.put, List.setIfInBounds_toArray, List.set_cons_zero, List.set_cons_succ]
                          refine wpH_off (i := 7) rfl (by kernel_rfl) (by kernel_rfl) (by kernel_rfl) (fun _ _ _ h => h) (by rfl) (by assumption) ?_; try simp only [Act.put, List.setIfInBounds_toArray, List.set_cons_zero, List.set_cons_succ]
                          refine wpH_off (i := 8) rfl (by kernel_rfl) (by kernel_rfl) (by kernel_rfl) (fun _ _ _ h => h) (by rfl) (by assumption) ?_; try simp only [Act.put, List.setIfInBounds_toArray, List.set_cons_zero, List.set_cons_succ]
                          refine wpH_off (i := 9) rfl (by kernel_rfl) (by kernel_rfl) (by kernel_rfl) (fun _ _ _ h => h) (by rfl) (by assumption) ?_; try simp only [Act.put, List.setIfInBounds_toArray, List.set_cons_zero, List.set_cons_succ]
                          refine wpH_off (i := 10) rfl (by kernel_rfl) (by kernel_rfl) (by kernel_rfl) (fun _ _ _ h => h) (by rfl) (by assumption) ?_; try simp only [Act.put, List.setIfInBounds_toArray, List.set_cons_zero, List.set_cons_succ]
                          refine wpH_take (i := 11) (v := ?_) rfl (by kernel_rfl) (by kernel_rfl) (by kernel_rfl) (fun _ _ _ h => h) (by rfl) ?_ (by assumption) ?_; rotate_left; (focus (intro w hSw; (try dsimp only at hSw); go_simp; try with_reducible rfl)); try simp only [Act.put, List.setIfInBounds_toArray, List.set_cons_zero, List.set_cons_succ]
                          refine wpH_take (i := 12) (v := ?_) rfl (by kernel_rfl) (by kernel_rfl) (by kernel_rfl) (fun _ _ _ h => h) (by rfl) ?_ (by assumption) ?_; rotate_left; (focus (intro w hSw; (try dsimp only at hSw); go_simp; try with_reducible rfl)); try simp only [Act.put, List.setIfInBounds_toArray, List.set_cons_zero, List.set_cons_succ]
                          refine wpAnyH_done (by kernel_rfl) ?_ _
                          try dsimp only at hHeld
                          clear hHeld
                          go_wp2
                          go_roundg (gk - 1)
                          case measure => omega
                          case rel => exact ⟨j + 1, by omega, by go_num, by rw [HCN.out]; rfl, HB7⟩
                        | false =>
                          generalize hsq : sameE ⟨yh, yi, yn, yd⟩ ⟨xh, xi, xn, xd⟩ = sq at *
                          clear hsq
                          go_wp2
                          refine wp_region_held_drew (S := (fun W => W.cell? ⟨be, oe + j * 4, none⟩ = some (.int .i64 yh) ∧ W.cell? ⟨be, oe + j * 4 + 1, none⟩ = some (.int .i64 yi) ∧ W.cell? ⟨be, oe + j * 4 + 2, none⟩ = some (.string yn) ∧ W.cell? ⟨be, oe + j * 4 + 3, none⟩ = some (.int .i64 yd) ∧ W.cell? ⟨bs, os + q * 4, none⟩ = some (.int .i64 xh) ∧ W.cell? ⟨bs, os + q * 4 + 1, none⟩ = some (.int .i64 xi) ∧ W.cell? ⟨bs, os + q * 4 + 2, none⟩ = some (.string xn) ∧ W.cell? ⟨bs, os + q * 4 + 3, none⟩ = some (.int .i64 xd))) (by kernel_rfl) ?_ (fun hHeld => ?_)
                          · try dsimp only
                            exact HF.out
                          change wpAnyH _ _ _ _ _ 13 #[false, false, false, false, false, false, false, false, false, false, false, false, false] _ _
                          refine wpH_take (i := 0) (v := ?_) rfl (by kernel_rfl) (by kernel_rfl) (by kernel_rfl) (fun _ _ _ h => h) (by rfl) ?_ (by assumption) ?_; rotate_left; (focus (intro w hSw; (try dsimp only at hSw); go_simp; try with_reducible rfl)); try simp only [Act.put, List.setIfInBounds_toArray, List.set_cons_zero, List.set_cons_succ]
                          refine wpH_take (i := 1) (v := ?_) rfl (by kernel_rfl) (by kernel_rfl) (by kernel_rfl) (fun _ _ _ h => h) (by rfl) ?_ (by assumption) ?_; rotate_left; (focus (intro w hSw; (try dsimp only at hSw); go_simp; try with_reducible rfl)); try simp only [Act.put, List.setIfInBounds_toArray, List.set_cons_zero, List.set_cons_succ]
                          refine wpH_take (i := 2) (v := ?_) rfl (by kernel_rfl) (by kernel_rfl) (by kernel_rfl) (fun _ _ _ h => h) (by rfl) ?_ (by assumption) ?_; rotate_left; (focus (intro w hSw; (try dsimp only at hSw); go_simp; try with_reducible rfl)); try simp only [Act.put, List.setIfInBounds_toArray, List.set_cons_zero, List.set_cons_succ]
                          refine wpH_take (i := 3) (v := ?_) rfl (by kernel_rfl) (by kernel_rfl) (by kernel_rfl) (fun _ _ _ h => h) (by rfl) ?_ (by assumption) ?_; rotate_left; (focus (intro w hSw; (try dsimp only at hSw); go_simp; try with_reducible rfl)); try simp only [Act.put, List.setIfInBounds_toArray, List.set_cons_zero, List.set_cons_succ]
                          refine wpH_take (i := 4) (v := ?_) rfl (by kernel_rfl) (by kernel_rfl) (by kernel_rfl) (fun _ _ _ h => h) (by rfl) ?_ (by assumption) ?_; rotate_left; (focus (intro w hSw; (try dsimp only at hSw); go_simp; try with_reducible rfl)); try simp only [Act.put, List.setIfInBounds_toArray, List.set_cons_zero, List.set_cons_succ]
                          refine wpH_take (i := 5) (v := ?_) rfl (by kernel_rfl) (by kernel_rfl) (by kernel_rfl) (fun _ _ _ h => h) (by rfl) ?_ (by assumption) ?_; rotate_left; (focus (intro w hSw; (try dsimp only at hSw); go_simp; try with_reducible rfl)); try simp only [Act.put, List.setIfInBounds_toArray, List.set_cons_zero, List.set_cons_succ]
                          refine wpH_take (i := 6) (v := ?_) rfl (by kernel_rfl) (by kernel_rfl) (by kernel_rfl) (fun _ _ _ h => h) (by rfl) ?_ (by assumption) ?_; rotate_left; (focus (intro w hSw; (try dsimp only at hSw); go_simp; try with_reducible rfl)); try simp only [Act.put, List.setIfInBounds_toArray, List.set_cons_zero, List.set_cons_succ]
                          refine wpH_take (i := 7) (v := ?_) rfl (by kernel_rfl) (by kernel_rfl) (by kernel_rfl) (fun _ _ _ h => h) (by rfl) ?_ (by assumption) ?_; rotate_left; (focus (intro w hSw; (try dsimp only at hSw); go_simp; try with_reducible rfl)); try simp only [Act.put, List.setIfInBounds_toArray, List.set_cons_zero, List.set_cons_succ]
                          refine wpH_take (i := 8) (v := ?_) rfl (by kernel_rfl) (by kernel_rfl) (by kernel_rfl) (fun _ _ _ h => h) (by rfl) ?_ (by assumption) ?_; rotate_left; (focus (intro w hSw; (try dsimp only at hSw); go_simp; try with_reducible rfl)); try simp only [Act.put, List.setIfInBounds_toArray, List.set_cons_zero, List.set_cons_succ]
                          refine wpH_take (i := 9) (v := ?_) rfl (by kernel_rfl) (by kernel_rfl) (by kernel_rfl) (fun _ _ _ h => h) (by rfl) ?_ (by assumption) ?_; rotate_left; (focus (intro w hSw; (try dsimp only at hSw); go_simp; try with_reducible rfl)); try simp only [Act.put, List.setIfInBounds_toArray, List.set_cons_zero, List.set_cons_succ]
                          refine wpH_take (i := 10) (v := ?_) rfl (by kernel_rfl) (by kernel_rfl) (by kernel_rfl) (fun _ _ _ h => h) (by rfl) ?_ (by assumption) ?_; rotate_left; (focus (intro w hSw; (try dsimp only at hSw); go_simp; try with_reducible rfl)); try simp only [Act.put, List.setIfInBounds_toArray, List.set_cons_zero, List.set_cons_succ]
                          refine wpH_take (i := 11) (v := ?_) rfl (by kernel_rfl) (by kernel_rfl) (by kernel_rfl) (fun _ _ _ h => h) (by rfl) ?_ (by assumption) ?_; rotate_left; (focus (intro w hSw; (try dsimp only at hSw); go_simp; try with_reducible rfl)); try simp only [Act.put, List.setIfInBounds_toArray, List.set_cons_zero, List.set_cons_succ]
                          refine wpH_take (i := 12) (v := ?_) rfl (by kernel_rfl) (by kernel_rfl) (by kernel_rfl) (fun _ _ _ h => h) (by rfl) ?_ (by assumption) ?_; rotate_left; (focus (intro w hSw; (try dsimp only at hSw); go_simp; try with_reducible rfl)); try simp only [Act.put, List.setIfInBounds_toArray, List.set_cons_zero, List.set_cons_succ]
                          refine wpAnyH_done (by kernel_rfl) ?_ _
                          try dsimp only at hHeld
                          clear hHeld heq
                          go_wp2
                          go_roundg (gk - 1)
                          case measure => omega
                          case rel => exact ⟨j + 1, by omega, by go_num, by rw [HCN.out]; rfl, HB7⟩
                      · have hjl : j = ever.length := by omega
                        subst hjl
                        rw [List.take_length, hev]
                        have HB7 := Lib.hid (below_step1 HB5.out HB6.out)
                        have hji : ¬ (ever.length : Int) < (ever.length : Int) := by omega
                        go_wp2
                        go_roundg (G5 - 1)
                        case measure => omega
                        case rel => exact ⟨q + 1, by omega, by go_num, HB7⟩
                  · have hqi : ¬ (q : Int) < (seen.length : Int) := by omega
                    have HBZ := Lib.hid (below_step1 HBX.out HB5'.out)
                    go_wp2_with fail
                    refine (HNX.out _ (HD3.out.below HB5'.out (Nat.le_refl _)) (HT.out.below HBZ.out (Nat.le_refl _))).mono ?_
                    rintro e w8 ⟨rfl, hb⟩
                    have HBY := Lib.hid (below_step1 (below_step1 HBZ.out hb) (boxA w8 (.cells #[.int .i64 0, .int .i64 0, .string ByteArray.empty, .int .i64 0] 46)))
                    clear hb
                    go_wp2
                    go_ret
                    exact ⟨rfl, HBY.out⟩
end Go.Proofs.YtgoodpphinakaaaDoor
