import Derived.Test.YtlkfabkkjfmnmaaKaj
namespace Go.Proofs.Ytlkfabkkjfmnmaa
open Go.RowKit
set_option linter.all false
structure InoL where
 id : Int
 kind : Int
 links : Int
 data : ByteArray
 ents : List EntL
def atK (l : List InoL) (id : Int) : Nat := l.findIdx (fun x => x.id == id)
def atF (l : List InoL) (id : Int) : Int := if atK l id < l.length then (atK l id : Int) else -1
theorem atK_id (l : List InoL) (id : Int) (h : atK l id < l.length) : l[atK l id].id = id := by
 have h2 : (l[atK l id].id == id) = true := List.findIdx_getElem (p := fun x : InoL => x.id == id) (xs := l) (w := h)
 exact eq_of_beq h2
theorem atF_range (l : List InoL) (id : Int) : -1 ≤ atF l id ∧ atF l id < l.length := by
 unfold atF; split <;> omega
theorem atF_hit (l : List InoL) (id : Int) (k : Nat) (hk : k < l.length) (h : l[k].id = id) (hno : ∀ j (hj : j < k), l[j].id ≠ id) : atF l id = k := by
 have e : atK l id = k := by
  unfold atK
  rw [List.findIdx_eq hk]
  exact ⟨by simpa using h, fun j hj => by simpa using hno j hj⟩
 unfold atF
 rw [e, if_pos hk]
theorem atF_miss (l : List InoL) (id : Int) (hno : ∀ x ∈ l, x.id ≠ id) : atF l id = -1 := by
 have e : atK l id = l.length := by
  unfold atK
  rw [List.findIdx_eq_length]
  intro x hx
  simpa using hno x hx
 unfold atF
 rw [e, if_neg (by omega)]
theorem atF_mem (l : List InoL) (id : Int) : 0 ≤ atF l id ↔ ∃ x ∈ l, x.id = id := by
 constructor
 ·intro h
  unfold atF at h
  split at h
  ·rename_i hk
   exact ⟨_, List.getElem_mem hk, atK_id l id hk⟩
  ·omega
 ·rintro ⟨x, hx, e⟩
  by_cases hall : ∀ y ∈ l, y.id ≠ id
  ·exact absurd e (hall x hx)
  ·have hk : atK l id < l.length := by
    unfold atK
    rw [List.findIdx_lt_length]
    exact ⟨x, hx, by simpa using e⟩
   unfold atF
   rw [if_pos hk]
   omega
theorem atF_get (l : List InoL) (id : Int) (k : Nat) (h : atF l id = k) : ∃ hk : k < l.length, l[k].id = id := by
 have hk : atK l id < l.length := by
  unfold atF at h
  split at h
  ·assumption
  ·omega
 have e : atK l id = k := by unfold atF at h; rw [if_pos hk] at h; omega
 subst e
 exact ⟨hk, atK_id l id hk⟩
def cntE (es : List EntL) (id : Int) : Nat := es.countP (fun e => e.id == id)
def linksF (l : List InoL) (id : Int) : Nat := (l.map (fun x => cntE x.ents id)).sum
theorem cntE_le (es : List EntL) (id : Int) : cntE es id ≤ es.length := List.countP_le_length
inductive Bel (l : List InoL) (r : Int) : Int → Prop
 | kid (k : Nat) (hk : k < l.length) (ha : atF l r = k) (e : EntL) (he : e ∈ l[k].ents) : Bel l r e.id
 | more (y : Int) (hy : Bel l r y) (k : Nat) (hk : k < l.length) (ha : atF l y = k) (e : EntL) (he : e ∈ l[k].ents) : Bel l r e.id
theorem bel_closed {l : List InoL} {r : Int} (out : List Int) (hs : ∀ y ∈ out, Bel l r y)
  (hc : ∀ y, (y = r ∨ y ∈ out) → ∀ k (hk : k < l.length), atF l y = (k : Int) → ∀ e ∈ l[k].ents, e.id ∈ out) : ∀ y, y ∈ out ↔ Bel l r y := by
 intro y
 refine ⟨hs y, fun h => ?_⟩
 induction h with
 | kid k hk ha e he => exact hc r (.inl rfl) k hk ha e he
 | more y _ k hk ha e he ih => exact hc y (.inr ih) k hk ha e he
def mk (b : List Bool) (x : Nat) : Bool := b.getD x false
theorem mk_set (b : List Bool) (x y : Nat) (h : x < b.length) : mk (b.set x true) y = (decide (x = y) || mk b y) := by
 unfold mk
 rw [List.getD_eq_getElem?_getD, List.getD_eq_getElem?_getD, List.getElem?_set]
 by_cases e : x = y
 ·rw [if_pos e, if_pos h, decide_eq_true e]; rfl
 ·rw [if_neg e, decide_eq_false e]; rfl
theorem mk_get (b : List Bool) (x : Nat) (h : x < b.length) : b[x] = mk b x := by unfold mk; rw [List.getD_eq_getElem?_getD, List.getElem?_eq_getElem h]; rfl
theorem mk_ext (a b : List Bool) (hl : a.length = b.length) (h : ∀ x, mk a x = mk b x) : a = b := by
 refine List.ext_getElem hl fun i h1 h2 => ?_
 rw [mk_get a i h1, mk_get b i h2, h i]
theorem mk_rep (n x : Nat) : mk (List.replicate n false) x = false := by
 unfold mk
 rw [List.getD_eq_getElem?_getD, List.getElem?_replicate]
 split <;> rfl
def cntB (b : List Bool) : Nat := b.countP id
theorem cnt_mono : ∀ (a b : List Bool), a.length = b.length → (∀ x, mk a x = true → mk b x = true) → cntB a ≤ cntB b ∧ (a ≠ b → cntB a < cntB b) := by
 intro a
 induction a with
 | nil => intro b hl _; cases b with
  | nil => exact ⟨Nat.le_refl _, fun h => absurd rfl h⟩
  | cons => simp at hl
 | cons x a ih =>
  intro b hl hm
  cases b with
  | nil => simp at hl
  | cons y b =>
   obtain ⟨h1, h2⟩ := ih b (by simpa using hl) (fun k hk => by have := hm (k + 1) (by simpa [mk] using hk); simpa [mk] using this)
   have h0 := hm 0
   unfold cntB at *
   rw [List.countP_cons, List.countP_cons]
   cases x with
   | true =>
    have hy : y = true := by simpa [mk] using h0
    subst hy
    refine ⟨by simp; omega, fun hne => ?_⟩
    have := h2 (fun e => hne (by rw [e]))
    simp; omega
   | false =>
    cases y with
    | true => exact ⟨by simp; omega, fun _ => by simp; omega⟩
    | false =>
     refine ⟨by simp; omega, fun hne => ?_⟩
     have := h2 (fun e => hne (by rw [e]))
     simp; omega
theorem cnt_le (b : List Bool) : cntB b ≤ b.length := List.countP_le_length
def Kid (l : List InoL) (i x : Nat) : Prop := ∃ h : i < l.length, ∃ e ∈ l[i].ents, atF l e.id = (x : Int)
def Clo (l : List InoL) (inn opn : List Bool) : Prop := ∀ i, mk opn i = true → ∀ x, Kid l i x → mk inn x = true ∧ mk opn x = true
structure Bst (l : List InoL) (r : Int) (a0 : Nat) (inn opn : List Bool) : Prop where
 li : inn.length = l.length
 lo : opn.length = l.length
 si : ∀ x, mk inn x = true → ∃ y, Bel l r y ∧ atF l y = (x : Int)
 so : ∀ x, mk opn x = true → x = a0 ∨ ∃ y, Bel l r y ∧ atF l y = (x : Int)
 o0 : mk opn a0 = true
structure Rnd (l : List InoL) (r : Int) (a0 : Nat) (inn0 opn0 : List Bool) (i k : Nat) (inn opn : List Bool) : Prop where
 st : Bst l r a0 inn opn
 mi : ∀ x, mk inn0 x = true → mk inn x = true
 mo : ∀ x, mk opn0 x = true → mk opn x = true
 dn : ∀ j, j < i → mk opn0 j = true → ∀ x, Kid l j x → mk inn x = true ∧ mk opn x = true
 here : k = 0 ∨ mk opn i = true
 hd : ∀ m, m < k → ∀ (h : i < l.length) (hm : m < l[i].ents.length) (x : Nat), atF l l[i].ents[m].id = (x : Int) → mk inn x = true ∧ mk opn x = true
 cl : Clo l inn0 opn0 → inn = inn0 ∧ opn = opn0
 l0 : inn0.length = l.length ∧ opn0.length = l.length
theorem rnd_start {l : List InoL} {r : Int} {a0 : Nat} {inn opn : List Bool} (h : Bst l r a0 inn opn) : Rnd l r a0 inn opn 0 0 inn opn :=
 ⟨h, fun _ h => h, fun _ h => h, fun _ h => by omega, .inl rfl, fun _ h => by omega, fun _ => ⟨rfl, rfl⟩, ⟨h.li, h.lo⟩⟩
theorem rnd_mark {l : List InoL} {r : Int} {a0 : Nat} {inn0 opn0 inn opn : List Bool} {i k : Nat} (ha : atF l r = (a0 : Int)) (h : Rnd l r a0 inn0 opn0 i k inn opn) (hi : i < l.length) (hk : k < l[i].ents.length) (ho : mk opn i = true)
  (x : Nat) (hx : atF l l[i].ents[k].id = (x : Int)) : Rnd l r a0 inn0 opn0 i (k + 1) (inn.set x true) (opn.set x true) := by
 obtain ⟨⟨li, lo, si, so, o0⟩, mi, mo, dn, _, hd, cl, l0⟩ := h
 have hxl : x < l.length := by have := (atF_range l l[i].ents[k].id).2; omega
 have hbel : ∃ y, Bel l r y ∧ atF l y = (x : Int) := by
  refine ⟨l[i].ents[k].id, ?_, hx⟩
  rcases so i ho with e | ⟨y, hy, hy2⟩
  ·exact .kid i hi (by rw [ha, e]) _ (List.getElem_mem hk)
  ·exact .more y hy i hi hy2 _ (List.getElem_mem hk)
 have g : ∀ b : List Bool, b.length = l.length → ∀ y, mk (b.set x true) y = (decide (x = y) || mk b y) := fun b hb y => mk_set b x y (by omega)
 have up : ∀ b : List Bool, b.length = l.length → ∀ y, mk b y = true → mk (b.set x true) y = true := fun b hb y hy => by rw [g b hb y, hy, Bool.or_true]
 have dn' : ∀ (b : List Bool), b.length = l.length → ∀ y, mk (b.set x true) y = true → x = y ∨ mk b y = true := fun b hb y hy => by
  rw [g b hb y] at hy; simpa using hy
 refine ⟨⟨by simpa using li, by simpa using lo, fun y hy => ?_, fun y hy => ?_, up _ lo _ o0⟩, fun y hy => up _ li _ (mi y hy), fun y hy => up _ lo _ (mo y hy), fun j hj hj2 y hy => ?_, .inr (up _ lo _ ho), fun m hm h1 h2 y hy => ?_, fun hc => ?_, l0⟩
 ·rcases dn' _ li y hy with e | e
  ·rw [← e]; exact hbel
  ·exact si y e
 ·rcases dn' _ lo y hy with e | e
  ·rw [← e]; exact .inr hbel
  ·exact so y e
 ·have := dn j hj hj2 y hy
  exact ⟨up _ li _ this.1, up _ lo _ this.2⟩
 ·by_cases e : m = k
  ·subst e
   have e2 : x = y := by have := hx.symm.trans hy; omega
   subst e2
   exact ⟨by rw [g _ li]; simp, by rw [g _ lo]; simp⟩
  ·have := hd m (by omega) h1 h2 y hy
   exact ⟨up _ li _ this.1, up _ lo _ this.2⟩
 ·obtain ⟨e1, e2⟩ := cl hc
  subst e1 e2
  have := hc i ho x ⟨hi, _, List.getElem_mem hk, hx⟩
  constructor
  ·refine mk_ext _ _ (by simp) fun y => ?_
   rw [g _ li]
   by_cases e : x = y
   ·subst e; rw [this.1]; simp
   ·simp [e]
  ·refine mk_ext _ _ (by simp) fun y => ?_
   rw [g _ lo]
   by_cases e : x = y
   ·subst e; rw [this.2]; simp
   ·simp [e]
theorem rnd_skip {l : List InoL} {r : Int} {a0 : Nat} {inn0 opn0 inn opn : List Bool} {i k : Nat} (h : Rnd l r a0 inn0 opn0 i k inn opn) (hi : i < l.length) (hk : k < l[i].ents.length) (ho : mk opn i = true)
  (hx : atF l l[i].ents[k].id < 0) : Rnd l r a0 inn0 opn0 i (k + 1) inn opn := by
 refine ⟨h.st, h.mi, h.mo, h.dn, .inr ho, fun m hm h1 h2 y hy => ?_, h.cl, h.l0⟩
 by_cases e : m = k
 ·subst e; omega
 ·exact h.hd m (by omega) h1 h2 y hy
theorem rnd_next {l : List InoL} {r : Int} {a0 : Nat} {inn0 opn0 inn opn : List Bool} {i k : Nat} (h : Rnd l r a0 inn0 opn0 i k inn opn) (hi : i < l.length) (hk : mk opn i = false ∨ l[i].ents.length ≤ k) : Rnd l r a0 inn0 opn0 (i + 1) 0 inn opn := by
 refine ⟨h.st, h.mi, h.mo, fun j hj hj2 x hx => ?_, .inl rfl, fun m hm => by omega, h.cl, h.l0⟩
 by_cases e : j = i
 ·subst e
  rcases hk with hk | hk
  ·rw [h.mo j hj2] at hk; cases hk
  ·obtain ⟨h1, e, he, hx⟩ := hx
   obtain ⟨m, hm, rfl⟩ := List.mem_iff_getElem.1 he
   exact h.hd m (by omega) h1 hm x hx
 ·exact h.dn j (by omega) hj2 x hx
theorem rnd_end {l : List InoL} {r : Int} {a0 : Nat} {inn0 opn0 inn opn : List Bool} {q : Nat} (h : Rnd l r a0 inn0 opn0 l.length 0 inn opn) (h0 : Clo l inn0 opn0 ∨ q ≤ cntB opn0) : Clo l inn opn ∨ q + 1 ≤ cntB opn := by
 by_cases e : opn0 = opn
 ·left
  intro i hi x hx
  rw [← e] at hi
  exact h.dn i hx.1 hi x hx
 ·rcases h0 with h0 | h0
  ·exact absurd (h.cl h0).2.symm e
  ·right
   have := (cnt_mono opn0 opn (by rw [h.st.lo, h.l0.2]) h.mo).2 e
   omega
theorem bst_start (l : List InoL) (r : Int) (a0 : Nat) (ha : atF l r = (a0 : Int)) : Bst l r a0 (List.replicate l.length false) ((List.replicate l.length false).set a0 true) ∧ 1 ≤ cntB ((List.replicate l.length false).set a0 true) := by
 have hl : a0 < l.length := by have := (atF_range l r).2; omega
 have hm : ∀ x, mk ((List.replicate l.length false).set a0 true) x = decide (a0 = x) := fun x => by rw [mk_set _ _ _ (by simpa using hl), mk_rep, Bool.or_false]
 refine ⟨⟨by simp, by simp, fun x hx => (by rw [mk_rep] at hx; exact absurd hx (by decide)), fun x hx => ?_, by rw [hm]; simp⟩, ?_⟩
 ·rw [hm] at hx; left; simpa using (of_decide_eq_true hx).symm
 ·unfold cntB
  rw [Nat.one_le_iff_ne_zero]
  intro h0
  rw [List.countP_eq_zero] at h0
  have := h0 true (List.mem_iff_getElem.2 ⟨a0, by simpa using hl, by simp⟩)
  exact this rfl
theorem bst_end {l : List InoL} {r : Int} {a0 : Nat} {inn opn : List Bool} (ha : atF l r = (a0 : Int)) (h : Bst l r a0 inn opn) (hc : Clo l inn opn ∨ l.length + 1 ≤ cntB opn) : ∀ x, mk inn x = true ↔ ∃ y, Bel l r y ∧ atF l y = (x : Int) := by
 have hc : Clo l inn opn := by
  rcases hc with hc | hc
  ·exact hc
  ·have := cnt_le opn
   rw [h.lo] at this
   omega
 have all : ∀ y, Bel l r y → ∀ x : Nat, atF l y = (x : Int) → mk inn x = true ∧ mk opn x = true := by
  intro y hy
  induction hy with
  | kid k hk hak e he => exact fun x hx => hc k (by have : k = a0 := by omega
                                                    rw [this]; exact h.o0) x ⟨hk, e, he, hx⟩
  | more y _ k hk hak e he ih => exact fun x hx => hc k (ih k hak).2 x ⟨hk, e, he, hx⟩
 exact fun x => ⟨h.si x, fun ⟨y, hy, hx⟩ => (all y hy x hx).1⟩
structure InoP where
 x : InoL
 ad : Option Addr
 cap : Nat
def in1 (y : InoP) : List Value := [.int .i64 y.x.id, .int .i64 y.x.kind, .int .i64 y.x.links, .string y.x.data, .slice y.ad y.x.ents.length y.cap]
def ins (l : List InoP) : List Value := l.flatMap in1
theorem in1_len (y : InoP) : (in1 y).length = 5 := rfl
@[simp] theorem ins_length (l : List InoP) : (ins l).length = l.length * 5 := flat_length in1 5 in1_len l
theorem ins_append (a b : List InoP) : ins (a ++ b) = ins a ++ ins b := by simp [ins]
theorem ins_get (l : List InoP) (k : Nat) (h : k < l.length) (j : Nat) (hj : j < 5) : (ins l)[k * 5 + j]'(by simp; omega) = (in1 l[k])[j]'(by rw [in1_len]; exact hj) := by
 have := flat_get in1 5 in1_len l k j h hj
 rw [← ins, List.getElem?_eq_getElem (by simp; omega), List.getElem?_eq_getElem (by rw [in1_len]; exact hj)] at this
 exact Option.some.inj this
def VolRd (w : World) (a : Option Addr) (n cap : Nat) (l : List InoL) : Prop :=
 ∃ m : List InoP, m.map (·.x) = l ∧ Rd w a n cap 5 (ins m) ∧ ∀ y ∈ m, Rd w y.ad y.x.ents.length y.cap 4 (ens y.x.ents)
theorem VolRd.below {B : Nat} {w w' : World} {a : Option Addr} {n cap : Nat} {l : List InoL} (h : VolRd w a n cap l) (hb : Below B w w') (hB : w.heap.size ≤ B) : VolRd w' a n cap l := by
 obtain ⟨m, e, h1, h2⟩ := h
 exact ⟨m, e, h1.below hb hB, fun y hy => (h2 y hy).below hb hB⟩
theorem VolRd.step {w w' : World} {a : Option Addr} {n cap : Nat} {l : List InoL} (h : VolRd w a n cap l) (hb : Below w.heap.size w w') : VolRd w' a n cap l := h.below hb (Nat.le_refl _)
theorem VolRd.alloc {w : World} {a : Option Addr} {n cap : Nat} {l : List InoL} (h : VolRd w a n cap l) (o : Obj) : VolRd (w.alloc o) a n cap l :=
 h.below ((Below.refl w.heap.size w).alloc (Nat.le_refl _) o) (Nat.le_refl _)
theorem VolRd.drew {w : World} {a : Option Addr} {n cap : Nat} {l : List InoL} (h : VolRd w a n cap l) : VolRd w.drew a n cap l :=
 h.below (Below.refl w.heap.size w).drew (Nat.le_refl _)
theorem VolRd.len {w : World} {a : Option Addr} {n cap : Nat} {l : List InoL} (h : VolRd w a n cap l) : l.length = n := by
 obtain ⟨m, rfl, h1, _⟩ := h
 have := h1.len
 simp at this ⊢
 omega
theorem VolRd.room {w : World} {a : Option Addr} {n cap : Nat} {l : List InoL} (h : VolRd w a n cap l) : n ≤ cap ∧ cap ≤ 9223372036854775807 := by
 obtain ⟨m, rfl, h1, _⟩ := h
 have := h1.max
 unfold maxLen at this
 exact ⟨h1.le, this⟩
theorem vol_cells {w : World} {a : Option Addr} {n cap : Nat} {l : List InoL} (h : VolRd w a n cap l) (k : Nat) (hk : k < l.length) :
  ∃ b off ad c, a = some ⟨b, off, none⟩ ∧ b < w.heap.size ∧ w.cell? ⟨b, off + k * 5, none⟩ = some (.int .i64 l[k].id) ∧ w.cell? ⟨b, off + k * 5 + 1, none⟩ = some (.int .i64 l[k].kind) ∧ w.cell? ⟨b, off + k * 5 + 2, none⟩ = some (.int .i64 l[k].links) ∧ w.cell? ⟨b, off + k * 5 + 3, none⟩ = some (.string l[k].data) ∧ w.cell? ⟨b, off + k * 5 + 4, none⟩ = some (.slice ad l[k].ents.length c) ∧ Rd w ad l[k].ents.length c 4 (ens l[k].ents) := by
 have hn := h.len
 obtain ⟨m, rfl, h1, h2⟩ := h
 have hk2 : k < m.length := by simpa using hk
 obtain ⟨b, off, e, hlt, hc⟩ := h1.at' (by omega)
 have g : ∀ j (hj : j < 5), w.cell? ⟨b, off + k * 5 + j, none⟩ = some ((in1 m[k])[j]'(by rw [in1_len]; exact hj)) := fun j hj => by
  rw [Nat.add_assoc, hc (k * 5 + j) (by simp; omega), ins_get m k hk2 j hj]
 refine ⟨b, off, m[k].ad, m[k].cap, e, hlt, ?_⟩
 simp only [List.getElem_map]
 exact ⟨g 0 (by omega), g 1 (by omega), g 2 (by omega), g 3 (by omega), g 4 (by omega), h2 _ (List.getElem_mem hk2)⟩
section
open Go.ChangeShapes Go.WideShapes Go.RowKit Go.Deep
section
variable {H : Type} {enc : TypeId × Value → H} {P : Program} {w : World} {spare : Nat → Bool} {held : Bool}
end
def InoP.blk (y : InoP) : Option Nat := (Value.slice y.ad y.x.ents.length y.cap).ownBlock
structure VolOwn (B : Nat) (W0 : World) (a : Option Addr) (cap : Nat) (m : List InoP) (w : World) : Prop where
 top : Own 49 5 B W0 (.slice a m.length cap) m.length (ins m) w
 sub : ∀ y ∈ m, Own 63 4 B W0 (.slice y.ad y.x.ents.length y.cap) y.x.ents.length (ens y.x.ents) w
 apart : m.Pairwise (fun y z => ∀ k, y.blk = some k → z.blk ≠ some k)
theorem own_apart2 {w : World} {B B' e e' : Nat} {W0 W0' : World} {size size' n n' : Nat} {v v' : Value} {xs xs' : List Value} (h : Own e size B W0 v n xs w) (h' : Own e' size' B' W0' v' n' xs' w) (hne : e ≠ e') : ∀ k, v'.ownBlock = some k → v.ownBlock ≠ some k := by
 intro k hk hk'
 rcases h.row.2 with ⟨rfl, _⟩ | ⟨g, cap, cur, rfl, _, hg, _⟩
 ·cases hk'
 ·rcases h'.row.2 with ⟨rfl, _⟩ | ⟨g', cap', cur', rfl, _, hg', _⟩
  ·cases hk
  ·cases hk; cases hk'
   rw [hg] at hg'
   simp only [Option.some.injEq, Obj.cells.injEq] at hg'
   exact hne hg'.2.1
theorem VolOwn.side {B : Nat} {W0 w : World} {a : Option Addr} {cap : Nat} {m : List InoP} (h : VolOwn B W0 a cap m w) : ∀ y ∈ m, ∀ k, y.blk = some k → (Value.slice a m.length cap).ownBlock ≠ some k :=
 fun y hy => own_apart2 h.top (h.sub y hy) (by decide)
theorem row_down {w : World} {B B' : Nat} {e : TypeId} {size : Nat} {v : Value} {n : Nat} {xs : List Value} (h : w.ownsRow B e size v n xs) (hB : B' ≤ B) : w.ownsRow B' e size v n xs := by
 refine ⟨h.1, ?_⟩
 rcases h.2 with hn | ⟨g, cap, cur, e1, hg, rest⟩
 ·exact .inl hn
 ·exact .inr ⟨g, cap, cur, e1, Nat.le_trans hB hg, rest⟩
theorem VolOwn.kept {B : Nat} {W0 w w' : World} {a : Option Addr} {cap : Nat} {m : List InoP} (h : VolOwn B W0 a cap m w) (hb : Below w.heap.size w w') : VolOwn B W0 a cap m w' :=
 ⟨h.top.kept hb, fun y hy => (h.sub y hy).kept hb, h.apart⟩
theorem VolOwn.alloc {B : Nat} {W0 w : World} {a : Option Addr} {cap : Nat} {m : List InoP} (h : VolOwn B W0 a cap m w) (o : Obj) : VolOwn B W0 a cap m (w.alloc o) :=
 h.kept (boxA w o)
theorem VolOwn.drew {B : Nat} {W0 w : World} {a : Option Addr} {cap : Nat} {m : List InoP} (h : VolOwn B W0 a cap m w) : VolOwn B W0 a cap m w.drew :=
 h.kept (Below.refl _ _).drew
theorem VolOwn.rd {B : Nat} {W0 w : World} {a : Option Addr} {cap : Nat} {m : List InoP} (h : VolOwn B W0 a cap m w) : VolRd w a m.length cap (m.map (·.x)) :=
 ⟨m, rfl, h.top.rd, fun y hy => (h.sub y hy).rd⟩
theorem VolOwn.below {B : Nat} {W0 w : World} {a : Option Addr} {cap : Nat} {m : List InoP} (h : VolOwn B W0 a cap m w) : Below B W0 w := h.top.below
theorem VolOwn.self {B : Nat} {W0 w : World} {a : Option Addr} {cap : Nat} {m : List InoP} (h : VolOwn B W0 a cap m w) : VolOwn B w a cap m w :=
 ⟨h.top.self, fun y hy => (h.sub y hy).self, h.apart⟩
theorem own_down {e : TypeId} {size B B' : Nat} {W0 w W1 : World} {v : Value} {n : Nat} {xs : List Value} (h : Own e size B W0 v n xs w) (hB : B' ≤ B) (hb : Below B' W1 W0) (_h0 : B' ≤ W0.heap.size) : Own e size B' W1 v n xs w :=
 ⟨row_down h.row hB, hb.trans (h.below.mono hB), Nat.le_trans hB h.base⟩
theorem ins_set (m : List InoP) (k : Nat) (h : k < m.length) (y : InoP) :
  (((((ins m).set (k * 5) (.int .i64 y.x.id)).set (k * 5 + 1) (.int .i64 y.x.kind)).set (k * 5 + 2) (.int .i64 y.x.links)).set (k * 5 + 3) (.string y.x.data)).set (k * 5 + 4) (.slice y.ad y.x.ents.length y.cap) = ins (m.set k y) := by
 have hk : (ins (m.take k)).length = k * 5 := by simp; omega
 have e1 : m.set k y = m.take k ++ y :: m.drop (k + 1) := by rw [List.set_eq_take_append_cons_drop, if_pos h]
 have e2 : ins m = ins (m.take k) ++ (in1 m[k] ++ ins (m.drop (k + 1))) := by
  conv => lhs; rw [← List.take_append_drop k m, List.drop_eq_getElem_cons h]
  rw [ins_append]; rfl
 rw [e1, e2, ins_append, List.set_append_right _ _ (by omega), List.set_append_right _ _ (by omega), List.set_append_right _ _ (by omega), List.set_append_right _ _ (by omega), List.set_append_right _ _ (by omega), hk, Nat.sub_self,
  show k * 5 + 1 - k * 5 = 1 from by omega, show k * 5 + 2 - k * 5 = 2 from by omega, show k * 5 + 3 - k * 5 = 3 from by omega, show k * 5 + 4 - k * 5 = 4 from by omega]
 simp [ins, in1]
theorem VolOwn.put {B : Nat} {W0 w w' : World} {g cap : Nat} {m : List InoP} (h : VolOwn B W0 (some ⟨g, 0, none⟩) cap m w) (k : Nat) (y : InoP)
  (ht : Own 49 5 B W0 (.slice (some ⟨g, 0, none⟩) m.length cap) m.length (ins (m.set k y)) w') (hg : w.grownBy w' (some g))
  (hy : Own 63 4 B W0 (.slice y.ad y.x.ents.length y.cap) y.x.ents.length (ens y.x.ents) w')
  (hn : ∀ i (hi : i < m.length), i ≠ k → ∀ q, m[i].blk = some q → y.blk ≠ some q) : VolOwn B W0 (some ⟨g, 0, none⟩) cap (m.set k y) w' := by
 have hB := (h.top.blk g rfl).1
 refine ⟨by rw [List.length_set]; exact ht, fun z hz => ?_, ?_⟩
 ·obtain ⟨i, hi, rfl⟩ := List.mem_iff_getElem.1 hz
  rw [List.getElem_set]
  split
  ·exact hy
  ·have hi2 : i < m.length := by simpa using hi
   exact (h.sub m[i] (List.getElem_mem hi2)).other hg (fun q hq => by cases hq; exact hB) (fun q hq e => h.side m[i] (List.getElem_mem hi2) q hq e)
 ·rw [List.pairwise_iff_getElem]
  intro i j hi hj hij
  rw [List.getElem_set, List.getElem_set]
  have hi2 : i < m.length := by simpa using hi
  have hj2 : j < m.length := by simpa using hj
  have hp := List.pairwise_iff_getElem.1 h.apart i j hi2 hj2 hij
  split
  ·split
   ·omega
   ·intro q hq e
    exact hn j hj2 (by omega) q e hq
  ·split
   ·intro q hq
    exact hn i hi2 (by omega) q hq
   ·exact hp
def VolBl (a : Option Addr) (cap : Nat) (m : List InoP) (k : Nat) : Prop := (Value.slice a m.length cap).ownBlock = some k ∨ ∃ y ∈ m, y.blk = some k
theorem VolOwn.bl {B : Nat} {W0 w : World} {a : Option Addr} {cap : Nat} {m : List InoP} (h : VolOwn B W0 a cap m w) (k : Nat) (hk : VolBl a cap m k) : B ≤ k ∧ k < w.heap.size := by
 rcases hk with hk | ⟨y, hy, hk⟩
 ·exact h.top.blk k hk
 ·exact (h.sub y hy).blk k hk
theorem VolOwn.other {B : Nat} {W0 w w' : World} {a : Option Addr} {cap : Nat} {m : List InoP} (h : VolOwn B W0 a cap m w) {r : Option Nat} (hg : w.grownBy w' r) (hr : ∀ k, r = some k → B ≤ k) (hne : ∀ k, VolBl a cap m k → r ≠ some k) : VolOwn B W0 a cap m w' :=
 ⟨h.top.other hg hr (fun k hk => hne k (.inl hk)), fun y hy => (h.sub y hy).other hg hr (fun k hk => hne k (.inr ⟨y, hy, hk⟩)), h.apart⟩
theorem setCell_grown2 (w : World) (b j : Nat) (u : Value) : w.grownBy (w.setCell ⟨b, j, none⟩ u) (some b) :=
 ⟨rfl, rfl, rfl, by simp [World.setCell], fun k _ hk => heap_setCell_other w ⟨b, j, none⟩ k u (fun e => hk (by simp [e]))⟩
theorem VolOwn.far {B : Nat} {W0 w : World} {a : Option Addr} {cap : Nat} {m : List InoP} (h : VolOwn B W0 a cap m w) (b j : Nat) (u : Value) (hB : B ≤ b) (hne : ∀ k, VolBl a cap m k → k ≠ b) : VolOwn B W0 a cap m (w.setCell ⟨b, j, none⟩ u) :=
 h.other (setCell_grown2 w b j u) (fun k hk => by cases hk; exact hB) (fun k hk e => hne k hk (by cases e; rfl))
theorem own_none {e : TypeId} {size B : Nat} {W0 w : World} (hb : Below B W0 w) (hB : B ≤ w.heap.size) : Own e size B W0 (.slice none 0 0) 0 [] w := ⟨World.ownsRow_nil _ _ _ _, hb, hB⟩
end
theorem box5 (w : World) (e : TypeId) (u0 u1 u2 u3 u4 : Value) :
  (w.alloc (.cells #[u0, u1, u2, u3, u4] e)).cell? ⟨w.heap.size, 0, none⟩ = some u0 ∧ (w.alloc (.cells #[u0, u1, u2, u3, u4] e)).cell? ⟨w.heap.size, 1, none⟩ = some u1 ∧ (w.alloc (.cells #[u0, u1, u2, u3, u4] e)).cell? ⟨w.heap.size, 2, none⟩ = some u2 ∧ (w.alloc (.cells #[u0, u1, u2, u3, u4] e)).cell? ⟨w.heap.size, 3, none⟩ = some u3 ∧ (w.alloc (.cells #[u0, u1, u2, u3, u4] e)).cell? ⟨w.heap.size, 4, none⟩ = some u4 := by
 go_simp
theorem info_ino : (Try.prog.info? 49).map (fun i => (i.zero, i.size, i.bytes)) = some (some (.agg #[.int .i64 0, .int .i64 0, .int .i64 0, .string ByteArray.empty, .slice none 0 0]), 5, 64) := by kernel_rfl
def mke (k : Nat) (n : Nat) : List EntL := (List.range n).map fun i => ⟨((k + 4 * i : Nat) : Int), ((k + 4 * i + 1 : Nat) : Int), mtF (k + 4 * i + 2), ((k + 4 * i + 3 : Nat) : Int)⟩
@[simp] theorem mke_length (k n : Nat) : (mke k n).length = n := by simp [mke]
def mk1 (k : Nat) (x : InoL) : InoL := ⟨(k : Int), ((k + 1 : Nat) : Int), ((k + 2 : Nat) : Int), mtF (k + 3), mke (k + 4) x.ents.length⟩
def mkN (k : Nat) (n : Nat) : Nat := k + 4 + 4 * n
def mkP (k : Nat) : List InoP → List InoP
 | [] => []
 | y :: m => ⟨mk1 k y.x, y.ad, y.cap⟩ :: mkP (mkN k y.x.ents.length) m
@[simp] theorem mkP_length : ∀ (m : List InoP) (k : Nat), (mkP k m).length = m.length := by
 intro m
 induction m with
 | nil => intro k; rfl
 | cons y m ih => intro k; show (_ :: mkP _ m).length = _; rw [List.length_cons, ih, List.length_cons]
structure Touch (S : Nat → Prop) (w w' : World) : Prop where
 os : w'.os = w.os
 tape : w'.tape = w.tape
 output : w'.output = w.output
 size : w.heap.size ≤ w'.heap.size
 block : ∀ k, k < w.heap.size → ¬ S k → w'.heap[k]? = w.heap[k]?
theorem Touch.refl (S : Nat → Prop) (w : World) : Touch S w w := ⟨rfl, rfl, rfl, Nat.le_refl _, fun _ _ _ => rfl⟩
theorem Touch.grown {S : Nat → Prop} {w w1 w2 : World} {r : Option Nat} (h : Touch S w w1) (hg : w1.grownBy w2 r) (hr : ∀ k, r = some k → S k ∨ w.heap.size ≤ k) : Touch S w w2 :=
 ⟨hg.os.trans h.os, hg.tape.trans h.tape, hg.output.trans h.output, Nat.le_trans h.size hg.size, fun k hk hs => (hg.block k (Nat.lt_of_lt_of_le hk h.size) (fun e => by
  rcases hr k e.symm with h1 | h1
  ·exact hs h1
  ·omega)).trans (h.block k hk hs)⟩
theorem Touch.below {S : Nat → Prop} {w w' : World} {B : Nat} (h : Touch S w w') (hS : ∀ k, S k → B ≤ k) (hB : B ≤ w.heap.size) : Below B w w' :=
 ⟨h.os, h.tape, h.output, h.size, fun k hk => h.block k (by omega) (fun hs => by have := hS k hs; omega)⟩
theorem VolOwn.mark {B : Nat} {W0 w w1 w' : World} {g cap : Nat} {m : List InoP} (h : VolOwn B W0 (some ⟨g, 0, none⟩) cap m w) (k : Nat) (hk : k < m.length) (y : InoP) (hb : y.blk = m[k].blk)
  (hg1 : w.grownBy w1 (some g)) (hg2 : w1.grownBy w' y.blk) (ht : Own 49 5 B W0 (.slice (some ⟨g, 0, none⟩) m.length cap) m.length (ins (m.set k y)) w')
  (hy : Own 63 4 B W0 (.slice y.ad y.x.ents.length y.cap) y.x.ents.length (ens y.x.ents) w') : VolOwn B W0 (some ⟨g, 0, none⟩) cap (m.set k y) w' := by
 have hB := (h.top.blk g rfl).1
 have hap : ∀ i j (hi : i < m.length) (hj : j < m.length), i ≠ j → ∀ q, m[i].blk = some q → m[j].blk ≠ some q := by
  intro i j hi hj hne q hq e
  rcases Nat.lt_or_gt_of_ne hne with h1 | h1
  ·exact List.pairwise_iff_getElem.1 h.apart i j hi hj h1 q hq e
  ·exact List.pairwise_iff_getElem.1 h.apart j i hj hi h1 q e hq
 refine ⟨by rw [List.length_set]; exact ht, fun z hz => ?_, ?_⟩
 ·obtain ⟨i, hi, rfl⟩ := List.mem_iff_getElem.1 hz
  rw [List.getElem_set]
  split
  ·exact hy
  ·rename_i hne
   have hi2 : i < m.length := by simpa using hi
   refine ((h.sub m[i] (List.getElem_mem hi2)).other hg1 (fun q hq => by cases hq; exact hB) (fun q hq e => h.side m[i] (List.getElem_mem hi2) q hq e)).other hg2 (fun q hq => ?_) (fun q hq e => ?_)
   ·rw [hb] at hq; exact ((h.sub m[k] (List.getElem_mem hk)).blk q hq).1
   ·rw [hb] at e; exact hap i k hi2 hk (fun e => hne e.symm) q hq e
 ·rw [List.pairwise_iff_getElem]
  intro i j hi hj hij q hq e
  rw [List.getElem_set] at hq e
  have hi2 : i < m.length := by simpa using hi
  have hj2 : j < m.length := by simpa using hj
  have h1 : m[i].blk = some q := by
   split at hq
   ·rename_i e2; subst e2; rw [← hb]; exact hq
   ·exact hq
  have h2 : m[j].blk = some q := by
   split at e
   ·rename_i e2; subst e2; rw [← hb]; exact e
   ·exact e
  exact hap i j hi2 hj2 (by omega) q h1 h2
end Go.Proofs.Ytlkfabkkjfmnmaa
