import Derived.Test.YtlkfabkkjfmnmaaKab
import Derived.Test.YtlkfabkkjfmnmaaKaj
import Derived.Test.YtlkfabkkjfmnmaaKak
import Derived.Test.YtlkfabkkjfmnmaaKam
namespace Go.Proofs.Ytlkfabkkjfmnmaa
open Go.RowKit
set_option linter.all false
def DrewStrE (a : Option Addr) (n cap : Nat) (bs : List Int) (g : Nat) (w : World) (b : Nat) (e : Ending) (w' : World) : Prop := ∃ r : ByteArray × CS, r.1.size ≤ b ∧ DrewStr a n cap bs g w r e w'
def nameL : List ByteArray := [⟨#[97]⟩, ⟨#[65]⟩, ⟨#[98]⟩, ⟨#[195, 165]⟩, ⟨#[97, 204, 138]⟩, ⟨#[226, 132, 171]⟩, ⟨#[65, 204, 138]⟩, ⟨#[225, 186, 173]⟩, ⟨#[97, 204, 130, 204, 163]⟩, ⟨#[97, 204, 163, 204, 130]⟩, ⟨#[115, 115]⟩, ⟨#[195, 159]⟩, ⟨#[83, 83]⟩, ⟨#[207, 131]⟩, ⟨#[207, 130]⟩, ⟨#[206, 163]⟩, ⟨#[234, 176, 129]⟩, ⟨#[225, 132, 128, 225, 133, 161, 225, 134, 168]⟩, ⟨#[206, 172]⟩, ⟨#[206, 134]⟩, ⟨#[102, 105, 108, 101]⟩, ⟨#[70, 73, 76, 69]⟩, ⟨#[70, 105, 108, 101]⟩, ⟨#[120, 49]⟩, ⟨#[120, 50]⟩, ⟨#[120, 51]⟩, ⟨#[120, 52]⟩, ⟨#[120, 53]⟩, ⟨#[108, 111, 110, 103, 32, 110, 97, 109, 101]⟩]
def nameM : List ByteArray := [⟨#[]⟩, ⟨#[46]⟩, ⟨#[46, 46]⟩, ⟨#[46, 46, 46]⟩, ⟨#[97, 47, 98]⟩, ⟨#[127]⟩, ⟨#[97, 98, 99, 100, 101, 102, 103, 104, 105, 106, 107, 108, 109, 110, 111, 112, 113, 114, 115, 116, 117, 118, 119, 120]⟩, ⟨#[97, 98, 99, 100, 101, 102, 103, 104, 105, 106, 107, 108, 109, 110, 111, 112, 113, 114, 115, 116, 117, 118, 119, 120, 121]⟩, ⟨#[255]⟩]
theorem getD_size (l : List ByteArray) (b : Nat) (h : ∀ x ∈ l, x.size ≤ b) (k : Nat) : (l.getD k ByteArray.empty).size ≤ b := by
 by_cases hk : k < l.length
 ·rw [List.getD_eq_getElem?_getD, List.getElem?_eq_getElem hk]; exact h _ (List.getElem_mem hk)
 ·rw [List.getD_eq_getElem?_getD, List.getElem?_eq_none (by omega)]; exact Nat.zero_le _
set_option maxRecDepth 1000000 in
set_option maxHeartbeats 6000000 in
theorem l4Name_any (a : Option Addr) (n cap : Nat) (bs : List Int) (g : Nat) (s : CS) (w : World) (hC : CurAt a n cap bs g s w) :
  Calls Try.prog 32 #[.pointer (some ⟨g, 0, none⟩)] w (DrewStrE a n cap bs g w 27) := by
 have HC := Lib.hid hC
 clear hC
 go_enter Try.func32, Try.ntmps32
 go_wp2_with fail
 refine (l1Pick_any a n cap bs g s _ 29 29 nameL _ (HC.out.alloc _) (by rw [show nameL = nameL from rfl]; exact lit_rd (news := (strs nameL).toArray) rfl (by decide)) (fun x hx => by cases hx; have := HC.out.lt; show w.heap.size ≠ g; omega) (by omega) (by omega)).mono ?_
 rintro e w1 ⟨rfl, hC1, hG1⟩
 have hk := getD_size nameL 27 (by decide) (belowF bs 29 s).1.toNat
 have HC1 := Lib.hid hC1
 have HG1 := Lib.hid ((World.grownBy_alloc w _ _).trans hG1)
 clear hC1 hG1
 simp only at HC1 ⊢
 generalize nameL.getD (belowF bs 29 s).1.toNat ByteArray.empty = t at *
 generalize (belowF bs 29 s).2 = s1 at *
 go_wp2_with fail
 refine (l1Once_any a n cap bs g s1 4 _ HC1.out (by omega)).mono ?_
 rintro e w2 ⟨rfl, hC2, hG2⟩
 have HC2 := Lib.hid hC2
 have HG2 := Lib.hid (HG1.out.trans hG2)
 clear hC2 hG2
 simp only at HC2 ⊢
 generalize (belowF bs 4 s1).2 = s2 at *
 generalize ((belowF bs 4 s1).1 == 0) = t1 at *
 cases t1 with
 | true =>
  go_wp2_with fail
  refine (l3List_any a n cap bs g s2 4 _ HC2.out (by omega) (by omega)).mono ?_
  rintro e w3 ⟨l, s3, p, c, rfl, hl, -, hO, hC3, hG3⟩
  have HC3 := Lib.hid hC3
  have HG3 := Lib.hid (HG2.out.trans hG3)
  have HRd := Lib.hid (show Rd w3 p l.length c 1 (ints l) from (Own.rd ⟨hO, Below.refl _ _, hG3.size⟩))
  have hel : (encL l).length ≤ 27 := by
   have h1 := encs_len l
   unfold encL
   split <;> simp <;> omega
  have hl4 : l.length ≤ 4 := by omega
  clear hO hC3 hG3 hl
  go_wp2_with fail
  refine (specEncode_any _ _ _ l _ HRd.out (by omega)).mono ?_
  rintro e w4 ⟨rfl, hb4⟩
  have HC4 := Lib.hid (HC3.out.kept hb4)
  have HG4 := Lib.hid (HG3.out.trans (grown_of_below (some g) hb4))
  clear hb4
  generalize encL l = E at *
  have hsE : (⟨E.toArray⟩ : ByteArray).size ≤ 27 := by simpa [ByteArray.size] using hel
  generalize (⟨E.toArray⟩ : ByteArray) = T at *
  clear hel
  go_wp2
  go_ret
  exact ⟨(T, s3), hsE, rfl, HC4.out, HG4.out⟩
 | false =>
  go_wp2_with fail
  refine (l1Once_any a n cap bs g s2 25 _ HC2.out (by omega)).mono ?_
  rintro e w3 ⟨rfl, hC3, hG3⟩
  have HC3 := Lib.hid hC3
  have HG3 := Lib.hid (HG2.out.trans hG3)
  clear hC3 hG3
  simp only at HC3 ⊢
  generalize (belowF bs 25 s2).2 = s3 at *
  generalize ((belowF bs 25 s2).1 == 0) = t2 at *
  cases t2 with
  | true =>
   go_wp2_with fail
   refine (l1Pick_any a n cap bs g s3 _ 9 9 nameM _ (HC3.out.alloc _) (by exact lit_rd (news := (strs nameM).toArray) rfl (by decide)) (fun x hx => by cases hx; have := HC3.out.lt; show w3.heap.size ≠ g; omega) (by omega) (by omega)).mono ?_
   rintro e w4 ⟨rfl, hC4, hG4⟩
   have hk2 := getD_size nameM 27 (by decide) (belowF bs 9 s3).1.toNat
   have HC4 := Lib.hid hC4
   have HG4 := Lib.hid ((HG3.out.trans (World.grownBy_alloc _ _ _)).trans hG4)
   clear hC4 hG4
   go_wp2
   go_ret
   exact ⟨(nameM.getD (belowF bs 9 s3).1.toNat ByteArray.empty, (belowF bs 9 s3).2), hk2, rfl, HC4.out, HG4.out⟩
  | false =>
   go_wp2
   go_ret
   exact ⟨(t, s3), hk, rfl, HC3.out, HG3.out⟩
set_option maxRecDepth 1000000 in
set_option maxHeartbeats 6000000 in
theorem big_no_any (a : Option Addr) (n cap : Nat) (w : World) (hn : n ≤ 1048576) : Calls Try.prog 4 #[.slice a n cap] w fun e w' => e = .returned (.bool false) ∧ w = w' := by
 go_enter Try.func4, Try.ntmps4
 go_wp2
 go_ret
 exact ⟨ret_bool (by simp; omega), rfl⟩
set_option maxRecDepth 1000000 in
set_option maxHeartbeats 6000000 in
theorem big_any_any (a : Option Addr) (n cap : Nat) (w : World) (hn : 1048576 < n) (hm : n ≤ maxLen) : Calls Try.prog 4 #[.slice a n cap] w fun e w' => e = .returned (.bool true) ∧ w = w' := by
 unfold maxLen at hm
 go_enter Try.func4, Try.ntmps4
 go_wp2
 go_ret
 exact ⟨ret_bool (by simp; omega), rfl⟩
theorem toList_inj {s t : ByteArray} (h : s.toList = t.toList) : s = t := by
 rw [ByteArray.toList_eq, ByteArray.toList_eq] at h
 rcases s with ⟨⟨a⟩⟩
 rcases t with ⟨⟨b⟩⟩
 simp at h
 rw [h]
section
variable {P : Program}
theorem wp_app1c {w0 : World} {ops : Array Oper} {rest : List Oper} {o : Oper} {a : Act} {Q : Exit → Act → World → Prop} (hgd : o.guard = none) (s x : Operand) (t : TypeId)
  (ho : o.op = .call { callee := .builtin .append, args := #[s, x], argTypes := #[t, t] })
  (e : TypeId) (z : Value) (size bytes : Nat) (ht : P.underlying t = some (.slice e)) (hi : (P.info? e).map (fun i => (i.zero, i.size, i.bytes)) = some (some z, size, bytes)) (hzs : z.cells.size = size) (hsz : 0 < size)
  (B : Nat) (W0 : World) (v : Value) (n : Nat) (xs : List Value) (hs : a.eval s = v) (hown : Own e size B W0 v n xs w0)
  (m : Nat) (news : Array Value) (b : Nat) (hx : a.eval x = .slice (some ⟨b, 0, none⟩) m m) (hb : b = w0.heap.size) (hl : news.size = m * size) (h1 : ∀ u ∈ news.toList, u.oneCell' = true)
  (hlim : (n + m) * bytes ≤ 140737488355328) (hmax : n + m ≤ maxLen)
  (h : ∀ a' cap' w', Own e size B W0 (.slice a' (n + m) cap') (n + m) (xs ++ news.toList) w' → w0.grownBy w' v.ownBlock → ((Value.slice a' (n + m) cap').ownBlock = v.ownBlock ∨ ∃ k, (Value.slice a' (n + m) cap').ownBlock = some k ∧ w0.heap.size ≤ k) →
   wpList P ops Q rest (a.put o.dst (.slice a' (n + m) cap')) w') : wpList P ops Q (o :: rest) a (w0.alloc (.cells news e)) := by
 subst hb
 exact wp_app1g hgd s x t ho e z size bytes ht hi hzs hsz B W0 v n xs hs hown m news hx hl h1 hlim hmax h
end
def smallN (x : EntL) : Prop := x.name.size ≤ 1073741824
structure GoodE (ids : List Int) (e : EntL) : Prop where
 small : smallN e
 no1 : e.id ≠ 1
 mem : e.id ∈ ids
structure GoodI (ids : List Int) (x : InoL) : Prop where
 kind : x.kind = 1 ∨ x.kind = 2
 file : x.kind ≠ 2 → x.ents = []
 data : x.data.size ≤ 1000
 len : x.ents.length ≤ 12
 ents : ∀ e ∈ x.ents, GoodE ids e
def idsF (l : List InoL) : List Int := l.map (·.id)
structure Inv (d : Int → Int) (next : Int) (l : List InoL) : Prop where
 lo : 2 ≤ next
 hi : next ≤ 100000
 n16 : l.length ≤ 16
 ids : (idsF l).Nodup
 rng : ∀ x ∈ l, 1 ≤ x.id ∧ x.id < next
 root : 1 ∈ idsF l
 good : ∀ x ∈ l, GoodI (idsF l) x
 link : ∀ x ∈ l, x.id ≠ 1 → x.links = (linksF l x.id : Int) + d x.id
def d0 : Int → Int := fun _ => 0
def d1 (i : Int) : Int → Int := fun j => if j = i then 1 else 0
theorem ids_at {l : List InoL} (h : (idsF l).Nodup) (k : Nat) (hk : k < l.length) : atF l l[k].id = (k : Int) := by
 refine atF_hit l _ k hk rfl (fun j hj e => ?_)
 have hp := List.pairwise_iff_getElem.1 h j k (by simp [idsF]; omega) (by simp [idsF]; omega) hj
 simp [idsF] at hp
 exact hp e
theorem atF_ids (l : List InoL) (i : Int) : 0 ≤ atF l i ↔ i ∈ idsF l := by
 rw [atF_mem]
 unfold idsF
 rw [List.mem_map]
theorem idsF_get {l : List InoL} {k : Nat} (hk : k < l.length) : l[k].id ∈ idsF l := List.mem_map_of_mem (List.getElem_mem hk)
theorem idsF_set {l : List InoL} {k : Nat} (hk : k < l.length) {x : InoL} (hx : x.id = l[k].id) : idsF (l.set k x) = idsF l := by
 unfold idsF
 rw [List.map_set, hx]
 refine List.ext_getElem (by simp) fun i h1 h2 => ?_
 rw [List.getElem_set]
 split
 ·next h => subst h; simp
 ·rfl
theorem atF_idsF {l l' : List InoL} (h : idsF l = idsF l') (i : Int) : atF l i = atF l' i := by
 have e : ∀ q : List InoL, atK q i = (idsF q).findIdx (fun y => y == i) := fun q => by
  unfold atK idsF
  rw [List.findIdx_map]
  rfl
 have e2 : l.length = l'.length := by have := congrArg List.length h; simpa [idsF] using this
 unfold atF
 rw [e, e, h, e2]
theorem cntE_zero (es : List EntL) (i : Int) (h : ∀ e ∈ es, e.id ≠ i) : cntE es i = 0 := by
 unfold cntE
 rw [List.countP_eq_zero]
 intro e he
 simpa using h e he
theorem cntE_pos (es : List EntL) (i : Int) (h : cntE es i = 0) : ∀ e ∈ es, e.id ≠ i := by
 unfold cntE at h
 rw [List.countP_eq_zero] at h
 intro e he
 simpa using h e he
theorem linksF_append (a b : List InoL) (i : Int) : linksF (a ++ b) i = linksF a i + linksF b i := by unfold linksF; rw [List.map_append, List.sum_append]
theorem linksF_cons (x : InoL) (b : List InoL) (i : Int) : linksF (x :: b) i = cntE x.ents i + linksF b i := by unfold linksF; rw [List.map_cons, List.sum_cons]
theorem linksF_zero : ∀ (l : List InoL) (i : Int), (∀ x ∈ l, ∀ e ∈ x.ents, e.id ≠ i) → linksF l i = 0 := by
 intro l i
 induction l with
 | nil => intro _; rfl
 | cons x l ih =>
  intro h
  rw [linksF_cons, cntE_zero _ _ (h x List.mem_cons_self), ih (fun y hy => h y (List.mem_cons_of_mem _ hy))]
theorem linksF_none : ∀ (l : List InoL) (i : Int), linksF l i = 0 → ∀ x ∈ l, ∀ e ∈ x.ents, e.id ≠ i := by
 intro l i
 induction l with
 | nil => intro _ x hx; cases hx
 | cons y l ih =>
  intro h x hx
  rw [linksF_cons] at h
  rcases List.mem_cons.1 hx with rfl | hx
  ·exact cntE_pos _ _ (by omega)
  ·exact ih (by omega) x hx
theorem linksF_set (l : List InoL) (k : Nat) (hk : k < l.length) (x : InoL) (i : Int) : linksF (l.set k x) i + cntE l[k].ents i = linksF l i + cntE x.ents i := by
 have e1 : l.set k x = l.take k ++ x :: l.drop (k + 1) := by rw [List.set_eq_take_append_cons_drop, if_pos hk]
 have e2 : linksF l i = linksF (l.take k) i + (cntE l[k].ents i + linksF (l.drop (k + 1)) i) := by
  conv => lhs; rw [← List.take_append_drop k l, List.drop_eq_getElem_cons hk]
  rw [linksF_append, linksF_cons]
 rw [e1, linksF_append, linksF_cons, e2]
 omega
theorem linksF_filter (l : List InoL) (id i : Int) (he : ∀ x ∈ l, x.id = id → x.ents = []) : linksF (l.filter (fun x => !(x.id == id))) i = linksF l i := by
 induction l with
 | nil => rfl
 | cons x l ih =>
  have ih2 := ih (fun y hy => he y (List.mem_cons_of_mem _ hy))
  by_cases hx : x.id = id
  ·have : (x :: l).filter (fun x => !(x.id == id)) = l.filter (fun x => !(x.id == id)) := by rw [List.filter_cons_of_neg (by simp [hx])]
   rw [this, ih2, linksF_cons, he x List.mem_cons_self hx]
   simp [cntE]
  ·rw [List.filter_cons_of_pos (by simp [hx]), linksF_cons, linksF_cons, ih2]
theorem Inv.set {d : Int → Int} {next : Int} {l : List InoL} (h : Inv d next l) (k : Nat) (hk : k < l.length) (x : InoL) (hid : x.id = l[k].id) (hg : GoodI (idsF l) x) (d' : Int → Int)
  (hd : ∀ i, i ∈ idsF l → i ≠ 1 → d' i = d i + (cntE l[k].ents i : Int) - (cntE x.ents i : Int) + (if i = l[k].id then x.links - l[k].links else 0)) : Inv d' next (l.set k x) := by
 have hi := idsF_set hk hid
 have cov : ∀ y ∈ l.set k x, y = x ∨ (y ∈ l ∧ y.id ≠ l[k].id) := by
  intro y hy
  obtain ⟨j, hj, rfl⟩ := List.mem_iff_getElem.1 hy
  rw [List.getElem_set]
  split
  ·exact .inl rfl
  ·next hne =>
   refine .inr ⟨List.getElem_mem _, fun e => hne ?_⟩
   have h1 := ids_at h.ids j (by simpa using hj)
   have h2 := ids_at h.ids k hk
   rw [e] at h1
   omega
 refine ⟨h.lo, h.hi, by simpa using h.n16, by rw [hi]; exact h.ids, fun y hy => ?_, by rw [hi]; exact h.root, fun y hy => ?_, fun y hy h1 => ?_⟩
 ·rcases cov y hy with rfl | ⟨hy, _⟩
  ·rw [hid]; exact h.rng _ (List.getElem_mem hk)
  ·exact h.rng y hy
 ·rw [hi]
  rcases cov y hy with rfl | ⟨hy, _⟩
  ·exact hg
  ·exact h.good y hy
 ·have hs := linksF_set l k hk x y.id
  rcases cov y hy with rfl | ⟨hy, hne⟩
  ·have h2 := hd y.id (by rw [hid]; exact idsF_get hk) h1
   rw [if_pos hid] at h2
   have h3 := h.link _ (List.getElem_mem hk) (by rw [← hid]; exact h1)
   rw [← hid] at h3
   rw [h2]
   omega
  ·have h2 := hd y.id (List.mem_map_of_mem hy) h1
   rw [if_neg hne] at h2
   have h3 := h.link y hy h1
   rw [h2]
   omega
theorem Inv.gone {next : Int} {l : List InoL} (h : Inv d0 next l) (id : Int) (h1 : id ≠ 1) (hn : linksF l id = 0) (he : ∀ x ∈ l, x.id = id → x.ents = []) : Inv d0 next (l.filter (fun x => !(x.id == id))) := by
 have hsub : (l.filter (fun x => !(x.id == id))).Sublist l := List.filter_sublist
 have hids : ∀ i, i ∈ idsF l → i ≠ id → i ∈ idsF (l.filter (fun x => !(x.id == id))) := by
  intro i hi hne
  obtain ⟨x, hx, rfl⟩ := List.mem_map.1 hi
  have h2 : (fun x : InoL => !(x.id == id)) x = true := by show (!(x.id == id)) = true; rw [beq_eq_false_iff_ne.2 hne]; rfl
  have h3 : x ∈ l.filter (fun x => !(x.id == id)) := List.mem_filter.2 ⟨hx, h2⟩
  exact List.mem_map_of_mem h3
 have hno := linksF_none l id hn
 refine ⟨h.lo, h.hi, Nat.le_trans hsub.length_le h.n16, h.ids.sublist (hsub.map _), fun x hx => h.rng x (hsub.mem hx), hids 1 h.root (fun e => h1 e.symm), fun x hx => ?_, fun x hx hx1 => ?_⟩
 ·have g := h.good x (hsub.mem hx)
  exact ⟨g.kind, g.file, g.data, g.len, fun e he2 => ⟨(g.ents e he2).small, (g.ents e he2).no1, hids _ (g.ents e he2).mem (hno x (hsub.mem hx) e he2)⟩⟩
 ·rw [linksF_filter l id _ he]
  exact h.link x (hsub.mem hx) hx1
theorem Inv.app {next : Int} {l : List InoL} (h : Inv d0 next l) (hn : next < 100000) (hl : l.length < 16) (kd : Int) (hk : kd = 1 ∨ kd = 2) : Inv (d1 next) (next + 1) (l ++ [⟨next, kd, 1, ByteArray.empty, []⟩]) := by
 have hi : idsF (l ++ [⟨next, kd, 1, ByteArray.empty, []⟩]) = idsF l ++ [next] := by simp [idsF]
 have hno : next ∉ idsF l := by
  intro hm
  obtain ⟨x, hx, e⟩ := List.mem_map.1 hm
  have := h.rng x hx
  omega
 have hup : ∀ e : EntL, GoodE (idsF l) e → GoodE (idsF l ++ [next]) e := fun e g => ⟨g.small, g.no1, List.mem_append_left _ g.mem⟩
 have hz : linksF [(⟨next, kd, 1, ByteArray.empty, []⟩ : InoL)] = fun _ => 0 := by funext i; rfl
 refine ⟨by have := h.lo; omega, by omega, by simp; omega, ?_, fun x hx => ?_, by rw [hi]; exact List.mem_append_left _ h.root, fun x hx => ?_, fun x hx hx1 => ?_⟩
 ·rw [hi, List.nodup_append]
  refine ⟨h.ids, by simp, fun a ha b hb e => ?_⟩
  rw [List.mem_singleton] at hb
  subst hb
  exact hno (e ▸ ha)
 ·rcases List.mem_append.1 hx with hx | hx
  ·have := h.rng x hx; omega
  ·rw [List.mem_singleton] at hx; subst hx
   have := h.lo
   show 1 ≤ next ∧ next < next + 1
   omega
 ·rw [hi]
  rcases List.mem_append.1 hx with hx | hx
  ·have g := h.good x hx
   exact ⟨g.kind, g.file, g.data, g.len, fun e he => hup e (g.ents e he)⟩
  ·rw [List.mem_singleton] at hx; subst hx
   exact ⟨hk, fun _ => rfl, by show (ByteArray.empty).size ≤ 1000; decide, by simp, fun e he => by cases he⟩
 ·rw [linksF_append, hz]
  rcases List.mem_append.1 hx with hx | hx
  ·have hne : x.id ≠ next := fun e => hno (e ▸ List.mem_map_of_mem hx)
   have := h.link x hx hx1
   unfold d0 at this
   unfold d1
   rw [if_neg hne]
   omega
  ·rw [List.mem_singleton] at hx; subst hx
   have h0 : linksF l next = 0 := linksF_zero l next (fun y hy e he e2 => hno (e2 ▸ ((h.good y hy).ents e he).mem))
   show (1 : Int) = ((linksF l next + 0 : Nat) : Int) + d1 next next
   rw [h0]
   unfold d1
   simp
theorem inv_new : Inv d0 2 [⟨1, 2, 1, ByteArray.empty, []⟩] := by
 refine ⟨by omega, by omega, by simp, by simp [idsF], fun x hx => ?_, by simp [idsF], fun x hx => ?_, fun x hx h => ?_⟩
 ·rw [List.mem_singleton] at hx; subst hx; decide
 ·rw [List.mem_singleton] at hx; subst hx
  exact ⟨.inr rfl, fun _ => rfl, by show (ByteArray.empty).size ≤ 1000; decide, by simp, fun e he => by cases he⟩
 ·rw [List.mem_singleton] at hx; subst hx; exact absurd rfl h
theorem Inv.congr {d d' : Int → Int} {next : Int} {l : List InoL} (h : Inv d next l) (e : ∀ i, i ∈ idsF l → i ≠ 1 → d' i = d i) : Inv d' next l :=
 ⟨h.lo, h.hi, h.n16, h.ids, h.rng, h.root, h.good, fun x hx h1 => by rw [e x.id (List.mem_map_of_mem hx) h1]; exact h.link x hx h1⟩
theorem Inv.at_ {d : Int → Int} {next : Int} {l : List InoL} (h : Inv d next l) (k : Nat) (hk : k < l.length) : atF l l[k].id = (k : Int) := ids_at h.ids k hk
theorem cntE_erase (es : List EntL) (j : Nat) (hj : j < es.length) (i : Int) : (cntE es i : Int) = (cntE (es.eraseIdx j) i : Int) + d1 es[j].id i := by
 have e1 : es.eraseIdx j = es.take j ++ es.drop (j + 1) := List.eraseIdx_eq_take_drop_succ ..
 have e2 : cntE es i = cntE (es.take j) i + ((if es[j].id = i then 1 else 0) + cntE (es.drop (j + 1)) i) := by
  conv => lhs; rw [← List.take_append_drop j es, List.drop_eq_getElem_cons hj]
  unfold cntE
  rw [List.countP_append, List.countP_cons]
  by_cases h : es[j].id = i
  ·simp [h]; omega
  ·simp [h]
 rw [e1, e2]
 unfold cntE d1
 rw [List.countP_append]
 by_cases h : es[j].id = i
 ·rw [if_pos h, if_pos h.symm]; omega
 ·rw [if_neg h, if_neg (fun e => h e.symm)]; omega
theorem cntE_perm {a b : List EntL} (h : a.Perm b) (i : Int) : cntE a i = cntE b i := h.countP_eq _
theorem cntE_cons (e : EntL) (es : List EntL) (i : Int) : (cntE (e :: es) i : Int) = (cntE es i : Int) + d1 e.id i := by
 unfold cntE d1
 rw [List.countP_cons]
 by_cases h : e.id = i
 ·simp [h]
 ·have h2 : (e.id == i) = false := by simpa using h
  rw [h2, if_neg (by decide), if_neg (fun e2 => h e2.symm)]
  omega
theorem cntE_set (es : List EntL) (j : Nat) (hj : j < es.length) (e : EntL) (i : Int) : (cntE (es.set j e) i : Int) = (cntE es i : Int) - d1 es[j].id i + d1 e.id i := by
 have h1 : (es.set j e).Perm (e :: es.eraseIdx j) := by
  rw [List.set_eq_take_append_cons_drop, if_pos hj, List.eraseIdx_eq_take_drop_succ]
  exact List.perm_middle
 rw [cntE_perm h1, cntE_cons]
 have := cntE_erase es j hj i
 omega
theorem Inv.add {d : Int → Int} {next : Int} {l : List InoL} (h : Inv d next l) (k : Nat) (hk : k < l.length) (hd : l[k].kind = 2) (out : List EntL) (e : EntL) (hp : out.Perm (e :: l[k].ents)) (hl : l[k].ents.length < 12) (he : GoodE (idsF l) e) : Inv (fun i => d i - d1 e.id i) next (l.set k { l[k] with ents := out }) := by
 have g := h.good _ (List.getElem_mem hk)
 refine h.set k hk { l[k] with ents := out } rfl ⟨g.kind, fun h2 => absurd hd h2, g.data, by have := hp.length_eq; simp at this ⊢; omega, fun y hy => ?_⟩ _ (fun i _ _ => ?_)
 ·rcases List.mem_cons.1 (hp.mem_iff.1 hy) with rfl | hy
  ·exact he
  ·exact g.ents y hy
 ·have h1 := cntE_perm hp i
  have h2 := cntE_cons e l[k].ents i
  simp only [Int.sub_self, ite_self]
  omega
theorem Inv.drop {d : Int → Int} {next : Int} {l : List InoL} (h : Inv d next l) (k : Nat) (hk : k < l.length) (j : Nat) (hj : j < l[k].ents.length) : Inv (fun i => d i + d1 l[k].ents[j].id i) next (l.set k { l[k] with ents := l[k].ents.eraseIdx j }) := by
 have g := h.good _ (List.getElem_mem hk)
 refine h.set k hk { l[k] with ents := l[k].ents.eraseIdx j } rfl ⟨g.kind, fun h2 => by show l[k].ents.eraseIdx j = []; rw [g.file h2]; rfl, g.data, by have := List.length_eraseIdx_le l[k].ents j; have := g.len; simp only; omega, fun y hy => g.ents y (List.mem_of_mem_eraseIdx hy)⟩ _ (fun i _ _ => ?_)
 have h1 := cntE_erase l[k].ents j hj i
 simp only [Int.sub_self, ite_self]
 omega
theorem Inv.respell {d : Int → Int} {next : Int} {l : List InoL} (h : Inv d next l) (k : Nat) (hk : k < l.length) (j : Nat) (hj : j < l[k].ents.length) (e : EntL) (he : GoodE (idsF l) e) : Inv (fun i => d i + d1 l[k].ents[j].id i - d1 e.id i) next (l.set k { l[k] with ents := l[k].ents.set j e }) := by
 have g := h.good _ (List.getElem_mem hk)
 refine h.set k hk { l[k] with ents := l[k].ents.set j e } rfl ⟨g.kind, fun h2 => by exfalso; rw [g.file h2] at hj; simp at hj, g.data, by have := g.len; simpa using this, fun y hy => ?_⟩ _ (fun i _ _ => ?_)
 ·rcases List.mem_or_eq_of_mem_set hy with hy | rfl
  ·exact g.ents y hy
  ·exact he
 ·have h1 := cntE_set l[k].ents j hj e i
  simp only [Int.sub_self, ite_self]
  omega
theorem Inv.links {d : Int → Int} {next : Int} {l : List InoL} (h : Inv d next l) (k : Nat) (hk : k < l.length) (c : Int) : Inv (fun i => d i + c * d1 l[k].id i) next (l.set k { l[k] with links := l[k].links + c }) := by
 have g := h.good _ (List.getElem_mem hk)
 refine h.set k hk { l[k] with links := l[k].links + c } rfl ⟨g.kind, g.file, g.data, g.len, g.ents⟩ _ (fun i _ _ => ?_)
 unfold d1
 by_cases e : i = l[k].id
 ·rw [if_pos e, if_pos e]; simp only; omega
 ·rw [if_neg e, if_neg e]; simp only; omega
theorem Inv.data {d : Int → Int} {next : Int} {l : List InoL} (h : Inv d next l) (k : Nat) (hk : k < l.length) (s : ByteArray) (hs : s.size ≤ 1000) : Inv d next (l.set k { l[k] with data := s }) := by
 have g := h.good _ (List.getElem_mem hk)
 refine h.set k hk { l[k] with data := s } rfl ⟨g.kind, g.file, hs, g.len, g.ents⟩ _ (fun i _ _ => ?_)
 simp only [Int.sub_self, ite_self]
 omega
theorem Inv.less {next : Int} {l : List InoL} (k : Nat) (hk : k < l.length) (h : Inv (d1 l[k].id) next l) (h1 : l[k].id ≠ 1) (he : l[k].ents = []) :
  Inv d0 next (l.set k { l[k] with links := l[k].links + -1 }) ∧ (l[k].links + -1 = 0 → Inv d0 next ((l.set k { l[k] with links := l[k].links + -1 }).filter (fun x => !(x.id == l[k].id)))) := by
 have hL : Inv d0 next (l.set k { l[k] with links := l[k].links + -1 }) := (h.links k hk (-1)).congr (fun i _ _ => by unfold d0; omega)
 refine ⟨hL, fun h0 => ?_⟩
 obtain ⟨x, hx, hid, hlk, hen⟩ : ∃ x : InoL, ({ l[k] with links := l[k].links + -1 } : InoL) = x ∧ x.id = l[k].id ∧ x.links = l[k].links + -1 ∧ x.ents = l[k].ents := ⟨_, rfl, rfl, rfl, rfl⟩
 rw [hx] at hL ⊢
 have hg : (l.set k x)[k]'(by simpa using hk) = x := by rw [List.getElem_set_self]
 refine hL.gone l[k].id h1 ?_ (fun y hy e => ?_)
 ·have h2 := hL.link _ (List.getElem_mem (by simpa using hk : k < (l.set k x).length)) (by rw [hg, hid]; exact h1)
  rw [hg, hlk, h0, hid] at h2
  unfold d0 at h2
  omega
 ·obtain ⟨j, hj, rfl⟩ := List.mem_iff_getElem.1 hy
  have h2 := ids_at hL.ids j hj
  have h3 := ids_at hL.ids k (by simpa using hk)
  rw [hg, hid] at h3
  rw [e] at h2
  have : j = k := by omega
  subst this
  rw [hg, hen]
  exact he
end Go.Proofs.Ytlkfabkkjfmnmaa
