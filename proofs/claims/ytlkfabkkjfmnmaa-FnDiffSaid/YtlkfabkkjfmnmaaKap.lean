import Derived.Test.YtlkfabkkjfmnmaaKab
import Derived.Test.YtlkfabkkjfmnmaaKao
import Derived.ArgAppend
import Derived.Deep.DeepCutAuto
namespace Go.Proofs.Ytlkfabkkjfmnmaa
open Go.RowKit
set_option linter.all false
structure Qu (B : Nat) (W0 : World) (g off cap : Nat) (xs : List Int) (w : World) : Prop where
 base : B ≤ g
 lt : g < w.heap.size
 len : xs.length ≤ cap
 max : cap ≤ maxLen
 cells : ∀ j (h : j < xs.length), w.cell? ⟨g, off + j, none⟩ = some (.int .i64 xs[j])
 spare : ∀ j, j < cap → (w.cell? ⟨g, off + j, none⟩).isSome = true ∧ w.frozen? ⟨g, off + j, none⟩ = false
 below : Below B W0 w
 bse : B ≤ w.heap.size
section
variable {B : Nat} {W0 w w' : World} {g off cap : Nat} {xs : List Int}
theorem Qu.block (h : Qu B W0 g off cap xs w) (hb : w'.heap[g]? = w.heap[g]?) (hB : Below B W0 w') (hs : w.heap.size ≤ w'.heap.size) : Qu B W0 g off cap xs w' :=
 ⟨h.base, Nat.lt_of_lt_of_le h.lt hs, h.len, h.max, fun j hj => (World.cell?_of_block (a := ⟨g, off + j, none⟩) hb).trans (h.cells j hj), fun j hj => by
  rw [World.cell?_of_block (a := ⟨g, off + j, none⟩) hb, World.frozen?_of_block (a := ⟨g, off + j, none⟩) hb]
  exact h.spare j hj, hB, Nat.le_trans h.bse hs⟩
theorem Qu.kept (h : Qu B W0 g off cap xs w) (hb : Below w.heap.size w w') : Qu B W0 g off cap xs w' :=
 h.block (hb.block g h.lt) (h.below.trans (hb.mono h.bse)) hb.size
theorem Qu.other (h : Qu B W0 g off cap xs w) {r : Option Nat} (hg : w.grownBy w' r) (hr : ∀ k, r = some k → B ≤ k) (hne : r ≠ some g) : Qu B W0 g off cap xs w' :=
 h.block (hg.block g h.lt (fun e => hne e.symm)) (h.below.grown hg h.bse hr) hg.size
theorem Qu.alloc (h : Qu B W0 g off cap xs w) (o : Obj) : Qu B W0 g off cap xs (w.alloc o) := h.kept ((Below.refl _ _).alloc (Nat.le_refl _) _)
theorem Qu.drew (h : Qu B W0 g off cap xs w) : Qu B W0 g off cap xs w.drew := h.kept (Below.refl _ _).drew
end
section
variable {P : Program}
theorem wp_app1d {w0 : World} {ops : Array Oper} {rest : List Oper} {o : Oper} {a : Act} {Q : Exit → Act → World → Prop} (hgd : o.guard = none) (s x : Operand) (t : TypeId)
  (ho : o.op = .call { callee := .builtin .append, args := #[s, x], argTypes := #[t, t] })
  (e : TypeId) (z : Value) (size bytes : Nat) (ht : P.underlying t = some (.slice e)) (hi : (P.info? e).map (fun i => (i.zero, i.size, i.bytes)) = some (some z, size, bytes)) (hzs : z.cells.size = size) (hsz : 0 < size)
  (B : Nat) (W0 : World) (v : Value) (n : Nat) (xs : List Value) (hs : a.eval s = v) (hown : Own e size B W0 v n xs w0)
  (m : Nat) (news : Array Value) (b : Nat) (hx : a.eval x = .slice (some ⟨b, 0, none⟩) m m) (hb : b = w0.heap.size) (hl : news.size = m * size) (h1 : ∀ u ∈ news.toList, u.oneCell' = true)
  (hlim : (n + m) * bytes ≤ 140737488355328) (hmax : n + m ≤ maxLen)
  (h : ∀ a' cap' w', Own e size B W0 (.slice a' (n + m) cap') (n + m) (xs ++ news.toList) w' → w0.grownBy w' v.ownBlock → ((Value.slice a' (n + m) cap').ownBlock = v.ownBlock ∨ ∃ k, (Value.slice a' (n + m) cap').ownBlock = some k ∧ w0.heap.size ≤ k) →
   wpList P ops Q rest (a.put o.dst (.slice a' (n + m) cap')) w') : wpList P ops Q (o :: rest) a (w0.alloc (.cells news e)) := by
 subst hb
 exact wp_app1g hgd s x t ho e z size bytes ht hi hzs hsz B W0 v n xs hs hown m news hx hl h1 hlim hmax h
end
structure QInv (l : List InoL) (r : Int) (out : List Int) (p : Nat) : Prop where
 ple : p ≤ out.length + 1
 nd : out.Nodup
 bel : ∀ y ∈ out, Bel l r y
 clo : ∀ i, i < p → ∀ (hi : i < (r :: out).length) (k : Nat) (hk : k < l.length), atF l (r :: out)[i] = (k : Int) → ∀ e ∈ l[k].ents, e.id ∈ out
structure QIn (l : List InoL) (r : Int) (out0 : List Int) (es : List EntL) (out : List Int) (j : Nat) : Prop where
 pre : ∃ t, out = out0 ++ t
 nd : out.Nodup
 bel : ∀ y ∈ out, Bel l r y
 don : ∀ m, m < j → ∀ hm : m < es.length, es[m].id ∈ out
theorem QInv.inn {l : List InoL} {r : Int} {out : List Int} {p : Nat} (h : QInv l r out p) (es : List EntL) : QIn l r out es out 0 := ⟨⟨[], by simp⟩, h.nd, h.bel, fun m hm => by omega⟩
theorem QIn.no {l : List InoL} {r : Int} {out0 out : List Int} {es : List EntL} {j : Nat} (h : QIn l r out0 es out j) (hj : j < es.length) (hy : es[j].id ∉ out) (hb : Bel l r es[j].id) : QIn l r out0 es (out ++ [es[j].id]) (j + 1) := by
 obtain ⟨t, ht⟩ := h.pre
 refine ⟨⟨t ++ [es[j].id], by rw [ht, List.append_assoc]⟩, ?_, ?_, ?_⟩
 ·rw [List.nodup_append]
  exact ⟨h.nd, by simp, fun a ha b hb2 e => by
   rw [List.mem_singleton] at hb2
   subst hb2
   subst e
   exact hy ha⟩
 ·intro y hy2
  rcases List.mem_append.1 hy2 with hy2 | hy2
  ·exact h.bel y hy2
  ·rw [List.mem_singleton] at hy2; subst hy2; exact hb
 ·intro m hm hm2
  by_cases e : m = j
  ·subst e; simp
  ·exact List.mem_append.2 (.inl (h.don m (by omega) hm2))
theorem QIn.fin {l : List InoL} {r : Int} {out0 out : List Int} {p k : Nat} (h0 : QInv l r out0 p) (hp : p < out0.length + 1) (hk : k < l.length) (ha : atF l ((r :: out0)[p]'(by simp; omega)) = (k : Int)) (h : QIn l r out0 l[k].ents out l[k].ents.length) : QInv l r out (p + 1) := by
 obtain ⟨t, rfl⟩ := h.pre
 refine ⟨by simp; omega, h.nd, h.bel, ?_⟩
 intro i hi hil k2 hk2 ha2 e he
 have hil2 : i < (r :: out0).length := by simp; omega
 have hget : (r :: (out0 ++ t))[i]'hil = (r :: out0)[i]'hil2 := by
  have : r :: (out0 ++ t) = (r :: out0) ++ t := rfl
  simp only [this]
  exact List.getElem_append_left hil2
 rw [hget] at ha2
 by_cases e2 : i = p
 ·subst e2
  have : k2 = k := by have := ha2.symm.trans ha; omega
  subst this
  obtain ⟨m, hm, rfl⟩ := List.mem_iff_getElem.1 he
  exact h.don m hm hm
 ·exact List.mem_append.2 (.inl (h0.clo i (by omega) hil2 k2 hk2 ha2 e he))
theorem QInv.all {l : List InoL} {r : Int} {out : List Int} {p : Nat} (h : QInv l r out p) (hp : p = out.length + 1) : ∀ y, y ∈ out ↔ Bel l r y := by
 refine bel_closed out h.bel ?_
 intro y hy k hk ha e he
 have : ∃ i, i < p ∧ ∃ hi : i < (r :: out).length, (r :: out)[i] = y := by
  rcases hy with rfl | hy
  ·exact ⟨0, by omega, by simp, rfl⟩
  ·obtain ⟨i, hi, rfl⟩ := List.mem_iff_getElem.1 hy
   exact ⟨i + 1, by omega, by simp; omega, rfl⟩
 obtain ⟨i, hi, hil, rfl⟩ := this
 exact h.clo i hi hil k hk ha e he
theorem info_bool : (Try.prog.info? 4).map (fun i => (i.zero, i.size, i.bytes)) = some (some (.bool false), 1, 1) := by kernel_rfl
def bls (l : List Bool) : List Value := l.map Value.bool
@[simp] theorem bls_length (l : List Bool) : (bls l).length = l.length := by simp [bls]
theorem bls_set (l : List Bool) (k : Nat) (b : Bool) : (bls l).set k (.bool b) = bls (l.set k b) := by unfold bls; rw [List.map_set]
theorem bls_get (l : List Bool) (k : Nat) (h : k < l.length) : (bls l)[k]'(by simpa using h) = .bool l[k] := by simp [bls]
theorem bls_rep (n : Nat) : bls (List.replicate n false) = List.replicate n (.bool false) := by simp [bls]
structure Bls (B : Nat) (W0 : World) (gi go n ci co : Nat) (inn opn : List Bool) (w : World) : Prop where
 i : Own 4 1 B W0 (.slice (some ⟨gi, 0, none⟩) n ci) n (bls inn) w
 o : Own 4 1 B W0 (.slice (some ⟨go, 0, none⟩) n co) n (bls opn) w
 ne : gi ≠ go
section
variable {B : Nat} {W0 w : World} {gi go n ci co : Nat} {inn opn : List Bool}
theorem Bls.kept (h : Bls B W0 gi go n ci co inn opn w) {w' : World} (hb : Below w.heap.size w w') : Bls B W0 gi go n ci co inn opn w' := ⟨h.i.kept hb, h.o.kept hb, h.ne⟩
theorem Bls.setI (h : Bls B W0 gi go n ci co inn opn w) (k : Nat) : Bls B W0 gi go n ci co (inn.set k true) opn (w.setCell ⟨gi, k, none⟩ (.bool true)) :=
 ⟨by rw [← bls_set]; exact h.i.set k (.bool true), h.o.other (setCell_grown2 w gi k _) (fun q hq => by cases hq; exact (h.i.blk gi rfl).1) (fun q hq e => h.ne ((Option.some.inj e).trans (Option.some.inj hq).symm)), h.ne⟩
theorem Bls.setO (h : Bls B W0 gi go n ci co inn opn w) (k : Nat) : Bls B W0 gi go n ci co inn (opn.set k true) (w.setCell ⟨go, k, none⟩ (.bool true)) :=
 ⟨h.i.other (setCell_grown2 w go k _) (fun q hq => by cases hq; exact (h.o.blk go rfl).1) (fun q hq e => h.ne ((Option.some.inj hq).trans (Option.some.inj e).symm)), by rw [← bls_set]; exact h.o.set k (.bool true), h.ne⟩
end
set_option maxRecDepth 1000000 in
set_option maxHeartbeats 6000000 in
theorem l6Below_any (next : Int) (a : Option Addr) (n cap : Nat) (l : List InoL) (r : Int) (w : World) (hr : VolRd w a n cap l) (h0 : 0 ≤ atF l r) (hn : n ≤ 1000) :
  Calls Try.prog 51 #[.agg #[.int .i64 next, .slice a n cap], .int .i64 r] w fun e w' => ∃ g c inn, e = .returned (.slice (some ⟨g, 0, none⟩) n c) ∧ inn.length = l.length ∧ (∀ x, mk inn x = true ↔ ∃ y, Bel l r y ∧ atF l y = (x : Int)) ∧ Rd w' (some ⟨g, 0, none⟩) n c 1 (bls inn) ∧ Below w.heap.size w w' := by
 have hl : l.length = n := hr.len
 subst hl
 have hm := hr.room
 obtain ⟨a0, ha0⟩ := Int.eq_ofNat_of_zero_le h0
 have hal : a0 < l.length := by have := (atF_range l r).2; omega
 have HA0 := Lib.hid ha0
 have HB := Lib.hid (boxA w (.cells #[.int .i64 next, .slice a l.length cap] 37))
 have H := Lib.hid (hr.step HB.out)
 obtain ⟨c0, c1⟩ := box2 w 37 (.int .i64 next) (.slice a l.length cap)
 clear hr h0 ha0
 go_enter Try.func51, Try.ntmps51
 go_upto_region 1 with fail
 have hw0 : w.heap.size < (w.alloc (.cells #[.int .i64 next, .slice a l.length cap] 37)).heap.size := by simp
 generalize w.alloc (.cells #[.int .i64 next, .slice a l.length cap] 37) = w1 at *
 have HALL : Hid (∀ W, Below w1.heap.size w1 W → (W.cell? ⟨w.heap.size, 0, none⟩ = some (.int .i64 next) ∧ W.cell? ⟨w.heap.size, 1, none⟩ = some (.slice a l.length cap))) := Lib.hid (fun W hW => ⟨cellK c0 hW, cellK c1 hW⟩)
 go_upto_region 3 with (first | (at_make; refine wp_maken rfl _ _ 94 rfl 4 (.bool false) 1 Try.underlying94 info_bool rfl w1.heap.size w1 (Below.refl _ _) (Nat.le_refl _) _ _ _ _ l.length (by rfl) (by rfl) (by rfl) (by rfl) (by omega) (by unfold maxLen; omega) ?_; intro w2 hO; have HO := Lib.hid hO; obtain ⟨c20, c21⟩ := HALL.out w2 hO.below; have hz2 : w.heap.size < w2.heap.size := World.block_lt_of_cell? w2 _ c20; clear hO c0 c1) | (at_make; refine wp_maken rfl _ _ 94 rfl 4 (.bool false) 1 Try.underlying94 info_bool rfl w2.heap.size w2 (Below.refl _ _) (Nat.le_refl _) _ _ _ _ l.length (by rfl) (by rfl) (by rfl) (by rfl) (by omega) (by unfold maxLen; omega) ?_; intro w3 hO; have HO3 := Lib.hid hO; obtain ⟨c0, c1⟩ := HALL.out w3 (below_step1 HO.out.below hO.below); have hz3 : w.heap.size < w3.heap.size := World.block_lt_of_cell? w3 _ c0; clear hO c20 c21))
 have hlt2 : w1.heap.size < w2.heap.size := (HO.out.blk w1.heap.size rfl).2
 have HBL : Hid (Bls w1.heap.size w1 w1.heap.size w2.heap.size l.length l.length l.length (List.replicate l.length false) (List.replicate l.length false) w3) := Lib.hid ⟨by rw [bls_rep]; exact HO.out.kept HO3.out.below, by rw [bls_rep]; exact own_down HO3.out (Nat.le_of_lt hlt2) HO.out.below (Nat.le_of_lt hlt2), Nat.ne_of_lt hlt2⟩
 have HB3 := Lib.hid HBL.out.i.below
 clear HO HO3
 go_wp2_with fail
 refine (l6At_any next a _ cap l r _ (H.out.step HB3.out)).mono ?_
 rintro e w4 ⟨rfl, hb⟩
 rw [HA0.out]
 have HBL4 := Lib.hid (HBL.out.kept hb)
 clear c0 c1 hb HBL HB3
 have hf := HBL4.out.o.free a0
 obtain ⟨u0, hv⟩ : ∃ u, w4.cell? ⟨w2.heap.size, a0, none⟩ = some u := ⟨_, HBL4.out.o.cell a0 (by simp; omega)⟩
 have HS := Lib.hid (HBL4.out.setO a0)
 obtain ⟨hst, hct⟩ := bst_start l r a0 HA0.out
 have HST := Lib.hid (And.intro hst hct)
 have hz4 : w.heap.size < w4.heap.size := by have := HBL4.out.i.below.size; omega
 have hz5 : w2.heap.size < w4.heap.size := (HBL4.out.o.blk w2.heap.size rfl).2
 have hai : (a0 : Int) < (l.length : Int) := by omega
 have hai0 : (0 : Int) ≤ (a0 : Int) := by omega
 obtain ⟨c0, c1⟩ := HALL.out _ HS.out.i.below
 clear hst hct HBL4
 go_wp2
 clear c0 c1 hf hv
 go_loopg [8] l.length (fun gg i wr => ∃ (q : Nat) (inn opn : List Bool), q + gg = l.length ∧ i = .int .i64 (q : Int) ∧ Hid (Bst l r a0 inn opn) ∧ Hid (Clo l inn opn ∨ q + 1 ≤ cntB opn) ∧ Hid (Bls w1.heap.size w1 w1.heap.size w2.heap.size l.length l.length l.length inn opn wr))
 case atStart => exact ⟨0, _, _, by omega, rfl, Lib.hid HST.out.1, Lib.hid (.inr HST.out.2), HS⟩
 case round => as_aux_lemma =>
  clear HST HS
  obtain ⟨q, inn, opn, hq, rfl, HS0, HC0, HL⟩ := hrel
  obtain ⟨G1, hG1⟩ : ∃ x : Nat, x = gk := ⟨_, rfl⟩
  subst hG1
  obtain ⟨c0, c1⟩ := HALL.out _ HL.out.i.below
  have hzr : w.heap.size < wr.heap.size := World.block_lt_of_cell? wr _ c0
  by_cases hql : q < l.length
  ·have hqi : (q : Int) < (l.length : Int) := by omega
   have HR0 := Lib.hid (rnd_start HS0.out)
   go_wp2
   clear c0 c1
   go_loopg [9] l.length (fun gg i wr => ∃ (m : Nat) (inn' opn' : List Bool), m + gg = l.length ∧ i = .int .i64 (m : Int) ∧ Hid (Rnd l r a0 inn opn m 0 inn' opn') ∧ Hid (Bls w1.heap.size w1 w1.heap.size w2.heap.size l.length l.length l.length inn' opn' wr))
   case atStart => exact ⟨0, inn, opn, by omega, rfl, HR0, HL⟩
   case round => as_aux_lemma =>
    clear HL hzr
    obtain ⟨m, inn1, opn1, hm1, rfl, HR, HL⟩ := hrel
    obtain ⟨G2, hG2⟩ : ∃ x : Nat, x = gk := ⟨_, rfl⟩
    subst hG2
    obtain ⟨c0, c1⟩ := HALL.out _ HL.out.i.below
    have hzr : w.heap.size < wr.heap.size := World.block_lt_of_cell? wr _ c0
    by_cases hml : m < l.length
    ·have hmi : (m : Int) < (l.length : Int) := by omega
     have hmi0 : (0 : Int) ≤ (m : Int) := by omega
     obtain ⟨b, off, ad, c, ha, hbs, d0, d1, d2, d3, d4, hrd⟩ := vol_cells H.out m hml
     subst ha
     have HMARK : Hid (∀ inn' opn' k (hk : k < l[m].ents.length) (x : Nat), mk opn' m = true → atF l l[m].ents[k].id = (x : Int) → Rnd l r a0 inn opn m k inn' opn' → Rnd l r a0 inn opn m (k + 1) (inn'.set x true) (opn'.set x true)) := Lib.hid (fun inn' opn' k hk x ho hx h => rnd_mark HA0.out h hml hk ho x hx)
     have HSKIP : Hid (∀ inn' opn' k (hk : k < l[m].ents.length), mk opn' m = true → atF l l[m].ents[k].id < 0 → Rnd l r a0 inn opn m k inn' opn' → Rnd l r a0 inn opn m (k + 1) inn' opn') := Lib.hid (fun inn' opn' k hk ho hx h => rnd_skip h hml hk ho hx)
     have HNEXT : Hid (∀ inn' opn' k, (mk opn' m = false ∨ l[m].ents.length ≤ k) → Rnd l r a0 inn opn m k inn' opn' → Rnd l r a0 inn opn (m + 1) 0 inn' opn') := Lib.hid (fun inn' opn' k hk h => rnd_next h hml hk)
     have HRD := Lib.hid hrd
     have hem := Nat.le_trans hrd.le hrd.max
     unfold maxLen at hem
     have HD4 := Lib.hid d4
     clear hrd d0 d1 d2 d3 d4
     generalize l[m].ents = es at *
     go_wp2
     clear c0 c1
     go_loopg [10] es.length (fun gg i wr => ∃ (k : Nat) (inn' opn' : List Bool), k + gg = es.length ∧ i = .int .i64 (k : Int) ∧ Hid (Rnd l r a0 inn opn m k inn' opn') ∧ Hid (Bls w1.heap.size w1 w1.heap.size w2.heap.size l.length l.length l.length inn' opn' wr))
     case atStart => exact ⟨0, inn1, opn1, by omega, rfl, HR, HL⟩
     case round => as_aux_lemma =>
      clear HL HR hzr
      obtain ⟨k, inn2, opn2, hk, rfl, HR, HL⟩ := hrel
      obtain ⟨c0, c1⟩ := HALL.out _ HL.out.i.below
      have hzr : w.heap.size < wr.heap.size := World.block_lt_of_cell? wr _ c0
      have hoc : wr.cell? ⟨w2.heap.size, m, none⟩ = some (.bool (mk opn2 m)) := by
       have hlo := HR.out.st.lo
       have := HL.out.o.cell m (by simp; omega)
       rw [bls_get opn2 m (by omega), mk_get opn2 m (by omega)] at this
       exact this
      have hzo : w2.heap.size < wr.heap.size := (HL.out.o.blk w2.heap.size rfl).2
      have d4 := cellK HD4.out HL.out.i.below
      have hbr : b < wr.heap.size := World.block_lt_of_cell? wr _ d4
      cases hop : mk opn2 m with
      | false =>
       rw [hop] at hoc
       have HN := Lib.hid (HNEXT.out _ _ _ (.inl hop) HR.out)
       clear hop
       go_wp2
       go_roundg (G2 - 1)
       case measure => omega
       case rel => exact ⟨m + 1, inn2, opn2, by omega, by go_num, HN, HL⟩
      | true =>
       rw [hop] at hoc
       have HOP := Lib.hid hop
       clear hop
       by_cases hkl : k < es.length
       ·obtain ⟨be, oe, hae, hbe, e0, e1, e2, e3⟩ := ens_cells (HRD.out.below HL.out.i.below (Nat.le_refl _)) k hkl
        subst hae
        have HM2 : Hid (∀ x : Nat, atF l es[k].id = (x : Int) → Rnd l r a0 inn opn m (k + 1) (inn2.set x true) (opn2.set x true)) := Lib.hid (fun x hx => HMARK.out _ _ k hkl x HOP.out hx HR.out)
        have HS2 : Hid (atF l es[k].id < 0 → Rnd l r a0 inn opn m (k + 1) inn2 opn2) := Lib.hid (fun hx => HSKIP.out _ _ k hkl HOP.out hx HR.out)
        have hki : (k : Int) < (es.length : Int) := by omega
        have hki0 : (0 : Int) ≤ (k : Int) := by omega
        have har := atF_range l es[k].id
        have hli := HR.out.st.li
        have hlo := HR.out.st.lo
        clear e0 e1 e2
        generalize es[k].id = y at *
        have HAT : Hid (∀ W, Below w1.heap.size w1 W → Calls Try.prog 25 #[.agg #[.int .i64 next, .slice (some ⟨b, off, none⟩) l.length cap], .int .i64 y] W fun e w' => e = .returned (.int .i64 (atF l y)) ∧ Below W.heap.size W w') := Lib.hid (fun W hW => l6At_any next _ _ cap l y W (H.out.step hW))
        generalize atF l y = rv at *
        have HAL2 : Hid (∀ W, Below wr.heap.size wr W → (W.cell? ⟨w.heap.size, 0, none⟩ = some (.int .i64 next) ∧ W.cell? ⟨w.heap.size, 1, none⟩ = some (.slice (some ⟨b, off, none⟩) l.length cap) ∧ W.cell? ⟨b, off + m * 5 + 4, none⟩ = some (.slice (some ⟨be, oe, none⟩) es.length c) ∧ W.cell? ⟨be, oe + k * 4 + 3, none⟩ = some (.int .i64 y) ∧ Below wr.heap.size wr W)) := Lib.hid (fun W hW => ⟨cellK c0 hW, cellK c1 hW, cellK d4 hW, cellK e3 hW, hW⟩)
        have HBW := Lib.hid HL.out.i.below
        have hB0 := Below.refl wr.heap.size wr
        go_wp2
        refine wp_region_held_drew (S := (fun W => W.cell? ⟨w.heap.size, 0, none⟩ = some (.int .i64 next) ∧ W.cell? ⟨w.heap.size, 1, none⟩ = some (.slice (some ⟨b, off, none⟩) l.length cap) ∧ W.cell? ⟨b, off + m * 5 + 4, none⟩ = some (.slice (some ⟨be, oe, none⟩) es.length c) ∧ W.cell? ⟨be, oe + k * 4 + 3, none⟩ = some (.int .i64 y) ∧ Below wr.heap.size wr W)) (by kernel_rfl) ?_ (fun hHeld => ?_)
        ·try dsimp only
         (go_split_ands; first | exact HAL2.out _ (by assumption) | exact HAL2.out _ (Below.drew (by assumption)) | exact HAL2.out _ (below_step1 (by assumption) (by assumption)))
        change wpAnyH _ _ _ _ _ 13 #[false, false, false, false, false, false, false, false, false, false, false, false, false] _ _
        clear hB0
        refine wpH_take (i := 0) (v := ?_) rfl (by kernel_rfl) (by kernel_rfl) (by kernel_rfl) (fun _ _ _ h => h) (by rfl) ?_ (by assumption) ?_; rotate_left; (focus (intro w hSw; (try dsimp only at hSw); go_simp; try with_reducible rfl)); try simp only [Act.put, List.setIfInBounds_toArray, List.set_cons_zero, List.set_cons_succ]
        refine wpH_take (i := 1) (v := ?_) rfl (by kernel_rfl) (by kernel_rfl) (by kernel_rfl) (fun _ _ _ h => h) (by rfl) ?_ (by assumption) ?_; rotate_left; (focus (intro w hSw; (try dsimp only at hSw); go_simp; try with_reducible rfl)); try simp only [Act.put, List.setIfInBounds_toArray, List.set_cons_zero, List.set_cons_succ]
        refine wpH_take (i := 2) (v := ?_) rfl (by kernel_rfl) (by kernel_rfl) (by kernel_rfl) (fun _ _ _ h => h) (by rfl) ?_ (by assumption) ?_; rotate_left; (focus (intro w hSw; (try dsimp only at hSw); go_simp; try with_reducible rfl)); try simp only [Act.put, List.setIfInBounds_toArray, List.set_cons_zero, List.set_cons_succ]
        refine wpH_take (i := 3) (v := ?_) rfl (by kernel_rfl) (by kernel_rfl) (by kernel_rfl) (fun _ _ _ h => h) (by rfl) ?_ (by assumption) ?_; rotate_left; (focus (intro w hSw; (try dsimp only at hSw); go_simp; try with_reducible rfl)); try simp only [Act.put, List.setIfInBounds_toArray, List.set_cons_zero, List.set_cons_succ]
        refine wpH_take (i := 4) (v := ?_) rfl (by kernel_rfl) (by kernel_rfl) (by kernel_rfl) (fun _ _ _ h => h) (by rfl) ?_ (by assumption) ?_; rotate_left; (focus (intro w hSw; (try dsimp only at hSw); go_simp; try with_reducible rfl)); try simp only [Act.put, List.setIfInBounds_toArray, List.set_cons_zero, List.set_cons_succ]
        refine wpH_take (i := 5) (v := ?_) rfl (by kernel_rfl) (by kernel_rfl) (by kernel_rfl) (fun _ _ _ h => h) (by rfl) ?_ (by assumption) ?_; rotate_left; (focus (intro w hSw; (try dsimp only at hSw); go_simp; try with_reducible rfl)); try simp only [Act.put, List.setIfInBounds_toArray, List.set_cons_zero, List.set_cons_succ]
        refine wpH_take (i := 6) (v := ?_) rfl (by kernel_rfl) (by kernel_rfl) (by kernel_rfl) (fun _ _ _ h => h) (by rfl) ?_ (by assumption) ?_; rotate_left; (focus (intro w hSw; (try dsimp only at hSw); go_simp; try with_reducible rfl)); try simp only [Act.put, List.setIfInBounds_toArray, List.set_cons_zero, List.set_cons_succ]
        refine wpH_take (i := 7) (v := ?_) rfl (by kernel_rfl) (by kernel_rfl) (by kernel_rfl) (fun _ _ _ h => h) (by rfl) ?_ (by assumption) ?_; rotate_left; (focus (intro w hSw; (try dsimp only at hSw); go_simp; try with_reducible rfl)); try simp only [Act.put, List.setIfInBounds_toArray, List.set_cons_zero, List.set_cons_succ]
        refine wpH_take (i := 8) (v := ?_) rfl (by kernel_rfl) (by kernel_rfl) (by kernel_rfl) (fun _ _ _ h => h) (by rfl) ?_ (by assumption) ?_; rotate_left; (focus (intro w hSw; (try dsimp only at hSw); go_simp; try with_reducible rfl)); try simp only [Act.put, List.setIfInBounds_toArray, List.set_cons_zero, List.set_cons_succ]
        refine wpH_take (i := 9) (v := ?_) rfl (by kernel_rfl) (by kernel_rfl) (by kernel_rfl) (fun _ _ _ h => h) (by rfl) ?_ (by assumption) ?_; rotate_left; (focus (intro w hSw; (try dsimp only at hSw); go_simp; try with_reducible rfl)); try simp only [Act.put, List.setIfInBounds_toArray, List.set_cons_zero, List.set_cons_succ]
        refine wpH_take (i := 10) (v := ?_) rfl (by kernel_rfl) (by kernel_rfl) (by kernel_rfl) (fun _ _ _ h => h) (by rfl) ?_ (by assumption) ?_; rotate_left; (focus (intro w hSw; (try dsimp only at hSw); go_simp; try with_reducible rfl)); try simp only [Act.put, List.setIfInBounds_toArray, List.set_cons_zero, List.set_cons_succ]
        refine wpAnyH_ready (rs := [11]) (by kernel_rfl) (by simp) ?_
        refine AllReadyH.cons rfl (fun K hK => ?_) AllReadyH.nil
        try dsimp only at hHeld
        go_simp
        (go_at_call 25; refine (HAT.out _ (below_step1 HBW.out hHeld.2.2.2.2)).mono ?_; rintro e w5 ⟨rfl, hbk⟩)
        refine hK.out _ _ ?_ (fun hHeld2 => ?_)
        ·try dsimp only
         (go_split_ands; first | exact HAL2.out _ (by assumption) | exact HAL2.out _ (Below.drew (by assumption)) | exact HAL2.out _ (below_step1 (by assumption) (by assumption)))
        clear hK K hHeld
        have hHeld := hHeld2
        clear hHeld2
        clear hbk
        refine wpH_take (i := 12) (v := ?_) rfl (by kernel_rfl) (by kernel_rfl) (by kernel_rfl) (fun _ _ _ h => h) (by rfl) ?_ (by assumption) ?_; rotate_left; (focus (intro w hSw; (try dsimp only at hSw); go_simp; try with_reducible rfl)); try simp only [Act.put, List.setIfInBounds_toArray, List.set_cons_zero, List.set_cons_succ]
        refine wpAnyH_done (by kernel_rfl) ?_ _
        try dsimp only at hHeld
        have HBK := Lib.hid hHeld.2.2.2.2
        clear hHeld HAL2 HAT c0 c1 d4 e3 hoc
        have HL5 := Lib.hid (HL.out.kept HBK.out)
        clear HL
        by_cases hr0 : 0 ≤ rv
        ·obtain ⟨x, rfl⟩ := Int.eq_ofNat_of_zero_le hr0
         have hxl : x < l.length := by omega
         have HM3 := Lib.hid (HM2.out x rfl)
         have hfi := HL5.out.i.free x
         have hfo := HL5.out.o.free x
         obtain ⟨u1, hvi⟩ : ∃ u, w5.cell? ⟨w1.heap.size, x, none⟩ = some u := ⟨_, HL5.out.i.cell x (by simp; omega)⟩
         obtain ⟨u2, hvo⟩ : ∃ u, w5.cell? ⟨w2.heap.size, x, none⟩ = some u := ⟨_, HL5.out.o.cell x (by simp; omega)⟩
         have HL6 := Lib.hid ((HL5.out.setI x).setO x)
         have hx0 : (0 : Int) ≤ (x : Int) := by omega
         have hxi : (x : Int) < (l.length : Int) := by omega
         have hzi5 : w1.heap.size < w5.heap.size := (HL5.out.i.blk w1.heap.size rfl).2
         have hzo5 : w2.heap.size < w5.heap.size := (HL5.out.o.blk w2.heap.size rfl).2
         have hne5 := HL5.out.ne
         clear HL5 HM2 HS2 hr0 har
         go_wp2
         go_roundg (gk - 1)
         case measure => omega
         case rel => exact ⟨k + 1, inn2.set x true, opn2.set x true, by omega, by go_num, HM3, HL6⟩
        ·have HS3 := Lib.hid (HS2.out (by omega))
         have hr1 : ¬ (0 : Int) ≤ rv := hr0
         go_wp2
         go_roundg (gk - 1)
         case measure => omega
         case rel => exact ⟨k + 1, inn2, opn2, by omega, by go_num, HS3, HL5⟩
       ·have HN := Lib.hid (HNEXT.out _ _ _ (.inr (by omega)) HR.out)
        have hki : ¬ (k : Int) < (es.length : Int) := by omega
        go_wp2
        go_roundg (G2 - 1)
        case measure => omega
        case rel => exact ⟨m + 1, inn2, opn2, by omega, by go_num, HN, HL⟩
    ·obtain rfl : m = l.length := by omega
     have HE := Lib.hid (rnd_end HR.out HC0.out)
     go_wp2
     go_roundg (G1 - 1)
     case measure => omega
     case rel => exact ⟨q + 1, inn1, opn1, by omega, by go_num, Lib.hid HR.out.st, HE, HL⟩
  ·obtain rfl : q = l.length := by omega
   have HE := Lib.hid (bst_end HA0.out HS0.out HC0.out)
   have HLI := Lib.hid HS0.out.li
   go_wp2
   go_ret
   exact ⟨_, _, inn, rfl, HLI.out, HE.out, HL.out.i.rd, below_step1 HB.out HL.out.i.below⟩
end Go.Proofs.Ytlkfabkkjfmnmaa
