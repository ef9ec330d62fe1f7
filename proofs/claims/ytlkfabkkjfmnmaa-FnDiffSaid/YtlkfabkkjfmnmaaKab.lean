import Derived.Test.YtlkfabkkjfmnmaaKaa
import Derived.Maps.AppendAt
import Derived.WalkSmall
import Derived.OrdersHeld
import Derived.Deep.RegionHeld3
import Derived.IntWalk
import Derived.OwnWalk
namespace Go.Proofs.Ytlkfabkkjfmnmaa
open Go.RowKit
set_option linter.all false
theorem Own.drewN {e : TypeId} {size B : Nat} {W0 w : World} {v : Value} {n : Nat} {xs : List Value} (h : Own e size B W0 v n xs w) (q : Nat) : Own e size B W0 v n xs (w.drewN q) :=
 ⟨h.row, below_drewN h.below q, h.base⟩
theorem Rd.drewN {w : World} {a : Option Addr} {n cap size : Nat} {xs : List Value} (h : Rd w a n cap size xs) (q : Nat) : Rd (w.drewN q) a n cap size xs :=
 h.below (below_drewN (Below.refl w.heap.size w) q) (Nat.le_refl _)
theorem Rd.grown {w w' : World} {r : Option Nat} {a : Option Addr} {n cap size : Nat} {xs : List Value} (h : Rd w a n cap size xs) (hg : w.grownBy w' r) (hne : ∀ x, a = some x → 0 < n → r ≠ some x.block) : Rd w' a n cap size xs :=
 ⟨h.len, h.le, h.max, h.nil, fun h0 => by
  obtain ⟨b, off, e, hlt, hc⟩ := h.at' h0
  refine ⟨b, off, e, Nat.lt_of_lt_of_le hlt hg.size, fun j hj => ?_⟩
  rw [World.cell?_of_block (a := ⟨b, off + j, none⟩) (hg.block b hlt (fun e2 => hne _ e h0 e2.symm))]
  exact hc j hj⟩
theorem Own.self {e : TypeId} {size B : Nat} {W0 w : World} {v : Value} {n : Nat} {xs : List Value} (h : Own e size B W0 v n xs w) : Own e size B w v n xs w := ⟨h.row, Below.refl _ _, h.base⟩
theorem Own.stay {e : TypeId} {size B : Nat} {W0 w w' : World} {v : Value} {n : Nat} {xs : List Value} (h : Own e size B W0 v n xs w) (hb : Below w.heap.size w w') : Own e size B w' v n xs w' := (h.kept hb).self
theorem Own.blk {e : TypeId} {size B : Nat} {W0 w : World} {v : Value} {n : Nat} {xs : List Value} (h : Own e size B W0 v n xs w) (k : Nat) (hk : v.ownBlock = some k) : B ≤ k ∧ k < w.heap.size := h.row.lt k hk
theorem grown_of_below {w w' : World} (r : Option Nat) (h : Below w.heap.size w w') : w.grownBy w' r := ⟨h.os, h.tape, h.output, h.size, fun k hk _ => h.block k hk⟩
theorem grown_trans {a b c : World} {r r' : Option Nat} (h : a.grownBy b r) (k : b.grownBy c r') (hr : ∀ g, r' = some g → r = some g ∨ a.heap.size ≤ g) : a.grownBy c r :=
 ⟨k.os.trans h.os, k.tape.trans h.tape, k.output.trans h.output, Nat.le_trans h.size k.size, fun i hi hne => (k.block i (Nat.lt_of_lt_of_le hi h.size) (fun e => by
  rcases hr i e.symm with h1 | h1
  ·exact hne h1.symm
  ·omega)).trans (h.block i hi hne)⟩
theorem grown_drewN {w w' : World} {r : Option Nat} (h : w.grownBy w' r) (q : Nat) : w.grownBy (w'.drewN q) r := ⟨h.os, h.tape, h.output, h.size, h.block⟩
theorem grown_drew {w w' : World} {r : Option Nat} (h : w.grownBy w' r) : w.grownBy w'.drew r := ⟨h.os, h.tape, h.output, h.size, h.block⟩
section
variable {P : Program}
theorem wpH_take {md : Region.Mode} {ops : Array Oper} {Q : Exit → Act → World → Prop} {S : World → Prop} {i : Nat} {oi : Oper} {v : Value} {fuel : Nat} {listed : Array Bool} {a : Act} {w : World} (hi : ops.toList[i]? = some oi)
  (hs : Region.noSelect ops = true) (hf : Region.free md ops listed i = true) (hr : (Region.ready md ops listed).contains i = true)
  (hQ : ∀ c a w, Q (.panic c) (a.put oi.dst v) w → Q (.panic c) a w) (hw : Region.wanted oi (yielded ops a.tmps) = true) (hv : ∀ w, S w → (execOp a.eval oi).run P w = .ok (.value v) w) (hS : S w)
  (h : wpAnyH P md ops Q S fuel (listed.setIfInBounds i true) (a.put oi.dst v) w) : wpAnyH P md ops Q S (fuel + 1) listed a w :=
 wpAnyH_take (by simpa using hi) hs hf hr hQ (.inl ⟨hw, hv⟩) hS h
theorem wpH_off {md : Region.Mode} {ops : Array Oper} {Q : Exit → Act → World → Prop} {S : World → Prop} {i : Nat} {oi : Oper} {fuel : Nat} {listed : Array Bool} {a : Act} {w : World} (hi : ops.toList[i]? = some oi)
  (hs : Region.noSelect ops = true) (hf : Region.free md ops listed i = true) (hr : (Region.ready md ops listed).contains i = true)
  (hQ : ∀ c a w, Q (.panic c) (a.put oi.dst undef) w → Q (.panic c) a w) (hw : Region.wanted oi (yielded ops a.tmps) = false) (hS : S w)
  (h : wpAnyH P md ops Q S fuel (listed.setIfInBounds i true) (a.put oi.dst undef) w) : wpAnyH P md ops Q S (fuel + 1) listed a w :=
 wpAnyH_take (by simpa using hi) hs hf hr hQ (.inr ⟨hw, rfl⟩) hS h
theorem wp_app1g {w0 : World} {ops : Array Oper} {rest : List Oper} {o : Oper} {a : Act} {Q : Exit → Act → World → Prop} (hgd : o.guard = none) (s x : Operand) (t : TypeId)
  (ho : o.op = .call { callee := .builtin .append, args := #[s, x], argTypes := #[t, t] })
  (e : TypeId) (z : Value) (size bytes : Nat) (ht : P.underlying t = some (.slice e)) (hi : (P.info? e).map (fun i => (i.zero, i.size, i.bytes)) = some (some z, size, bytes)) (hzs : z.cells.size = size) (hsz : 0 < size)
  (B : Nat) (W0 : World) (v : Value) (n : Nat) (xs : List Value) (hs : a.eval s = v) (hown : Own e size B W0 v n xs w0)
  (m : Nat) (news : Array Value) (hx : a.eval x = .slice (some ⟨w0.heap.size, 0, none⟩) m m) (hl : news.size = m * size) (h1 : ∀ u ∈ news.toList, u.oneCell' = true)
  (hlim : (n + m) * bytes ≤ 140737488355328) (hmax : n + m ≤ maxLen)
  (h : ∀ a' cap' w', Own e size B W0 (.slice a' (n + m) cap') (n + m) (xs ++ news.toList) w' → w0.grownBy w' v.ownBlock → ((Value.slice a' (n + m) cap').ownBlock = v.ownBlock ∨ ∃ k, (Value.slice a' (n + m) cap').ownBlock = some k ∧ w0.heap.size ≤ k) →
   wpList P ops Q rest (a.put o.dst (.slice a' (n + m) cap')) w') : wpList P ops Q (o :: rest) a (w0.alloc (.cells news e)) := by
 obtain ⟨i, hi, hz, hsize, hby⟩ := info_parts hi
 have hown2 := hown.alloc (.cells news e)
 have hr : Rd (w0.alloc (.cells news e)) (some ⟨w0.heap.size, 0, none⟩) m m size news.toList := lit_rd hl (by omega)
 refine wpList_append_own_at _ hgd s x t ho B e i z size bytes ht hi hz hsize hby hzs hsz v n xs hs hown2.row ⟨w0.heap.size, 0, none⟩ m m news.toList hx hr.len ?_ h1 hmax hlim hown2.base ?_
 ·intro j u hj
  have hj' := (List.getElem?_eq_some_iff.1 hj).1
  have hm0 : 0 < m := by
   rcases Nat.eq_zero_or_pos m with h0 | h0
   ·have := hr.len; rw [h0, Nat.zero_mul] at this; omega
   ·exact h0
  obtain ⟨b, off, e1, _, hc⟩ := hr.at' hm0
  cases e1
  rw [Addr.add_lit, hc j hj']
  rw [List.getElem?_eq_getElem hj'] at hj
  exact hj
 ·intro v' w' ho' hg _ hN
  have hO : Own e size B W0 v' (n + m) (xs ++ news.toList) w' := ⟨ho', hown2.below.grown hg hown2.base (fun k hk => (hown2.row.lt k hk).1), Nat.le_trans hown2.base hg.size⟩
  obtain ⟨a', cap', rfl, _, _⟩ := hO.shape
  refine h a' cap' w' hO ?_ ?_
  ·exact grown_trans (World.grownBy_alloc w0 _ _) hg (fun g hg' => .inl hg')
  ·rcases hN with hN | hN
   ·exact .inl hN
   ·exact .inr ⟨_, hN, by simp⟩
end
theorem take_snoc (s : ByteArray) (k : Nat) (h : k < s.size) : s.data.toList.take (k + 1) = s.data.toList.take k ++ [s[k]] := by
 rw [List.take_succ_eq_append_getElem (by simpa using h)]; rfl
theorem pow_le_of (a k n : Nat) (h : k ≤ n) (ha : 0 < a) : a ^ k ≤ a ^ n := Nat.pow_le_pow_right ha h
def lo7 (m : Nat) : UInt8 := UInt8.ofNat m
def hi7 (m : Nat) : UInt8 := UInt8.ofNat (128 + m % 128)
def varL (n : Nat) : List UInt8 := if h : n < 128 then [lo7 n] else hi7 n :: varL (n / 128)
termination_by n
decreasing_by omega
theorem varL_lo {n : Nat} (h : n < 128) : varL n = [lo7 n] := by rw [varL]; simp [h]
theorem varL_hi {n : Nat} (h : ¬ n < 128) : varL n = hi7 n :: varL (n / 128) := by rw [varL]; simp [h]
theorem varL_len (k : Nat) : ∀ n, n < 128 ^ (k + 1) → (varL n).length ≤ k + 1 := by
 induction k with
 | zero => intro n h; rw [varL_lo (by simpa using h)]; simp
 | succ k ih =>
  intro n h
  by_cases h1 : n < 128
  ·rw [varL_lo h1]; simp
  ·rw [varL_hi h1]
   have := ih (n / 128) (by rw [Nat.pow_succ] at h; omega)
   simp only [List.length_cons]
   omega
theorem varL_len7 (n : Nat) (h : n ≤ 562949953421311) : (varL n).length ≤ 7 := varL_len 6 n (by omega)
theorem u8s_lo7 (m : Nat) (h : m < 128) : u8s [lo7 m] = [.int .u8 (m : Int)] := by have := u8s_one (m : Int) (by omega) (by omega); rw [Int.toNat_natCast] at this; exact this
theorem u8s_hi7 (m : Nat) : u8s [hi7 m] = [.int .u8 (128 + (m : Int) % 128)] := by
 have := u8s_one (128 + (m : Int) % 128) (by omega) (by omega)
 rw [show (128 + (m : Int) % 128).toNat = 128 + m % 128 from by omega] at this
 exact this
def dig10 (m : Nat) : UInt8 := UInt8.ofNat (48 + m % 10)
def rdec (m : Nat) : List UInt8 := if h : m = 0 then [] else dig10 m :: rdec (m / 10)
termination_by m
decreasing_by omega
theorem info_str : (Try.prog.info? 9).map (fun i => (i.zero, i.size, i.bytes)) = some (some (.string ByteArray.empty), 1, 16) := by kernel_rfl
theorem below_step1 {w0 w w' : World} (h : Below w0.heap.size w0 w) (hb : Below w.heap.size w w') : Below w0.heap.size w0 w' := h.trans (hb.mono h.size)
def mtF (k : Nat) : ByteArray := ⟨#[109] ++ (rdec k).reverse.toArray⟩
def mks (k : Nat) (n : Nat) : List ByteArray := (List.range n).map fun i => mtF (k + i)
@[simp] theorem mks_length (k n : Nat) : (mks k n).length = n := by simp [mks]
theorem info_ent : (Try.prog.info? 63).map (fun i => (i.zero, i.size, i.bytes)) = some (some (.agg #[.int .i64 0, .int .i64 0, .string ByteArray.empty, .int .i64 0]), 4, 40) := by kernel_rfl
def enV (x : EntL) : Value := .agg #[.int .i64 x.hash, .int .i64 x.index, .string x.name, .int .i64 x.id]
def zEnt : EntL := ⟨0, 0, ByteArray.empty, 0⟩
theorem ens_cells {w : World} {a : Option Addr} {n cap : Nat} {l : List EntL} (h : Rd w a n cap 4 (ens l)) (k : Nat) (hk : k < l.length) :
  ∃ b off, a = some ⟨b, off, none⟩ ∧ b < w.heap.size ∧ w.cell? ⟨b, off + k * 4, none⟩ = some (.int .i64 l[k].hash) ∧ w.cell? ⟨b, off + k * 4 + 1, none⟩ = some (.int .i64 l[k].index) ∧ w.cell? ⟨b, off + k * 4 + 2, none⟩ = some (.string l[k].name) ∧ w.cell? ⟨b, off + k * 4 + 3, none⟩ = some (.int .i64 l[k].id) := by
 have hl : l.length = n := by have := h.len; simp at this; omega
 obtain ⟨b, off, e, hlt, hc⟩ := h.at' (by omega)
 have g : ∀ j (hj : j < 4), w.cell? ⟨b, off + k * 4 + j, none⟩ = some ((en1 l[k])[j]'(by rw [en1_len]; exact hj)) := fun j hj => by
  rw [Nat.add_assoc, hc (k * 4 + j) (by simp; omega), ens_get l k hk j hj]
 exact ⟨b, off, e, hlt, g 0 (by omega), g 1 (by omega), g 2 (by omega), g 3 (by omega)⟩
def among (c : Int) (l : List Int) : Bool := l.any (· == c)
theorem among_take_succ (c : Int) (l : List Int) (k : Nat) (h : k < l.length) : among c (l.take (k + 1)) = (among c (l.take k) || l[k] == c) := by
 unfold among
 rw [List.take_succ_eq_append_getElem h, List.any_append]
 simp only [List.any_cons, List.any_nil, Bool.or_false]
theorem among_of_take (c : Int) (l : List Int) (k : Nat) (h : among c (l.take k) = true) : among c l = true := by
 simp only [among, List.any_eq_true] at h ⊢
 obtain ⟨x, hx, e⟩ := h
 exact ⟨x, List.mem_of_mem_take hx, e⟩
set_option maxRecDepth 1000000 in
set_option maxHeartbeats 6000000 in
theorem among_any (c : Int) (a : Option Addr) (cap n : Nat) (l : List Int) (w : World) (h : Rd w a n cap 1 (l.map (.int .i64))) :
  Calls Try.prog 63 #[.int .i64 c, .slice a n cap] w fun e w' => e = .returned (.bool (among c l)) ∧ w = w' := by
 obtain ⟨hl, hle, hm, -, hr⟩ := h
 simp at hl
 subst hl
 unfold maxLen at hm
 go_enter Try.func63, Try.ntmps63
 go_wp2
 go_loop [5] (fun i => ∃ k : Nat, k ≤ l.length ∧ i = .int .i64 k ∧ among c (l.take k) = false) (fun i => l.length - (intOf i).toNat)
 case atStart => exact ⟨0, by omega, rfl, rfl⟩
 case round =>
  obtain ⟨k, hk, rfl, hf⟩ := hrel
  have hs := among_take_succ c l k
  by_cases hlt : k < l.length
  ·obtain ⟨b, off, rfl, hbz, hc⟩ := hr (by omega)
   have hc1 := hc k (by simpa using hlt)
   simp only [List.getElem_map] at hc1
   clear hc
   have H := Lib.hid (hs hlt)
   have HF := Lib.hid hf
   clear hf hs
   go_wp2
   ·go_ret
    have e : (l[k] == c) = true := by assumption
    exact ⟨ret_bool (by have := H.out; rw [e, HF.out] at this; exact (among_of_take c l _ (by simpa using this)).symm), rfl⟩
   ·go_round
    case rel =>
     have e : (l[k] == c) = false := by assumption
     exact ⟨k + 1, by omega, by go_num, by rw [H.out, HF.out, e]; rfl⟩
    case measure => simp [intOf]; omega
  ·go_wp2
   go_ret
   exact ⟨ret_bool (by rw [List.take_of_length_le (by omega)] at hf; exact hf.symm), rfl⟩
theorem among_any2 (c : Int) (a : Option Addr) (cap n : Nat) (l : List Int) (w : World) (h : Rd w a n cap 1 (l.map (.int .i64))) :
  Calls Try.prog 63 #[.int .i64 c, .slice a n cap] w fun e w' => e = .returned (.bool (among c l)) ∧ Below w.heap.size w w' :=
 (among_any c a cap n l w h).mono fun e w' ⟨h1, h2⟩ => ⟨h1, by subst h2; exact Below.refl _ _⟩
def classF (c : Int) : Int := if (768 ≤ c ∧ c ≤ 772) ∨ c = 776 ∨ c = 778 then 230 else if c = 803 then 220 else if c = 807 then 202 else 0
theorem among_class (c : Int) : among c [768, 769, 770, 771, 772, 776, 778] = decide ((768 ≤ c ∧ c ≤ 772) ∨ c = 776 ∨ c = 778) := by
 simp [among, List.any_cons]
 rw [Bool.eq_iff_iff]
 simp
 omega
set_option maxRecDepth 1000000 in
set_option maxHeartbeats 6000000 in
theorem specClass_any (c : Int) (w : World) : Calls Try.prog 60 #[.int .i64 c] w fun e w' => e = .returned (.int .i64 (classF c)) ∧ Below w.heap.size w w' := by
 go_enter Try.func60, Try.ntmps60
 go_wp2_with fail
 refine (among_any c _ 7 7 [768, 769, 770, 771, 772, 776, 778] _ (lit_rd rfl (by decide))).mono ?_
 rintro e w' ⟨rfl, rfl⟩
 have hb : Below w.heap.size w (w.alloc (.cells #[.int .i64 768, .int .i64 769, .int .i64 770, .int .i64 771, .int .i64 772, .int .i64 776, .int .i64 778] 3)) := (Below.refl _ _).alloc (Nat.le_refl _) _
 rw [among_class]
 by_cases h : (768 ≤ c ∧ c ≤ 772) ∨ c = 776 ∨ c = 778
 ·have e : decide ((768 ≤ c ∧ c ≤ 772) ∨ c = 776 ∨ c = 778) = true := by simpa using h
  rw [e]
  have H := Lib.hid h
  clear h
  clear e
  go_wp2
  go_ret
  exact ⟨ret_int (by unfold classF; rw [if_pos H.out]), hb⟩
 ·have e : decide ((768 ≤ c ∧ c ≤ 772) ∨ c = 776 ∨ c = 778) = false := by simpa using h
  rw [e]
  have H := Lib.hid h
  clear h
  clear e
  go_wp2
  all_goals go_ret
  all_goals refine ⟨ret_int ?_, hb⟩
  all_goals (unfold classF; rw [if_neg H.out]; simp only [beq_iff_eq, beq_eq_false_iff_ne] at *; (repeat' split) <;> omega)
theorem info_i64 : (Try.prog.info? 3).map (fun i => (i.zero, i.size, i.bytes)) = some (some (.int .i64 0), 1, 8) := by kernel_rfl
def rowT : List Int → List Int → Int → List (Int × List Int)
 | a :: f, b :: l, m => (a, if 0 < m then [b, m] else [b]) :: rowT f l m
 | _, _, _ => []
def asc : List (Int × List Int) → Int → Option (List Int)
 | [], _ => none
 | (k, v) :: T, c => if k = c then some v else asc T c
theorem asc_append (A B : List (Int × List Int)) (c : Int) : asc (A ++ B) c = (asc A c).or (asc B c) := by
 induction A with
 | nil => rfl
 | cons p A ih =>
  obtain ⟨k, v⟩ := p
  simp only [List.cons_append, asc]
  split
  ·rfl
  ·exact ih
theorem asc_mem : ∀ (A : List (Int × List Int)) (c : Int) (v : List Int), asc A c = some v → (c, v) ∈ A := by
 intro A
 induction A with
 | nil => intro c v h; cases h
 | cons p A ih =>
  obtain ⟨k, u⟩ := p
  intro c v h
  simp only [asc] at h
  split at h
  ·rename_i e; subst e; cases h; exact List.mem_cons_self ..
  ·exact List.mem_cons_of_mem _ (ih c v h)
theorem asc_same (A B : List (Int × List Int)) (h1 : ∀ p ∈ A, asc B p.1 = some p.2) (h2 : ∀ p ∈ B, asc A p.1 = some p.2) (c : Int) : asc A c = asc B c := by
 cases ha : asc A c with
 | some v => exact (h1 _ (asc_mem A c v ha)).symm
 | none =>
  cases hb : asc B c with
  | none => rfl
  | some v => rw [h2 _ (asc_mem B c v hb)] at ha; cases ha
theorem row_hit : ∀ (f l : List Int) (m c : Int) (k : Nat) (hk : k < f.length) (hl : f.length = l.length), f[k] = c → (∀ j (hj : j < k), f[j]'(by omega) ≠ c) →
  asc (rowT f l m) c = some (if 0 < m then [l[k]'(by omega), m] else [l[k]'(by omega)]) := by
 intro f
 induction f with
 | nil => intro l m c k hk; simp at hk
 | cons a f ih =>
  intro l m c k hk hl he hf
  cases l with
  | nil => simp at hl
  | cons b l =>
   cases k with
   | zero => simp only [List.getElem_cons_zero] at he ⊢; simp only [rowT, asc, if_pos he]
   | succ k =>
    have h0 := hf 0 (by omega)
    simp only [List.getElem_cons_zero] at h0
    simp only [rowT, asc, if_neg h0, List.getElem_cons_succ] at he ⊢
    exact ih l m c k (by simpa using hk) (by simpa using hl) he (fun j hj => by have := hf (j + 1) (by omega); simpa using this)
theorem row_miss : ∀ (f l : List Int) (m c : Int), c ∉ f → asc (rowT f l m) c = none := by
 intro f
 induction f with
 | nil => intro l m c _; cases l <;> rfl
 | cons a f ih =>
  intro l m c h
  cases l with
  | nil => rfl
  | cons b l =>
   simp only [List.mem_cons, not_or] at h
   have h1 : ¬ a = c := fun e => h.1 e.symm
   simp only [rowT, asc, if_neg h1]
   exact ih l m c h.2
abbrev PRow := List Int × List Int × Int
def flat (T : List PRow) : List (Int × List Int) := T.flatMap fun r => rowT r.1 r.2.1 r.2.2
def tabI : List PRow := [
 ([192, 200, 204, 210, 217, 224, 232, 236, 242, 249], [65, 69, 73, 79, 85, 97, 101, 105, 111, 117], 768),
 ([193, 201, 205, 211, 218, 221, 225, 233, 237, 243, 250, 253], [65, 69, 73, 79, 85, 89, 97, 101, 105, 111, 117, 121], 769),
 ([194, 202, 206, 212, 219, 226, 234, 238, 244, 251], [65, 69, 73, 79, 85, 97, 101, 105, 111, 117], 770),
 ([195, 209, 213, 227, 241, 245], [65, 78, 79, 97, 110, 111], 771),
 ([196, 203, 207, 214, 220, 228, 235, 239, 246, 252, 255], [65, 69, 73, 79, 85, 97, 101, 105, 111, 117, 121], 776),
 ([197, 229], [65, 97], 778),
 ([199, 231], [67, 99], 807),
 ([902, 904, 905, 906, 908, 910, 911], [913, 917, 919, 921, 927, 933, 937], 769),
 ([940, 941, 942, 943, 972, 973, 974], [945, 949, 951, 953, 959, 965, 969], 769),
 ([469, 470], [220, 252], 772),
 ([7840, 7841], [65, 97], 803),
 ([7852, 7853], [7840, 7841], 770),
 ([8486, 8491], [937, 197], 0)]
def tabS : List PRow := [
 ([192, 200, 204, 210, 217, 224, 232, 236, 242, 249], [65, 69, 73, 79, 85, 97, 101, 105, 111, 117], 768),
 ([193, 201, 205, 211, 218, 221, 225, 233, 237, 243, 250, 253], [65, 69, 73, 79, 85, 89, 97, 101, 105, 111, 117, 121], 769),
 ([194, 202, 206, 212, 219, 226, 234, 238, 244, 251], [65, 69, 73, 79, 85, 97, 101, 105, 111, 117], 770),
 ([195, 209, 213, 227, 241, 245], [65, 78, 79, 97, 110, 111], 771),
 ([196, 203, 207, 214, 220, 228, 235, 239, 246, 252, 255], [65, 69, 73, 79, 85, 97, 101, 105, 111, 117, 121], 776),
 ([197, 229], [65, 97], 778),
 ([199, 231], [67, 99], 807),
 ([7840, 7841], [65, 97], 803)]
def greekF : List Int := [902, 904, 905, 906, 908, 910, 911, 940, 941, 942, 943, 972, 973, 974]
def greekL : List Int := [913, 917, 919, 921, 927, 933, 937, 945, 949, 951, 953, 959, 965, 969]
def restS : List (Int × List Int) := [(469, [220, 772]), (470, [252, 772]), (7852, [7840, 770]), (7853, [7841, 770]), (8486, [937]), (8491, [197])]
def allS : List (Int × List Int) := flat tabS ++ (rowT greekF greekL 769 ++ restS)
def hang (c : Int) : List Int := [4352 + (c - 44032) / 588, 4449 + (c - 44032) % 588 / 28] ++ (if 0 < (c - 44032) % 28 then [4519 + (c - 44032) % 28] else [])
def partsF (c : Int) : List Int := if 44032 ≤ c ∧ c ≤ 55203 then hang c else (asc (flat tabI) c).getD []
theorem tab_range : ∀ p ∈ flat tabI, (192 : Int) ≤ p.1 ∧ p.1 ≤ 8491 := by decide +kernel
theorem tab_same (c : Int) : asc (flat tabI) c = asc allS c := asc_same _ _ (by decide +kernel) (by decide +kernel) c
theorem allS_some (c : Int) (v : List Int) (h : asc allS c = some v) : partsF c = v := by
 have h' := h
 rw [← tab_same] at h
 have := tab_range _ (asc_mem _ _ _ h)
 unfold partsF
 rw [if_neg (by simp only at this; omega), h]
 rfl
theorem allS_none (c : Int) (h : asc allS c = none) : partsF c = if 44032 ≤ c ∧ c ≤ 55203 then hang c else [] := by
 rw [← tab_same] at h
 unfold partsF
 rw [h]
 rfl
theorem flat_drop (T : List PRow) (i : Nat) (r : PRow) (h : T[i]? = some r) (c : Int) : asc (flat (T.drop i)) c = (asc (rowT r.1 r.2.1 r.2.2) c).or (asc (flat (T.drop (i + 1))) c) := by
 obtain ⟨hi, rfl⟩ := List.getElem?_eq_some_iff.1 h
 rw [List.drop_eq_getElem_cons hi, flat, List.flatMap_cons, asc_append]
 rfl
theorem hang_len (c : Int) : (hang c).length ≤ 3 := by unfold hang; split <;> simp
theorem partsF_len (c : Int) : (partsF c).length ≤ 3 := by
 unfold partsF
 split
 ·exact hang_len c
 ·cases h : asc (flat tabI) c with
  | none => simp
  | some v =>
   have h2 : ∀ p ∈ flat tabI, p.2.length ≤ 2 := by decide +kernel
   have := h2 _ (asc_mem _ _ _ h)
   simp only [Option.getD_some]
   simp only at this
   omega
theorem partsF_range (c : Int) : ∀ x ∈ partsF c, 0 ≤ x ∧ x ≤ 65535 := by
 unfold partsF
 split
 ·intro x hx
  unfold hang at hx
  split at hx
  all_goals simp only [List.mem_append, List.mem_cons, List.not_mem_nil, or_false] at hx
  all_goals omega
 ·cases h : asc (flat tabI) c with
  | none => intro x hx; cases hx
  | some v =>
   have h2 : ∀ p ∈ flat tabI, ∀ x ∈ p.2, (0 : Int) ≤ x ∧ x ≤ 65535 := by decide +kernel
   exact h2 _ (asc_mem _ _ _ h)



end Go.Proofs.Ytlkfabkkjfmnmaa
