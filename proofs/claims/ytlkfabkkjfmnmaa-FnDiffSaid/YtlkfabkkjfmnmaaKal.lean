import Derived.Test.YtlkfabkkjfmnmaaKaa
import Derived.Test.YtlkfabkkjfmnmaaKab
namespace Go.Proofs.Ytlkfabkkjfmnmaa
open Go.RowKit
set_option linter.all false
structure CS where
 i : Nat
 h : Int
structure CurAt (a : Option Addr) (n cap : Nat) (bs : List Int) (g : Nat) (s : CS) (w : World) : Prop where
 c0 : w.cell? ⟨g, 0, none⟩ = some (.slice a n cap)
 c1 : w.cell? ⟨g, 1, none⟩ = some (.int .i64 (s.i : Int))
 c2 : w.cell? ⟨g, 2, none⟩ = some (.int .i64 s.h)
 f1 : w.frozen? ⟨g, 1, none⟩ = false
 f2 : w.frozen? ⟨g, 2, none⟩ = false
 rd : Rd w a n cap 1 (bs.map (Value.int .u8))
 ne : ∀ x, a = some x → 0 < n → x.block < g
 hb : ∀ z ∈ bs, 0 ≤ z ∧ z ≤ 255
 hn : n ≤ 1048576
 hi : s.i ≤ n
theorem CurAt.lt {a : Option Addr} {n cap : Nat} {bs : List Int} {g : Nat} {s : CS} {w : World} (h : CurAt a n cap bs g s w) : g < w.heap.size := World.block_lt_of_cell? w _ h.c0
theorem CurAt.grown {a : Option Addr} {n cap : Nat} {bs : List Int} {g : Nat} {s : CS} {w w' : World} {r : Option Nat} (h : CurAt a n cap bs g s w) (hg : w.grownBy w' r) (hr : ∀ k, r = some k → g < k) : CurAt a n cap bs g s w' := by
 have hne : some g ≠ r := fun e => by have := hr g e.symm; omega
 have hb := hg.block g h.lt hne
 exact ⟨(World.cell?_of_block (a := ⟨g, 0, none⟩) hb).trans h.c0, (World.cell?_of_block (a := ⟨g, 1, none⟩) hb).trans h.c1, (World.cell?_of_block (a := ⟨g, 2, none⟩) hb).trans h.c2,
  (World.frozen?_of_block (a := ⟨g, 1, none⟩) hb).trans h.f1, (World.frozen?_of_block (a := ⟨g, 2, none⟩) hb).trans h.f2,
  h.rd.grown hg (fun x hx h0 e => by have h1 := h.ne x hx h0; have h2 := hr _ e; omega), h.ne, h.hb, h.hn, h.hi⟩
theorem CurAt.kept {a : Option Addr} {n cap : Nat} {bs : List Int} {g : Nat} {s : CS} {w w' : World} (h : CurAt a n cap bs g s w) (hb : Below w.heap.size w w') : CurAt a n cap bs g s w' :=
 h.grown (grown_of_below none hb) (fun k hk => by cases hk)
theorem CurAt.alloc {a : Option Addr} {n cap : Nat} {bs : List Int} {g : Nat} {s : CS} {w : World} (h : CurAt a n cap bs g s w) (o : Obj) : CurAt a n cap bs g s (w.alloc o) :=
 h.kept ((Below.refl _ _).alloc (Nat.le_refl _) o)
theorem CurAt.drew {a : Option Addr} {n cap : Nat} {bs : List Int} {g : Nat} {s : CS} {w : World} (h : CurAt a n cap bs g s w) : CurAt a n cap bs g s w.drew := h.kept (Below.refl _ _).drew
theorem CurAt.drewN {a : Option Addr} {n cap : Nat} {bs : List Int} {g : Nat} {s : CS} {w : World} (h : CurAt a n cap bs g s w) (q : Nat) : CurAt a n cap bs g s (w.drewN q) := h.kept (below_drewN (Below.refl _ _) q)
def cuH (h : Int) : Int := wrap64 (wrap64 (h * 6364136223846793005) + 1442695040888963407)
def cuX (h : Int) : Int := bits .and .i64 (bits .xor .i64 (h / 8589934592) (h / 35184372088832)) 255
theorem and255_range (x : Int) : 0 ≤ bits .and .i64 x 255 ∧ bits .and .i64 x 255 ≤ 255 := by
 have e : bits .and .i64 x 255 = ((BitVec.ofInt 64 x &&& BitVec.ofInt 64 255).toNat : Int) := by
  show IntKind.i64.wrap ((BitVec.ofInt 64 x &&& BitVec.ofInt 64 255).toNat : Int) = _
  have h : (BitVec.ofInt 64 x &&& BitVec.ofInt 64 255).toNat ≤ 255 := by
   rw [BitVec.toNat_and]
   exact Nat.le_trans Nat.and_le_right (by decide)
  exact wraps_i64 _ (by omega) (by omega)
 have h : (BitVec.ofInt 64 x &&& BitVec.ofInt 64 255).toNat ≤ 255 := by
  rw [BitVec.toNat_and]
  exact Nat.le_trans Nat.and_le_right (by decide)
 rw [e]
 omega
theorem cuX_range (h : Int) : 0 ≤ cuX h ∧ cuX h ≤ 255 := and255_range _
def byteF (bs : List Int) (s : CS) : Int × CS :=
 if s.i < bs.length then ((cuX (cuH s.h) + bs.getD s.i 0) % 256, ⟨s.i + 1, cuH s.h⟩) else (cuX (cuH s.h), ⟨s.i, cuH s.h⟩)
theorem byteF_range (bs : List Int) (s : CS) : 0 ≤ (byteF bs s).1 ∧ (byteF bs s).1 ≤ 255 := by
 unfold byteF
 have := cuX_range (cuH s.h)
 split
 ·simp only; omega
 ·exact this
def DrewInt (a : Option Addr) (n cap : Nat) (bs : List Int) (g : Nat) (w : World) (r : Int × CS) (e : Ending) (w' : World) : Prop :=
 e = .returned (.int .i64 r.1) ∧ CurAt a n cap bs g r.2 w' ∧ w.grownBy w' (some g)
def DrewBool (a : Option Addr) (n cap : Nat) (bs : List Int) (g : Nat) (w : World) (r : Bool × CS) (e : Ending) (w' : World) : Prop :=
 e = .returned (.bool r.1) ∧ CurAt a n cap bs g r.2 w' ∧ w.grownBy w' (some g)
def DrewStr (a : Option Addr) (n cap : Nat) (bs : List Int) (g : Nat) (w : World) (r : ByteArray × CS) (e : Ending) (w' : World) : Prop :=
 e = .returned (.string r.1) ∧ CurAt a n cap bs g r.2 w' ∧ w.grownBy w' (some g)
theorem setCell_grown (w : World) (g j : Nat) (u : Value) : w.grownBy (w.setCell ⟨g, j, none⟩ u) (some g) :=
 ⟨rfl, rfl, rfl, by simp [World.setCell], fun k _ hk => heap_setCell_other w ⟨g, j, none⟩ k u (fun e => hk (by simp [e]))⟩
set_option maxRecDepth 1000000 in
set_option maxHeartbeats 6000000 in
theorem l1Byte_any (a : Option Addr) (n cap : Nat) (bs : List Int) (g : Nat) (s : CS) (w : World) (hC : CurAt a n cap bs g s w) :
  Calls Try.prog 21 #[.pointer (some ⟨g, 0, none⟩)] w (DrewInt a n cap bs g w (byteF bs s)) := by
 obtain ⟨c0, c1, c2, f1, f2, rd, ne, hb, hn, hi⟩ := hC
 have hl : bs.length = n := by have := rd.len; simpa using this
 have hx := cuX_range (cuH s.h)
 have HX : Hid (bits .and .i64 (bits .xor .i64 (cuH s.h / 8589934592) (cuH s.h / 35184372088832)) 255 = cuX (cuH s.h)) := Lib.hid rfl
 have HH : Hid (wrap64 (wrap64 (s.h * 6364136223846793005) + 1442695040888963407) = cuH s.h) := Lib.hid rfl
 have hbg : ∀ w1 : World, w.grownBy w1 (some g) → Rd w1 a n cap 1 (bs.map (Value.int .u8)) := fun w1 hg => rd.grown hg (fun x hx h0 e => by have := ne x hx h0; simp only [Option.some.injEq] at e; omega)
 have HB := Lib.hid hbg
 have HG := Lib.hid (setCell_grown w g 2 (.int .i64 (cuH s.h)))
 have HN := Lib.hid ne
 have HBS := Lib.hid hb
 clear hbg ne rd
 by_cases hlt : s.i < n
 ·have hc1 : ∃ b off, a = some ⟨b, off, none⟩ ∧ b < g ∧ w.cell? ⟨b, off + s.i, none⟩ = some (.int .u8 (bs[s.i]'(by omega))) := by
   obtain ⟨b, off, e, hbl, hc⟩ := (HB.out w (World.grownBy.refl _ _)).at' (by omega)
   refine ⟨b, off, e, HN.out _ e (by omega), ?_⟩
   rw [hc s.i (by simp; omega)]
   simp
  obtain ⟨b, off, rfl, hbg, hc1⟩ := hc1
  have hq := hb _ (List.getElem_mem (show s.i < bs.length by omega))
  have HF : Hid (byteF bs s = ((cuX (cuH s.h) + bs[s.i]'(by omega)) % 256, ⟨s.i + 1, cuH s.h⟩)) := Lib.hid (by
   unfold byteF
   rw [if_pos (by omega), List.getD_eq_getElem?_getD, List.getElem?_eq_getElem (by omega)]
   rfl)
  generalize bs[s.i]'(by omega) = q at *
  obtain ⟨hq0, hq1⟩ := hq
  obtain ⟨hx0, hx1⟩ := hx
  clear hb hl
  go_enter Try.func21, Try.ntmps21
  go_wp2
  rw [HH.out]
  generalize cuH s.h = h' at *
  have e0 : (w.setCell ⟨g, 2, none⟩ (.int .i64 h')).cell? ⟨g, 0, none⟩ = some (.slice (some ⟨b, off, none⟩) n cap) := by go_simp
  have e1 : (w.setCell ⟨g, 2, none⟩ (.int .i64 h')).cell? ⟨g, 1, none⟩ = some (.int .i64 s.i) := by go_simp
  have e2 : (w.setCell ⟨g, 2, none⟩ (.int .i64 h')).cell? ⟨g, 2, none⟩ = some (.int .i64 h') := by go_simp
  have k1 : (w.setCell ⟨g, 2, none⟩ (.int .i64 h')).frozen? ⟨g, 1, none⟩ = false := by go_simp
  have k2 : (w.setCell ⟨g, 2, none⟩ (.int .i64 h')).frozen? ⟨g, 2, none⟩ = false := by go_simp
  have e3 : (w.setCell ⟨g, 2, none⟩ (.int .i64 h')).cell? ⟨b, off + s.i, none⟩ = some (.int .u8 q) := by
   rw [World.cell?_of_block (a := ⟨b, off + s.i, none⟩) (HG.out.block b (by have := World.block_lt_of_cell? w _ hc1; exact this) (by simp; omega))]
   exact hc1
  clear c0 c1 c2 f1 f2 hc1
  generalize w.setCell ⟨g, 2, none⟩ (.int .i64 h') = w1 at *
  have hlt1 : (s.i : Int) < (n : Int) := by omega
  have hlt0 : (0 : Int) ≤ (s.i : Int) := by omega
  go_quiet (fail)
  rw [HX.out]
  generalize cuX h' = x at *
  go_wp2
  go_quiet (fail)
  go_wp2
  go_quiet (fail)
  go_wp2
  rw [i64_and255 (x + q) (by omega) (by omega)]
  go_ret
  have HW : ∀ (q : Nat) (u : Value), w.grownBy ((w1.drewN q).setCell ⟨g, 1, none⟩ u) (some g) := fun q u => (grown_drewN HG.out q).trans (setCell_grown _ g 1 u)
  refine ⟨by rw [HF.out]; rfl, ?_, HW _ _⟩
  rw [HF.out]
  exact ⟨by go_simp, by go_simp, by go_simp, by go_simp, by go_simp, HB.out _ (HW _ _), HN.out, HBS.out, hn, by show s.i + 1 ≤ n; omega⟩
 ·have HF : Hid (byteF bs s = (cuX (cuH s.h), ⟨s.i, cuH s.h⟩)) := Lib.hid (by
   unfold byteF
   rw [if_neg (by omega)])
  clear hb hl
  go_enter Try.func21, Try.ntmps21
  go_wp2
  rw [HH.out]
  generalize cuH s.h = h' at *
  have e0 : (w.setCell ⟨g, 2, none⟩ (.int .i64 h')).cell? ⟨g, 0, none⟩ = some (.slice a n cap) := by go_simp
  have e1 : (w.setCell ⟨g, 2, none⟩ (.int .i64 h')).cell? ⟨g, 1, none⟩ = some (.int .i64 s.i) := by go_simp
  have e2 : (w.setCell ⟨g, 2, none⟩ (.int .i64 h')).cell? ⟨g, 2, none⟩ = some (.int .i64 h') := by go_simp
  have k1 : (w.setCell ⟨g, 2, none⟩ (.int .i64 h')).frozen? ⟨g, 1, none⟩ = false := by go_simp
  have k2 : (w.setCell ⟨g, 2, none⟩ (.int .i64 h')).frozen? ⟨g, 2, none⟩ = false := by go_simp
  clear c0 c1 c2 f1 f2
  generalize w.setCell ⟨g, 2, none⟩ (.int .i64 h') = w1 at *
  have hlt1 : decide ((s.i : Int) < (n : Int)) = false := by simp; omega
  have hlt2 : ¬ (s.i : Int) < (n : Int) := by omega
  go_quiet (fail)
  rw [HX.out]
  generalize cuX h' = x at *
  go_wp2
  go_quiet (fail)
  go_wp2
  go_ret
  have HW : ∀ (q r : Nat), w.grownBy ((w1.drewN q).drewN r) (some g) := fun q r => grown_drewN (grown_drewN HG.out q) r
  refine ⟨by rw [HF.out]; rfl, ?_, HW _ _⟩
  rw [HF.out]
  exact ⟨by go_simp, by go_simp, by go_simp, by go_simp, by go_simp, HB.out _ (HW _ _), HN.out, HBS.out, hn, by show s.i ≤ n; omega⟩
def belowF (bs : List Int) (m : Int) (s : CS) : Int × CS :=
 if m ≤ 0 then (0, s)
 else if m ≤ 256 then ((byteF bs s).1 % m, (byteF bs s).2)
 else
  let x := byteF bs s
  let y := byteF bs x.2
  let z := byteF bs y.2
  let u := byteF bs z.2
  ((x.1 * 16777216 + y.1 * 65536 + z.1 * 256 + u.1) % m, u.2)
theorem belowF_range (bs : List Int) (m : Int) (s : CS) (h : 0 < m) : 0 ≤ (belowF bs m s).1 ∧ (belowF bs m s).1 < m := by
 unfold belowF
 rw [if_neg (by omega)]
 split
 ·exact ⟨Int.emod_nonneg _ (by omega), Int.emod_lt_of_pos _ h⟩
 ·exact ⟨Int.emod_nonneg _ (by omega), Int.emod_lt_of_pos _ h⟩
set_option maxRecDepth 1000000 in
set_option maxHeartbeats 6000000 in
theorem l1Below_any (a : Option Addr) (n cap : Nat) (bs : List Int) (g : Nat) (s : CS) (m : Int) (w : World) (hC : CurAt a n cap bs g s w) (hm : m ≤ 9223372036854775807) :
  Calls Try.prog 12 #[.pointer (some ⟨g, 0, none⟩), .int .i64 m] w (DrewInt a n cap bs g w (belowF bs m s)) := by
 have HC := Lib.hid hC
 clear hC
 by_cases h0 : m ≤ 0
 ·have HF : Hid (belowF bs m s = (0, s)) := Lib.hid (by unfold belowF; rw [if_pos h0])
  go_enter Try.func12, Try.ntmps12
  go_wp2
  go_ret
  rw [HF.out]
  exact ⟨rfl, HC.out, World.grownBy.refl _ _⟩
 ·by_cases h1 : m ≤ 256
  ·have HF : Hid (belowF bs m s = ((byteF bs s).1 % m, (byteF bs s).2)) := Lib.hid (by unfold belowF; rw [if_neg h0, if_pos h1])
   have hr := byteF_range bs s
   go_enter Try.func12, Try.ntmps12
   go_wp2_with fail
   refine (l1Byte_any a n cap bs g s _ HC.out).mono ?_
   rintro e w1 ⟨rfl, hC1, hG1⟩
   have HR := Lib.hid (And.intro hC1 hG1)
   clear hC1 hG1
   obtain ⟨hr0, hr1⟩ := hr
   have hm0 : 0 < m := by omega
   generalize (byteF bs s).1 = x at *
   go_wp2
   go_ret
   rw [HF.out]
   exact ⟨rfl, HR.out.1, HR.out.2⟩
  ·have HF : Hid (belowF bs m s = (((byteF bs s).1 * 16777216 + (byteF bs (byteF bs s).2).1 * 65536 + (byteF bs (byteF bs (byteF bs s).2).2).1 * 256 + (byteF bs (byteF bs (byteF bs (byteF bs s).2).2).2).1) % m, (byteF bs (byteF bs (byteF bs (byteF bs s).2).2).2).2)) := Lib.hid (by unfold belowF; rw [if_neg h0, if_neg h1])
   have r1 := byteF_range bs s
   have r2 := byteF_range bs (byteF bs s).2
   have r3 := byteF_range bs (byteF bs (byteF bs s).2).2
   have r4 := byteF_range bs (byteF bs (byteF bs (byteF bs s).2).2).2
   go_enter Try.func12, Try.ntmps12
   go_wp2_with fail
   refine (l1Byte_any a n cap bs g s _ HC.out).mono ?_
   rintro e w1 ⟨rfl, hC1, hG1⟩
   have HG1 := Lib.hid hG1
   clear hG1
   have HC1 := Lib.hid hC1
   clear hC1
   go_wp2_with fail
   refine (l1Byte_any a n cap bs g _ _ HC1.out).mono ?_
   rintro e w2 ⟨rfl, hC1, hG1⟩
   have HG2 := Lib.hid (HG1.out.trans hG1)
   have HC2 := Lib.hid hC1
   clear hC1 hG1
   go_wp2_with fail
   refine (l1Byte_any a n cap bs g _ _ HC2.out).mono ?_
   rintro e w3 ⟨rfl, hC1, hG1⟩
   have HG3 := Lib.hid (HG2.out.trans hG1)
   have HC3 := Lib.hid hC1
   clear hC1 hG1
   go_wp2_with fail
   refine (l1Byte_any a n cap bs g _ _ HC3.out).mono ?_
   rintro e w4 ⟨rfl, hC1, hG1⟩
   have HG4 := Lib.hid (HG3.out.trans hG1)
   have HC4 := Lib.hid hC1
   clear hC1 hG1 HC HC1 HC2 HC3 HG1 HG2 HG3
   generalize (byteF bs (byteF bs (byteF bs (byteF bs s).2).2).2).2 = s4 at *
   generalize (byteF bs (byteF bs (byteF bs (byteF bs s).2).2).2).1 = x4 at *
   generalize (byteF bs (byteF bs (byteF bs s).2).2).1 = x3 at *
   generalize (byteF bs (byteF bs s).2).1 = x2 at *
   generalize (byteF bs s).1 = x1 at *
   obtain ⟨a1, b1⟩ := r1
   obtain ⟨a2, b2⟩ := r2
   obtain ⟨a3, b3⟩ := r3
   obtain ⟨a4, b4⟩ := r4
   have hm0 : 0 < m := by omega
   go_wp2
   go_ret
   rw [HF.out]
   exact ⟨rfl, HC4.out, HG4.out⟩
set_option maxRecDepth 1000000 in
set_option maxHeartbeats 6000000 in
theorem l1Once_any (a : Option Addr) (n cap : Nat) (bs : List Int) (g : Nat) (s : CS) (m : Int) (w : World) (hC : CurAt a n cap bs g s w) (hm : m ≤ 9223372036854775807) :
  Calls Try.prog 14 #[.pointer (some ⟨g, 0, none⟩), .int .i64 m] w (DrewBool a n cap bs g w ((belowF bs m s).1 == 0, (belowF bs m s).2)) := by
 have HC := Lib.hid hC
 clear hC
 go_enter Try.func14, Try.ntmps14
 go_wp2_with fail
 refine (l1Below_any a n cap bs g s m _ HC.out hm).mono ?_
 rintro e w1 ⟨rfl, hC1, hG1⟩
 have HR := Lib.hid (And.intro hC1 hG1)
 clear hC1 hG1
 go_wp2
 go_ret
 exact ⟨rfl, HR.out.1, HR.out.2⟩
set_option maxRecDepth 1000000 in
set_option maxHeartbeats 6000000 in
theorem l1PickInt_any (a : Option Addr) (n cap : Nat) (bs : List Int) (g : Nat) (s : CS) (p : Option Addr) (m c : Nat) (l : List Int) (w : World) (hC : CurAt a n cap bs g s w)
  (hl : Rd w p m c 1 (ints l)) (hne : ∀ x, p = some x → x.block ≠ g) (hm0 : 0 < m) (hm : m ≤ 1048576) :
  Calls Try.prog 30 #[.pointer (some ⟨g, 0, none⟩), .slice p m c] w (DrewInt a n cap bs g w (l.getD (belowF bs m s).1.toNat 0, (belowF bs m s).2)) := by
 have HC := Lib.hid hC
 have hlen : l.length = m := by have := hl.len; simpa using this
 have hr := belowF_range bs m s (by omega)
 have HL := Lib.hid hl
 clear hC hl
 have HLN := Lib.hid hlen
 clear hlen
 go_enter Try.func30, Try.ntmps30
 go_wp2_with fail
 refine (l1Below_any a n cap bs g s m _ HC.out (by omega)).mono ?_
 rintro e w1 ⟨rfl, hC1, hG1⟩
 have hL1 := HL.out.grown hG1 (fun x hx _ e => hne x hx (by simpa using e.symm))
 have HR := Lib.hid (And.intro hC1 hG1)
 obtain ⟨b, off, rfl, hbs, hc⟩ := hL1.at' hm0
 generalize (belowF bs m s).1 = x at *
 obtain ⟨hx0, hx1⟩ := hr
 obtain ⟨k, rfl⟩ := Int.eq_ofNat_of_zero_le hx0
 have hk : k < l.length := by have := HLN.out; omega
 have hc1 := hc k (by simpa using hk)
 rw [ints_get l k hk] at hc1
 have HD : Hid (l.getD k 0 = l[k]) := Lib.hid (by rw [List.getD_eq_getElem?_getD, List.getElem?_eq_getElem hk]; rfl)
 clear hC1 hG1 hL1 hc hbs
 generalize l[k] = y at *
 go_wp2
 go_ret
 refine ⟨?_, HR.out.1, HR.out.2⟩
 rw [Int.toNat_natCast, HD.out]
 rfl
def textB (style b : Int) : Int := if style = 1 then b % 2 else if style = 2 then 97 + b % 4 else b
theorem textB_range (style b : Int) (h0 : 0 ≤ b) (h1 : b ≤ 255) : 0 ≤ textB style b ∧ textB style b ≤ 255 := by unfold textB; (repeat' split) <;> omega
def textN (bs : List Int) (style : Int) : Nat → CS → List UInt8 × CS
 | 0, s => ([], s)
 | k + 1, s => (ub (textB style (byteF bs s).1) :: (textN bs style k (byteF bs s).2).1, (textN bs style k (byteF bs s).2).2)
theorem textN_len (bs : List Int) (style : Int) : ∀ (k : Nat) (s : CS), (textN bs style k s).1.length = k
 | 0, _ => rfl
 | k + 1, s => by rw [textN, List.length_cons, textN_len bs style k]
def textF (bs : List Int) (most : Int) (s : CS) : ByteArray × CS :=
 let r := belowF bs 4 s
 let q := belowF bs (most + 1) r.2
 (⟨(textN bs r.1 q.1.toNat q.2).1.toArray⟩, (textN bs r.1 q.1.toNat q.2).2)
theorem textF_size (bs : List Int) (most : Int) (s : CS) (h : 0 ≤ most) : ((textF bs most s).1.size : Int) ≤ most := by
 have h1 := belowF_range bs (most + 1) (belowF bs 4 s).2 (by omega)
 unfold textF
 show (((textN bs _ _ _).1.toArray.size : Nat) : Int) ≤ most
 rw [List.size_toArray, textN_len]
 omega
set_option maxRecDepth 1000000 in
set_option maxHeartbeats 6000000 in
theorem l1Text_any (a : Option Addr) (n cap : Nat) (bs : List Int) (g : Nat) (s : CS) (most : Int) (w : World) (hC : CurAt a n cap bs g s w) (hm0 : 0 ≤ most) (hm : most ≤ 1048576) :
  Calls Try.prog 13 #[.pointer (some ⟨g, 0, none⟩), .int .i64 most] w (DrewStr a n cap bs g w (textF bs most s)) := by
 have HC := Lib.hid (hC.alloc (.cells #[] 5))
 have hg := hC.lt
 have HO := Lib.hid (Own.lit (e := 5) (size := 1) (n := 0) (Below.refl w.heap.size w) (Nat.le_refl _) #[] rfl (by decide))
 have HW := Lib.hid (World.grownBy_alloc w (.cells #[] 5) (some g))
 clear hC
 go_enter Try.func13, Try.ntmps13
 go_wp2_with fail
 refine (l1Below_any a n cap bs g s 4 _ HC.out (by omega)).mono ?_
 rintro e w1 ⟨rfl, hC1, hG1⟩
 have HC1 := Lib.hid hC1
 have HG1 := Lib.hid (HW.out.trans hG1)
 have HR1 : Hid (w1.ownsRow (g + 1) 5 1 (.slice (some ⟨w.heap.size, 0, none⟩) 0 0) 0 []) := Lib.hid ((World.ownsRow_lit w #[] 0 (by omega) (by decide) rfl).kept hG1 (by right; simp only [Value.ownBlock]; simp; omega))
 clear hC1 hG1 HO
 go_wp2_with fail
 refine (l1Below_any a n cap bs g _ (most + 1) _ HC1.out (by omega)).mono ?_
 rintro e w2 ⟨rfl, hC1, hG1⟩
 have hr2 := belowF_range bs (most + 1) (belowF bs 4 s).2 (by omega)
 have HF : Hid (textF bs most s = (⟨(textN bs (belowF bs 4 s).1 (belowF bs (most + 1) (belowF bs 4 s).2).1.toNat (belowF bs (most + 1) (belowF bs 4 s).2).2).1.toArray⟩, (textN bs (belowF bs 4 s).1 (belowF bs (most + 1) (belowF bs 4 s).2).1.toNat (belowF bs (most + 1) (belowF bs 4 s).2).2).2)) := Lib.hid rfl
 have HC2 := Lib.hid hC1
 have HG2 := Lib.hid (HG1.out.trans hG1)
 have HR2 := Lib.hid (HR1.out.kept hG1 (by right; simp only [Value.ownBlock]; simp; omega))
 clear hC1 hG1 HC1 HG1 HR1 HC
 generalize (belowF bs (most + 1) (belowF bs 4 s).2).2 = s2 at *
 generalize (belowF bs (most + 1) (belowF bs 4 s).2).1 = k2 at *
 generalize (belowF bs 4 s).1 = style at *
 obtain ⟨hk0, hk1⟩ := hr2
 obtain ⟨K, rfl⟩ := Int.eq_ofNat_of_zero_le hk0
 rw [Int.toNat_natCast] at HF
 clear hk0
 go_wp2
 go_loopg [5, 7, 8] K (fun gg o i t8 wr => ∃ (pre : List UInt8) (sk : CS), i = .int .i64 (gg : Nat) ∧ Hid (pre ++ (textN bs style gg sk).1 = (textN bs style K s2).1) ∧ Hid ((textN bs style gg sk).2 = (textN bs style K s2).2) ∧ pre.length + gg = K ∧
  Own 5 1 (g + 1) wr o pre.length (u8s pre) wr ∧ Hid (CurAt a n cap bs g sk wr) ∧ Hid (w.grownBy wr (some g)) ∧ (∀ k, o.ownBlock = some k → w.heap.size ≤ k))
 case atStart => exact ⟨[], s2, rfl, Lib.hid rfl, Lib.hid rfl, by simp, ⟨HR2.out, Below.refl _ _, by have := HC2.out.lt; omega⟩, HC2, HG2, fun k hk => by cases hk; exact Nat.le_refl _⟩
 case round =>
  obtain ⟨pre, sk, rfl, H1, H2, hlen, hO, HCk, HGk, hblk⟩ := hrel
  obtain ⟨av, cv, rfl, _, _⟩ := hO.shape
  cases gk with
  | zero =>
   have hS := hO.rd
   have H3 : Hid ((textF bs most s).1 = ⟨pre.toArray⟩) := Lib.hid (by rw [HF.out]; simp only; rw [← H1.out]; simp [textN])
   have H4 : Hid ((textF bs most s).2 = sk) := Lib.hid (by rw [HF.out]; simp only; rw [← H2.out]; rfl)
   clear H1 H2
   go_wp2_with (refine wp_str rfl _ 22 9 5 rfl Try.underlying22 Try.underlying5 Try.underlying9 _ _ _ _ (by rfl) (by exact hS) ?_)
   go_ret
   exact ⟨by rw [H3.out]; rfl, by rw [H4.out]; exact HCk.out, HGk.out⟩
  | succ gq =>
   have hb := byteF_range bs sk
   have hbl : pre.length ≤ 1048576 := by omega
   go_wp2_with fail
   refine (l1Byte_any a n cap bs g sk _ HCk.out).mono ?_
   rintro e w3 ⟨rfl, hC1, hG1⟩
   have HC3 := Lib.hid hC1
   have HG3 := Lib.hid (HGk.out.trans hG1)
   have hblk2 := Lib.hid hblk
   have hw3 := HGk.out.size
   have hO3 : Own 5 1 (g + 1) w3 (.slice av pre.length cv) pre.length (u8s pre) w3 := ⟨hO.row.kept hG1 (by
    cases hv : Value.ownBlock (.slice av pre.length cv) with
    | none => exact .inl rfl
    | some k => right; have := hblk k hv; simp; omega), Below.refl _ _, by have := hC1.lt; omega⟩
   have H1' : Hid (pre ++ (ub (textB style (byteF bs sk).1) :: (textN bs style gq (byteF bs sk).2).1) = (textN bs style K s2).1) := Lib.hid H1.out
   have H2' : Hid ((textN bs style gq (byteF bs sk).2).2 = (textN bs style K s2).2) := Lib.hid H2.out
   clear hC1 hG1 hO H1 H2 hblk
   generalize (byteF bs sk).2 = sn at *
   generalize (byteF bs sk).1 = x at *
   obtain ⟨hb0, hb1⟩ := hb
   have fin : ∀ (y : Int) (w4 : World) (a2 : Option Addr) (c2 : Nat), y = textB style x → Own 5 1 (g + 1) w3 (.slice a2 (pre.length + 1) c2) (pre.length + 1) (u8s pre ++ [.int .u8 y]) w4 → w3.grownBy w4 (Value.ownBlock (.slice av pre.length cv)) → ((Value.slice a2 (pre.length + 1) c2).ownBlock = (Value.slice av pre.length cv).ownBlock ∨ ∃ k, (Value.slice a2 (pre.length + 1) c2).ownBlock = some k ∧ w3.heap.size ≤ k) →
     ∃ (pre' : List UInt8) (sk' : CS), Hid (pre' ++ (textN bs style gq sk').1 = (textN bs style K s2).1) ∧ Hid ((textN bs style gq sk').2 = (textN bs style K s2).2) ∧ pre'.length + gq = K ∧
      Own 5 1 (g + 1) w4 (.slice a2 (pre.length + 1) c2) pre'.length (u8s pre') w4 ∧ Hid (CurAt a n cap bs g sk' w4) ∧ Hid (w.grownBy w4 (some g)) ∧ (∀ k, (Value.slice a2 (pre.length + 1) c2).ownBlock = some k → w.heap.size ≤ k) := by
    intro y w4 a2 c2 hy hO4 hG4 hN4
    have hyr := textB_range style x hb0 hb1
    have hw34 := HG3.out.size
    refine ⟨pre ++ [ub y], sn, Lib.hid (by rw [hy]; simpa using H1'.out), H2', by simp; omega, ⟨?_, Below.refl _ _, ?_⟩, Lib.hid (HC3.out.grown hG4 (fun k hk => by have := hblk2.out k hk; omega)), Lib.hid (grown_trans HG3.out hG4 (fun k hk => .inr (hblk2.out k hk))), ?_⟩
    ·have e : u8s (pre ++ [ub y]) = u8s pre ++ [.int .u8 y] := by rw [u8s_append, u8s_ub1 y (by omega) (by omega)]
     rw [e, List.length_append]
     exact hO4.row
    ·exact hO4.base
    ·intro k hk
     rcases hN4 with h5 | ⟨q, h5, h6⟩
     ·exact hblk2.out k (h5 ▸ hk)
     ·rw [h5] at hk; cases hk; omega
   by_cases hs1 : style = 1
   ·have e1 : (style == 1) = true := by simp [hs1]
    have e2 : (style == 2) = false := by simp [hs1]
    have HY : Hid (x % 2 = textB style x) := Lib.hid (by unfold textB; rw [if_pos hs1])
    have HFIN := Lib.hid fin
    clear hs1 fin
    go_wp2_with (at_builtin; go_loud (refine wp_app1g rfl _ _ 22 rfl 5 (.int .u8 0) 1 1 Try.underlying22 info_u8 rfl (by decide) _ _ _ _ _ (by rfl) (by exact hO3) _ _ (by rfl) (by rfl) (by intro u hu; simp at hu; first | (subst hu; rfl) | (rcases hu with rfl | rfl <;> rfl) | (rcases hu with rfl | rfl | rfl <;> rfl) | (rcases hu with rfl | rfl | rfl | rfl <;> rfl)) (by omega) (by unfold maxLen; omega) ?_); intro a2 c2 w2 hO2 hG2 hN2)
    go_wp2
    go_roundg gq
    case measure => omega
    case rel => obtain ⟨p', s', hp⟩ := HFIN.out _ _ _ _ HY.out hO2 hG2 hN2; exact ⟨p', s', rfl, hp⟩
   ·by_cases hs2 : style = 2
    ·have e1 : (style == 1) = false := by simp [hs2]
     have e2 : (style == 2) = true := by simp [hs2]
     have HY : Hid (97 + x % 4 = textB style x) := Lib.hid (by unfold textB; rw [if_neg hs1, if_pos hs2])
     have HFIN := Lib.hid fin
     clear hs1 hs2 fin
     go_wp2_with (at_builtin; go_loud (refine wp_app1g rfl _ _ 22 rfl 5 (.int .u8 0) 1 1 Try.underlying22 info_u8 rfl (by decide) _ _ _ _ _ (by rfl) (by exact hO3) _ _ (by rfl) (by rfl) (by intro u hu; simp at hu; first | (subst hu; rfl) | (rcases hu with rfl | rfl <;> rfl) | (rcases hu with rfl | rfl | rfl <;> rfl) | (rcases hu with rfl | rfl | rfl | rfl <;> rfl)) (by omega) (by unfold maxLen; omega) ?_); intro a2 c2 w2 hO2 hG2 hN2)
     go_wp2
     go_roundg gq
     case measure => omega
     case rel => obtain ⟨p', s', hp⟩ := HFIN.out _ _ _ _ HY.out hO2 hG2 hN2; exact ⟨p', s', rfl, hp⟩
    ·have e1 : (style == 1) = false := by simp [hs1]
     have e2 : (style == 2) = false := by simp [hs2]
     have HY : Hid (x = textB style x) := Lib.hid (by unfold textB; rw [if_neg hs1, if_neg hs2])
     have HFIN := Lib.hid fin
     clear hs1 hs2 fin
     go_wp2_with (at_builtin; go_loud (refine wp_app1g rfl _ _ 22 rfl 5 (.int .u8 0) 1 1 Try.underlying22 info_u8 rfl (by decide) _ _ _ _ _ (by rfl) (by exact hO3) _ _ (by rfl) (by rfl) (by intro u hu; simp at hu; first | (subst hu; rfl) | (rcases hu with rfl | rfl <;> rfl) | (rcases hu with rfl | rfl | rfl <;> rfl) | (rcases hu with rfl | rfl | rfl | rfl <;> rfl)) (by omega) (by unfold maxLen; omega) ?_); intro a2 c2 w2 hO2 hG2 hN2)
     go_wp2
     go_roundg gq
     case measure => omega
     case rel => obtain ⟨p', s', hp⟩ := HFIN.out _ _ _ _ HY.out hO2 hG2 hN2; exact ⟨p', s', rfl, hp⟩
end Go.Proofs.Ytlkfabkkjfmnmaa
