import Derived.Test.YtlkfabkkjfmnmaaKab
import Derived.Test.YtlkfabkkjfmnmaaKbn
import Derived.Test.YtlkfabkkjfmnmaaKbp
namespace Go.Proofs.Ytlkfabkkjfmnmaa
open Go.RowKit
set_option linter.all false
def DrewDiff (w : World) (e : Ending) (w' : World) : Prop :=
 ∃ (la lb : List ByteArray) (pa pb : Option Addr) (ca cb : Nat), e = .returned (.tuple #[.slice pa la.length ca, .slice pb lb.length cb]) ∧ la.length = 17 ∧ lb.length ≤ 17 ∧ Rd w' pa la.length ca 1 (strs la) ∧ Rd w' pb lb.length cb 1 (strs lb) ∧ Below w.heap.size w w'
theorem Rd.first {w : World} {b off n c : Nat} {l : List ByteArray} (h : Rd w (some ⟨b, off, none⟩) n c 1 (strs l)) (k : Nat) (hk : k ≤ n) : Rd w (some ⟨b, off, none⟩) k c 1 (strs (l.take k)) := by
 have hl : l.length = n := by have := h.len; simpa using this
 refine ⟨by simp; omega, by have := h.le; omega, h.max, fun e => (by cases e), fun h0 => ?_⟩
 obtain ⟨b', off', e, hlt, hc⟩ := h.at' (by omega)
 cases e
 refine ⟨b, off, rfl, hlt, fun j hj => ?_⟩
 have hj2 : j < (l.take k).length := by simpa using hj
 have hj3 : j < l.length := by rw [List.length_take] at hj2; omega
 rw [hc j (by simpa using hj3), strs_get l j hj3, strs_get (l.take k) j hj2, List.getElem_take]
set_option maxRecDepth 1000000 in
set_option maxHeartbeats 6000000 in
theorem drawDiff_any (a : Option Addr) (n cap : Nat) (bs : List Int) (w : World) (h : Rd w a n cap 1 (bs.map (Value.int .u8))) (hb : ∀ z ∈ bs, 0 ≤ z ∧ z ≤ 255) (hn : n ≤ 1048576) :
  Calls Try.prog 5 #[.slice a n cap] w (DrewDiff w) := by
 go_enter Try.func5, Try.ntmps5
 go_wp2_with fail
 refine (l1New_any a n cap bs _ h hb hn).mono ?_
 rintro e w1 ⟨rfl, hC, hB⟩
 have HC1 := Lib.hid hC
 have HB1 := Lib.hid hB
 have hw1 := hC.lt
 clear hC hB h hb
 go_wp2_with fail
 refine (l1Size_any a n cap 20 _ (by omega) (by omega) hn).mono ?_
 rintro e w' ⟨x, rfl, hx0, hx1, rfl⟩
 go_wp2_with fail
 refine (l6Vol_any a n cap bs _ _ x _ HC1.out hx0 (by omega)).mono ?_
 rintro e w2 ⟨next, va, vc, m, s2, rfl, hi, hv, hC, hG⟩
 have hsm := inv_small hi
 have HI := Lib.hid hi
 have HC2 := Lib.hid hC
 have HG2 := Lib.hid hG
 have HB2 : Hid (Below w.heap.size w w2) := Lib.hid (HB1.out.grown hG HB1.out.size (fun q hq => by cases hq; exact Nat.le_refl _))
 have HBK : Hid (∀ W, VolRd W va m.length vc (xs m) → Calls Try.prog 9 #[.agg #[.int .i64 next, .slice va m.length vc]] W fun e w' => ∃ (a' : Option Addr) (c' : Nat), e = .returned (.slice a' 17 c') ∧ Own 9 1 W.heap.size W (.slice a' 17 c') 17 (strs (blkF next (xs m))) w') := Lib.hid (fun W hr => specBlocks_any next va m.length vc (xs m) W hr (fun y hy => by have := (hi.good y hy).data; omega) (fun y hy e he => ((hi.good y hy).ents e he).small) (fun y hy => by have := (hi.good y hy).len; omega))
 have HVR := Lib.hid hv.p.rd
 have HLB : Hid ((blkF next (xs m)).length = 17) := Lib.hid (blkF_len next (xs m))
 clear hv hC hG hi hsm HC1 HB1
 go_wp2_with fail
 refine (HBK.out _ HVR.out).mono ?_
 rintro e w3 ⟨pa, ca, rfl, hO⟩
 have HC3 := Lib.hid (HC2.out.kept hO.below)
 have HB3 := Lib.hid (HB2.out.trans (hO.below.mono HB2.out.size))
 have HA3 := Lib.hid hO.rd
 have HAB : Hid (∀ q, (Value.slice pa 17 ca).ownBlock = some q → w.heap.size < q) := Lib.hid (fun q hq => by have := (hO.blk q hq).1; have := HC2.out.lt; omega)
 obtain ⟨ga, cga, hga, hgaB⟩ := hO.shape1 (by omega)
 simp only [Value.slice.injEq] at hga
 obtain ⟨rfl, -, rfl⟩ := hga
 have hgal := (hO.blk ga rfl).2
 have hga1 := (hO.blk ga rfl).1
 have hw2 := HC2.out.lt
 clear hO HC2 HB2 HVR HBK HG2 hgaB
 generalize blkF next (xs m) = la at *
 have HLit := Lib.hid (Own.lit (e := 9) (size := 1) (n := 0) (Below.refl w3.heap.size w3) (Nat.le_refl _) #[] rfl (by decide))
 have HA4 := Lib.hid (HA3.out.alloc (.cells #[] 9))
 have HC4 := Lib.hid (HC3.out.alloc (.cells #[] 9))
 go_wp2_with (first | (at_builtin; go_loud (refine wp_app rfl _ _ 24 rfl 9 (.string ByteArray.empty) 1 16 Try.underlying24 info_str rfl (by decide) _ _ _ _ _ (by rfl) (by exact HLit.out) _ _ _ _ (by rfl) (by exact HA4.out) (strs_one _) (by omega) (by unfold maxLen; omega) ?_); intro a2 c2 w2 hO2) | fail)
 rw [Nat.zero_add, List.nil_append] at hO2
 have HBW := Lib.hid hO2.below
 have HC5 := Lib.hid (HC3.out.kept hO2.below)
 have HB5 := Lib.hid (HB3.out.trans (hO2.below.mono HB3.out.size))
 have HA5 := Lib.hid (HA3.out.below hO2.below (Nat.le_refl _))
 obtain ⟨gb, cgb, hgb, hgbB⟩ := hO2.shape1 (by omega)
 simp only [Value.slice.injEq] at hgb
 obtain ⟨rfl, -, rfl⟩ := hgb
 have HO5 := Lib.hid hO2.self
 clear hO2 HLit HA4 HC4 HA3 HC3 HB3 HBW
 refine (l1Below_any a n cap bs _ _ 5 _ HC5.out (by omega)).mono ?_
 rintro e w6 ⟨rfl, hC, hG⟩
 have hr6 := belowF_range bs 5 s2 (by omega)
 have HC6 := Lib.hid hC
 have HB6 : Hid (Below w.heap.size w w6) := Lib.hid (HB5.out.grown hG HB5.out.size (fun q hq => by cases hq; exact Nat.le_refl _))
 have HA6 := Lib.hid (HA5.out.grown hG (fun x hx _ => by cases hx; simp; omega))
 have HO6 := Lib.hid (HO5.out.otherLow hG (fun q hq e => by cases hq; have := Option.some.inj e; dsimp only at this; omega))
 clear hC hG HC5 HB5 HA5 HO5
 simp only at HC6 ⊢
 generalize (belowF bs 5 s2).2 = s6 at *
 generalize (belowF bs 5 s2).1 = k6 at *
 obtain ⟨hk0, hk1⟩ := hr6
 obtain ⟨K, rfl⟩ := Int.eq_ofNat_of_zero_le hk0
 clear hk0
 go_wp2
 go_loopg [7] K (fun gg i wr => ∃ (lb : List ByteArray) (cs : CS), i = .int .i64 (gg : Nat) ∧ gg ≤ K ∧ Hid (lb.length = 17) ∧ Hid (Own 9 1 w3.heap.size wr (.slice (some ⟨gb, 0, none⟩) 17 c2) 17 (strs lb) wr) ∧ Hid (Rd wr (some ⟨ga, 0, none⟩) 17 ca 1 (strs la)) ∧ Hid (CurAt a n cap bs w.heap.size cs wr) ∧ Hid (Below w.heap.size w wr))
 case atStart => exact ⟨la, s6, rfl, Nat.le_refl _, HLB, HO6, HA6, HC6, HB6⟩
 case round =>
  clear HO6 HA6 HC6 HB6
  obtain ⟨lb, cs, rfl, hgk, HLL, HO, HA, HC, HB⟩ := hrel
  cases gk with
  | zero =>
   go_wp2_with fail
   refine (l1Once_any a n cap bs _ _ 12 _ HC.out (by omega)).mono ?_
   rintro e w7 ⟨rfl, hC, hG⟩
   have HB7 : Hid (Below w.heap.size w w7) := Lib.hid (HB.out.grown hG HB.out.size (fun q hq => by cases hq; exact Nat.le_refl _))
   have HA7 := Lib.hid (HA.out.grown hG (fun x hx _ => by cases hx; simp; omega))
   have HR7 := Lib.hid ((HO.out.otherLow hG (fun q hq e => by cases hq; have := Option.some.inj e; dsimp only at this; omega)).rd)
   have hcg := HO.out.rd.le
   have hcm := HO.out.rd.max
   unfold maxLen at hcm
   clear hC hG HO HA HC HB
   simp only
   generalize ((belowF bs 12 cs).1 == 0) = t7 at *
   cases t7 with
   | true =>
    have h3 : (3 : Int) ≤ (c2 : Int) := by omega
    go_wp2
    go_ret2
    exact ⟨la, lb.take 3, some ⟨ga, 0, none⟩, some ⟨gb, 0, none⟩, ca, c2, by rw [HLB.out, List.length_take, HLL.out]; rfl, HLB.out, by rw [List.length_take]; omega, by rw [HLB.out]; exact HA7.out, by rw [List.length_take, HLL.out]; exact HR7.out.first 3 (by omega), HB7.out⟩
   | false =>
    go_wp2
    go_ret2
    exact ⟨la, lb, some ⟨ga, 0, none⟩, some ⟨gb, 0, none⟩, ca, c2, by rw [HLB.out, HLL.out]; rfl, HLB.out, by rw [HLL.out]; omega, by rw [HLB.out]; exact HA7.out, by rw [HLL.out]; exact HR7.out, HB7.out⟩
  | succ gq =>
   have hgq : (0 : Int) < ((gq + 1 : Nat) : Int) := by omega
   go_wp2_with fail
   refine (l1Below_any a n cap bs _ _ 17 _ HC.out (by omega)).mono ?_
   rintro e w7 ⟨rfl, hC, hG⟩
   have hr7 := belowF_range bs 17 cs (by omega)
   have HC7 := Lib.hid hC
   have HB7 : Hid (Below w.heap.size w w7) := Lib.hid (HB.out.grown hG HB.out.size (fun q hq => by cases hq; exact Nat.le_refl _))
   have HA7 := Lib.hid (HA.out.grown hG (fun x hx _ => by cases hx; simp; omega))
   have HO7 := Lib.hid (HO.out.otherLow hG (fun q hq e => by cases hq; have := Option.some.inj e; dsimp only at this; omega))
   clear hC hG HO HA HC HB
   simp only at HC7 ⊢
   generalize (belowF bs 17 cs).2 = s7 at *
   generalize (belowF bs 17 cs).1 = k7 at *
   obtain ⟨hj0, hj1⟩ := hr7
   obtain ⟨J, rfl⟩ := Int.eq_ofNat_of_zero_le hj0
   clear hj0
   go_wp2_with fail
   refine (l1Text_any a n cap bs _ _ 4 _ HC7.out (by omega) (by omega)).mono ?_
   rintro e w8 ⟨rfl, hC, hG⟩
   have HC8 := Lib.hid hC
   have HB8 : Hid (Below w.heap.size w w8) := Lib.hid (HB7.out.grown hG HB7.out.size (fun q hq => by cases hq; exact Nat.le_refl _))
   have HA8 := Lib.hid (HA7.out.grown hG (fun x hx _ => by cases hx; simp; omega))
   have HO8 := Lib.hid (HO7.out.otherLow hG (fun q hq e => by cases hq; have := Option.some.inj e; dsimp only at this; omega))
   clear hC hG HO7 HA7 HC7 HB7
   simp only at HC8 ⊢
   generalize (textF bs 4 s7).1 = tx at *
   generalize (textF bs 4 s7).2 = s8 at *
   have hji : (J : Int) < 17 := by omega
   have hji0 : (0 : Int) ≤ (J : Int) := by omega
   obtain ⟨u, hu⟩ : ∃ u, w8.cell? ⟨gb, J, none⟩ = some u := ⟨_, HO8.out.cell J (by simp [HLL.out]; omega)⟩
   have hf := HO8.out.free J
   have HST : Hid ((strs lb).set J (.string tx) = strs (lb.set J tx)) := Lib.hid (by rw [strs_eq, strs_eq, List.map_set])
   have HO9 := Lib.hid ((HO8.out.set J (.string tx)).self)
   have HA9 := Lib.hid (HA8.out.grown (setCell_grown2 w8 gb J (.string tx)) (fun x hx _ => by cases hx; simp; omega))
   have HC9 := Lib.hid (HC8.out.grown (setCell_grown2 w8 gb J (.string tx)) (fun q hq => by cases hq; omega))
   have HB9 : Hid (Below w.heap.size w (w8.setCell ⟨gb, J, none⟩ (.string tx))) := Lib.hid (HB8.out.setCell (p := ⟨gb, J, none⟩) (by dsimp only; omega) (.string tx))
   clear HO8 HA8 HC8 HB8
   rw [HST.out] at HO9
   go_wp2
   go_roundg gq
   case measure => omega
   case rel => exact ⟨lb.set J tx, s8, by go_num, by omega, Lib.hid (by rw [List.length_set]; exact HLL.out), HO9, HA9, HC9, HB9⟩
theorem info_wr : (Try.prog.info? 30).map (fun i => (i.zero, i.size, i.bytes)) = some (some (.agg #[.int .i64 0, .string ByteArray.empty]), 2, 24) := by kernel_rfl
theorem wrs_cells {w : World} {a : Option Addr} {n cap : Nat} {l : List (Int × ByteArray)} (h : Rd w a n cap 2 (wrs l)) (k : Nat) (hk : k < l.length) :
  ∃ b off, a = some ⟨b, off, none⟩ ∧ b < w.heap.size ∧ w.cell? ⟨b, off + k * 2, none⟩ = some (.int .i64 l[k].1) ∧ w.cell? ⟨b, off + k * 2 + 1, none⟩ = some (.string l[k].2) := by
 have hl : l.length = n := by have := h.len; simp at this; omega
 obtain ⟨b, off, e, hlt, hc⟩ := h.at' (by omega)
 refine ⟨b, off, e, hlt, ?_, ?_⟩
 ·rw [hc (k * 2) (by simp; omega), wrs_get0 l k hk]
 ·rw [Nat.add_assoc, hc (k * 2 + 1) (by simp; omega), wrs_get1 l k hk]
def mkw (k : Nat) (n : Nat) : List (Int × ByteArray) := (List.range n).map fun i => (((k + 2 * i : Nat) : Int), mtF (k + 2 * i + 1))
@[simp] theorem mkw_length (k n : Nat) : (mkw k n).length = n := by simp [mkw]
def diffN (a b : List ByteArray) : Nat → List (Int × ByteArray)
 | 0 => []
 | k + 1 => diffN a b k ++ (if a.getD k ByteArray.empty = b.getD k ByteArray.empty then [] else [((k : Int), b.getD k ByteArray.empty)])
theorem diffN_len (a b : List ByteArray) : ∀ k, (diffN a b k).length ≤ k
 | 0 => Nat.le_refl _
 | k + 1 => by
  have := diffN_len a b k
  unfold diffN
  rw [List.length_append]
  split <;> simp <;> omega
def diffL (a b : List ByteArray) : List (Int × ByteArray) := if a.length = 17 ∧ b.length = 17 then diffN a b 17 else []
theorem diffL_len (a b : List ByteArray) : (diffL a b).length ≤ 17 := by
 unfold diffL
 split
 ·exact diffN_len a b 17
 ·simp
structure StrNe (s t : ByteArray) : Prop where
 h1 : (s.data.toList == t.data.toList) = false
 h2 : (s.toList == t.toList) = false
theorem strNe (s t : ByteArray) (h : ¬ s = t) : StrNe s t := by
 have h0 : ¬ s.data.toList = t.data.toList := fun e => h (ByteArray.ext (by rw [← Array.toList_inj]; exact e))
 exact ⟨by simpa using h0, by rw [ByteArray.toList_eq, ByteArray.toList_eq]; simpa using h0⟩
def DiffPost (l : List (Int × ByteArray)) (w : World) (e : Ending) (w' : World) : Prop :=
 ∃ a c, e = .returned (.slice a l.length c) ∧ Own 30 2 w.heap.size w (.slice a l.length c) l.length (wrs l) w'
theorem getD_at (l : List ByteArray) (k : Nat) (h : k < l.length) : l.getD k ByteArray.empty = l[k] := by rw [List.getD_eq_getElem?_getD, List.getElem?_eq_getElem h]; rfl
set_option maxRecDepth 1000000 in
set_option maxHeartbeats 6000000 in
theorem implDiff_any (pa pb : Option Addr) (n m c d : Nat) (a b : List ByteArray) (w : World) (ha : Rd w pa n c 1 (strs a)) (hb : Rd w pb m d 1 (strs b)) :
  Calls Try.prog 6 #[.slice pa n c, .slice pb m d] w (DiffPost (diffL a b) w) := by
 have hla : a.length = n := by have := ha.len; simpa using this
 have hlb : b.length = m := by have := hb.len; simpa using this
 have hma : n ≤ maxLen := Nat.le_trans ha.le ha.max
 have hmb : m ≤ maxLen := Nat.le_trans hb.le hb.max
 unfold maxLen at hma hmb
 have HLit := Lib.hid (Own.lit (e := 30) (size := 2) (n := 0) (Below.refl w.heap.size w) (Nat.le_refl _) #[] rfl (by decide))
 by_cases h1 : n = 17
 ·by_cases h2 : m = 17
  ·have HF : Hid (diffL a b = diffN a b 17) := Lib.hid (by unfold diffL; rw [if_pos ⟨by omega, by omega⟩])
   have HLA := Lib.hid hla
   have HLB := Lib.hid hlb
   subst h1 h2
   clear hla hlb
   go_enter Try.func6, Try.ntmps6
   go_wp2
   go_loopg [5, 6, 7, 20] 17 (fun gg o t6 t7 i wr => ∃ k : Nat, k + gg = 17 ∧ i = .int .i64 (k : Int) ∧ Own 30 2 w.heap.size w o (diffN a b k).length (wrs (diffN a b k)) wr)
   case atStart => exact ⟨0, by omega, rfl, HLit.out⟩
   case round =>
    obtain ⟨k, hk, rfl, hO⟩ := hrel
    obtain ⟨av, cv, rfl, _, _⟩ := hO.shape
    by_cases hlt : k < 17
    ·obtain ⟨ba, oa, rfl, hba, hca⟩ := ha.at' (by omega)
     obtain ⟨bb, ob, rfl, hbb, hcb⟩ := hb.at' (by omega)
     have hka : k < a.length := by have := HLA.out; omega
     have hkb : k < b.length := by have := HLB.out; omega
     have hc1 := hca k (by simpa using hka)
     have hc2 := hcb k (by simpa using hkb)
     have hB := hO.below
     rw [← hB.cell (p := ⟨ba, oa + k, none⟩) (by exact hba), strs_get a k hka] at hc1
     rw [← hB.cell (p := ⟨bb, ob + k, none⟩) (by exact hbb), strs_get b k hkb] at hc2
     have hlen := diffN_len a b k
     by_cases he : a[k] = b[k]
     ·have HN : Hid (diffN a b (k + 1) = diffN a b k) := Lib.hid (by rw [diffN, getD_at a k hka, getD_at b k hkb, if_pos he, List.append_nil])
      rw [he] at hc1
      clear he hca hcb ha hb hB
      generalize diffN a b k = pre at *
      generalize b[k] = s at *
      go_wp2
      go_roundg (gk - 1)
      case measure => omega
      case rel => exact ⟨k + 1, by omega, by go_num, by rw [HN.out]; exact hO⟩
     ·have HN : Hid (diffN a b (k + 1) = diffN a b k ++ [((k : Int), b[k])]) := Lib.hid (by rw [diffN, getD_at a k hka, getD_at b k hkb, if_neg he])
      obtain ⟨hn1, hn2⟩ := strNe _ _ he
      clear he hca hcb ha hb hB
      generalize diffN a b k = pre at *
      generalize b[k] = s at *
      generalize a[k] = s0 at *
      go_wp2_with (at_builtin; go_loud (refine wp_app1g rfl _ _ 27 rfl 30 (.agg #[.int .i64 0, .string ByteArray.empty]) 2 24 Try.underlying27 info_wr rfl (by decide) _ _ _ _ _ (by rfl) (by exact hO) _ _ (by rfl) (by rfl) (by intro u hu; simp at hu; first | (subst hu; rfl) | (rcases hu with rfl | rfl <;> rfl) | (rcases hu with rfl | rfl | rfl <;> rfl) | (rcases hu with rfl | rfl | rfl | rfl <;> rfl)) (by omega) (by unfold maxLen; omega) ?_); intro a2 c2 w2 hO2 hG2 hN2)
      go_wp2
      go_roundg (gk - 1)
      case measure => omega
      case rel => exact ⟨k + 1, by omega, by go_num, by rw [HN.out, List.length_append, wrs_append]; exact hO2⟩
    ·have hkl : k = 17 := by omega
     subst hkl
     rw [← HF.out] at hO ⊢
     go_wp2
     go_ret
     exact ⟨_, _, rfl, hO⟩
  ·have HF : Hid (diffL a b = []) := Lib.hid (by unfold diffL; rw [if_neg (by omega)])
   have hne : ((m : Int) != 17) = true := by simp; omega
   subst h1
   clear hla hlb
   go_enter Try.func6, Try.ntmps6
   go_wp2
   go_ret
   rw [HF.out]
   exact ⟨_, _, rfl, HLit.out⟩
 ·have HF : Hid (diffL a b = []) := Lib.hid (by unfold diffL; rw [if_neg (by omega)])
  have hne : ((n : Int) != 17) = true := by simp; omega
  clear hla hlb
  go_enter Try.func6, Try.ntmps6
  go_wp2
  go_ret
  rw [HF.out]
  exact ⟨_, _, rfl, HLit.out⟩
end Go.Proofs.Ytlkfabkkjfmnmaa
