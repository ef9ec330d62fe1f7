import Derived.Test.YtlkfabkkjfmnmaaKaa
import Derived.Test.YtlkfabkkjfmnmaaKab
import Derived.Test.YtlkfabkkjfmnmaaKae
import Derived.Test.YtlkfabkkjfmnmaaKaj
import Derived.Test.YtlkfabkkjfmnmaaKal
namespace Go.Proofs.Ytlkfabkkjfmnmaa
open Go.RowKit
set_option linter.all false



def AtP (l : List EntL) (p : EntL → Bool) (r : Int) : Prop := (r = -1 ∧ l.any p = false) ∨ ∃ (m : Nat) (hm : m < l.length), r = (m : Int) ∧ (l.take m).any p = false ∧ p l[m] = true
set_option maxRecDepth 1000000 in
set_option maxHeartbeats 6000000 in
theorem l5At_any (a : Option Addr) (n cap : Nat) (l : List EntL) (s : ByteArray) (w : World) (hr : Rd w a n cap 4 (ens l)) (hs : ∀ x ∈ l, x.name.size ≤ 1073741824) (hss : s.size ≤ 1073741824) :
  Calls Try.prog 36 #[.slice a n cap, .string s] w fun e w' => ∃ r, e = .returned (.int .i64 r) ∧ AtP l (fun x => alikeB x.name s) r ∧ Below w.heap.size w w' := by
 have hl : l.length = n := by have := hr.len; simp at this; omega
 subst hl
 have hm : l.length ≤ maxLen := Nat.le_trans hr.le hr.max
 unfold maxLen at hm
 have H := Lib.hid hr
 have HSZ := Lib.hid hs
 clear hr hs
 go_enter Try.func36, Try.ntmps36
 go_wp2
 go_loopg [5] l.length (fun gg i wr => ∃ m : Nat, m + gg = l.length ∧ i = .int .i64 (m : Int) ∧ Hid ((l.take m).any (fun x => alikeB x.name s) = false) ∧ Hid (Below w.heap.size w wr))
 case atStart => exact ⟨0, by omega, rfl, Lib.hid rfl, Lib.hid (Below.refl _ _)⟩
 case round =>
  obtain ⟨m, hm2, rfl, HM, HB2⟩ := hrel
  by_cases hlt : m < l.length
  ·obtain ⟨b, off, rfl, hbs, d0, d1, d2, d3⟩ := ens_cells (H.out.below HB2.out (Nat.le_refl _)) m hlt
   have HH : Hid (alikeB l[m].name s = true → AtP l (fun x => alikeB x.name s) (m : Int)) := Lib.hid (fun e => .inr ⟨m, hlt, rfl, HM.out, e⟩)
   have HN : Hid (alikeB l[m].name s = false → (l.take (m + 1)).any (fun x => alikeB x.name s) = false) := Lib.hid (fun e => any_next l m hlt _ HM.out e)
   have HSX := Lib.hid (HSZ.out l[m] (List.getElem_mem hlt))
   have hi : (m : Int) < (l.length : Int) := by omega
   have hi0 : (0 : Int) ≤ (m : Int) := by omega
   generalize l[m].name = t at *
   clear hlt d0 d1 d3
   have HAL : Hid (∀ W, Calls Try.prog 47 #[.string t, .string s] W fun e w' => e = .returned (.bool (alikeB t s)) ∧ Below W.heap.size W w') := Lib.hid (fun W => specAlike_any t s W HSX.out hss)
   generalize alikeB t s = q at *
   go_wp2_with fail
   refine (HAL.out _).mono ?_
   rintro e w3 ⟨rfl, hb⟩
   have HB3 := Lib.hid (below_step1 HB2.out hb)
   clear hb d2
   cases q with
   | true =>
    have HE := Lib.hid (HH.out rfl)
    go_wp2
    go_ret
    exact ⟨_, rfl, HE.out, HB3.out⟩
   | false =>
    have HE := Lib.hid (HN.out rfl)
    go_wp2
    go_roundg (gk - 1)
    case measure => omega
    case rel => exact ⟨m + 1, by omega, by go_num, HE, HB3⟩
  ·have hlm : m = l.length := by omega
   subst hlm
   rw [List.take_length] at HM
   go_wp2
   go_ret
   exact ⟨-1, rfl, .inl ⟨rfl, HM.out⟩, HB2.out⟩
def newH (bs : List Int) : Int := (bs.take 4000).foldl (fun h b => (h * 131 + b + 7) % 1073741824) (10101 + bs.length)
theorem newH_take (bs : List Int) (k : Nat) (h : k < bs.length) (h0 : ∀ z ∈ bs, 0 ≤ z ∧ z ≤ 255) : (bs.take (k + 1)).foldl (fun h b => (h * 131 + b + 7) % 1073741824) (10101 + bs.length : Int) = ((bs.take k).foldl (fun h b => (h * 131 + b + 7) % 1073741824) (10101 + bs.length : Int) * 131 + bs[k] + 7) % 1073741824 := by
 rw [List.take_succ_eq_append_getElem h, List.foldl_append]
 rfl
theorem newH_range (l : List Int) (x : Int) (hx : 0 ≤ x ∧ x ≤ 1073741823) : 0 ≤ l.foldl (fun h b => (h * 131 + b + 7) % 1073741824) x ∧ l.foldl (fun h b => (h * 131 + b + 7) % 1073741824) x ≤ 1073741823 := by
 induction l generalizing x with
 | nil => exact hx
 | cons b l ih => rw [List.foldl_cons]; exact ih _ (by omega)
theorem i64_and30 (x : Int) (h₀ : 0 ≤ x) (h₁ : x < 9223372036854775808) : bits .and .i64 x 1073741823 = x % 1073741824 := bits_mask .i64 63 (by decide) wraps_i64 30 (by decide) x h₀ h₁
def MadeCur (a : Option Addr) (n cap : Nat) (bs : List Int) (w : World) (e : Ending) (w' : World) : Prop :=
 e = .returned (.pointer (some ⟨w.heap.size, 0, none⟩)) ∧ CurAt a n cap bs w.heap.size ⟨0, newH bs⟩ w' ∧ Below w.heap.size w w'
set_option maxRecDepth 1000000 in
set_option maxHeartbeats 6000000 in
theorem l1New_any (a : Option Addr) (n cap : Nat) (bs : List Int) (w : World) (h : Rd w a n cap 1 (bs.map (Value.int .u8))) (hb : ∀ z ∈ bs, 0 ≤ z ∧ z ≤ 255) (hn : n ≤ 1048576) :
  Calls Try.prog 8 #[.slice a n cap] w (MadeCur a n cap bs w) := by
 have hl : bs.length = n := by have := h.len; simpa using this
 subst hl
 have HB := Lib.hid hb
 have HN := Lib.hid h
 clear hb
 go_enter Try.func8, Try.ntmps8
 go_wp2
 go_loopg [3, 4] bs.length (fun gg hh i wr => ∃ k : Nat, k + gg = bs.length ∧ k ≤ 4000 ∧ i = .int .i64 (k : Int) ∧ hh = .int .i64 ((bs.take k).foldl (fun h b => (h * 131 + b + 7) % 1073741824) (10101 + bs.length : Int)) ∧ wr = w)
 case atStart => exact ⟨0, by omega, by omega, rfl, by simp, rfl⟩
 case round =>
  obtain ⟨k, hk, hk4, rfl, rfl, rfl⟩ := hrel
  have hr := newH_range (bs.take k) (10101 + bs.length : Int) (by omega)
  by_cases hlt : k < bs.length
  ·by_cases hlt4 : k < 4000
   ·obtain ⟨b, off, rfl, hbs, hc⟩ := h.at' (by omega)
    have hc1 := hc k (by simpa using hlt)
    rw [List.getElem_map] at hc1
    have hq := HB.out _ (List.getElem_mem hlt)
    have hS := Lib.hid (newH_take bs k hlt HB.out)
    obtain ⟨hq0, hq1⟩ := hq
    obtain ⟨hr0, hr1⟩ := hr
    generalize bs[k] = q at *
    generalize (bs.take k).foldl (fun h b => (h * 131 + b + 7) % 1073741824) (10101 + bs.length : Int) = H at *
    have hm := Lib.hid (i64_and30 (H * 131 + q + 7) (by omega) (by omega))
    clear hc h
    go_wp2
    rw [hm.out]
    go_roundg (gk - 1)
    case measure => omega
    case rel => exact ⟨k + 1, by omega, by omega, by go_num, by rw [hS.out], rfl⟩
   ·have hk0 : k = 4000 := by omega
    have hF : Hid ((bs.take k).foldl (fun h b => (h * 131 + b + 7) % 1073741824) (10101 + bs.length : Int) = newH bs) := Lib.hid (by rw [hk0]; rfl)
    have hd : decide ((k : Int) < 4000) = false := by simp; omega
    have hd2 : ¬ (k : Int) < 4000 := by omega
    rw [hF.out]
    clear hk0 hlt4 h
    go_wp2
    go_ret
    refine ⟨rfl, ⟨by go_simp, by go_simp, by go_simp, by go_simp, by go_simp, HN.out.alloc _, ?_, HB.out, hn, Nat.zero_le _⟩, (Below.refl _ _).alloc (Nat.le_refl _) _⟩
    intro x hx _
    obtain ⟨b, off, e, hlt, _⟩ := HN.out.at' (by omega)
    rw [hx] at e; cases e
    exact hlt
  ·have hF : Hid ((bs.take k).foldl (fun h b => (h * 131 + b + 7) % 1073741824) (10101 + bs.length : Int) = newH bs) := Lib.hid (by rw [List.take_of_length_le (by omega)]; unfold newH; rw [List.take_of_length_le (by omega)])
   have hkl : k = bs.length := by omega
   have hlt2 : ¬ (k : Int) < (bs.length : Int) := by omega
   rw [hF.out]
   clear hkl h
   go_wp2
   go_ret
   refine ⟨rfl, ⟨by go_simp, by go_simp, by go_simp, by go_simp, by go_simp, HN.out.alloc _, ?_, HB.out, hn, Nat.zero_le _⟩, (Below.refl _ _).alloc (Nat.le_refl _) _⟩
   intro x hx h0
   obtain ⟨b, off, e, hlt, _⟩ := HN.out.at' h0
   rw [hx] at e; cases e
   exact hlt
def DrewIntE (a : Option Addr) (n cap : Nat) (bs : List Int) (g : Nat) (w : World) (p : Int → Prop) (e : Ending) (w' : World) : Prop := ∃ r : Int × CS, p r.1 ∧ DrewInt a n cap bs g w r e w'
def DrewInts (a : Option Addr) (n cap : Nat) (bs : List Int) (g : Nat) (w : World) (most : Int) (e : Ending) (w' : World) : Prop :=
 ∃ (l : List Int) (s : CS) (p : Option Addr) (c : Nat), e = .returned (.slice p l.length c) ∧ (l.length : Int) ≤ most ∧ (∀ x ∈ l, -1 ≤ x ∧ x ≤ 1114112) ∧ w'.ownsRow w.heap.size 3 1 (.slice p l.length c) l.length (ints l) ∧ CurAt a n cap bs g s w' ∧ w.grownBy w' (some g)
def someL : List Int := [97, 65, 98, 229, 197, 8491, 778, 803, 770, 807, 769, 7853, 7852, 7841, 470, 252, 115, 83, 223, 963, 962, 931, 940, 902, 8486, 1040, 1072, 44032, 44033, 4352, 4449, 4520, 231, 99, 55203, 255]
def someM : List Int := [-1, 0, 31, 47, 127, 55204, 55296, 57343, 57344, 65535, 65536, 1114111, 1114112, 930, 256]
theorem getD_range (l : List Int) (lo hi : Int) (h : ∀ x ∈ l, lo ≤ x ∧ x ≤ hi) (h0 : lo ≤ 0 ∧ 0 ≤ hi) (k : Nat) : lo ≤ l.getD k 0 ∧ l.getD k 0 ≤ hi := by
 by_cases hk : k < l.length
 ·rw [List.getD_eq_getElem?_getD, List.getElem?_eq_getElem hk]; exact h _ (List.getElem_mem hk)
 ·rw [List.getD_eq_getElem?_getD, List.getElem?_eq_none (by omega)]; exact h0
set_option maxRecDepth 1000000 in
set_option maxHeartbeats 6000000 in
theorem l3Some_any (a : Option Addr) (n cap : Nat) (bs : List Int) (g : Nat) (s : CS) (w : World) (hC : CurAt a n cap bs g s w) :
  Calls Try.prog 54 #[.pointer (some ⟨g, 0, none⟩)] w (DrewIntE a n cap bs g w (fun x => -1 ≤ x ∧ x ≤ 1114112)) := by
 have HC := Lib.hid hC
 have HL : Hid (g < w.heap.size) := Lib.hid hC.lt
 clear hC
 go_enter Try.func54, Try.ntmps54
 go_wp2_with fail
 refine (l1PickInt_any a n cap bs g s _ 36 36 someL _ (HC.out.alloc _) (by exact lit_rd (news := (ints someL).toArray) rfl (by decide)) (fun x hx => by cases hx; have := HL.out; show w.heap.size ≠ g; omega) (by omega) (by omega)).mono ?_
 rintro e w1 ⟨rfl, hC1, hG1⟩
 have hk := getD_range someL (-1) 1114112 (by decide) (by decide) (belowF bs 36 s).1.toNat
 have HC1 := Lib.hid hC1
 have HG1 := Lib.hid ((World.grownBy_alloc w _ (some g)).trans hG1)
 clear hC1 hG1
 simp only at HC1 ⊢
 have e36 : ((36 : Nat) : Int) = 36 := rfl
 rw [e36] at *
 generalize (belowF bs 36 s).2 = s1 at *
 generalize someL.getD (belowF bs 36 s).1.toNat 0 = k at *
 go_wp2_with fail
 refine (l1Once_any a n cap bs g s1 5 _ HC1.out (by omega)).mono ?_
 rintro e w2 ⟨rfl, hC2, hG2⟩
 have HC2 := Lib.hid hC2
 have HG2 := Lib.hid (HG1.out.trans hG2)
 clear hC2 hG2
 simp only at HC2 ⊢
 generalize (belowF bs 5 s1).2 = s2 at *
 generalize ((belowF bs 5 s1).1 == 0) = t1 at *
 cases t1 with
 | true =>
  have r1 := belowF_range bs 224 s2 (by omega)
  go_wp2_with fail
  refine (l1Below_any a n cap bs g s2 224 _ HC2.out (by omega)).mono ?_
  rintro e w3 ⟨rfl, hC3, hG3⟩
  have HC3 := Lib.hid hC3
  have HG3 := Lib.hid (HG2.out.trans hG3)
  clear hC3 hG3
  generalize (belowF bs 224 s2).2 = s3 at *
  generalize (belowF bs 224 s2).1 = x at *
  obtain ⟨r1, r2⟩ := r1
  go_wp2
  go_ret
  exact ⟨(32 + x, s3), by simp only; omega, rfl, HC3.out, HG3.out⟩
 | false =>
  go_wp2_with fail
  refine (l1Once_any a n cap bs g s2 12 _ HC2.out (by omega)).mono ?_
  rintro e w3 ⟨rfl, hC3, hG3⟩
  have HC3 := Lib.hid hC3
  have HG3 := Lib.hid (HG2.out.trans hG3)
  clear hC3 hG3
  simp only at HC3 ⊢
  generalize (belowF bs 12 s2).2 = s3 at *
  generalize ((belowF bs 12 s2).1 == 0) = t2 at *
  cases t2 with
  | true =>
   go_wp2_with fail
   refine (l1PickInt_any a n cap bs g s3 _ 15 15 someM _ (HC3.out.alloc _) (by exact lit_rd (news := (ints someM).toArray) rfl (by decide)) (fun x hx => by cases hx; have := HC3.out.lt; show w3.heap.size ≠ g; omega) (by omega) (by omega)).mono ?_
   rintro e w4 ⟨rfl, hC4, hG4⟩
   have hk2 := getD_range someM (-1) 1114112 (by decide) (by decide) (belowF bs 15 s3).1.toNat
   have HC4 := Lib.hid hC4
   have HG4 := Lib.hid ((HG3.out.trans (World.grownBy_alloc _ _ _)).trans hG4)
   clear hC4 hG4
   go_wp2
   go_ret
   exact ⟨(someM.getD (belowF bs 15 s3).1.toNat 0, (belowF bs 15 s3).2), hk2, rfl, HC4.out, HG4.out⟩
  | false =>
   go_wp2
   go_ret
   exact ⟨(k, s3), hk, rfl, HC3.out, HG3.out⟩
set_option maxRecDepth 1000000 in
set_option maxHeartbeats 6000000 in
theorem l3List_any (a : Option Addr) (n cap : Nat) (bs : List Int) (g : Nat) (s : CS) (most : Int) (w : World) (hC : CurAt a n cap bs g s w) (hm0 : 0 ≤ most) (hm : most ≤ 1048576) :
  Calls Try.prog 45 #[.pointer (some ⟨g, 0, none⟩), .int .i64 most] w (DrewInts a n cap bs g w most) := by
 have HC := Lib.hid (hC.alloc (.cells #[] 3))
 have hg := hC.lt
 have HW := Lib.hid (World.grownBy_alloc w (.cells #[] 3) (some g))
 clear hC
 go_enter Try.func45, Try.ntmps45
 go_wp2_with fail
 refine (l1Below_any a n cap bs g _ (most + 1) _ HC.out (by omega)).mono ?_
 rintro e w2 ⟨rfl, hC1, hG1⟩
 have hr2 := belowF_range bs (most + 1) s (by omega)
 have HC2 := Lib.hid hC1
 have HG2 := Lib.hid (HW.out.trans hG1)
 have HR2 : Hid (w2.ownsRow w.heap.size 3 1 (.slice (some ⟨w.heap.size, 0, none⟩) 0 0) 0 []) := Lib.hid ((World.ownsRow_lit w #[] 0 (by omega) (by decide) rfl).kept hG1 (by right; simp only [Value.ownBlock]; simp; omega))
 clear hC1 hG1 HC
 generalize (belowF bs (most + 1) s).2 = s2 at *
 generalize (belowF bs (most + 1) s).1 = k2 at *
 obtain ⟨hk0, hk1⟩ := hr2
 obtain ⟨K, rfl⟩ := Int.eq_ofNat_of_zero_le hk0
 clear hk0
 go_wp2
 go_loopg [5, 6] K (fun gg o i wr => ∃ (l : List Int) (sk : CS), i = .int .i64 (gg : Nat) ∧ l.length + gg = K ∧ Hid (∀ x ∈ l, -1 ≤ x ∧ x ≤ 1114112) ∧
  Own 3 1 w.heap.size wr o l.length (ints l) wr ∧ Hid (CurAt a n cap bs g sk wr) ∧ Hid (w.grownBy wr (some g)))
 case atStart => exact ⟨[], s2, rfl, by simp, Lib.hid (by simp), ⟨HR2.out, Below.refl _ _, HG2.out.size⟩, HC2, HG2⟩
 case round =>
  obtain ⟨l, sk, rfl, hlen, HP, hO, HCk, HGk⟩ := hrel
  obtain ⟨av, cv, rfl, _, _⟩ := hO.shape
  cases gk with
  | zero =>
   go_wp2
   go_ret
   exact ⟨l, sk, av, cv, rfl, by omega, HP.out, hO.row, HCk.out, HGk.out⟩
  | succ gq =>
   have hbl : l.length ≤ 1048576 := by omega
   go_wp2_with fail
   refine (l3Some_any a n cap bs g sk _ HCk.out).mono ?_
   rintro e w3 ⟨⟨x, sn⟩, hx, rfl, hC1, hG1⟩
   have HC3 := Lib.hid hC1
   have HG3 := Lib.hid (HGk.out.trans hG1)
   have hw3 := HG3.out.size
   have HO3 : Hid (Own 3 1 w.heap.size w3 (.slice av l.length cv) l.length (ints l) w3) := Lib.hid ⟨hO.row.kept hG1 (by
    cases hv : Value.ownBlock (.slice av l.length cv) with
    | none => exact .inl rfl
    | some k => right; have := (hO.row.lt k hv).1; simp; omega), Below.refl _ _, hw3⟩
   have HX := Lib.hid hx
   clear hC1 hG1 hO hx
   simp only at HC3 HX ⊢
   go_wp2_with (at_builtin; go_loud (refine wp_app1g rfl _ _ 69 rfl 3 (.int .i64 0) 1 8 Try.underlying69 info_i64 rfl (by decide) _ _ _ _ _ (by rfl) (by exact HO3.out) _ _ (by rfl) (by rfl) (by intro u hu; simp at hu; first | (subst hu; rfl) | (rcases hu with rfl | rfl <;> rfl) | (rcases hu with rfl | rfl | rfl <;> rfl) | (rcases hu with rfl | rfl | rfl | rfl <;> rfl)) (by omega) (by unfold maxLen; omega) ?_); intro a2 c2 w2 hO2 hG2 hN2)
   have HO2 := Lib.hid hO2
   have HN2 := Lib.hid hN2
   have HG4 : Hid (w.grownBy w2 (some g)) := Lib.hid (grown_trans HG3.out hG2 (fun k hk => .inr ((HO3.out.row.lt k hk).1)))
   have HC4 : Hid (CurAt a n cap bs g sn w2) := Lib.hid (HC3.out.grown hG2 (fun k hk => by have := (HO3.out.row.lt k hk).1; omega))
   clear hO2 hG2 hN2
   go_wp2
   go_roundg gq
   case measure => omega
   case rel =>
    refine ⟨l ++ [x], sn, rfl, by simp; omega, Lib.hid (fun y hy => ?_), ?_, HC4, HG4⟩
    ·rcases List.mem_append.1 hy with h | h
     ·exact HP.out y h
     ·rw [List.mem_singleton] at h; subst h; exact HX.out
    ·have e : ints (l ++ [x]) = ints l ++ [.int .i64 x] := by simp [ints]
     rw [e, List.length_append]
     exact ⟨HO2.out.row, Below.refl _ _, HO2.out.base⟩
theorem Rd.part {w : World} {b off n c : Nat} {l : List EntL} (h : Rd w (some ⟨b, off, none⟩) n c 4 (ens l)) (i j : Nat) (hij : i ≤ j) (hj : j ≤ n) : Rd w (some ⟨b, off + i * 4, none⟩) (j - i) (c - i) 4 (ens ((l.take j).drop i)) := by
 have hl : l.length = n := by have := h.len; simp at this; omega
 have hle := h.le
 have hmx := h.max
 refine ⟨by simp; omega, by omega, by omega, fun e => (by cases e), fun h0 => ?_⟩
 obtain ⟨b', off', e, hlt, hc⟩ := h.at' (by omega)
 cases e
 refine ⟨b, off + i * 4, rfl, hlt, fun q hq => ?_⟩
 have hq2 : q < (j - i) * 4 := by have := hq; simp at this; omega
 have e1 : q = q / 4 * 4 + q % 4 := by omega
 have hk : q / 4 < ((l.take j).drop i).length := by simp; omega
 have hm : q % 4 < 4 := by omega
 have e2 := hc (i * 4 + q) (by simp; omega)
 rw [Nat.add_assoc, e2]
 congr 1
 have g1 := ens_get l (i + q / 4) (by omega) (q % 4) hm
 have g2 := ens_get ((l.take j).drop i) (q / 4) hk (q % 4) hm
 have e3 : (ens l)[i * 4 + q]'(by simp; omega) = (ens l)[(i + q / 4) * 4 + q % 4]'(by simp; omega) := by congr 1; omega
 have e4 : (ens ((l.take j).drop i))[q]'hq = (ens ((l.take j).drop i))[q / 4 * 4 + q % 4]'(by simp; omega) := by congr 1
 rw [e3, e4, g1, g2]
 congr 2
 simp
def EntsOut (n : Nat) (cs : List Value) (w : World) (e : Ending) (w' : World) : Prop := ∃ g c, e = .returned (.slice g n c) ∧ Own 63 4 w.heap.size w (.slice g n c) n cs w'
set_option maxRecDepth 1000000 in
set_option maxHeartbeats 6000000 in
theorem l5Copy_any (a : Option Addr) (c : Nat) (l : List EntL) (w : World) (h : Rd w a l.length c 4 (ens l)) (hn : l.length ≤ 1048576) :
  Calls Try.prog 33 #[.slice a l.length c] w (EntsOut l.length (ens l) w) := by
 have HO := Lib.hid ((Own.nil 63 4 w))
 have HLit := Lib.hid (Own.lit (e := 63) (size := 4) (n := 0) (Below.refl w.heap.size w) (Nat.le_refl _) #[] rfl (by decide))
 have H := Lib.hid (h.alloc (.cells #[] 63))
 clear h
 go_enter Try.func33, Try.ntmps33
 go_wp2_with (at_builtin; go_loud (refine wp_app rfl _ _ 47 rfl 63 (.agg #[.int .i64 0, .int .i64 0, .string ByteArray.empty, .int .i64 0]) 4 40 Try.underlying47 info_ent rfl (by decide) _ _ _ _ _ (by rfl) (by exact HLit.out) _ _ _ _ (by rfl) (by exact H.out) (ens_one _) (by omega) (by unfold maxLen; omega) ?_); intro a2 c2 w2 hO2)
 go_ret
 refine ⟨a2, c2, rfl, ?_⟩
 rw [Nat.zero_add] at hO2
 simpa using hO2
set_option maxRecDepth 1000000 in
set_option maxHeartbeats 6000000 in
theorem l1Size_any (a : Option Addr) (n cap : Nat) (most : Int) (w : World) (h0 : 1 ≤ most) (h1 : most ≤ 1048576) (hn : n ≤ 1048576) :
  Calls Try.prog 11 #[.slice a n cap, .int .i64 most] w fun e w' => ∃ x : Int, e = .returned (.int .i64 x) ∧ 1 ≤ x ∧ x ≤ most ∧ w = w' := by
 have hq : ((n : Int)).tdiv 20 = ((n / 20 : Nat) : Int) := by rw [Int.tdiv_eq_ediv_of_nonneg (by omega)]; omega
 have hw1 : IntKind.i64.wrap ((n / 20 : Nat) : Int) = ((n / 20 : Nat) : Int) := IntWalk.i64_in _ ⟨by omega, by omega⟩
 have hw2 : IntKind.i64.wrap (2 + ((n / 20 : Nat) : Int)) = 2 + ((n / 20 : Nat) : Int) := IntWalk.i64_in _ ⟨by omega, by omega⟩
 generalize n / 20 = k at *
 by_cases hc : most < 2 + (k : Int)
 ·go_enter Try.func11, Try.ntmps11
  go_wp2
  go_ret
  exact ⟨most, rfl, h0, Int.le_refl _, rfl⟩
 ·go_enter Try.func11, Try.ntmps11
  go_wp2
  go_ret
  exact ⟨2 + (k : Int), rfl, by omega, by omega, rfl⟩
def rv (l : List UInt8) : Nat := l.foldr (fun b a => b.toNat % 128 + 128 * a) 0

def varV (n : Int) : List UInt8 := if 0 ≤ n ∧ n ≤ 562949953421311 then varL n.toNat else []
theorem varV_no (n : Int) (h : n < 0 ∨ 562949953421311 < n) : varV n = [] := by rw [varV, if_neg (by omega)]
set_option maxRecDepth 1000000 in
set_option maxHeartbeats 6000000 in
theorem varV_yes (n : Nat) (h : n ≤ 562949953421311) : varV n = varL n := by rw [varV, if_pos (by omega)]; simp
theorem varV_len (n : Int) : (varV n).length ≤ 7 := by
 unfold varV
 split
 ·exact varL_len7 _ (by omega)
 ·simp
set_option maxRecDepth 100000 in
set_option maxHeartbeats 6000000 in
theorem specVar_any (n : Int) (w : World) :
  Calls Try.prog 15 #[.int .i64 n] w fun e w' => e = .returned (.string ⟨(varV n).toArray⟩) ∧ Below w.heap.size w w' := by
 by_cases h0 : 0 ≤ n
 ·by_cases h1 : n ≤ 562949953421311
  ·obtain ⟨n, rfl⟩ := Int.eq_ofNat_of_zero_le h0
   have H1 := Lib.hid (varV_yes n (by omega))
   have hl := varL_len7 n (by omega)
   go_enter Try.func15, Try.ntmps15
   go_wp2_with (go_at_call 22; (first | refine (l1In_yes _ _ _ _ (by omega) (by omega)).mono ?_ | refine (l1In_no _ _ _ _ (by omega)).mono ?_); rintro e w' ⟨rfl, rfl⟩)
   go_loopg [0, 3] n (fun g nv o wr => ∃ (m : Nat) (pre : List UInt8), m = g ∧ m ≤ 562949953421311 ∧ nv = .int .i64 m ∧ pre ++ varL m = varL n ∧ Own 5 1 w.heap.size w o pre.length (u8s pre) wr)
   case atStart => exact ⟨n, [], rfl, by omega, rfl, rfl, by simpa [u8s] using Own.lit (e := 5) (size := 1) (n := 0) (Below.refl w.heap.size w) (Nat.le_refl _) #[] rfl (by decide)⟩
   case round =>
    obtain ⟨m, pre, rfl, hm, rfl, hpre, hOk⟩ := hrel
    have hpl : pre.length ≤ 7 := by have := congrArg List.length hpre; rw [List.length_append] at this; omega
    obtain ⟨av, cv, rfl, _, _⟩ := hOk.shape
    by_cases hlt : m < 128
    ·have H2 : Hid (pre ++ [lo7 m] = varL n) := Lib.hid (by rw [varL_lo hlt] at hpre; exact hpre)
     clear hpre
     go_wp2_with (at_builtin; go_loud (refine wp_app1 rfl _ _ 22 rfl 5 (.int .u8 0) 1 1 Try.underlying22 info_u8 rfl (by decide) w.heap.size w _ _ _ (by rfl) (by exact hOk) _ _ (by rfl) (by rfl) (by intro u hu; simp at hu; first | (subst hu; rfl) | (rcases hu with rfl | rfl <;> rfl) | (rcases hu with rfl | rfl | rfl <;> rfl) | (rcases hu with rfl | rfl | rfl | rfl <;> rfl)) (by omega) (by unfold maxLen; omega) ?_); intro a2 c2 w2 hO2)
     have hr2 : Rd w2 a2 (pre.length + 1) c2 1 (u8s (varL n)) := by
      have := hO2.rd
      rw [← H2.out, u8s_append, u8s_lo7 m hlt]
      exact this
     have hcv := run_str (P := Try.prog) 22 9 5 Try.underlying22 Try.underlying5 Try.underlying9 hr2
     go_simp
     go_wp2
     go_ret
     exact ⟨by rw [H1.out]; rfl, hO2.below⟩
    ·have H2 : Hid (pre ++ [hi7 m] ++ varL (m / 128) = varL n) := Lib.hid (by rw [varL_hi hlt] at hpre; rw [← hpre]; simp)
     clear hpre
     go_wp2_with (at_builtin; go_loud (refine wp_app1 rfl _ _ 22 rfl 5 (.int .u8 0) 1 1 Try.underlying22 info_u8 rfl (by decide) w.heap.size w _ _ _ (by rfl) (by exact hOk) _ _ (by rfl) (by rfl) (by intro u hu; simp at hu; first | (subst hu; rfl) | (rcases hu with rfl | rfl <;> rfl) | (rcases hu with rfl | rfl | rfl <;> rfl) | (rcases hu with rfl | rfl | rfl | rfl <;> rfl)) (by omega) (by unfold maxLen; omega) ?_); intro a2 c2 w2 hO2)
     go_wp2
     go_roundg (m / 128)
     case measure => omega
     case rel =>
      refine ⟨m / 128, pre ++ [hi7 m], rfl, by omega, by go_num, H2.out, ?_⟩
      rw [u8s_append, List.length_append, u8s_hi7 m]
      exact hO2
  ·have H1 := Lib.hid (varV_no n (by omega))
   go_enter Try.func15, Try.ntmps15
   go_wp2_with (go_at_call 22; (first | refine (l1In_yes _ _ _ _ (by omega) (by omega)).mono ?_ | refine (l1In_no _ _ _ _ (by omega)).mono ?_); rintro e w' ⟨rfl, rfl⟩)
   go_ret
   exact ⟨by rw [H1.out]; rfl, Below.refl _ _⟩
 ·have H1 := Lib.hid (varV_no n (by omega))
  go_enter Try.func15, Try.ntmps15
  go_wp2_with (go_at_call 22; (first | refine (l1In_yes _ _ _ _ (by omega) (by omega)).mono ?_ | refine (l1In_no _ _ _ _ (by omega)).mono ?_); rintro e w' ⟨rfl, rfl⟩)
  go_ret
  exact ⟨by rw [H1.out]; rfl, Below.refl _ _⟩
set_option maxRecDepth 1000000 in
set_option maxHeartbeats 6000000 in
theorem l1Pick_any (a : Option Addr) (n cap : Nat) (bs : List Int) (g : Nat) (s : CS) (p : Option Addr) (m c : Nat) (l : List ByteArray) (w : World) (hC : CurAt a n cap bs g s w)
  (hl : Rd w p m c 1 (strs l)) (hne : ∀ x, p = some x → x.block ≠ g) (hm0 : 0 < m) (hm : m ≤ 1048576) :
  Calls Try.prog 43 #[.pointer (some ⟨g, 0, none⟩), .slice p m c] w (DrewStr a n cap bs g w (l.getD (belowF bs m s).1.toNat ByteArray.empty, (belowF bs m s).2)) := by
 have HC := Lib.hid hC
 have hlen : l.length = m := by have := hl.len; simpa using this
 have hr := belowF_range bs m s (by omega)
 have HL := Lib.hid hl
 clear hC hl
 have HLN := Lib.hid hlen
 clear hlen
 go_enter Try.func43, Try.ntmps43
 go_wp2_with fail
 refine (l1Below_any a n cap bs g s m _ HC.out (by omega)).mono ?_
 rintro e w1 ⟨rfl, hC1, hG1⟩
 have hL1 := HL.out.grown hG1 (fun x hx _ e => hne x hx (by simpa using e.symm))
 have HR := Lib.hid (And.intro hC1 hG1)
 obtain ⟨b, off, rfl, hbs, hc⟩ := hL1.at' hm0
 generalize (belowF bs m s).1 = x at *
 obtain ⟨hx0, hx1⟩ := hr
 obtain ⟨k, rfl⟩ := Int.eq_ofNat_of_zero_le hx0
 have hk : k < l.length := by have := HLN.out; omega
 have hc1 := hc k (by simpa using hk)
 rw [strs_get l k hk] at hc1
 have HD : Hid (l.getD k ByteArray.empty = l[k]) := Lib.hid (by rw [List.getD_eq_getElem?_getD, List.getElem?_eq_getElem hk]; rfl)
 clear hC1 hG1 hL1 hc hbs
 generalize l[k] = y at *
 go_wp2
 go_ret
 refine ⟨?_, HR.out.1, HR.out.2⟩
 rw [Int.toNat_natCast, HD.out]
 rfl
end Go.Proofs.Ytlkfabkkjfmnmaa
