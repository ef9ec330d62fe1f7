/- Signs, and lists of signs, that are drawn from a cursor. -/
import Derived.Test.YtgoodpphinakaaaDoorCur2
import Derived.Test.YtgoodpphinakaaaDoorInts
namespace Go.Proofs.YtgoodpphinakaaaDoor
open Go.RowKit

def DrewIntE (a : Option Addr) (n cap : Nat) (bs : List Int) (g : Nat) (w : World) (p : Int → Prop) (e : Ending) (w' : World) : Prop := ∃ r : Int × CS, p r.1 ∧ DrewInt a n cap bs g w r e w'
def DrewInts (a : Option Addr) (n cap : Nat) (bs : List Int) (g : Nat) (w : World) (most : Int) (e : Ending) (w' : World) : Prop :=
  ∃ (l : List Int) (s : CS) (p : Option Addr) (c : Nat), e = .returned (.slice p l.length c) ∧ (l.length : Int) ≤ most ∧ (∀ x ∈ l, -1 ≤ x ∧ x ≤ 1114112) ∧ w'.ownsRow w.heap.size 3 1 (.slice p l.length c) l.length (ints l) ∧ CurAt a n cap bs g s w' ∧ w.grownBy w' (some g)

def someL : List Int := [97, 65, 98, 229, 197, 8491, 778, 803, 770, 807, 769, 7853, 7852, 7841, 470, 252, 115, 83, 223, 963, 962, 931, 940, 902, 8486, 1040, 1072, 44032, 44033, 4352, 4449, 4520, 231, 99, 55203, 255]
def someM : List Int := [-1, 0, 31, 47, 127, 55204, 55296, 57343, 57344, 65535, 65536, 1114111, 1114112, 930, 256]
theorem getD_range (l : List Int) (lo hi : Int) (h : ∀ x ∈ l, lo ≤ x ∧ x ≤ hi) (h0 : lo ≤ 0 ∧ 0 ≤ hi) (k : Nat) : lo ≤ l.getD k 0 ∧ l.getD k 0 ≤ hi := by
  by_cases hk : k < l.length
  · rw [List.getD_eq_getElem?_getD, List.getElem?_eq_getElem hk]; exact h _ (List.getElem_mem hk)
  · rw [List.getD_eq_getElem?_getD, List.getElem?_eq_none (by omega)]; exact h0
set_option maxRecDepth 1000000 in
set_option maxHeartbeats 6000000 in
theorem l3Some_any (a : Option Addr) (n cap : Nat) (bs : List Int) (g : Nat) (s : CS) (w : World) (hC : CurAt a n cap bs g s w) :
    Calls Tryd.prog 103 #[.pointer (some ⟨g, 0, none⟩)] w (DrewIntE a n cap bs g w (fun x => -1 ≤ x ∧ x ≤ 1114112)) := by
  have HC := Lib.hid hC
  have HL : Hid (g < w.heap.size) := Lib.hid hC.lt
  clear hC
  go_enter Tryd.func103, Tryd.ntmps103
  go_wp2_with fail
  refine (l1PickInt_any a n cap bs g s _ 36 36 someL _ (HC.out.alloc _) (by exact lit_rd (news := (ints someL).toArray) rfl (by decide)) (fun x hx => by cases hx; have := HL.out; show w.heap.size ≠ g; omega) (by omega) (by omega)).mono ?_
  rintro e w1 ⟨rfl, hC1, hG1⟩
  have hk := getD_range someL (-1) 1114112 (by decide) (by decide) (belowF bs 36 s).1.toNat
  have HC1 := Lib.hid hC1
  have HG1 := Lib.hid ((World.grownBy_alloc w _ (some g)).trans hG1)
  clear hC1 hG1
  simp only at HC1 ⊢
  have e36 : ((36 : Nat) : Int) = 36 := rfl
  rw [e36] at *
  generalize (belowF bs 36 s).2 = s1 at *
  generalize someL.getD (belowF bs 36 s).1.toNat 0 = k at *
  go_wp2_with fail
  refine (l1Once_any a n cap bs g s1 5 _ HC1.out (by omega)).mono ?_
  rintro e w2 ⟨rfl, hC2, hG2⟩
  have HC2 := Lib.hid hC2
  have HG2 := Lib.hid (HG1.out.trans hG2)
  clear hC2 hG2
  simp only at HC2 ⊢
  generalize (belowF bs 5 s1).2 = s2 at *
  generalize ((belowF bs 5 s1).1 == 0) = t1 at *
  cases t1 with
  | true =>
    have r1 := belowF_range bs 224 s2 (by omega)
    go_wp2_with fail
    refine (l1Below_any a n cap bs g s2 224 _ HC2.out (by omega)).mono ?_
    rintro e w3 ⟨rfl, hC3, hG3⟩
    have HC3 := Lib.hid hC3
    have HG3 := Lib.hid (HG2.out.trans hG3)
    clear hC3 hG3
    generalize (belowF bs 224 s2).2 = s3 at *
    generalize (belowF bs 224 s2).1 = x at *
    obtain ⟨r1, r2⟩ := r1
    go_wp2
    go_ret
    exact ⟨(32 + x, s3), by simp only; omega, rfl, HC3.out, HG3.out⟩
  | false =>
    go_wp2_with fail
    refine (l1Once_any a n cap bs g s2 12 _ HC2.out (by omega)).mono ?_
    rintro e w3 ⟨rfl, hC3, hG3⟩
    have HC3 := Lib.hid hC3
    have HG3 := Lib.hid (HG2.out.trans hG3)
    clear hC3 hG3
    simp only at HC3 ⊢
    generalize (belowF bs 12 s2).2 = s3 at *
    generalize ((belowF bs 12 s2).1 == 0) = t2 at *
    cases t2 with
    | true =>
      go_wp2_with fail
      refine (l1PickInt_any a n cap bs g s3 _ 15 15 someM _ (HC3.out.alloc _) (by exact lit_rd (news := (ints someM).toArray) rfl (by decide)) (fun x hx => by cases hx; have := HC3.out.lt; show w3.heap.size ≠ g; omega) (by omega) (by omega)).mono ?_
      rintro e w4 ⟨rfl, hC4, hG4⟩
      have hk2 := getD_range someM (-1) 1114112 (by decide) (by decide) (belowF bs 15 s3).1.toNat
      have HC4 := Lib.hid hC4
      have HG4 := Lib.hid ((HG3.out.trans (World.grownBy_alloc _ _ _)).trans hG4)
      clear hC4 hG4
      go_wp2
      go_ret
      exact ⟨(someM.getD (belowF bs 15 s3).1.toNat 0, (belowF bs 15 s3).2), hk2, rfl, HC4.out, HG4.out⟩
    | false =>
      go_wp2
      go_ret
      exact ⟨(k, s3), hk, rfl, HC3.out, HG3.out⟩

set_option maxRecDepth 1000000 in
set_option maxHeartbeats 6000000 in
theorem l3List_any (a : Option Addr) (n cap : Nat) (bs : List Int) (g : Nat) (s : CS) (most : Int) (w : World) (hC : CurAt a n cap bs g s w) (hm0 : 0 ≤ most) (hm : most ≤ 1048576) :
    Calls Tryd.prog 91 #[.pointer (some ⟨g, 0, none⟩), .int .i64 most] w (DrewInts a n cap bs g w most) := by
  have HC := Lib.hid (hC.alloc (.cells #[] 3))
  have hg := hC.lt
  have HW := Lib.hid (World.grownBy_alloc w (.cells #[] 3) (some g))
  clear hC
  go_enter Tryd.func91, Tryd.ntmps91
  go_wp2_with fail
  refine (l1Below_any a n cap bs g _ (most + 1) _ HC.out (by omega)).mono ?_
  rintro e w2 ⟨rfl, hC1, hG1⟩
  have hr2 := belowF_range bs (most + 1) s (by omega)
  have HC2 := Lib.hid hC1
  have HG2 := Lib.hid (HW.out.trans hG1)
  have HR2 : Hid (w2.ownsRow w.heap.size 3 1 (.slice (some ⟨w.heap.size, 0, none⟩) 0 0) 0 []) := Lib.hid ((World.ownsRow_lit w #[] 0 (by omega) (by decide) rfl).kept hG1 (by right; simp only [Value.ownBlock]; simp; omega))
  clear hC1 hG1 HC
  generalize (belowF bs (most + 1) s).2 = s2 at *
  generalize (belowF bs (most + 1) s).1 = k2 at *
  obtain ⟨hk0, hk1⟩ := hr2
  obtain ⟨K, rfl⟩ := Int.eq_ofNat_of_zero_le hk0
  clear hk0
  go_wp2
  go_loopg [5, 6] K (fun gg o i wr => ∃ (l : List Int) (sk : CS), i = .int .i64 (gg : Nat) ∧ l.length + gg = K ∧ Hid (∀ x ∈ l, -1 ≤ x ∧ x ≤ 1114112) ∧
    Own 3 1 w.heap.size wr o l.length (ints l) wr ∧ Hid (CurAt a n cap bs g sk wr) ∧ Hid (w.grownBy wr (some g)))
  case atStart => exact ⟨[], s2, rfl, by simp, Lib.hid (by simp), ⟨HR2.out, Below.refl _ _, HG2.out.size⟩, HC2, HG2⟩
  case round =>
    obtain ⟨l, sk, rfl, hlen, HP, hO, HCk, HGk⟩ := hrel
    obtain ⟨av, cv, rfl, _, _⟩ := hO.shape
    cases gk with
    | zero =>
      go_wp2
      go_ret
      exact ⟨l, sk, av, cv, rfl, by omega, HP.out, hO.row, HCk.out, HGk.out⟩
    | succ gq =>
      have hbl : l.length ≤ 1048576 := by omega
      go_wp2_with fail
      refine (l3Some_any a n cap bs g sk _ HCk.out).mono ?_
      rintro e w3 ⟨⟨x, sn⟩, hx, rfl, hC1, hG1⟩
      have HC3 := Lib.hid hC1
      have HG3 := Lib.hid (HGk.out.trans hG1)
      have hw3 := HG3.out.size
      have HO3 : Hid (Own 3 1 w.heap.size w3 (.slice av l.length cv) l.length (ints l) w3) := Lib.hid ⟨hO.row.kept hG1 (by
        cases hv : Value.ownBlock (.slice av l.length cv) with
        | none => exact .inl rfl
        | some k => right; have := (hO.row.lt k hv).1; simp; omega), Below.refl _ _, hw3⟩
      have HX := Lib.hid hx
      clear hC1 hG1 hO hx
      simp only at HC3 HX ⊢
      go_wp2_with (at_builtin; go_loud (refine wp_app1g rfl _ _ 33 rfl 3 (.int .i64 0) 1 8 Tryd.underlying33 info_i64 rfl (by decide) _ _ _ _ _ (by rfl) (by exact HO3.out) _ _ (by rfl) (by rfl) (by intro u hu; simp at hu; first | (subst hu; rfl) | (rcases hu with rfl | rfl <;> rfl) | (rcases hu with rfl | rfl | rfl <;> rfl) | (rcases hu with rfl | rfl | rfl | rfl <;> rfl)) (by omega) (by unfold maxLen; omega) ?_); intro a2 c2 w2 hO2 hG2 hN2)
      have HO2 := Lib.hid hO2
      have HN2 := Lib.hid hN2
      have HG4 : Hid (w.grownBy w2 (some g)) := Lib.hid (grown_trans HG3.out hG2 (fun k hk => .inr ((HO3.out.row.lt k hk).1)))
      have HC4 : Hid (CurAt a n cap bs g sn w2) := Lib.hid (HC3.out.grown hG2 (fun k hk => by have := (HO3.out.row.lt k hk).1; omega))
      clear hO2 hG2 hN2
      go_wp2
      go_roundg gq
      case measure => omega
      case rel =>
        refine ⟨l ++ [x], sn, rfl, by simp; omega, Lib.hid (fun y hy => ?_), ?_, HC4, HG4⟩
        · rcases List.mem_append.1 hy with h | h
          · exact HP.out y h
          · rw [List.mem_singleton] at h; subst h; exact HX.out
        · have e : ints (l ++ [x]) = ints l ++ [.int .i64 x] := by simp [ints]
          rw [e, List.length_append]
          exact ⟨HO2.out.row, Below.refl _ _, HO2.out.base⟩

theorem row_mono {w : World} {B B' : Nat} {e : TypeId} {size : Nat} {v : Value} {n : Nat} {xs : List Value} (h : w.ownsRow B e size v n xs) (hB : B' ≤ B) : w.ownsRow B' e size v n xs := by
  refine ⟨h.1, ?_⟩
  rcases h.2 with hn | ⟨g, cap, cur, e1, hg, rest⟩
  · exact .inl hn
  · exact .inr ⟨g, cap, cur, e1, Nat.le_trans hB hg, rest⟩
/-- A list that is drawn of a code. -/
def DrewList (w : World) (most : Int) (e : Ending) (w' : World) : Prop :=
  ∃ (l : List Int) (p : Option Addr) (c : Nat), e = .returned (.slice p l.length c) ∧ (l.length : Int) ≤ most ∧ (∀ x ∈ l, -1 ≤ x ∧ x ≤ 1114112) ∧ Own 3 1 w.heap.size w (.slice p l.length c) l.length (ints l) w'
end Go.Proofs.YtgoodpphinakaaaDoor
