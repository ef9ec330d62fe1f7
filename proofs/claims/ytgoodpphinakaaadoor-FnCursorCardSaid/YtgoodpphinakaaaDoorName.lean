/- A name that is drawn; two names that are drawn of a code. -/
import Derived.Test.YtgoodpphinakaaaDoorDraws
namespace Go.Proofs.YtgoodpphinakaaaDoor
open Go.RowKit

def DrewStrE (a : Option Addr) (n cap : Nat) (bs : List Int) (g : Nat) (w : World) (b : Nat) (e : Ending) (w' : World) : Prop := ∃ r : ByteArray × CS, r.1.size ≤ b ∧ DrewStr a n cap bs g w r e w'
def nameL : List ByteArray := [⟨#[97]⟩, ⟨#[65]⟩, ⟨#[98]⟩, ⟨#[195, 165]⟩, ⟨#[97, 204, 138]⟩, ⟨#[226, 132, 171]⟩, ⟨#[65, 204, 138]⟩, ⟨#[225, 186, 173]⟩, ⟨#[97, 204, 130, 204, 163]⟩, ⟨#[97, 204, 163, 204, 130]⟩, ⟨#[115, 115]⟩, ⟨#[195, 159]⟩, ⟨#[83, 83]⟩, ⟨#[207, 131]⟩, ⟨#[207, 130]⟩, ⟨#[206, 163]⟩, ⟨#[234, 176, 129]⟩, ⟨#[225, 132, 128, 225, 133, 161, 225, 134, 168]⟩, ⟨#[206, 172]⟩, ⟨#[206, 134]⟩, ⟨#[102, 105, 108, 101]⟩, ⟨#[70, 73, 76, 69]⟩, ⟨#[70, 105, 108, 101]⟩, ⟨#[120, 49]⟩, ⟨#[120, 50]⟩, ⟨#[120, 51]⟩, ⟨#[120, 52]⟩, ⟨#[120, 53]⟩, ⟨#[108, 111, 110, 103, 32, 110, 97, 109, 101]⟩]
def nameM : List ByteArray := [⟨#[]⟩, ⟨#[46]⟩, ⟨#[46, 46]⟩, ⟨#[46, 46, 46]⟩, ⟨#[97, 47, 98]⟩, ⟨#[127]⟩, ⟨#[97, 98, 99, 100, 101, 102, 103, 104, 105, 106, 107, 108, 109, 110, 111, 112, 113, 114, 115, 116, 117, 118, 119, 120]⟩, ⟨#[97, 98, 99, 100, 101, 102, 103, 104, 105, 106, 107, 108, 109, 110, 111, 112, 113, 114, 115, 116, 117, 118, 119, 120, 121]⟩, ⟨#[255]⟩]
theorem getD_size (l : List ByteArray) (b : Nat) (h : ∀ x ∈ l, x.size ≤ b) (k : Nat) : (l.getD k ByteArray.empty).size ≤ b := by
  by_cases hk : k < l.length
  · rw [List.getD_eq_getElem?_getD, List.getElem?_eq_getElem hk]; exact h _ (List.getElem_mem hk)
  · rw [List.getD_eq_getElem?_getD, List.getElem?_eq_none (by omega)]; exact Nat.zero_le _
set_option maxRecDepth 1000000 in
set_option maxHeartbeats 6000000 in
theorem l4Name_any (a : Option Addr) (n cap : Nat) (bs : List Int) (g : Nat) (s : CS) (w : World) (hC : CurAt a n cap bs g s w) :
    Calls Tryd.prog 59 #[.pointer (some ⟨g, 0, none⟩)] w (DrewStrE a n cap bs g w 27) := by
  have HC := Lib.hid hC
  clear hC
  go_enter Tryd.func59, Tryd.ntmps59
  go_wp2_with fail
  refine (l1Pick_any a n cap bs g s _ 29 29 nameL _ (HC.out.alloc _) (by rw [show nameL = nameL from rfl]; exact lit_rd (news := (strs nameL).toArray) rfl (by decide)) (fun x hx => by cases hx; have := HC.out.lt; show w.heap.size ≠ g; omega) (by omega) (by omega)).mono ?_
  rintro e w1 ⟨rfl, hC1, hG1⟩
  have hk := getD_size nameL 27 (by decide) (belowF bs 29 s).1.toNat
  have HC1 := Lib.hid hC1
  have HG1 := Lib.hid ((World.grownBy_alloc w _ _).trans hG1)
  clear hC1 hG1
  simp only at HC1 ⊢
  generalize nameL.getD (belowF bs 29 s).1.toNat ByteArray.empty = t at *
  generalize (belowF bs 29 s).2 = s1 at *
  go_wp2_with fail
  refine (l1Once_any a n cap bs g s1 4 _ HC1.out (by omega)).mono ?_
  rintro e w2 ⟨rfl, hC2, hG2⟩
  have HC2 := Lib.hid hC2
  have HG2 := Lib.hid (HG1.out.trans hG2)
  clear hC2 hG2
  simp only at HC2 ⊢
  generalize (belowF bs 4 s1).2 = s2 at *
  generalize ((belowF bs 4 s1).1 == 0) = t1 at *
  cases t1 with
  | true =>
    go_wp2_with fail
    refine (l3List_any a n cap bs g s2 4 _ HC2.out (by omega) (by omega)).mono ?_
    rintro e w3 ⟨l, s3, p, c, rfl, hl, -, hO, hC3, hG3⟩
    have HC3 := Lib.hid hC3
    have HG3 := Lib.hid (HG2.out.trans hG3)
    have HRd := Lib.hid (show Rd w3 p l.length c 1 (ints l) from (Own.rd ⟨hO, Below.refl _ _, hG3.size⟩))
    have hel : (encL l).length ≤ 27 := by
      have h1 := encs_len l
      unfold encL
      split <;> simp <;> omega
    have hl4 : l.length ≤ 4 := by omega
    clear hO hC3 hG3 hl
    go_wp2_with fail
    refine (specEncode_any _ _ _ l _ HRd.out (by omega)).mono ?_
    rintro e w4 ⟨rfl, hb4⟩
    have HC4 := Lib.hid (HC3.out.kept hb4)
    have HG4 := Lib.hid (HG3.out.trans (grown_of_below (some g) hb4))
    clear hb4
    generalize encL l = E at *
    have hsE : (⟨E.toArray⟩ : ByteArray).size ≤ 27 := by simpa [ByteArray.size] using hel
    generalize (⟨E.toArray⟩ : ByteArray) = T at *
    clear hel
    go_wp2
    go_ret
    exact ⟨(T, s3), hsE, rfl, HC4.out, HG4.out⟩
  | false =>
    go_wp2_with fail
    refine (l1Once_any a n cap bs g s2 25 _ HC2.out (by omega)).mono ?_
    rintro e w3 ⟨rfl, hC3, hG3⟩
    have HC3 := Lib.hid hC3
    have HG3 := Lib.hid (HG2.out.trans hG3)
    clear hC3 hG3
    simp only at HC3 ⊢
    generalize (belowF bs 25 s2).2 = s3 at *
    generalize ((belowF bs 25 s2).1 == 0) = t2 at *
    cases t2 with
    | true =>
      go_wp2_with fail
      refine (l1Pick_any a n cap bs g s3 _ 9 9 nameM _ (HC3.out.alloc _) (by exact lit_rd (news := (strs nameM).toArray) rfl (by decide)) (fun x hx => by cases hx; have := HC3.out.lt; show w3.heap.size ≠ g; omega) (by omega) (by omega)).mono ?_
      rintro e w4 ⟨rfl, hC4, hG4⟩
      have hk2 := getD_size nameM 27 (by decide) (belowF bs 9 s3).1.toNat
      have HC4 := Lib.hid hC4
      have HG4 := Lib.hid ((HG3.out.trans (World.grownBy_alloc _ _ _)).trans hG4)
      clear hC4 hG4
      go_wp2
      go_ret
      exact ⟨(nameM.getD (belowF bs 9 s3).1.toNat ByteArray.empty, (belowF bs 9 s3).2), hk2, rfl, HC4.out, HG4.out⟩
    | false =>
      go_wp2
      go_ret
      exact ⟨(t, s3), hk, rfl, HC3.out, HG3.out⟩
/-- Two texts are drawn. -/
def DrewTwo (b : Nat) (w : World) (e : Ending) (w' : World) : Prop := ∃ t u : ByteArray, e = .returned (.tuple #[.string t, .string u]) ∧ t.size ≤ b ∧ u.size ≤ b ∧ Below w.heap.size w w'
set_option maxRecDepth 1000000 in
set_option maxHeartbeats 6000000 in
theorem drawAlike_any (a : Option Addr) (n cap : Nat) (bs : List Int) (w : World) (h : Rd w a n cap 1 (bs.map (Value.int .u8))) (hb : ∀ z ∈ bs, 0 ≤ z ∧ z ≤ 255) (hn : n ≤ 1048576) :
    Calls Tryd.prog 26 #[.slice a n cap] w (DrewTwo 27 w) := by
  go_enter Tryd.func26, Tryd.ntmps26
  go_wp2_with fail
  refine (l1New_any a n cap bs _ h hb hn).mono ?_
  rintro e w1 ⟨rfl, hC, hB⟩
  have HC := Lib.hid hC
  have HB := Lib.hid hB
  clear hC hB
  go_wp2_with fail
  refine (l4Name_any a n cap bs _ _ _ HC.out).mono ?_
  rintro e w2 ⟨⟨t, s2⟩, ht, rfl, hC2, hG2⟩
  have HC2 := Lib.hid hC2
  have HB2 := Lib.hid (HB.out.grown hG2 HB.out.size (fun k hk => by cases hk; exact Nat.le_refl _))
  clear hC2 hG2
  simp only at HC2 ht ⊢
  go_wp2_with fail
  refine (l4Name_any a n cap bs _ s2 _ HC2.out).mono ?_
  rintro e w3 ⟨⟨u, s3⟩, hu, rfl, hC3, hG3⟩
  have HB3 := Lib.hid (HB2.out.grown hG3 HB2.out.size (fun k hk => by cases hk; exact Nat.le_refl _))
  clear hC3 hG3
  simp only at hu ⊢
  go_wp2
  go_ret2
  exact ⟨t, u, rfl, ht, hu, HB3.out⟩
end Go.Proofs.YtgoodpphinakaaaDoor
