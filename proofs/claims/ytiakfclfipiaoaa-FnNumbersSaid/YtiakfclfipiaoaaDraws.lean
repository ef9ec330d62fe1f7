/- What is drawn of a code: signs, numbers, texts. -/
import Derived.Test.YtiakfclfipiaoaaSpoil
import Derived.Test.YtiakfclfipiaoaaVar
import Derived.Test.YtiakfclfipiaoaaEncode
namespace Go.Proofs.Ytiakfclfipiaoaa
open Go.RowKit

def DrewText (b : Nat) (w : World) (e : Ending) (w' : World) : Prop := ∃ t : ByteArray, e = .returned (.string t) ∧ t.size ≤ b ∧ Below w.heap.size w w'
set_option maxRecDepth 1000000 in
set_option maxHeartbeats 6000000 in
theorem l1Pick_any (a : Option Addr) (n cap : Nat) (bs : List Int) (g : Nat) (s : CS) (p : Option Addr) (m c : Nat) (l : List ByteArray) (w : World) (hC : CurAt a n cap bs g s w)
    (hl : Rd w p m c 1 (strs l)) (hne : ∀ x, p = some x → x.block ≠ g) (hm0 : 0 < m) (hm : m ≤ 1048576) :
    Calls Try.prog 62 #[.pointer (some ⟨g, 0, none⟩), .slice p m c] w (DrewStr a n cap bs g w (l.getD (belowF bs m s).1.toNat ByteArray.empty, (belowF bs m s).2)) := by
  have HC := Lib.hid hC
  have hlen : l.length = m := by have := hl.len; simpa using this
  have hr := belowF_range bs m s (by omega)
  have HL := Lib.hid hl
  clear hC hl
  have HLN := Lib.hid hlen
  clear hlen
  go_enter Try.func62, Try.ntmps62
  go_wp2_with fail
  refine (l1Below_any a n cap bs g s m _ HC.out (by omega)).mono ?_
  rintro e w1 ⟨rfl, hC1, hG1⟩
  have hL1 := HL.out.grown hG1 (fun x hx _ e => hne x hx (by simpa using e.symm))
  have HR := Lib.hid (And.intro hC1 hG1)
  obtain ⟨b, off, rfl, hbs, hc⟩ := hL1.at' hm0
  generalize (belowF bs m s).1 = x at *
  obtain ⟨hx0, hx1⟩ := hr
  obtain ⟨k, rfl⟩ := Int.eq_ofNat_of_zero_le hx0
  have hk : k < l.length := by have := HLN.out; omega
  have hc1 := hc k (by simpa using hk)
  rw [strs_get l k hk] at hc1
  have HD : Hid (l.getD k ByteArray.empty = l[k]) := Lib.hid (by rw [List.getD_eq_getElem?_getD, List.getElem?_eq_getElem hk]; rfl)
  clear hC1 hG1 hL1 hc hbs
  generalize l[k] = y at *
  go_wp2
  go_ret
  refine ⟨?_, HR.out.1, HR.out.2⟩
  rw [Int.toNat_natCast, HD.out]
  rfl

set_option maxRecDepth 1000000 in
set_option maxHeartbeats 6000000 in
theorem drawEncode_any (a : Option Addr) (n cap : Nat) (bs : List Int) (w : World) (h : Rd w a n cap 1 (bs.map (Value.int .u8))) (hb : ∀ z ∈ bs, 0 ≤ z ∧ z ≤ 255) (hn : n ≤ 1048576) :
    Calls Try.prog 31 #[.slice a n cap] w (DrewList w 6) := by
  go_enter Try.func31, Try.ntmps31
  go_wp2_with fail
  refine (l1New_any a n cap bs _ h hb hn).mono ?_
  rintro e w1 ⟨rfl, hC, hB⟩
  have HC := Lib.hid hC
  have HB := Lib.hid hB
  clear hC hB
  go_wp2_with fail
  refine (l3List_any a n cap bs _ _ 6 _ HC.out (by omega) (by omega)).mono ?_
  rintro e w2 ⟨l, s, p, c, rfl, hl, hx, hO, hC2, hG⟩
  have HR := Lib.hid (And.intro hl (And.intro hx hO))
  have HG := Lib.hid hG
  clear hl hx hO hC2 hG
  go_wp2
  go_ret
  exact ⟨l, p, c, rfl, HR.out.1, HR.out.2.1, row_mono HR.out.2.2 HB.out.size, HB.out.grown HG.out HB.out.size (fun k hk => by cases hk; exact Nat.le_refl _), Nat.le_trans HB.out.size HG.out.size⟩

def badL : List ByteArray := [⟨#[192, 128]⟩, ⟨#[237, 160, 128]⟩, ⟨#[244, 144, 128, 128]⟩, ⟨#[244, 143, 191, 191]⟩, ⟨#[224, 128, 175]⟩, ⟨#[128]⟩, ⟨#[255]⟩, ⟨#[97, 195]⟩, ⟨#[248, 136, 128, 128, 128]⟩, ⟨#[195, 40]⟩]
theorem badL_size : ∀ k : Nat, (badL.getD k ByteArray.empty).size ≤ 27 := by
  intro k
  have h : ∀ x ∈ badL, x.size ≤ 27 := by decide
  by_cases hk : k < badL.length
  · rw [List.getD_eq_getElem?_getD, List.getElem?_eq_getElem hk]; exact h _ (List.getElem_mem hk)
  · rw [List.getD_eq_getElem?_getD, List.getElem?_eq_none (by omega)]; decide
set_option maxRecDepth 1000000 in
set_option maxHeartbeats 6000000 in
theorem drawDecode_any (a : Option Addr) (n cap : Nat) (bs : List Int) (w : World) (h : Rd w a n cap 1 (bs.map (Value.int .u8))) (hb : ∀ z ∈ bs, 0 ≤ z ∧ z ≤ 255) (hn : n ≤ 1048576) :
    Calls Try.prog 32 #[.slice a n cap] w (DrewText 27 w) := by
  go_enter Try.func32, Try.ntmps32
  go_wp2_with fail
  refine (l1New_any a n cap bs _ h hb hn).mono ?_
  rintro e w1 ⟨rfl, hC, hB⟩
  have HC := Lib.hid hC
  have HB := Lib.hid hB
  clear hC hB
  go_wp2_with fail
  refine (l3List_any a n cap bs _ _ 6 _ HC.out (by omega) (by omega)).mono ?_
  rintro e w2 ⟨l, s, p, c, rfl, hl, -, hO, hC2, hG⟩
  have HC2 := Lib.hid hC2
  have HB2 := Lib.hid (HB.out.grown hG HB.out.size (fun k hk => by cases hk; exact Nat.le_refl _))
  have HRd := Lib.hid (show Rd w2 p l.length c 1 (ints l) from (Own.rd ⟨hO, Below.refl _ _, hG.size⟩))
  have hel : (encL l).length ≤ 24 := by
    have h1 := encs_len l
    unfold encL
    split <;> simp <;> omega
  clear hO hC2 hG HC
  have hl6 : l.length ≤ 6 := by omega
  go_wp2_with fail
  refine (specEncode_any _ _ _ l _ HRd.out (by omega)).mono ?_
  rintro e w3 ⟨rfl, hb3⟩
  have HC3 := Lib.hid (HC2.out.kept hb3)
  have HB3 := Lib.hid (HB2.out.trans (hb3.mono HB2.out.size))
  clear hb3 HC2 HRd
  generalize encL l = E at *
  have r4 := belowF_range bs 4 s (by omega)
  have hsE : (⟨E.toArray⟩ : ByteArray).size ≤ 24 := by simpa [ByteArray.size] using hel
  generalize (⟨E.toArray⟩ : ByteArray) = T at *
  clear hel
  go_wp2_with fail
  refine (l1Below_any a n cap bs _ s 4 _ HC3.out (by omega)).mono ?_
  rintro e w4 ⟨rfl, hC4, hG4⟩
  have HC4 := Lib.hid hC4
  have HB4 := Lib.hid (HB3.out.grown hG4 HB3.out.size (fun k hk => by cases hk; exact Nat.le_refl _))
  clear hC4 hG4 HC3 HB3 HB2
  generalize (belowF bs 4 s).2 = s4 at *
  generalize (belowF bs 4 s).1 = m at *
  by_cases m0 : m = 0
  · subst m0
    have hsp := spoilF_size bs T s4
    go_wp2_with fail
    refine (l1Spoil_any a n cap bs _ s4 T _ HC4.out (by omega)).mono ?_
    rintro e w5 ⟨rfl, hC5, hG5⟩
    have HB5 := Lib.hid (HB4.out.grown hG5 HB4.out.size (fun k hk => by cases hk; exact Nat.le_refl _))
    clear hC5 hG5
    go_wp2
    go_ret
    exact ⟨_, rfl, by omega, HB5.out⟩
  · by_cases m1 : m = 1
    · subst m1
      have hlt := HC4.out.lt
      have HBA := Lib.hid (HB4.out.alloc HB4.out.size (.cells (strs badL).toArray 9))
      go_wp2_with fail
      refine (l1Pick_any a n cap bs _ s4 _ 10 10 badL _ (HC4.out.alloc _) (by exact lit_rd (news := (strs badL).toArray) rfl (by decide)) (fun x hx => by cases hx; show w4.heap.size ≠ w.heap.size; omega) (by omega) (by omega)).mono ?_
      rintro e w5 ⟨rfl, hC5, hG5⟩
      have hsz := badL_size (belowF bs 10 s4).1.toNat
      have HB5 := Lib.hid (HBA.out.grown hG5 HBA.out.size (fun k hk => by cases hk; exact Nat.le_refl _))
      clear hC5 hG5
      go_wp2
      go_ret
      exact ⟨_, rfl, hsz, HB5.out⟩
    · have e0 : (m == 0) = false := by simp [m0]
      have e1 : (m == 1) = false := by simp [m1]
      clear m0 m1
      go_wp2
      go_ret
      exact ⟨T, rfl, by omega, HB4.out⟩

/-- A number, and texts, that are drawn of a code. -/
def varD (bs : List Int) : Int := (numF bs ⟨0, newH bs⟩).1
def hexD (bs : List Int) : ByteArray := (textF bs 40 ⟨0, newH bs⟩).1
def rvT (bs : List Int) : ByteArray × CS :=
  (⟨(varV (numF bs ⟨0, newH bs⟩).1).toArray⟩ ++ (textF bs 4 (numF bs ⟨0, newH bs⟩).2).1, (belowF bs 4 (textF bs 4 (numF bs ⟨0, newH bs⟩).2).2).2)
def rvD (bs : List Int) : ByteArray :=
  if (belowF bs 4 (textF bs 4 (numF bs ⟨0, newH bs⟩).2).2).1 = 0 then (spoilF bs (rvT bs).1 (rvT bs).2).1 else (rvT bs).1
theorem rvT_size (bs : List Int) : (rvT bs).1.size ≤ 11 := by
  have h1 := varV_len (numF bs ⟨0, newH bs⟩).1
  have h2 := textF_size bs 4 (numF bs ⟨0, newH bs⟩).2 (by omega)
  unfold rvT
  simp only [ByteArray.size_append]
  have : (⟨(varV (numF bs ⟨0, newH bs⟩).1).toArray⟩ : ByteArray).size = (varV (numF bs ⟨0, newH bs⟩).1).length := by simp [ByteArray.size]
  omega
theorem rvD_size (bs : List Int) : (rvD bs).size ≤ 14 := by
  have h1 := rvT_size bs
  have h2 := spoilF_size bs (rvT bs).1 (rvT bs).2
  unfold rvD
  split <;> omega
set_option maxRecDepth 1000000 in
set_option maxHeartbeats 6000000 in
theorem drawVar_any (a : Option Addr) (n cap : Nat) (bs : List Int) (w : World) (h : Rd w a n cap 1 (bs.map (Value.int .u8))) (hb : ∀ z ∈ bs, 0 ≤ z ∧ z ≤ 255) (hn : n ≤ 1048576) :
    Calls Try.prog 37 #[.slice a n cap] w fun e w' => e = .returned (.int .i64 (varD bs)) ∧ Below w.heap.size w w' := by
  go_enter Try.func37, Try.ntmps37
  go_wp2_with fail
  refine (l1New_any a n cap bs _ h hb hn).mono ?_
  rintro e w1 ⟨rfl, hC, hB⟩
  have HC := Lib.hid hC
  have HB := Lib.hid hB
  clear hC hB
  go_wp2_with fail
  refine (l1Num_any a n cap bs _ _ _ HC.out).mono ?_
  rintro e w2 ⟨rfl, hC2, hG⟩
  have HB2 := Lib.hid (HB.out.grown hG HB.out.size (fun k hk => by cases hk; exact Nat.le_refl _))
  clear hC2 hG
  go_wp2
  go_ret
  exact ⟨rfl, HB2.out⟩
set_option maxRecDepth 1000000 in
set_option maxHeartbeats 6000000 in
theorem drawHex_any (a : Option Addr) (n cap : Nat) (bs : List Int) (w : World) (h : Rd w a n cap 1 (bs.map (Value.int .u8))) (hb : ∀ z ∈ bs, 0 ≤ z ∧ z ≤ 255) (hn : n ≤ 1048576) :
    Calls Try.prog 38 #[.slice a n cap] w fun e w' => e = .returned (.string (hexD bs)) ∧ Below w.heap.size w w' := by
  go_enter Try.func38, Try.ntmps38
  go_wp2_with fail
  refine (l1New_any a n cap bs _ h hb hn).mono ?_
  rintro e w1 ⟨rfl, hC, hB⟩
  have HC := Lib.hid hC
  have HB := Lib.hid hB
  clear hC hB
  go_wp2_with fail
  refine (l1Text_any a n cap bs _ _ 40 _ HC.out (by omega) (by omega)).mono ?_
  rintro e w2 ⟨rfl, hC2, hG⟩
  have HB2 := Lib.hid (HB.out.grown hG HB.out.size (fun k hk => by cases hk; exact Nat.le_refl _))
  clear hC2 hG
  go_wp2
  go_ret
  exact ⟨rfl, HB2.out⟩
set_option maxRecDepth 1000000 in
set_option maxHeartbeats 6000000 in
theorem drawReadVar_any (a : Option Addr) (n cap : Nat) (bs : List Int) (w : World) (h : Rd w a n cap 1 (bs.map (Value.int .u8))) (hb : ∀ z ∈ bs, 0 ≤ z ∧ z ≤ 255) (hn : n ≤ 1048576) :
    Calls Try.prog 47 #[.slice a n cap] w fun e w' => e = .returned (.string (rvD bs)) ∧ Below w.heap.size w w' := by
  have hrt := rvT_size bs
  have HRV : Hid (rvD bs = if (belowF bs 4 (textF bs 4 (numF bs ⟨0, newH bs⟩).2).2).1 = 0 then (spoilF bs (rvT bs).1 (rvT bs).2).1 else (rvT bs).1) := Lib.hid rfl
  have HRT : Hid (⟨(varV (numF bs ⟨0, newH bs⟩).1).toArray⟩ ++ (textF bs 4 (numF bs ⟨0, newH bs⟩).2).1 = (rvT bs).1) := Lib.hid rfl
  have HRS : Hid ((belowF bs 4 (textF bs 4 (numF bs ⟨0, newH bs⟩).2).2).2 = (rvT bs).2) := Lib.hid rfl
  have hv := varV_len (numF bs ⟨0, newH bs⟩).1
  have ht := textF_size bs 4 (numF bs ⟨0, newH bs⟩).2 (by omega)
  go_enter Try.func47, Try.ntmps47
  go_wp2_with fail
  refine (l1New_any a n cap bs _ h hb hn).mono ?_
  rintro e w1 ⟨rfl, hC, hB⟩
  have HC := Lib.hid hC
  have HB := Lib.hid hB
  clear hC hB
  go_wp2_with fail
  refine (l1Num_any a n cap bs _ _ _ HC.out).mono ?_
  rintro e w2 ⟨rfl, hC2, hG⟩
  have HC2 := Lib.hid hC2
  have HB2 := Lib.hid (HB.out.grown hG HB.out.size (fun k hk => by cases hk; exact Nat.le_refl _))
  clear hC2 hG HC
  go_wp2_with fail
  refine (specVar_any _ _).mono ?_
  rintro e w3 ⟨rfl, hb3⟩
  have HC3 := Lib.hid (HC2.out.kept hb3)
  have HB3 := Lib.hid (HB2.out.trans (hb3.mono HB2.out.size))
  clear hb3 HC2 HB2
  go_wp2_with fail
  refine (l1Text_any a n cap bs _ _ 4 _ HC3.out (by omega) (by omega)).mono ?_
  rintro e w4 ⟨rfl, hC4, hG⟩
  have HC4 := Lib.hid hC4
  have HB4 := Lib.hid (HB3.out.grown hG HB3.out.size (fun k hk => by cases hk; exact Nat.le_refl _))
  clear hC4 hG HC3 HB3
  have hvs : (⟨(varV (numF bs ⟨0, newH bs⟩).1).toArray⟩ : ByteArray).size ≤ 7 := by simpa [ByteArray.size] using hv
  generalize (textF bs 4 (numF bs ⟨0, newH bs⟩).2).2 = s4 at *
  generalize (textF bs 4 (numF bs ⟨0, newH bs⟩).2).1 = T at *
  generalize (⟨(varV (numF bs ⟨0, newH bs⟩).1).toArray⟩ : ByteArray) = V at *
  go_wp2_with fail
  rw [HRT.out]
  refine (l1Once_any a n cap bs _ s4 4 _ HC4.out (by omega)).mono ?_
  rintro e w5 ⟨rfl, hC5, hG⟩
  have HC5 := Lib.hid hC5
  have HB5 := Lib.hid (HB4.out.grown hG HB4.out.size (fun k hk => by cases hk; exact Nat.le_refl _))
  clear hC5 hG HC4 HB4
  simp only at HC5 ⊢
  rw [HRS.out] at HC5
  generalize (rvT bs).1 = R at *
  generalize (rvT bs).2 = s5 at *
  generalize (belowF bs 4 s4).1 = m at *
  by_cases m0 : m = 0
  · have HF : Hid (rvD bs = (spoilF bs R s5).1) := Lib.hid (by rw [HRV.out, if_pos m0])
    have e0 : (m == 0) = true := by simp [m0]
    rw [e0]
    clear m0 e0 HRV
    go_wp2_with fail
    refine (l1Spoil_any a n cap bs _ s5 R _ HC5.out (by omega)).mono ?_
    rintro e w6 ⟨rfl, hC6, hG⟩
    have HB6 := Lib.hid (HB5.out.grown hG HB5.out.size (fun k hk => by cases hk; exact Nat.le_refl _))
    clear hC6 hG
    go_wp2
    go_ret
    rw [HF.out]
    exact ⟨rfl, HB6.out⟩
  · have HF : Hid (rvD bs = R) := Lib.hid (by rw [HRV.out, if_neg m0])
    have e0 : (m == 0) = false := by simp [m0]
    rw [e0]
    clear m0 e0 HRV
    go_wp2
    go_ret
    rw [HF.out]
    exact ⟨rfl, HB5.out⟩
end Go.Proofs.Ytiakfclfipiaoaa
