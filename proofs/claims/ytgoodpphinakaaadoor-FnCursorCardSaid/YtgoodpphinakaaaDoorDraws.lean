/- What is drawn of a code: signs, numbers, texts. -/
import Derived.Test.YtgoodpphinakaaaDoorSpoil
import Derived.Test.YtgoodpphinakaaaDoorVar
import Derived.Test.YtgoodpphinakaaaDoorEncode
namespace Go.Proofs.YtgoodpphinakaaaDoor
open Go.RowKit

def DrewText (b : Nat) (w : World) (e : Ending) (w' : World) : Prop := ∃ t : ByteArray, e = .returned (.string t) ∧ t.size ≤ b ∧ Below w.heap.size w w'
set_option maxRecDepth 1000000 in
set_option maxHeartbeats 6000000 in
theorem l1Pick_any (a : Option Addr) (n cap : Nat) (bs : List Int) (g : Nat) (s : CS) (p : Option Addr) (m c : Nat) (l : List ByteArray) (w : World) (hC : CurAt a n cap bs g s w)
    (hl : Rd w p m c 1 (strs l)) (hne : ∀ x, p = some x → x.block ≠ g) (hm0 : 0 < m) (hm : m ≤ 1048576) :
    Calls Tryd.prog 89 #[.pointer (some ⟨g, 0, none⟩), .slice p m c] w (DrewStr a n cap bs g w (l.getD (belowF bs m s).1.toNat ByteArray.empty, (belowF bs m s).2)) := by
  have HC := Lib.hid hC
  have hlen : l.length = m := by have := hl.len; simpa using this
  have hr := belowF_range bs m s (by omega)
  have HL := Lib.hid hl
  clear hC hl
  have HLN := Lib.hid hlen
  clear hlen
  go_enter Tryd.func89, Tryd.ntmps89
  go_wp2_with fail
  refine (l1Below_any a n cap bs g s m _ HC.out (by omega)).mono ?_
  rintro e w1 ⟨rfl, hC1, hG1⟩
  have hL1 := HL.out.grown hG1 (fun x hx _ e => hne x hx (by simpa using e.symm))
  have HR := Lib.hid (And.intro hC1 hG1)
  obtain ⟨b, off, rfl, hbs, hc⟩ := hL1.at' hm0
  generalize (belowF bs m s).1 = x at *
  obtain ⟨hx0, hx1⟩ := hr
  obtain ⟨k, rfl⟩ := Int.eq_ofNat_of_zero_le hx0
  have hk : k < l.length := by have := HLN.out; omega
  have hc1 := hc k (by simpa using hk)
  rw [strs_get l k hk] at hc1
  have HD : Hid (l.getD k ByteArray.empty = l[k]) := Lib.hid (by rw [List.getD_eq_getElem?_getD, List.getElem?_eq_getElem hk]; rfl)
  clear hC1 hG1 hL1 hc hbs
  generalize l[k] = y at *
  go_wp2
  go_ret
  refine ⟨?_, HR.out.1, HR.out.2⟩
  rw [Int.toNat_natCast, HD.out]
  rfl


def badL : List ByteArray := [⟨#[192, 128]⟩, ⟨#[237, 160, 128]⟩, ⟨#[244, 144, 128, 128]⟩, ⟨#[244, 143, 191, 191]⟩, ⟨#[224, 128, 175]⟩, ⟨#[128]⟩, ⟨#[255]⟩, ⟨#[97, 195]⟩, ⟨#[248, 136, 128, 128, 128]⟩, ⟨#[195, 40]⟩]
theorem badL_size : ∀ k : Nat, (badL.getD k ByteArray.empty).size ≤ 27 := by
  intro k
  have h : ∀ x ∈ badL, x.size ≤ 27 := by decide
  by_cases hk : k < badL.length
  · rw [List.getD_eq_getElem?_getD, List.getElem?_eq_getElem hk]; exact h _ (List.getElem_mem hk)
  · rw [List.getD_eq_getElem?_getD, List.getElem?_eq_none (by omega)]; decide

/-- A number, and texts, that are drawn of a code. -/
def varD (bs : List Int) : Int := (numF bs ⟨0, newH bs⟩).1
def hexD (bs : List Int) : ByteArray := (textF bs 40 ⟨0, newH bs⟩).1
def rvT (bs : List Int) : ByteArray × CS :=
  (⟨(varV (numF bs ⟨0, newH bs⟩).1).toArray⟩ ++ (textF bs 4 (numF bs ⟨0, newH bs⟩).2).1, (belowF bs 4 (textF bs 4 (numF bs ⟨0, newH bs⟩).2).2).2)
def rvD (bs : List Int) : ByteArray :=
  if (belowF bs 4 (textF bs 4 (numF bs ⟨0, newH bs⟩).2).2).1 = 0 then (spoilF bs (rvT bs).1 (rvT bs).2).1 else (rvT bs).1
theorem rvT_size (bs : List Int) : (rvT bs).1.size ≤ 11 := by
  have h1 := varV_len (numF bs ⟨0, newH bs⟩).1
  have h2 := textF_size bs 4 (numF bs ⟨0, newH bs⟩).2 (by omega)
  unfold rvT
  simp only [ByteArray.size_append]
  have : (⟨(varV (numF bs ⟨0, newH bs⟩).1).toArray⟩ : ByteArray).size = (varV (numF bs ⟨0, newH bs⟩).1).length := by simp [ByteArray.size]
  omega
theorem rvD_size (bs : List Int) : (rvD bs).size ≤ 14 := by
  have h1 := rvT_size bs
  have h2 := spoilF_size bs (rvT bs).1 (rvT bs).2
  unfold rvD
  split <;> omega
end Go.Proofs.YtgoodpphinakaaaDoor
