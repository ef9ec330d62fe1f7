/- What is drawn of a code: signs, numbers, texts. -/
import Derived.Test.YtbokgbbdjcpgbaaSpoil
import Derived.Test.YtbokgbbdjcpgbaaVar
import Derived.Test.YtbokgbbdjcpgbaaEncode
namespace Go.Proofs.Ytbokgbbdjcpgbaa
open Go.RowKit

def DrewText (b : Nat) (w : World) (e : Ending) (w' : World) : Prop := ∃ t : ByteArray, e = .returned (.string t) ∧ t.size ≤ b ∧ Below w.heap.size w w'


def badL : List ByteArray := [⟨#[192, 128]⟩, ⟨#[237, 160, 128]⟩, ⟨#[244, 144, 128, 128]⟩, ⟨#[244, 143, 191, 191]⟩, ⟨#[224, 128, 175]⟩, ⟨#[128]⟩, ⟨#[255]⟩, ⟨#[97, 195]⟩, ⟨#[248, 136, 128, 128, 128]⟩, ⟨#[195, 40]⟩]
theorem badL_size : ∀ k : Nat, (badL.getD k ByteArray.empty).size ≤ 27 := by
  intro k
  have h : ∀ x ∈ badL, x.size ≤ 27 := by decide
  by_cases hk : k < badL.length
  · rw [List.getD_eq_getElem?_getD, List.getElem?_eq_getElem hk]; exact h _ (List.getElem_mem hk)
  · rw [List.getD_eq_getElem?_getD, List.getElem?_eq_none (by omega)]; decide

/-- A number, and texts, that are drawn of a code. -/
def varD (bs : List Int) : Int := (numF bs ⟨0, newH bs⟩).1
def hexD (bs : List Int) : ByteArray := (textF bs 40 ⟨0, newH bs⟩).1
def rvT (bs : List Int) : ByteArray × CS :=
  (⟨(varV (numF bs ⟨0, newH bs⟩).1).toArray⟩ ++ (textF bs 4 (numF bs ⟨0, newH bs⟩).2).1, (belowF bs 4 (textF bs 4 (numF bs ⟨0, newH bs⟩).2).2).2)
def rvD (bs : List Int) : ByteArray :=
  if (belowF bs 4 (textF bs 4 (numF bs ⟨0, newH bs⟩).2).2).1 = 0 then (spoilF bs (rvT bs).1 (rvT bs).2).1 else (rvT bs).1
theorem rvT_size (bs : List Int) : (rvT bs).1.size ≤ 11 := by
  have h1 := varV_len (numF bs ⟨0, newH bs⟩).1
  have h2 := textF_size bs 4 (numF bs ⟨0, newH bs⟩).2 (by omega)
  unfold rvT
  simp only [ByteArray.size_append]
  have : (⟨(varV (numF bs ⟨0, newH bs⟩).1).toArray⟩ : ByteArray).size = (varV (numF bs ⟨0, newH bs⟩).1).length := by simp [ByteArray.size]
  omega
theorem rvD_size (bs : List Int) : (rvD bs).size ≤ 14 := by
  have h1 := rvT_size bs
  have h2 := spoilF_size bs (rvT bs).1 (rvT bs).2
  unfold rvD
  split <;> omega
end Go.Proofs.Ytbokgbbdjcpgbaa
