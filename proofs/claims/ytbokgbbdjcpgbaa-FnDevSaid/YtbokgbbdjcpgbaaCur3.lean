/- Signs, and lists of signs, that are drawn from a cursor. -/
import Derived.Test.YtbokgbbdjcpgbaaCur2
import Derived.Test.YtbokgbbdjcpgbaaInts
namespace Go.Proofs.Ytbokgbbdjcpgbaa
open Go.RowKit

def DrewIntE (a : Option Addr) (n cap : Nat) (bs : List Int) (g : Nat) (w : World) (p : Int → Prop) (e : Ending) (w' : World) : Prop := ∃ r : Int × CS, p r.1 ∧ DrewInt a n cap bs g w r e w'
def DrewInts (a : Option Addr) (n cap : Nat) (bs : List Int) (g : Nat) (w : World) (most : Int) (e : Ending) (w' : World) : Prop :=
  ∃ (l : List Int) (s : CS) (p : Option Addr) (c : Nat), e = .returned (.slice p l.length c) ∧ (l.length : Int) ≤ most ∧ (∀ x ∈ l, -1 ≤ x ∧ x ≤ 1114112) ∧ w'.ownsRow w.heap.size 3 1 (.slice p l.length c) l.length (ints l) ∧ CurAt a n cap bs g s w' ∧ w.grownBy w' (some g)

def someL : List Int := [97, 65, 98, 229, 197, 8491, 778, 803, 770, 807, 769, 7853, 7852, 7841, 470, 252, 115, 83, 223, 963, 962, 931, 940, 902, 8486, 1040, 1072, 44032, 44033, 4352, 4449, 4520, 231, 99, 55203, 255]
def someM : List Int := [-1, 0, 31, 47, 127, 55204, 55296, 57343, 57344, 65535, 65536, 1114111, 1114112, 930, 256]
theorem getD_range (l : List Int) (lo hi : Int) (h : ∀ x ∈ l, lo ≤ x ∧ x ≤ hi) (h0 : lo ≤ 0 ∧ 0 ≤ hi) (k : Nat) : lo ≤ l.getD k 0 ∧ l.getD k 0 ≤ hi := by
  by_cases hk : k < l.length
  · rw [List.getD_eq_getElem?_getD, List.getElem?_eq_getElem hk]; exact h _ (List.getElem_mem hk)
  · rw [List.getD_eq_getElem?_getD, List.getElem?_eq_none (by omega)]; exact h0


theorem row_mono {w : World} {B B' : Nat} {e : TypeId} {size : Nat} {v : Value} {n : Nat} {xs : List Value} (h : w.ownsRow B e size v n xs) (hB : B' ≤ B) : w.ownsRow B' e size v n xs := by
  refine ⟨h.1, ?_⟩
  rcases h.2 with hn | ⟨g, cap, cur, e1, hg, rest⟩
  · exact .inl hn
  · exact .inr ⟨g, cap, cur, e1, Nat.le_trans hB hg, rest⟩
/-- A list that is drawn of a code. -/
def DrewList (w : World) (most : Int) (e : Ending) (w' : World) : Prop :=
  ∃ (l : List Int) (p : Option Addr) (c : Nat), e = .returned (.slice p l.length c) ∧ (l.length : Int) ≤ most ∧ (∀ x ∈ l, -1 ≤ x ∧ x ≤ 1114112) ∧ Own 3 1 w.heap.size w (.slice p l.length c) l.length (ints l) w'
end Go.Proofs.Ytbokgbbdjcpgbaa
